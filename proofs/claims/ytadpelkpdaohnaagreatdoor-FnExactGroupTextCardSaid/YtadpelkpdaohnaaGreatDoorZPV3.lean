/- Lists of servers, on: what is left out; valid configurations. -/
import Derived.Test.YtadpelkpdaohnaaGreatDoorZPV2
namespace Go.Proofs.YtadpelkpdaohnaaGreatDoor.En
open Go
theorem Bu {σ ε:Type} {B:σ->Option (σ⊕ε)} (n:Nat) (m:Nat->σ) (t:ε) (f:Nat->ε) (p:Nat->Bool) (h0:B (m n)=some (.inr t)) (h: ∀k,k<n->B (m k)=some (if p k=true then .inr (f k) else .inl (m (k+1)))):
  (hZ B (m 0)=some t/\ ∀k,k<n->p k=false)\/ ∃k,k<n/\hZ B (m 0)=some (f k)/\p k=true/\ ∀j,j<k->p j=false:=by
 have fG: ∀d j,j+d=n->(hZ B (m j)=some t/\ ∀k,j<=k->k<n->p k=false)\/ ∃k,k<n/\hZ B (m j)=some (f k)/\p k=true/\ ∀i,j<=i->i<k->p i=false:=by
  intro d
  induction d with
  |zero=>
   intro j hj;have :j=n:=by omega
   subst this;exact .inl ⟨fP h0,fun k a b=>by omega⟩
  |succ d ih=>
   intro j hj;have h1:=h j (by omega);cases hp:p j with
   |true=>rw[hp,if_pos rfl] at h1;exact .inr ⟨j,by omega,fP h1,hp,fun i a b=>by omega⟩
   |false=>
    rw[hp,if_neg (by simp)] at h1;rw[kB h1];rcases ih (j+1) (by omega) with ⟨k1,k2⟩| ⟨k,k0,k1,k2,k3⟩
    ·refine .inl ⟨k1,fun k a b=> ?_⟩;rcases dD a with rfl|a
     ·exact hp
     ·exact k2 k a b
    ·refine .inr ⟨k,k0,k1,k2,fun i a b=> ?_⟩;rcases dD a with rfl|a
     ·exact hp
     ·exact k3 i a b
 rcases fG n 0 (by omega) with ⟨a,b⟩| ⟨k,a,b,c,d⟩
 ·exact .inl ⟨a,fun k hk=>b k (ba _) hk⟩
 ·exact .inr ⟨k,a,b,c,fun j hj=>d j (ba _) hj⟩
theorem H6 {σ1 ε1 σ2 ε2 β:Type} {B1:σ1->Option (σ1⊕ε1)} {B2:σ2->Option (σ2⊕ε2)} (n:Nat) (m1:Nat->β->σ1) (m2:Nat->β->σ2) (J:Nat->β->Prop) (E1:β->ε1) (E2:β->ε2)
  (h0: ∀b,J n b->B1 (m1 n b)=some (.inr (E1 b))/\B2 (m2 n b)=some (.inr (E2 b)))
  (h1: ∀k b,k<n->J k b-> ∃b',B1 (m1 k b)=some (.inl (m1 (k+1) b'))/\B2 (m2 k b)=some (.inl (m2 (k+1) b'))/\J (k+1) b')
  (b:β) (hb:J 0 b): ∃b',J n b'/\hZ B1 (m1 0 b)=some (E1 b')/\hZ B2 (m2 0 b)=some (E2 b'):=by
 have go: ∀ (d k:Nat) (b:β),k+d=n->J k b-> ∃b',J n b'/\hZ B1 (m1 k b)=some (E1 b')/\hZ B2 (m2 k b)=some (E2 b'):=by
  intro d
  induction d with
  |zero=>
   intro k b hk hj;have :k=n:=by omega
   subst this;exact⟨b,hj,fP (h0 b hj).1,fP (h0 b hj).2⟩
  |succ d ih=>intro k b hk hj;obtain⟨b',p1,p2,p3⟩:=h1 k b (by omega) hj;obtain⟨c,q1,q2,q3⟩:=ih (k+1) b' (by omega) p3;exact⟨c,q1,by rw[kB p1]; exact q2,by rw[kB p2]; exact q3⟩
 exact go n 0 b (by omega) hb
theorem tG {l:List Int} {p:Int->Bool} (h: ∀x∈l,p x=true):l.filter p=l:=List.filter_eq_self.2 h
theorem CK (a b:List Int) (ha:a.length<=1000) (hb:b.length<=maxLen):ei a b=some (a.filter fun x=> !decide (x∈b),()):=by
 have hm:a.length<=maxLen:=by unfold maxLen; omega
 have hm':a.length<=9223372036854775807:=hm
 have has: ∀x,fx x b=some (decide (x∈b),()):=by intro x;unfold fx;rw[(jF b x hb).2];rfl
 have find:=Bu (B:=dV) a.length (fun k=>((a,(b,()),(a.length:Int),(k:Int),()),(),())) (.inr (((),()),(),())) (fun k=> .inl (((k:Int),()),(),())) (fun k=>match a[k]? with |some x=>decide (x∈b)|none=>false)
  (by simp only[dV]; rw[dI,if_neg (by omega)])
  (fun k hk=>by
    have c1: (k:Int)< (a.length:Int):=by omega
    have c2: (0:Int)<=(k:Int):=by omega
    simp only[dV,dI,ea,if_pos c1,if_pos c2,aA,ah hk,af,has,dT hm hk];by_cases hin:a[k] ∈b<;>simp[hin])
 unfold ei eF;rcases find with ⟨k1,k2⟩| ⟨i,hi,k1,k2,k3⟩
 ·rw[show fe ((a,(b,()),(a.length:Int),0,()),(),())=_ from k1];simp only[af,cH,beq_self_eq_true,ey];rw[tG fun x hx=> ?_];obtain⟨k,hk,rfl⟩:=aM hx;have:=k2 k hk;rw[ah hk] at this;simpa using this
 ·rw[show fe ((a,(b,()),(a.length:Int),0,()),(),())=_ from k1]
  have hne: ((i:Int)== -1)=false:=by simp only[beq_eq_false_iff_ne,ne_eq];omega
  simp only[af,cU,hne,eu,dT hm hi];rw[ah hi] at k2
  have loop:=nv (B:=dQ) (fun s=> ∃ (i j:Nat) (v:List Int),s=(((),(b,()),(i:Int),(j:Int),()),(),(v,()))/\i<=j/\j<=a.length/\v.length=a.length/\v.take i=(a.take j).filter (fun x=> !decide (x∈b))/\v.drop j=a.drop j) (fun s=>a.length-s.1.2.2.2.1.toNat)
   (fun e=> ∃ (i:Nat) (v:List Int),e=(((),(i:Int),()),(),(v,()))/\i<=a.length/\v.length=a.length/\v.take i=a.filter (fun x=> !decide (x∈b)))
   (fun s hs=>by
     obtain⟨i,j,v,rfl,hij,hj,hv,ht,hd⟩:=hs;by_cases hlt:j<a.length
     ·have c1: (j:Int)< (v.length:Int):=by omega
      have c2: (0:Int)<=(j:Int)/\(j:Int)< (v.length:Int):=by omega
      have c3: (0:Int)<=(i:Int)/\(i:Int)< (v.length:Int):=by omega
      have e1:v[j]? =some a[j] :=by have:=congrArg (fun l:List Int=>l[0]?) hd;simpa [aN,ah hlt] using this
      have e2:v[i]? =some (v[i]'(by omega)):=ah _;have hta:a.take (j+1)=a.take j++ [a[j]] :=by rw[bM,ah hlt]; rfl
      have hdd:v.drop (j+1)=a.drop (j+1):=by have:=congrArg (List.drop 1) hd;simpa [b8,ct] using this
      left;simp only[dQ,dI,ea,if_pos c1,if_pos c2,aA,e1,af,has,if_pos c3,e2,dT hm hlt,i5,dT hm (show i<a.length by omega)];by_cases hin:a[j] ∈b
      ·rw[if_pos hin];refine⟨_,rfl,⟨i,j+1,v,rfl,by omega,by omega,hv,?_,hdd⟩,?_⟩
       ·rw[ht,hta,cx];simp[hin]
       ·simp only[aA];omega
      ·rw[if_neg hin];refine⟨_,rfl,⟨i+1,j+1,v.set i a[j],rfl,by omega,by omega,by simp[hv],?_,?_⟩,?_⟩
       ·rw[nL _ (by omega),ht,hta,cx];simp[hin]
       ·rw[c8 (by omega),hdd]
       ·simp only[aA];omega
     ·have :j=a.length:=by omega
      subst this;right;refine⟨_,by simp only[dQ]; rw[dI,if_neg (by omega)],⟨i,v,rfl,hij,hv,?_⟩⟩;rw[ht,bH])
   (s:=(((),(b,()),(i:Int),((i+1:Nat):Int),()),(),(a,()))) ⟨i,i+1,a,rfl,by omega,by omega,rfl,by
     have hta:a.take (i+1)=a.take i++ [a[i]] :=by rw[bM,ah hi]; rfl
     rw[hta,cx,tG (l:=a.take i) fun x hx=> ?_]
     ·simp only[decide_eq_true_eq] at k2;simp[k2]
     ·obtain⟨j,hj,rfl⟩:=aM hx;have hj':j<i:=by simp at hj; omega
      have:=k3 j hj';rw[ah (by omega)] at this;rw[cQ];simpa using this,rfl⟩
  obtain⟨e,h1,i',v,rfl,h2,h3,h4⟩:=loop;rw[show fB (((),(b,()),(i:Int),((i+1:Nat):Int),()),(),(a,()))=_ from h1];have d1: (0:Int)<=(i':Int)/\(i':Int)<=(v.length:Int)/\(v.length:Int)<=((v.length:Nat):Int):=by omega
  have d2:i'+(v.length-i')<=v.length:=by omega
  have d3: (0:Int)<=0/\(0:Int)<=(i':Int)/\(i':Int)<=((v.length:Nat):Int):=by omega
  simp only[af,aA,dz,aV,df,ea,if_pos d1,if_pos d2,if_pos d3];rw[if_pos ⟨trivial,by simp; omega⟩];rw[aU,cO (by simp; omega),List.take_take,Nat.min_self,h4]
theorem Bv (a b:List Int) (ha:Br a) (hb:b.length<=maxLen):gg a b=some (a.filter fun x=> !decide (x∈b),()):=by have hl:=ha.len;unfold gg;rw[EK a ha,af,CK a b (by omega) hb];rfl
theorem H7 (a b:List Int) (ha:Br a) (hb:b.length<=maxLen):iV a b=some (a.filter fun x=>decide (x∈b),()):=by
 have hl:=ha.len;unfold iV;rw[Bv a b ha hb];simp only[af]
 rw[Bv a (a.filter fun x=> !decide (x∈b)) ha (by have:=List.length_filter_le (fun x=> !decide (x∈b)) a;unfold maxLen;omega)]
 simp only[af]
 congr 2
 apply List.filter_congr;intro x hx;simp[cM,hx]
theorem lJ (c:dM) (h:gX maxLen c):tD (ej c) (fC c):=by
 unfold ej fC;simp only[qg,rk,af];cases oO c.epoch 1 20 with
 |false=>exact⟨_,rfl,rfl⟩
 |true=>
  rcases nf c.replicas h.1 with ⟨a1,a2,a3⟩| ⟨a1,a2⟩
  ·rcases nf c.witnesses h.2 with ⟨b1,b2,b3⟩| ⟨b1,b2⟩
   ·simp only[a1,a2,b1,b2,af,ey,(jF c.replicas c.primary h.1).1,(jF c.replicas c.primary h.1).2,Dx _ _ a3 h.2,H7 _ _ a3 h.2];cases decide (c.primary∈c.replicas)<;>exact⟨_,rfl,rfl⟩
   ·simp only[a1,a2,b1,b2,af,ey,eu];exact⟨_,rfl,rfl⟩
  ·simp only[a1,a2,af,ey,eu];exact⟨_,rfl,rfl⟩
end Go.Proofs.YtadpelkpdaohnaaGreatDoor.En
