/- Lists of servers, on: what is left out; valid configurations. -/
import Derived.Test.YtadpelkpdaohnaaGreatDoorZPV2
namespace Go.Proofs.YtadpelkpdaohnaaGreatDoor.En
open Go
theorem EH {σ ε:Type} {B:σ->Option (σ⊕ε)} (n:Nat) (m:Nat->σ) (t:ε) (f:Nat->ε) (p:Nat->Bool) (h0:B (m n)=some (.inr t)) (h: ∀k,k<n->B (m k)=some (if p k=true then .inr (f k) else .inl (m (k+1)))):
  (ij B (m 0)=some t/\ ∀k,k<n->p k=false)\/ ∃k,k<n/\ij B (m 0)=some (f k)/\p k=true/\ ∀j,j<k->p j=false:=by
 have fb: ∀d j,j+d=n->(ij B (m j)=some t/\ ∀k,j<=k->k<n->p k=false)\/ ∃k,k<n/\ij B (m j)=some (f k)/\p k=true/\ ∀i,j<=i->i<k->p i=false:=by
  intro d
  induction d with
  |zero=>
   intro j hj;have :j=n:=by omega
   subst this;exact .inl ⟨iU h0,fun k a b=>by omega⟩
  |succ d ih=>
   intro j hj;have h1:=h j (by omega);cases hp:p j with
   |true=>rw[hp,if_pos rfl] at h1;exact .inr ⟨j,by omega,iU h1,hp,fun i a b=>by omega⟩
   |false=>
    rw[hp,if_neg (by simp)] at h1;rw[nP h1];rcases ih (j+1) (by omega) with ⟨k1,k2⟩| ⟨k,k0,k1,k2,k3⟩
    ·refine .inl ⟨k1,fun k a b=> ?_⟩;rcases dl a with rfl|a
     ·exact hp
     ·exact k2 k a b
    ·refine .inr ⟨k,k0,k1,k2,fun i a b=> ?_⟩;rcases dl a with rfl|a
     ·exact hp
     ·exact k3 i a b
 rcases fb n 0 (by omega) with ⟨a,b⟩| ⟨k,a,b,c,d⟩
 ·exact .inl ⟨a,fun k hk=>b k (bm _) hk⟩
 ·exact .inr ⟨k,a,b,c,fun j hj=>d j (bm _) hj⟩
theorem rt {l:List Int} {p:Int->Bool} (h: ∀x∈l,p x=true):l.filter p=l:=List.filter_eq_self.2 h
theorem AL (a b:List Int) (ha:a.length<=1000) (hb:b.length<=maxLen):dK a b=some (a.filter fun x=> !decide (x∈b),()):=by
 have hm:a.length<=maxLen:=by unfold maxLen; omega
 have hm':a.length<=9223372036854775807:=hm
 have has: ∀x,eP x b=some (decide (x∈b),()):=by intro x;unfold eP;rw[(jk b x hb).2];rfl
 have find:=EH (B:=dD) a.length (fun k=>((a,(b,()),(a.length:Int),(k:Int),()),(),())) (.inr (((),()),(),())) (fun k=> .inl (((k:Int),()),(),())) (fun k=>match a[k]? with |some x=>decide (x∈b)|none=>false)
  (by simp only[dD]; rw[dx,if_neg (by omega)])
  (fun k hk=>by
    have c1: (k:Int)< (a.length:Int):=by omega
    have c2: (0:Int)<=(k:Int):=by omega
    simp only[dD,dx,eJ,if_pos c1,if_pos c2,aK,ah hk,af,has,dU hm hk];by_cases hin:a[k] ∈b<;>simp[hin])
 unfold dK eb;rcases find with ⟨k1,k2⟩| ⟨i,hi,k1,k2,k3⟩
 ·rw[show eA ((a,(b,()),(a.length:Int),0,()),(),())=_ from k1];simp only[af,cW,beq_self_eq_true,ea];rw[rt fun x hx=> ?_];obtain⟨k,hk,rfl⟩:=aV hx;have:=k2 k hk;rw[ah hk] at this;simpa using this
 ·rw[show eA ((a,(b,()),(a.length:Int),0,()),(),())=_ from k1]
  have hne: ((i:Int)== -1)=false:=by simp only[beq_eq_false_iff_ne,ne_eq];omega
  simp only[af,cU,hne,dV,dU hm hi];rw[ah hi] at k2
  have loop:=p8 (B:=dz) (fun s=> ∃ (i j:Nat) (v:List Int),s=(((),(b,()),(i:Int),(j:Int),()),(),(v,()))/\i<=j/\j<=a.length/\v.length=a.length/\v.take i=(a.take j).filter (fun x=> !decide (x∈b))/\v.drop j=a.drop j) (fun s=>a.length-s.1.2.2.2.1.toNat)
   (fun e=> ∃ (i:Nat) (v:List Int),e=(((),(i:Int),()),(),(v,()))/\i<=a.length/\v.length=a.length/\v.take i=a.filter (fun x=> !decide (x∈b)))
   (fun s hs=>by
     obtain⟨i,j,v,rfl,hij,hj,hv,ht,hd⟩:=hs;by_cases hlt:j<a.length
     ·have c1: (j:Int)< (v.length:Int):=by omega
      have c2: (0:Int)<=(j:Int)/\(j:Int)< (v.length:Int):=by omega
      have c3: (0:Int)<=(i:Int)/\(i:Int)< (v.length:Int):=by omega
      have e1:v[j]? =some a[j] :=by have:=congrArg (fun l:List Int=>l[0]?) hd;simpa [aN,ah hlt] using this
      have e2:v[i]? =some (v[i]'(by omega)):=ah _;have hta:a.take (j+1)=a.take j++ [a[j]] :=by rw[ca,ah hlt]; rfl
      have hdd:v.drop (j+1)=a.drop (j+1):=by have:=congrArg (List.drop 1) hd;simpa [bZ,cm] using this
      left;simp only[dz,dx,eJ,if_pos c1,if_pos c2,aK,e1,af,has,if_pos c3,e2,dU hm hlt,jB,dU hm (show i<a.length by omega)];by_cases hin:a[j] ∈b
      ·rw[if_pos hin];refine⟨_,rfl,⟨i,j+1,v,rfl,by omega,by omega,hv,?_,hdd⟩,?_⟩
       ·rw[ht,hta,co];simp[hin]
       ·simp only[aK];omega
      ·rw[if_neg hin];refine⟨_,rfl,⟨i+1,j+1,v.set i a[j],rfl,by omega,by omega,by simp[hv],?_,?_⟩,?_⟩
       ·rw[oT _ (by omega),ht,hta,co];simp[hin]
       ·rw[dg (by omega),hdd]
       ·simp only[aK];omega
     ·have :j=a.length:=by omega
      subst this;right;refine⟨_,by simp only[dz]; rw[dx,if_neg (by omega)],⟨i,v,rfl,hij,hv,?_⟩⟩;rw[ht,bW])
   (s:=(((),(b,()),(i:Int),((i+1:Nat):Int),()),(),(a,()))) ⟨i,i+1,a,rfl,by omega,by omega,rfl,by
     have hta:a.take (i+1)=a.take i++ [a[i]] :=by rw[ca,ah hi]; rfl
     rw[hta,co,rt (l:=a.take i) fun x hx=> ?_]
     ·simp only[decide_eq_true_eq] at k2;simp[k2]
     ·obtain⟨j,hj,rfl⟩:=aV hx;have hj':j<i:=by simp at hj; omega
      have:=k3 j hj';rw[ah (by omega)] at this;rw[List.getElem_take];simpa using this,rfl⟩
  obtain⟨e,h1,i',v,rfl,h2,h3,h4⟩:=loop;rw[show eS (((),(b,()),(i:Int),((i+1:Nat):Int),()),(),(a,()))=_ from h1];have d1: (0:Int)<=(i':Int)/\(i':Int)<=(v.length:Int)/\(v.length:Int)<=((v.length:Nat):Int):=by omega
  have d2:i'+(v.length-i')<=v.length:=by omega
  have d3: (0:Int)<=0/\(0:Int)<=(i':Int)/\(i':Int)<=((v.length:Nat):Int):=by omega
  simp only[af,aK,Int.toNat_zero,aR,Nat.sub_zero,eJ,if_pos d1,if_pos d2,if_pos d3];rw[if_pos ⟨trivial,by simp; omega⟩];rw[aP,List.take_append_of_le_length (by simp; omega),List.take_take,Nat.min_self,h4]
theorem zk (a b:List Int) (ha:BB a) (hb:b.length<=maxLen):fw a b=some (a.filter fun x=> !decide (x∈b),()):=by have hl:=ha.len;unfold fw;rw[CO a ha,af,AL a b (by omega) hb];rfl
theorem Gb (a b:List Int) (ha:BB a) (hb:b.length<=maxLen):gW a b=some (a.filter fun x=>decide (x∈b),()):=by
 have hl:=ha.len;unfold gW;rw[zk a b ha hb];simp only[af]
 rw[zk a (a.filter fun x=> !decide (x∈b)) ha (by have:=List.length_filter_le (fun x=> !decide (x∈b)) a;unfold maxLen;omega)]
 simp only[af]
 congr 2
 apply List.filter_congr;intro x hx;simp[cQ,hx]
theorem ru (c:dA) (h:iK maxLen c):tA (fK c) (fM c):=by
 unfold fK fM;simp only[n9,qj,af];cases mM c.epoch 1 20 with
 |false=>exact⟨_,rfl,rfl⟩
 |true=>
  rcases tV c.replicas h.1 with ⟨a1,a2,a3⟩| ⟨a1,a2⟩
  ·rcases tV c.witnesses h.2 with ⟨b1,b2,b3⟩| ⟨b1,b2⟩
   ·simp only[a1,a2,b1,b2,af,ea,(jk c.replicas c.primary h.1).1,(jk c.replicas c.primary h.1).2,Ga _ _ a3 h.2,Gb _ _ a3 h.2];cases decide (c.primary∈c.replicas)<;>exact⟨_,rfl,rfl⟩
   ·simp only[a1,a2,b1,b2,af,ea,dV];exact⟨_,rfl,rfl⟩
  ·simp only[a1,a2,af,ea,dV];exact⟨_,rfl,rfl⟩
end Go.Proofs.YtadpelkpdaohnaaGreatDoor.En
