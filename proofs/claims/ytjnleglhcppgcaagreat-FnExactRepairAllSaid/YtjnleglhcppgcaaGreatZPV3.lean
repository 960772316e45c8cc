/- Lists of servers, on: what is left out; valid configurations. -/
import Derived.Test.YtjnleglhcppgcaaGreatZPV2
namespace Go.Proofs.YtjnleglhcppgcaaGreat.En
open Go
theorem wn {σ ε:Type} {B:σ->Option (σ⊕ε)} (n:Nat) (m:Nat->σ) (t:ε) (f:Nat->ε) (p:Nat->Bool) (h0:B (m n)=some (.inr t)) (h: ∀k,k<n->B (m k)=some (if p k=true then .inr (f k) else .inl (m (k+1)))):
  (gt B (m 0)=some t/\ ∀k,k<n->p k=false)\/ ∃k,k<n/\gt B (m 0)=some (f k)/\p k=true/\ ∀j,j<k->p j=false:=by
 have gA: ∀d j,j+d=n->(gt B (m j)=some t/\ ∀k,j<=k->k<n->p k=false)\/ ∃k,k<n/\gt B (m j)=some (f k)/\p k=true/\ ∀i,j<=i->i<k->p i=false:=by
  intro d
  induction d with
  |zero=>
   intro j hj;have :j=n:=by omega
   subst this;exact .inl ⟨ga h0,fun k a b=>by omega⟩
  |succ d ih=>
   intro j hj;have h1:=h j (by omega);cases hp:p j with
   |true=>rw[hp,if_pos rfl] at h1;exact .inr ⟨j,by omega,ga h1,hp,fun i a b=>by omega⟩
   |false=>
    rw[hp,if_neg (by simp)] at h1;rw[j7 h1];rcases ih (j+1) (by omega) with ⟨k1,k2⟩| ⟨k,k0,k1,k2,k3⟩
    ·refine .inl ⟨k1,fun k a b=> ?_⟩;rcases dS a with rfl|a
     ·exact hp
     ·exact k2 k a b
    ·refine .inr ⟨k,k0,k1,k2,fun i a b=> ?_⟩;rcases dS a with rfl|a
     ·exact hp
     ·exact k3 i a b
 rcases gA n 0 (by omega) with ⟨a,b⟩| ⟨k,a,b,c,d⟩
 ·exact .inl ⟨a,fun k hk=>b k (aF _) hk⟩
 ·exact .inr ⟨k,a,b,c,fun j hj=>d j (aF _) hj⟩
theorem sV {l:List Int} {p:Int->Bool} (h: ∀x∈l,p x=true):l.filter p=l:=List.filter_eq_self.2 h
theorem KW (a b:List Int) (ha:a.length<=1000) (hb:b.length<=maxLen):eS a b=some (a.filter fun x=> !decide (x∈b),()):=by
 have hm:a.length<=maxLen:=by unfold maxLen; omega
 have hm':a.length<=9223372036854775807:=hm
 have has: ∀x,hZ x b=some (decide (x∈b),()):=by intro x;unfold hZ;rw[(gp b x hb).2];rfl
 have find:=wn (B:=eE) a.length (fun k=>((a,(b,()),(a.length:Int),(k:Int),()),(),())) (.inr (((),()),(),())) (fun k=> .inl (((k:Int),()),(),())) (fun k=>match a[k]? with |some x=>decide (x∈b)|none=>false)
  (by simp only[eE]; rw[dV,if_neg (by omega)])
  (fun k hk=>by
    have c1: (k:Int)< (a.length:Int):=by omega
    have c2: (0:Int)<=(k:Int):=by omega
    simp only[eE,dV,dZ,if_pos c1,if_pos c2,ao,ah hk,ae,has,ec hm hk];by_cases hin:a[k] ∈b<;>simp[hin])
 unfold eS fF;rcases find with ⟨k1,k2⟩| ⟨i,hi,k1,k2,k3⟩
 ·rw[show gv ((a,(b,()),(a.length:Int),0,()),(),())=_ from k1];simp only[ae,cu,beq_self_eq_true,eb];rw[sV fun x hx=> ?_];obtain⟨k,hk,rfl⟩:=aH hx;have:=k2 k hk;rw[ah hk] at this;simpa using this
 ·rw[show gv ((a,(b,()),(a.length:Int),0,()),(),())=_ from k1]
  have hne: ((i:Int)== -1)=false:=by simp only[beq_eq_false_iff_ne,ne_eq];omega
  simp only[ae,b8,hne,ek,ec hm hi];rw[ah hi] at k2
  have loop:=qX (B:=eA) (fun s=> ∃ (i j:Nat) (v:List Int),s=(((),(b,()),(i:Int),(j:Int),()),(),(v,()))/\i<=j/\j<=a.length/\v.length=a.length/\v.take i=(a.take j).filter (fun x=> !decide (x∈b))/\v.drop j=a.drop j) (fun s=>a.length-s.1.2.2.2.1.toNat)
   (fun e=> ∃ (i:Nat) (v:List Int),e=(((),(i:Int),()),(),(v,()))/\i<=a.length/\v.length=a.length/\v.take i=a.filter (fun x=> !decide (x∈b)))
   (fun s hs=>by
     obtain⟨i,j,v,rfl,hij,hj,hv,ht,hd⟩:=hs;by_cases hlt:j<a.length
     ·have c1: (j:Int)< (v.length:Int):=by omega
      have c2: (0:Int)<=(j:Int)/\(j:Int)< (v.length:Int):=by omega
      have c3: (0:Int)<=(i:Int)/\(i:Int)< (v.length:Int):=by omega
      have e1:v[j]? =some a[j] :=by have:=congrArg (fun l:List Int=>l[0]?) hd;simpa [aP,ah hlt] using this
      have e2:v[i]? =some (v[i]'(by omega)):=ah _;have hta:a.take (j+1)=a.take j++ [a[j]] :=by rw[bn,ah hlt]; rfl
      have hdd:v.drop (j+1)=a.drop (j+1):=by have:=congrArg (List.drop 1) hd;simpa [bU,cD] using this
      left;simp only[eA,dV,dZ,if_pos c1,if_pos c2,ao,e1,ae,has,if_pos c3,e2,ec hm hlt,fg,ec hm (show i<a.length by omega)];by_cases hin:a[j] ∈b
      ·rw[if_pos hin];refine⟨_,rfl,⟨i,j+1,v,rfl,by omega,by omega,hv,?_,hdd⟩,?_⟩
       ·rw[ht,hta,bL];simp[hin]
       ·simp only[ao];omega
      ·rw[if_neg hin];refine⟨_,rfl,⟨i+1,j+1,v.set i a[j],rfl,by omega,by omega,by simp[hv],?_,?_⟩,?_⟩
       ·rw[pZ _ (by omega),ht,hta,bL];simp[hin]
       ·rw[cW (by omega),hdd]
       ·simp only[ao];omega
     ·have :j=a.length:=by omega
      subst this;right;refine⟨_,by simp only[eA]; rw[dV,if_neg (by omega)],⟨i,v,rfl,hij,hv,?_⟩⟩;rw[ht,aX])
   (s:=(((),(b,()),(i:Int),((i+1:Nat):Int),()),(),(a,()))) ⟨i,i+1,a,rfl,by omega,by omega,rfl,by
     have hta:a.take (i+1)=a.take i++ [a[i]] :=by rw[bn,ah hi]; rfl
     rw[hta,bL,sV (l:=a.take i) fun x hx=> ?_]
     ·simp only[decide_eq_true_eq] at k2;simp[k2]
     ·obtain⟨j,hj,rfl⟩:=aH hx;have hj':j<i:=by simp at hj; omega
      have:=k3 j hj';rw[ah (by omega)] at this;rw[cG];simpa using this,rfl⟩
  obtain⟨e,h1,i',v,rfl,h2,h3,h4⟩:=loop;rw[show ib (((),(b,()),(i:Int),((i+1:Nat):Int),()),(),(a,()))=_ from h1];have d1: (0:Int)<=(i':Int)/\(i':Int)<=(v.length:Int)/\(v.length:Int)<=((v.length:Nat):Int):=by omega
  have d2:i'+(v.length-i')<=v.length:=by omega
  have d3: (0:Int)<=0/\(0:Int)<=(i':Int)/\(i':Int)<=((v.length:Nat):Int):=by omega
  simp only[ae,ao,cT,aV,cK,dZ,if_pos d1,if_pos d2,if_pos d3];rw[if_pos ⟨trivial,by simp; omega⟩];rw[aU,cH (by simp; omega),dL,Nat.min_self,h4]
theorem zJ (a b:List Int) (ha:wm a) (hb:b.length<=maxLen):fW a b=some (a.filter fun x=> !decide (x∈b),()):=by have hl:=ha.len;unfold fW;rw[MV a ha,ae,KW a b (by omega) hb];rfl
theorem LP (a b:List Int) (ha:wm a) (hb:b.length<=maxLen):jN a b=some (a.filter fun x=>decide (x∈b),()):=by
 have hl:=ha.len;unfold jN;rw[zJ a b ha hb];simp only[ae]
 rw[zJ a (a.filter fun x=> !decide (x∈b)) ha (by have:=cN (fun x=> !decide (x∈b)) a;unfold maxLen;omega)]
 simp only[ae]
 congr 2
 apply List.filter_congr;intro x hx;simp[cr,hx]
theorem oG (c:dW) (h:gK maxLen c):xn (eC c) (ic c):=by
 unfold eC ic;simp only[lV,nX,ae];cases kE c.epoch 1 20 with
 |false=>exact⟨_,rfl,rfl⟩
 |true=>
  rcases uH c.replicas h.1 with ⟨a1,a2,a3⟩| ⟨a1,a2⟩
  ·rcases uH c.witnesses h.2 with ⟨b1,b2,b3⟩| ⟨b1,b2⟩
   ·simp only[a1,a2,b1,b2,ae,eb,(gp c.replicas c.primary h.1).1,(gp c.replicas c.primary h.1).2,Cr _ _ a3 h.2,LP _ _ a3 h.2];cases decide (c.primary∈c.replicas)<;>exact⟨_,rfl,rfl⟩
   ·simp only[a1,a2,b1,b2,ae,eb,ek];exact⟨_,rfl,rfl⟩
  ·simp only[a1,a2,ae,eb,ek];exact⟨_,rfl,rfl⟩
end Go.Proofs.YtjnleglhcppgcaaGreat.En
