/- slices.DeleteFunc, slices.Concat at []int. -/
import Derived.Test.YtjnleglhcppgcaaGreatZPCopy
namespace Go.Proofs.YtjnleglhcppgcaaGreat.En
open Go
theorem RU {γ:Type} {F:List Int->Option (List Int×Unit)} {B2: (List Int×γ×Int×Int×Unit)×Unit×Unit->Option (((List Int×γ×Int×Int×Unit)×Unit×Unit)⊕(((Int×Unit)×Unit×Unit)⊕((Unit×Unit)×Unit×Unit)))}
  {B5: (Unit×γ×Int×Int×Unit)×Unit×(List Int×Unit)->Option (((Unit×γ×Int×Int×Unit)×Unit×(List Int×Unit))⊕((Unit×Int×Unit)×Unit×(List Int×Unit)))} (g:γ) (p:Int->Option (Bool×Unit)) (q:Int->Bool)
  (hF: ∀a0,F a0=(((gt B2 ((a0,g,(a0.length:Int),0,()),(),())).bind fun e7=>Sum.elim (fun e7_=>some (e7_.1.1,())) (fun _=>some ((-1:Int),())) e7).bind fun y1=>br (y1.1==(-1)) (some (a0,())) ((gt B5 (((),g,y1.1,IntKind.wrap .i64 (y1.1+1),()),(),(a0,()))).bind fun e10=>dU (0<=e10.1.2.1/\e10.1.2.1<=(e10.2.2.1.length:Int)/\(e10.2.2.1.length:Int)<=((e10.2.2.1.length:Nat):Int)) (dU ((0+e10.1.2.1.toNat)+((e10.2.2.1.length:Int).toNat-e10.1.2.1.toNat)<=e10.2.2.1.length) (dU (0<=(0:Int)/\(0:Int)<=e10.1.2.1/\e10.1.2.1<=((e10.2.2.1.length:Nat):Int)) (dU ((0+(0:Int).toNat)=0/\(e10.1.2.1.toNat-(0:Int).toNat)<=(e10.2.2.1.take (0+e10.1.2.1.toNat)++List.replicate ((e10.2.2.1.length:Int).toNat-e10.1.2.1.toNat) (0:Int)++e10.2.2.1.drop ((0+e10.1.2.1.toNat)+((e10.2.2.1.length:Int).toNat-e10.1.2.1.toNat))).length) (some (((e10.2.2.1.take (0+e10.1.2.1.toNat)++List.replicate ((e10.2.2.1.length:Int).toNat-e10.1.2.1.toNat) (0:Int)++e10.2.2.1.drop ((0+e10.1.2.1.toNat)+((e10.2.2.1.length:Int).toNat-e10.1.2.1.toNat))).take (e10.1.2.1.toNat-(0:Int).toNat)),())) none) none) none) none)))
  (h2: ∀ (l:List Int) (n k:Int),B2 ((l,g,n,k,()),(),())=br (decide (k<n)) (dU (0<=k) ((l[k.toNat]?).bind fun x=>(p x).bind fun y=>br y.1 (some (.inr (.inl ((k,()),(),())))) (some (.inl ((l,g,n,IntKind.wrap .i64 (k+1),()),(),())))) none) (some (.inr (.inr (((),()),(),())))))
  (h5: ∀ (v:List Int) (i j:Int),B5 (((),g,i,j,()),(),(v,()))=br (decide (j< (v.length:Int))) (dU (0<=j/\j< (v.length:Int)) ((v[j.toNat]?).bind fun x=>(p x).bind fun y=>br (!y.1) (dU (0<=i/\i< (v.length:Int)) ((v[i.toNat]?).bind fun _=>some (.inl (((),g,IntKind.wrap .i64 (i+1),IntKind.wrap .i64 (j+1),()),(),(v.set i.toNat x,())))) none) (some (.inl (((),g,i,IntKind.wrap .i64 (j+1),()),(),(v,()))))) none) (some (.inr (((),i,()),(),(v,())))))
  (a:List Int) (ha:a.length<=1000) (hp: ∀x∈a,p x=some (q x,())):F a=some (a.filter fun x=> !q x,()):=by
 have hm:a.length<=maxLen:=by unfold maxLen; omega
 have find:=wn (B:=B2) a.length (fun k=>((a,g,(a.length:Int),(k:Int),()),(),())) (.inr (((),()),(),())) (fun k=> .inl (((k:Int),()),(),())) (fun k=>match a[k]? with |some x=>q x|none=>false)
  (by rw[h2,dV,if_neg (by omega)])
  (fun k hk=>by
    have c1: (k:Int)< (a.length:Int):=by omega
    have c2: (0:Int)<=(k:Int):=by omega
    simp only[h2,dV,dZ,if_pos c1,if_pos c2,ao,ah hk,ae,hp _ (aW hk),ec hm hk];cases q a[k]<;>rfl)
 rw[hF];rcases find with ⟨k1,k2⟩| ⟨i,hi,k1,k2,k3⟩
 ·rw[show gt B2 ((a,g,(a.length:Int),0,()),(),())=_ from k1];simp only[ae,cu,beq_self_eq_true,eb];rw[sV fun x hx=> ?_];obtain⟨k,hk,rfl⟩:=aH hx;have:=k2 k hk;rw[ah hk] at this;simpa using this
 ·rw[show gt B2 ((a,g,(a.length:Int),0,()),(),())=_ from k1]
  have hne: ((i:Int)== -1)=false:=by simp only[beq_eq_false_iff_ne,ne_eq];omega
  simp only[ae,b8,hne,ek,ec hm hi];rw[ah hi] at k2
  have loop:=qX (B:=B5) (fun s=> ∃ (i j:Nat) (v:List Int),s=(((),g,(i:Int),(j:Int),()),(),(v,()))/\i<=j/\j<=a.length/\v.length=a.length/\v.take i=(a.take j).filter (fun x=> !q x)/\v.drop j=a.drop j) (fun s=>a.length-s.1.2.2.2.1.toNat)
   (fun e=> ∃ (i:Nat) (v:List Int),e=(((),(i:Int),()),(),(v,()))/\i<=a.length/\v.length=a.length/\v.take i=a.filter (fun x=> !q x))
   (fun s hs=>by
     obtain⟨i,j,v,rfl,hij,hj,hv,ht,hd⟩:=hs;by_cases hlt:j<a.length
     ·have c1: (j:Int)< (v.length:Int):=by omega
      have c2: (0:Int)<=(j:Int)/\(j:Int)< (v.length:Int):=by omega
      have c3: (0:Int)<=(i:Int)/\(i:Int)< (v.length:Int):=by omega
      have e1:v[j]? =some a[j] :=by have:=congrArg (fun l:List Int=>l[0]?) hd;simpa [aP,ah hlt] using this
      have e2:v[i]? =some (v[i]'(by omega)):=ah _;have hta:a.take (j+1)=a.take j++ [a[j]] :=by rw[bn,ah hlt]; rfl
      have hdd:v.drop (j+1)=a.drop (j+1):=by have:=congrArg (List.drop 1) hd;simpa [bU,cD] using this
      left;simp only[h5,dV,dZ,if_pos c1,if_pos c2,ao,e1,ae,hp _ (aW hlt),if_pos c3,e2,ec hm hlt,fg,ec hm (show i<a.length by omega)];cases hq:q a[j] with
      |true=>
       refine⟨_,rfl,⟨i,j+1,v,rfl,by omega,by omega,hv,?_,hdd⟩,?_⟩
       ·rw[ht,hta,bL];simp[hq]
       ·simp only[ao];omega
      |false=>
       refine⟨_,rfl,⟨i+1,j+1,v.set i a[j],rfl,by omega,by omega,by simp[hv],?_,?_⟩,?_⟩
       ·rw[pZ _ (by omega),ht,hta,bL];simp[hq]
       ·rw[cW (by omega),hdd]
       ·simp only[ao];omega
     ·have :j=a.length:=by omega
      subst this;right;refine⟨_,by rw[h5,dV,if_neg (by omega)],⟨i,v,rfl,hij,hv,?_⟩⟩;rw[ht,aX])
   (s:=(((),g,(i:Int),((i+1:Nat):Int),()),(),(a,()))) ⟨i,i+1,a,rfl,by omega,by omega,rfl,by
     have hta:a.take (i+1)=a.take i++ [a[i]] :=by rw[bn,ah hi]; rfl
     rw[hta,bL,sV (l:=a.take i) fun x hx=> ?_]
     ·simp[k2]
     ·obtain⟨j,hj,rfl⟩:=aH hx;have hj':j<i:=by simp at hj; omega
      have:=k3 j hj';rw[ah (by omega)] at this;rw[cG];simpa using this,rfl⟩
  obtain⟨e,h1,i',v,rfl,g2,g3,g4⟩:=loop;rw[h1];have d1: (0:Int)<=(i':Int)/\(i':Int)<=(v.length:Int)/\(v.length:Int)<=((v.length:Nat):Int):=by omega
  have d2:i'+(v.length-i')<=v.length:=by omega
  have d3: (0:Int)<=0/\(0:Int)<=(i':Int)/\(i':Int)<=((v.length:Nat):Int):=by omega
  simp only[ae,ao,cT,aV,cK,dZ,if_pos d1,if_pos d2,if_pos d3];rw[if_pos ⟨trivial,by simp; omega⟩];rw[aU,cH (by simp; omega),dL,Nat.min_self,g4]
theorem Qr (n:Int) (h0:0<=n) (h1:n<=1000000):mR n=some ([],()):=by
 unfold mR;have e1:IntKind.wrap .i64 ((0:Int)-0)=0:=eK (by decide) (by decide);have e2:IntKind.wrap .i64 (n-0)=n:=by rw[eK (by omega) (by omega)]; omega
 simp only[e1,e2,dV,if_neg (show ¬n<0 by omega)];by_cases h:n>0
 ·have e: (2:Int) ^ 40=1099511627776:=by decide
  have c1:0<n/\n*((8:Nat):Int)<=2 ^ 40:=⟨h,by omega⟩
  have c2: (0:Int)<=0/\(0:Int)<=0/\(0:Int)<=((n.toNat:Nat):Int):=by omega
  simp only[if_pos h,dZ,if_pos c1,if_pos c2,and_self,if_true];simp
 ·simp only[if_neg h]
theorem MX (l:List (List Int)) (hl:l.length<=10) (h: ∀a∈l,a.length<=1000):nL l=some (l.flatten,()):=by
 have hm:l.length<=maxLen:=by unfold maxLen; omega
 have tot: ∀k,(l.take k).flatten.length<=k*1000:=by
  intro k
  induction k with
  |zero=>simp
  |succ k ih=>
   cases hx:l[k]? with
   |none=>
    have hle:l.length<=k:=by simpa using hx
    rw[bf hle] at ih;rw[bf (cg hle)];exact bI ih (bF _ (dN k))
   |some a=>rw[gr hx,cI,be];have:=h a (aq hx);simp only[List.flatten_cons,List.flatten_nil,bw];rw[Nat.succ_mul];exact Nat.add_le_add ih this
 have k1:=gJ (B:=jR) l (fun k (n:Int)=>((l,n,l,(l.length:Int),(k:Int),()),(),())) (fun k n=>n=((l.take k).flatten.length:Int)) (fun _ _ _=>((l,(l.flatten.length:Int),()),(),()))
  (fun n hn=>by simp only[jR];rw[dV,if_neg (by omega),hn,aX])
  (fun k n a hx hn=>by
    have hk:=fR hx;have c1: (k:Int)< (l.length:Int):=by omega
    have c2: (0:Int)<=(k:Int):=by omega
    have t:=tot k;have ha:=h a (aq hx);have hk10:k*1000<=10000:=by omega
    refine .inl ⟨n+(a.length:Int),?_,?_,rfl⟩
    ·simp only[jR,dV,dZ,if_pos c1,if_pos c2,ao,hx,ae,ec hm hk,eK (n:=n+(a.length:Int)) (by omega) (by omega),if_neg (show ¬n+(a.length:Int)<0 by omega)]
    ·rw[gr hx,cI,be,hn];simp)
  0 0 (aF _) (by simp)
 have t:=tot l.length;rw[aX] at t
 have k2:=gJ (B:=jl) l (fun k (b:List Int)=>(((),l,(l.length:Int),(k:Int),()),(),(b,()))) (fun k b=>b=(l.take k).flatten) (fun _ _ _=>(((),()),(),(l.flatten,())))
  (fun b hb=>by simp only[jl];rw[dV,if_neg (by omega),hb,aX])
  (fun k b a hx hb=>by
    have hk:=fR hx;have c1: (k:Int)< (l.length:Int):=by omega
    have c2: (0:Int)<=(k:Int):=by omega
    have t:=tot k;have ha:=h a (aq hx);have hs: (b++a).length*8<=2 ^ 40:=yG (by rw[hb,be]; omega) (by decide);refine .inl ⟨b++a,?_,?_,rfl⟩
    ·simp only[jl,dV,dZ,if_pos c1,if_pos c2,ao,hx,ae,ec hm hk,if_pos hs]
    ·rw[gr hx,cI,hb];simp)
  0 [] (aF _) (by simp)
 unfold nL;rw[show u7 ((l,0,l,(l.length:Int),0,()),(),())=_ from k1];simp only[ae,Qr _ (show (0:Int)<=(l.flatten.length:Int) by omega) (by omega)];rw[show t9 (((),l,(l.length:Int),0,()),(),([],()))=_ from k2];rfl
end Go.Proofs.YtjnleglhcppgcaaGreat.En
