/- slices.DeleteFunc, slices.Concat at []int. -/
import Derived.Test.YtjnleglhcppgcaaGreatZPCopy
namespace Go.Proofs.YtjnleglhcppgcaaGreat.En
open Go
theorem US {γ:Type} {F:List Int->Option (List Int×Unit)} {B2: (List Int×γ×Int×Int×Unit)×Unit×Unit->Option (((List Int×γ×Int×Int×Unit)×Unit×Unit)⊕(((Int×Unit)×Unit×Unit)⊕((Unit×Unit)×Unit×Unit)))}
  {B5: (Unit×γ×Int×Int×Unit)×Unit×(List Int×Unit)->Option (((Unit×γ×Int×Int×Unit)×Unit×(List Int×Unit))⊕((Unit×Int×Unit)×Unit×(List Int×Unit)))} (g:γ) (p:Int->Option (Bool×Unit)) (q:Int->Bool)
  (hF: ∀a0,F a0=(((gQ B2 ((a0,g,(a0.length:Int),0,()),(),())).bind fun e7=>Sum.elim (fun e7_=>some (e7_.1.1,())) (fun _=>some ((-1:Int),())) e7).bind fun y1=>br (y1.1==(-1)) (some (a0,())) ((gQ B5 (((),g,y1.1,IntKind.wrap .i64 (y1.1+1),()),(),(a0,()))).bind fun e10=>eh (0<=e10.1.2.1/\e10.1.2.1<=(e10.2.2.1.length:Int)/\(e10.2.2.1.length:Int)<=((e10.2.2.1.length:Nat):Int)) (eh ((0+e10.1.2.1.toNat)+((e10.2.2.1.length:Int).toNat-e10.1.2.1.toNat)<=e10.2.2.1.length) (eh (0<=(0:Int)/\(0:Int)<=e10.1.2.1/\e10.1.2.1<=((e10.2.2.1.length:Nat):Int)) (eh ((0+(0:Int).toNat)=0/\(e10.1.2.1.toNat-(0:Int).toNat)<=(e10.2.2.1.take (0+e10.1.2.1.toNat)++List.replicate ((e10.2.2.1.length:Int).toNat-e10.1.2.1.toNat) (0:Int)++e10.2.2.1.drop ((0+e10.1.2.1.toNat)+((e10.2.2.1.length:Int).toNat-e10.1.2.1.toNat))).length) (some (((e10.2.2.1.take (0+e10.1.2.1.toNat)++List.replicate ((e10.2.2.1.length:Int).toNat-e10.1.2.1.toNat) (0:Int)++e10.2.2.1.drop ((0+e10.1.2.1.toNat)+((e10.2.2.1.length:Int).toNat-e10.1.2.1.toNat))).take (e10.1.2.1.toNat-(0:Int).toNat)),())) none) none) none) none)))
  (h2: ∀ (l:List Int) (n k:Int),B2 ((l,g,n,k,()),(),())=br (decide (k<n)) (eh (0<=k) ((l[k.toNat]?).bind fun x=>(p x).bind fun y=>br y.1 (some (.inr (.inl ((k,()),(),())))) (some (.inl ((l,g,n,IntKind.wrap .i64 (k+1),()),(),())))) none) (some (.inr (.inr (((),()),(),())))))
  (h5: ∀ (v:List Int) (i j:Int),B5 (((),g,i,j,()),(),(v,()))=br (decide (j< (v.length:Int))) (eh (0<=j/\j< (v.length:Int)) ((v[j.toNat]?).bind fun x=>(p x).bind fun y=>br (!y.1) (eh (0<=i/\i< (v.length:Int)) ((v[i.toNat]?).bind fun _=>some (.inl (((),g,IntKind.wrap .i64 (i+1),IntKind.wrap .i64 (j+1),()),(),(v.set i.toNat x,())))) none) (some (.inl (((),g,i,IntKind.wrap .i64 (j+1),()),(),(v,()))))) none) (some (.inr (((),i,()),(),(v,())))))
  (a:List Int) (ha:a.length<=1000) (hp: ∀x∈a,p x=some (q x,())):F a=some (a.filter fun x=> !q x,()):=by
 have hm:a.length<=maxLen:=by unfold maxLen; omega
 have find:=uE (B:=B2) a.length (fun k=>((a,g,(a.length:Int),(k:Int),()),(),())) (.inr (((),()),(),())) (fun k=> .inl (((k:Int),()),(),())) (fun k=>match a[k]? with |some x=>q x|none=>false)
  (by rw[h2,ei,if_neg (by omega)])
  (fun k hk=>by
    have c1: (k:Int)< (a.length:Int):=by omega
    have c2: (0:Int)<=(k:Int):=by omega
    simp only[h2,ei,ek,if_pos c1,if_pos c2,ap,ah hk,ae,hp _ (aV hk),ey hm hk];cases q a[k]<;>rfl)
 rw[hF];rcases find with ⟨k1,k2⟩| ⟨i,hi,k1,k2,k3⟩
 ·rw[show gQ B2 ((a,g,(a.length:Int),0,()),(),())=_ from k1];simp only[ae,cn,beq_self_eq_true,en];rw[u5 fun x hx=> ?_];obtain⟨k,hk,rfl⟩:=aJ hx;have:=k2 k hk;rw[ah hk] at this;simpa using this
 ·rw[show gQ B2 ((a,g,(a.length:Int),0,()),(),())=_ from k1]
  have hne: ((i:Int)== -1)=false:=by simp only[beq_eq_false_iff_ne,ne_eq];omega
  simp only[ae,b7,hne,eB,ey hm hi];rw[ah hi] at k2
  have loop:=sV (B:=B5) (fun s=> ∃ (i j:Nat) (v:List Int),s=(((),g,(i:Int),(j:Int),()),(),(v,()))/\i<=j/\j<=a.length/\v.length=a.length/\v.take i=(a.take j).filter (fun x=> !q x)/\v.drop j=a.drop j) (fun s=>a.length-s.1.2.2.2.1.toNat)
   (fun e=> ∃ (i:Nat) (v:List Int),e=(((),(i:Int),()),(),(v,()))/\i<=a.length/\v.length=a.length/\v.take i=a.filter (fun x=> !q x))
   (fun s hs=>by
     obtain⟨i,j,v,rfl,hij,hj,hv,ht,hd⟩:=hs;by_cases hlt:j<a.length
     ·have c1: (j:Int)< (v.length:Int):=by omega
      have c2: (0:Int)<=(j:Int)/\(j:Int)< (v.length:Int):=by omega
      have c3: (0:Int)<=(i:Int)/\(i:Int)< (v.length:Int):=by omega
      have e1:v[j]? =some a[j] :=by have:=congrArg (fun l:List Int=>l[0]?) hd;simpa [aX,ah hlt] using this
      have e2:v[i]? =some (v[i]'(by omega)):=ah _;have hta:a.take (j+1)=a.take j++ [a[j]] :=by rw[bK,ah hlt]; rfl
      have hdd:v.drop (j+1)=a.drop (j+1):=by have:=congrArg (List.drop 1) hd;simpa [cj,cG] using this
      left;simp only[h5,ei,ek,if_pos c1,if_pos c2,ap,e1,ae,hp _ (aV hlt),if_pos c3,e2,ey hm hlt,fi,ey hm (show i<a.length by omega)];cases hq:q a[j] with
      |true=>
       refine⟨_,rfl,⟨i,j+1,v,rfl,by omega,by omega,hv,?_,hdd⟩,?_⟩
       ·rw[ht,hta,bQ];simp[hq]
       ·simp only[ap];omega
      |false=>
       refine⟨_,rfl,⟨i+1,j+1,v.set i a[j],rfl,by omega,by omega,by simp[hv],?_,?_⟩,?_⟩
       ·rw[rr _ (by omega),ht,hta,bQ];simp[hq]
       ·rw[dg (by omega),hdd]
       ·simp only[ap];omega
     ·have :j=a.length:=by omega
      subst this;right;refine⟨_,by rw[h5,ei,if_neg (by omega)],⟨i,v,rfl,hij,hv,?_⟩⟩;rw[ht,be])
   (s:=(((),g,(i:Int),((i+1:Nat):Int),()),(),(a,()))) ⟨i,i+1,a,rfl,by omega,by omega,rfl,by
     have hta:a.take (i+1)=a.take i++ [a[i]] :=by rw[bK,ah hi]; rfl
     rw[hta,bQ,u5 (l:=a.take i) fun x hx=> ?_]
     ·simp[k2]
     ·obtain⟨j,hj,rfl⟩:=aJ hx;have hj':j<i:=by simp at hj; omega
      have:=k3 j hj';rw[ah (by omega)] at this;rw[cM];simpa using this,rfl⟩
  obtain⟨e,h1,i',v,rfl,g2,g3,g4⟩:=loop;rw[h1];have d1: (0:Int)<=(i':Int)/\(i':Int)<=(v.length:Int)/\(v.length:Int)<=((v.length:Nat):Int):=by omega
  have d2:i'+(v.length-i')<=v.length:=by omega
  have d3: (0:Int)<=0/\(0:Int)<=(i':Int)/\(i':Int)<=((v.length:Nat):Int):=by omega
  simp only[ae,ap,cQ,aU,cK,ek,if_pos d1,if_pos d2,if_pos d3];rw[if_pos ⟨trivial,by simp; omega⟩];rw[aR,cO (by simp; omega),dY,dS,g4]
theorem Tl (n:Int) (h0:0<=n) (h1:n<=1000000):nS n=some ([],()):=by
 unfold nS;have e1:IntKind.wrap .i64 ((0:Int)-0)=0:=fP (by decide) (by decide);have e2:IntKind.wrap .i64 (n-0)=n:=by rw[fP (by omega) (by omega)]; omega
 simp only[e1,e2,ei,if_neg (show ¬n<0 by omega)];by_cases h:n>0
 ·have e: (2:Int) ^ 40=1099511627776:=by decide
  have c1:0<n/\n*((8:Nat):Int)<=2 ^ 40:=⟨h,by omega⟩
  have c2: (0:Int)<=0/\(0:Int)<=0/\(0:Int)<=((n.toNat:Nat):Int):=by omega
  simp only[if_pos h,ek,if_pos c1,if_pos c2,and_self,if_true];simp
 ·simp only[if_neg h]
theorem Pr (l:List (List Int)) (hl:l.length<=10) (h: ∀a∈l,a.length<=1000):oS l=some (l.flatten,()):=by
 have hm:l.length<=maxLen:=by unfold maxLen; omega
 have tot: ∀k,(l.take k).flatten.length<=k*1000:=by
  intro k
  induction k with
  |zero=>simp
  |succ k ih=>
   cases hx:l[k]? with
   |none=>
    have hle:l.length<=k:=by simpa using hx
    rw[bh hle] at ih;rw[bh (cw hle)];exact bF ih (bw _ (de k))
   |some a=>rw[gV hx,cP,aQ];have:=h a (ao hx);simp only[List.flatten_cons,List.flatten_nil,bH];rw[Nat.succ_mul];exact Nat.add_le_add ih this
 have k1:=iB (B:=kT) l (fun k (n:Int)=>((l,n,l,(l.length:Int),(k:Int),()),(),())) (fun k n=>n=((l.take k).flatten.length:Int)) (fun _ _ _=>((l,(l.flatten.length:Int),()),(),()))
  (fun n hn=>by simp only[kT];rw[ei,if_neg (by omega),hn,be])
  (fun k n a hx hn=>by
    have hk:=i5 hx;have c1: (k:Int)< (l.length:Int):=by omega
    have c2: (0:Int)<=(k:Int):=by omega
    have t:=tot k;have ha:=h a (ao hx);have hk10:k*1000<=10000:=by omega
    refine .inl ⟨n+(a.length:Int),?_,?_,rfl⟩
    ·simp only[kT,ei,ek,if_pos c1,if_pos c2,ap,hx,ae,ey hm hk,fP (n:=n+(a.length:Int)) (by omega) (by omega),if_neg (show ¬n+(a.length:Int)<0 by omega)]
    ·rw[gV hx,cP,aQ,hn];simp)
  0 0 (aI _) (by simp)
 have t:=tot l.length;rw[be] at t
 have k2:=iB (B:=kb) l (fun k (b:List Int)=>(((),l,(l.length:Int),(k:Int),()),(),(b,()))) (fun k b=>b=(l.take k).flatten) (fun _ _ _=>(((),()),(),(l.flatten,())))
  (fun b hb=>by simp only[kb];rw[ei,if_neg (by omega),hb,be])
  (fun k b a hx hb=>by
    have hk:=i5 hx;have c1: (k:Int)< (l.length:Int):=by omega
    have c2: (0:Int)<=(k:Int):=by omega
    have t:=tot k;have ha:=h a (ao hx);have hs: (b++a).length*8<=2 ^ 40:=A0 (by rw[hb,aQ]; omega) (by decide);refine .inl ⟨b++a,?_,?_,rfl⟩
    ·simp only[kb,ei,ek,if_pos c1,if_pos c2,ap,hx,ae,ey hm hk,if_pos hs]
    ·rw[gV hx,cP,hb];simp)
  0 [] (aI _) (by simp)
 unfold oS;rw[show xj ((l,0,l,(l.length:Int),0,()),(),())=_ from k1];simp only[ae,Tl _ (show (0:Int)<=(l.flatten.length:Int) by omega) (by omega)];rw[show v6 (((),l,(l.length:Int),0,()),(),([],()))=_ from k2];rfl
end Go.Proofs.YtjnleglhcppgcaaGreat.En
