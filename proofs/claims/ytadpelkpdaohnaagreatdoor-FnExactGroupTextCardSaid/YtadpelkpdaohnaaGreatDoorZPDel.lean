/- slices.DeleteFunc, slices.Concat at []int. -/
import Derived.Test.YtadpelkpdaohnaaGreatDoorZPCopy
namespace Go.Proofs.YtadpelkpdaohnaaGreatDoor.En
open Go
theorem GM (n:Int) (h0:0<=n) (h1:n<=1000000):fslGrow_int_nl n=some ([],()):=by
 unfold fslGrow_int_nl;have e1:IntKind.wrap .i64 ((0:Int)-0)=0:=fQ (by decide) (by decide);have e2:IntKind.wrap .i64 (n-0)=n:=by rw[fQ (by omega) (by omega)]; omega
 simp only[e1,e2,dH,if_neg (show ¬n<0 by omega)];by_cases h:n>0
 ·have e: (2:Int) ^ 40=1099511627776:=by decide
  have c1:0<n/\n*((8:Nat):Int)<=2 ^ 40:=⟨h,by omega⟩
  have c2: (0:Int)<=0/\(0:Int)<=0/\(0:Int)<=((n.toNat:Nat):Int):=by omega
  simp only[if_pos h,dX,if_pos c1,if_pos c2,and_self,if_true];simp
 ·simp only[if_neg h]
theorem Dl (l:List (List Int)) (hl:l.length<=10) (h: ∀a∈l,a.length<=1000):fslConcat_int l=some (l.flatten,()):=by
 have hm:l.length<=maxLen:=by unfold maxLen; omega
 have tot: ∀k,(l.take k).flatten.length<=k*1000:=by
  intro k
  induction k with
  |zero=>simp
  |succ k ih=>
   cases hx:l[k]? with
   |none=>
    have hle:l.length<=k:=by simpa using hx
    rw[bD hle] at ih;rw[bD (Nat.le_succ_of_le hle)];exact bE ih (bG _ (cF k))
   |some a=>rw[ne hx,dw,bn];have:=h a (aq hx);simp only[List.flatten_cons,List.flatten_nil,bw];rw[Nat.succ_mul];exact Nat.add_le_add ih this
 have k1:=nA (B:=bslConcat_int_3) l (fun k (n:Int)=>((l,n,l,(l.length:Int),(k:Int),()),(),())) (fun k n=>n=((l.take k).flatten.length:Int)) (fun _ _ _=>((l,(l.flatten.length:Int),()),(),()))
  (fun n hn=>by simp only[bslConcat_int_3];rw[dH,if_neg (by omega),hn,bH])
  (fun k n a hx hn=>by
    have hk:=oJ hx;have c1: (k:Int)< (l.length:Int):=by omega
    have c2: (0:Int)<=(k:Int):=by omega
    have t:=tot k;have ha:=h a (aq hx);have hk10:k*1000<=10000:=by omega
    refine .inl ⟨n+(a.length:Int),?_,?_,rfl⟩
    ·simp only[bslConcat_int_3,dH,dX,if_pos c1,if_pos c2,aA,hx,af,dS hm hk,fQ (n:=n+(a.length:Int)) (by omega) (by omega),if_neg (show ¬n+(a.length:Int)<0 by omega)]
    ·rw[ne hx,dw,bn,hn];simp)
  0 0 (bi _) (by simp)
 have t:=tot l.length;rw[bH] at t
 have k2:=nA (B:=bslConcat_int_11) l (fun k (b:List Int)=>(((),l,(l.length:Int),(k:Int),()),(),(b,()))) (fun k b=>b=(l.take k).flatten) (fun _ _ _=>(((),()),(),(l.flatten,())))
  (fun b hb=>by simp only[bslConcat_int_11];rw[dH,if_neg (by omega),hb,bH])
  (fun k b a hx hb=>by
    have hk:=oJ hx;have c1: (k:Int)< (l.length:Int):=by omega
    have c2: (0:Int)<=(k:Int):=by omega
    have t:=tot k;have ha:=h a (aq hx);have hs: (b++a).length*8<=2 ^ 40:=JG (by rw[hb,bn]; omega) (by decide);refine .inl ⟨b++a,?_,?_,rfl⟩
    ·simp only[bslConcat_int_11,dH,dX,if_pos c1,if_pos c2,aA,hx,af,dS hm hk,if_pos hs]
    ·rw[ne hx,dw,hb];simp)
  0 [] (bi _) (by simp)
 unfold fslConcat_int;rw[show lslConcat_int_3 ((l,0,l,(l.length:Int),0,()),(),())=_ from k1];simp only[af,GM _ (show (0:Int)<=(l.flatten.length:Int) by omega) (by omega)];rw[show lslConcat_int_11 (((),l,(l.length:Int),0,()),(),([],()))=_ from k2];rfl
end Go.Proofs.YtadpelkpdaohnaaGreatDoor.En
