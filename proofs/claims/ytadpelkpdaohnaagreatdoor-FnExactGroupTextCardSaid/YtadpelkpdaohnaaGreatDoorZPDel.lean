/- slices.DeleteFunc, slices.Concat at []int. -/
import Derived.Test.YtadpelkpdaohnaaGreatDoorZPCopy
namespace Go.Proofs.YtadpelkpdaohnaaGreatDoor.En
open Go
theorem Ia (n:Int) (h0:0<=n) (h1:n<=1000000):jt n=some ([],()):=by
 unfold jt;have e1:IntKind.wrap .i64 ((0:Int)-0)=0:=fY (by decide) (by decide);have e2:IntKind.wrap .i64 (n-0)=n:=by rw[fY (by omega) (by omega)]; omega
 simp only[e1,e2,dI,if_neg (show ¬n<0 by omega)];by_cases h:n>0
 ·have e: (2:Int) ^ 40=1099511627776:=by decide
  have c1:0<n/\n*((8:Nat):Int)<=2 ^ 40:=⟨h,by omega⟩
  have c2: (0:Int)<=0/\(0:Int)<=0/\(0:Int)<=((n.toNat:Nat):Int):=by omega
  simp only[if_pos h,ea,if_pos c1,if_pos c2,and_self,if_true];simp
 ·simp only[if_neg h]
theorem EM (l:List (List Int)) (hl:l.length<=10) (h: ∀a∈l,a.length<=1000):jV l=some (l.flatten,()):=by
 have hm:l.length<=maxLen:=by unfold maxLen; omega
 have tot: ∀k,(l.take k).flatten.length<=k*1000:=by
  intro k
  induction k with
  |zero=>simp
  |succ k ih=>
   cases hx:l[k]? with
   |none=>
    have hle:l.length<=k:=by simpa using hx
    rw[bD hle] at ih;rw[bD (Nat.le_succ_of_le hle)];exact bE ih (bG _ (cF k))
   |some a=>rw[nR hx,dx,bn];have:=h a (aq hx);simp only[List.flatten_cons,List.flatten_nil,bw];rw[Nat.succ_mul];exact Nat.add_le_add ih this
 have k1:=oc (B:=gJ) l (fun k (n:Int)=>((l,n,l,(l.length:Int),(k:Int),()),(),())) (fun k n=>n=((l.take k).flatten.length:Int)) (fun _ _ _=>((l,(l.flatten.length:Int),()),(),()))
  (fun n hn=>by simp only[gJ];rw[dI,if_neg (by omega),hn,bH])
  (fun k n a hx hn=>by
    have hk:=pt hx;have c1: (k:Int)< (l.length:Int):=by omega
    have c2: (0:Int)<=(k:Int):=by omega
    have t:=tot k;have ha:=h a (aq hx);have hk10:k*1000<=10000:=by omega
    refine .inl ⟨n+(a.length:Int),?_,?_,rfl⟩
    ·simp only[gJ,dI,ea,if_pos c1,if_pos c2,aA,hx,af,dT hm hk,fY (n:=n+(a.length:Int)) (by omega) (by omega),if_neg (show ¬n+(a.length:Int)<0 by omega)]
    ·rw[nR hx,dx,bn,hn];simp)
  0 0 (ba _) (by simp)
 have t:=tot l.length;rw[bH] at t
 have k2:=oc (B:=gk) l (fun k (b:List Int)=>(((),l,(l.length:Int),(k:Int),()),(),(b,()))) (fun k b=>b=(l.take k).flatten) (fun _ _ _=>(((),()),(),(l.flatten,())))
  (fun b hb=>by simp only[gk];rw[dI,if_neg (by omega),hb,bH])
  (fun k b a hx hb=>by
    have hk:=pt hx;have c1: (k:Int)< (l.length:Int):=by omega
    have c2: (0:Int)<=(k:Int):=by omega
    have t:=tot k;have ha:=h a (aq hx);have hs: (b++a).length*8<=2 ^ 40:=K6 (by rw[hb,bn]; omega) (by decide);refine .inl ⟨b++a,?_,?_,rfl⟩
    ·simp only[gk,dI,ea,if_pos c1,if_pos c2,aA,hx,af,dT hm hk,if_pos hs]
    ·rw[nR hx,dx,hb];simp)
  0 [] (ba _) (by simp)
 unfold jV;rw[show o3 ((l,0,l,(l.length:Int),0,()),(),())=_ from k1];simp only[af,Ia _ (show (0:Int)<=(l.flatten.length:Int) by omega) (by omega)];rw[show ov (((),l,(l.length:Int),0,()),(),([],()))=_ from k2];rfl
end Go.Proofs.YtadpelkpdaohnaaGreatDoor.En
