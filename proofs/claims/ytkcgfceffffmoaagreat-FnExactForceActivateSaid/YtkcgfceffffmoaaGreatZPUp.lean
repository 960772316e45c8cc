/- UpgradeServer: the plain law. -/
import Derived.Test.YtkcgfceffffmoaaGreatZPCopy
namespace Go.Proofs.YtkcgfceffffmoaaGreat.En
open Go
theorem aah {α:Type} {w:α→Int} {l:List α} {k:Nat} {x:α} (h:l[k]? =some x) (y:α):cI w (l.set k y)=cI w l - w x+w y:=by
 induction l generalizing k with
 | nil=>cases h
 | cons z l ih=>
   cases k with
   | zero=>
     have :z=x:=by simpa using h
     subst this
     simp only [List.set_cons_zero,cI]
     omega
   | succ k=>
     have h:l[k]? =some x:=by simpa using h
     simp only [List.set_cons_succ,cI,ih h]
     omega
def GX (x:aj) (k:Nat) (s:am):aj:=⟨x.now,x.servers.set k s,x.sides,x.master,x.masterUp,x.lease,x.places⟩
theorem Wy {x:aj} (ok:rl 1048576 x) (k:Nat) {s:am} (hs:kS 1048576 s):rl 1048576 (GX x k s):=
 ⟨⟨by unfold GX; rw [List.length_set]; exact ok.1.1,fun t ht=>by
   rcases List.mem_or_eq_of_mem_set ht with h | h
   ·exact ok.1.2 t h
   ·rw [h]; exact hs⟩,ok.2.1,ok.2.2.1,ok.2.2.2⟩
theorem Yo {x:aj} {k:Nat} {s:am} (h:x.servers[k]? =some s) (s':am):Pz (GX x k s')=Pz x - BX s+BX s':=by
 unfold GX Pz tSs
 simp only [aah h,bE,List.length_set]
 omega
theorem adO {ρ:Type} (x y:aj) (c:Int) (k:Bool×Unit→Option ρ) (z:Option ρ) (hx:rl 1048576 x) (tx:Pz x≤1048576) (hy:rl 1048576 y) (ty:Pz y≤100000000) (hz:z=(fi y y).bind fun y6=>br (!y6.1) (k (false,())) (br (!(c==c)) (k (false,())) ((iJ x).bind fun y7=>(fi x y7.1).bind fun y8=>br (!y8.1) (k (false,())) ((dN x 1).bind fun y9=>aq (y9.1.servers.length=x.servers.length) (aq (y9.1.sides.length=x.sides.length) (aq (y9.1.master.configs.length=x.master.configs.length) (aq (y9.1.places.length=x.places.length) (br (decide (y9.2.1 < 0)) (k (false,())) ((fi y y).bind fun y10=>br (!y10.1) (k (false,())) (br (!(c==c)) (k (false,())) ((dN y 1).bind fun y11=>aq (y11.1.servers.length=y.servers.length) (aq (y11.1.sides.length=y.sides.length) (aq (y11.1.master.configs.length=y.master.configs.length) (aq (y11.1.places.length=y.places.length) ((eU (⟨y.now,y11.1.servers,y11.1.sides,(⟨y11.1.master.configs,y.master.activated⟩:ak),y.masterUp,y.lease,y11.1.places⟩:aj) 1).bind fun y12=>br (decide (y12.1 < 0)) (k (false,())) (br (!(y12.1==y11.2.1)) (k (false,())) ((fi y y).bind fun y15=>br (!y15.1) (k (false,())) (br (!(c==c)) (k (false,())) ((eU (⟨y.now,y11.1.servers,y11.1.sides,(⟨y11.1.master.configs,y.master.activated⟩:ak),y.masterUp,y.lease,y11.1.places⟩:aj) 1).bind fun y16=>br (decide (y16.1 < 0)) (k (false,())) (br (!(y16.1==y11.2.1)) (k (false,())) (k (true,())))))))) none) none) none) none)))) none) none) none) none)))):z=k (true,()):=by
 rw [hz]
 obtain⟨m1,_⟩:=B3 x 1 (by decide) (by omega) hx
 obtain⟨p1,_⟩:=B3 y 1 (by decide) (by omega) hy
 obtain⟨a1,a2,a3,a4⟩:=UX x
 obtain⟨b1,b2,b3,b4⟩:=UX y
 have w1:=(Sd x).1
 have w2:=(Sd y).1
 have n1: ¬ 1+U3 x < 0:=by omega
 have n2: ¬ 1+U3 y < 0:=by omega
 simp only [IB x hx,Option.bind_some,BT x hx,BT y hy,Bool.not_true,bJ,beq_self_eq_true,m1,p1,a1,a2,a3,a4,b1,b2,b3,b4,be,if_true,aw,if_neg n1,if_neg n2,adN y hy ty]
end Go.Proofs.YtkcgfceffffmoaaGreat.En
