/- UpgradeServer: the plain law. -/
import Derived.Test.YtkcgfceffffmoaaGreatZPCopy
namespace Go.Proofs.YtkcgfceffffmoaaGreat.En
open Go
theorem UU {α:Type} {w:α→Int} {l:List α} {k:Nat} {x:α} (h:l[k]? =some x) (y:α):cG w (l.set k y)=cG w l - w x+w y:=by
 induction l generalizing k with
 | nil=>cases h
 | cons z l ih=>
   cases k with
   | zero=>
     have :z=x:=by simpa using h
     subst this
     simp only [List.set_cons_zero,cG]
     omega
   | succ k=>
     have h:l[k]? =some x:=by simpa using h
     simp only [List.set_cons_succ,cG,ih h]
     omega
def ue (x:ao) (k:Nat) (s:aj):ao:=⟨x.now,x.servers.set k s,x.sides,x.master,x.masterUp,x.lease,x.places⟩
theorem QR {x:ao} (ok:tC 1048576 x) (k:Nat) {s:aj} (hs:qD 1048576 s):tC 1048576 (ue x k s):=
 ⟨⟨by unfold ue; rw [List.length_set]; exact ok.1.1,fun t ht=>by
   rcases List.mem_or_eq_of_mem_set ht with h | h
   ·exact ok.1.2 t h
   ·rw [h]; exact hs⟩,ok.2.1,ok.2.2.1,ok.2.2.2⟩
theorem SX {x:ao} {k:Nat} {s:aj} (h:x.servers[k]? =some s) (s':aj):Pp (ue x k s')=Pp x - Po s+Po s':=by
 unfold ue Pp X0
 simp only [UU h,bL,List.length_set]
 omega
theorem X5 {ρ:Type} (x y:ao) (c:Int) (k:Bool×Unit→Option ρ) (z:Option ρ) (hx:tC 1048576 x) (tx:Pp x≤1048576) (hy:tC 1048576 y) (ty:Pp y≤100000000) (hz:z=(eB y y).bind fun y6=>br (!y6.1) (k (false,())) (br (!(c==c)) (k (false,())) ((gO x).bind fun y7=>(eB x y7.1).bind fun y8=>br (!y8.1) (k (false,())) ((dI x 1).bind fun y9=>aq (y9.1.servers.length=x.servers.length) (aq (y9.1.sides.length=x.sides.length) (aq (y9.1.master.configs.length=x.master.configs.length) (aq (y9.1.places.length=x.places.length) (br (decide (y9.2.1 < 0)) (k (false,())) ((eB y y).bind fun y10=>br (!y10.1) (k (false,())) (br (!(c==c)) (k (false,())) ((dI y 1).bind fun y11=>aq (y11.1.servers.length=y.servers.length) (aq (y11.1.sides.length=y.sides.length) (aq (y11.1.master.configs.length=y.master.configs.length) (aq (y11.1.places.length=y.places.length) ((eW (⟨y.now,y11.1.servers,y11.1.sides,(⟨y11.1.master.configs,y.master.activated⟩:an),y.masterUp,y.lease,y11.1.places⟩:ao) 1).bind fun y12=>br (decide (y12.1 < 0)) (k (false,())) (br (!(y12.1==y11.2.1)) (k (false,())) ((eB y y).bind fun y15=>br (!y15.1) (k (false,())) (br (!(c==c)) (k (false,())) ((eW (⟨y.now,y11.1.servers,y11.1.sides,(⟨y11.1.master.configs,y.master.activated⟩:an),y.masterUp,y.lease,y11.1.places⟩:ao) 1).bind fun y16=>br (decide (y16.1 < 0)) (k (false,())) (br (!(y16.1==y11.2.1)) (k (false,())) (k (true,())))))))) none) none) none) none)))) none) none) none) none)))):z=k (true,()):=by
 rw [hz]
 obtain⟨m1,_⟩:=yz x 1 (by decide) (by omega) hx
 obtain⟨p1,_⟩:=yz y 1 (by decide) (by omega) hy
 obtain⟨a1,a2,a3,a4⟩:=Pu x
 obtain⟨b1,b2,b3,b4⟩:=Pu y
 have w1:=(QO x).1
 have w2:=(QO y).1
 have n1: ¬ 1+UR x < 0:=by omega
 have n2: ¬ 1+UR y < 0:=by omega
 simp only [Er x hx,Option.bind_some,yr x hx,yr y hy,Bool.not_true,cW,beq_self_eq_true,m1,p1,a1,a2,a3,a4,b1,b2,b3,b4,bE,if_true,ay,if_neg n1,if_neg n2,X4 y hy ty]
end Go.Proofs.YtkcgfceffffmoaaGreat.En
