/- UpgradeServer: the plain law. -/
import Derived.Test.YtjnleglhcppgcaaGreatZPCopy
namespace Go.Proofs.YtjnleglhcppgcaaGreat.En
open Go
theorem OZ {α:Type} {w:α->Int} {l:List α} {k:Nat} {x:α} (h:l[k]? =some x) (y:α):eN w (l.set k y)=eN w l-w x+w y:=by
 induction l generalizing k with
 |nil=>cases h
 |cons z l ih=>
  cases k with
  |zero=>
   have :z=x:=by simpa using h
   subst this;simp only[List.set_cons_zero,eN];omega
  |succ k=>
   have h:l[k]? =some x:=by simpa using h
   simp only[List.set_cons_succ,eN,ih h];omega
theorem Td {ρ:Type} (x y:dT) (c:Int) (k:Bool×Unit->Option ρ) (z:Option ρ) (hx:iq 1048576 x) (tx:vl x<=1048576) (hy:iq 1048576 y) (ty:vl y<=100000000) (hz:z=(ig y y).bind fun y6=>br (!y6.1) (k (false,())) (br (!(c==c)) (k (false,())) ((j8 x).bind fun y7=>(ig x y7.1).bind fun y8=>br (!y8.1) (k (false,())) ((gz x 1).bind fun y9=>dU (y9.1.servers.length=x.servers.length) (dU (y9.1.sides.length=x.sides.length) (dU (y9.1.master.configs.length=x.master.configs.length) (dU (y9.1.places.length=x.places.length) (br (decide (y9.2.1<0)) (k (false,())) ((ig y y).bind fun y10=>br (!y10.1) (k (false,())) (br (!(c==c)) (k (false,())) ((gz y 1).bind fun y11=>dU (y11.1.servers.length=y.servers.length) (dU (y11.1.sides.length=y.sides.length) (dU (y11.1.master.configs.length=y.master.configs.length) (dU (y11.1.places.length=y.places.length) ((gX (⟨y.now,y11.1.servers,y11.1.sides,(⟨y11.1.master.configs,y.master.activated⟩:dY),y.masterUp,y.lease,y11.1.places⟩:dT) 1).bind fun y12=>br (decide (y12.1<0)) (k (false,())) (br (!(y12.1==y11.2.1)) (k (false,())) ((ig y y).bind fun y15=>br (!y15.1) (k (false,())) (br (!(c==c)) (k (false,())) ((gX (⟨y.now,y11.1.servers,y11.1.sides,(⟨y11.1.master.configs,y.master.activated⟩:dY),y.masterUp,y.lease,y11.1.places⟩:dT) 1).bind fun y16=>br (decide (y16.1<0)) (k (false,())) (br (!(y16.1==y11.2.1)) (k (false,())) (k (true,())))))))) none) none) none) none)))) none) none) none) none)))):z=k (true,()):=by
 rw[hz];obtain⟨m1,_⟩:=ww x 1 (by decide) (by omega) hx;obtain⟨p1,_⟩:=ww y 1 (by decide) (by omega) hy;obtain⟨a1,a2,a3,a4⟩:=JE x;obtain⟨b1,b2,b3,b4⟩:=JE y;have w1:=(Hs x).1;have w2:=(Hs y).1;have n1: ¬1+JL x<0:=by omega
 have n2: ¬1+JL y<0:=by omega
 simp only[AR x hx,ae,wl x hx,wl y hy,bg,ek,beq_self_eq_true,m1,p1,a1,a2,a3,a4,b1,b2,b3,b4,dZ,if_true,dV,if_neg n1,if_neg n2,S9 y hy ty]
end Go.Proofs.YtjnleglhcppgcaaGreat.En
