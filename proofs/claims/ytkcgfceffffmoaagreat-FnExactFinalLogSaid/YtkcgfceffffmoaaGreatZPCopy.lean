/- Copies of clusters; the version of a server. -/
import Derived.Test.YtkcgfceffffmoaaGreatZPNew
import Derived.Test.YtkcgfceffffmoaaGreatZPMk
namespace Go.Proofs.YtkcgfceffffmoaaGreat.En
open Go
theorem TH {n c:Nat} (h:n≤1048577) (hc:c≤1000):n*c≤2 ^ 40:=by
 have h1:n*c≤1048577*1000:=Nat.mul_le_mul h hc
 have h2: (2:Nat) ^ 40=1099511627776:=by decide
 omega
theorem ML (l:List aB) (h:l.length≤1048576):p9 l=some (l,())∧lp l=some (l,()):=by
 unfold p9 rP lp tj
 simp only [List.nil_append,bT,if_pos (TH (Nat.le_succ_of_le h) (show 56≤1000 by decide))]
 exact⟨trivial,trivial⟩
theorem rp {α:Type} {l:List α} {k:Nat} {x:α} (h:l[k]? =some x):l.take (k+1)=l.take k++ [x] :=by rw [List.take_add_one,h]; rfl
theorem good (x:aP) (id:Int) (ok:xd 1048576 x): ∃ b,fsl24Good x id=some (b,())∧fihasServerAt x id=some (b,())∧(b=true→cP x=some (true,())∧0≤id∧id < 5):=by
 obtain⟨v,v1,v2⟩:=yT x ok
 unfold fsl24Good fsl24GoodC fihasServerAt fihasServerAtC
 simp only [v1,v2,Option.bind_some,vw,yS]
 cases v with
 | false=>exact⟨false,rfl,rfl,nofun⟩
 | true=>
   refine⟨tL id 0 4,rfl,rfl,fun h=>⟨rfl,?_⟩⟩
   have:=lM.1 h
   omega
theorem PQ (y:aP): (Rn y 1).servers.length=y.servers.length∧(Rn y 1).sides.length=y.sides.length∧(Rn y 1).master.configs.length=y.master.configs.length∧(Rn y 1).places.length=y.places.length:=
 ⟨fo _ _ _ _,fo _ _ _ _,fo _ _ _ _,fo _ _ _ _⟩
end Go.Proofs.YtkcgfceffffmoaaGreat.En
