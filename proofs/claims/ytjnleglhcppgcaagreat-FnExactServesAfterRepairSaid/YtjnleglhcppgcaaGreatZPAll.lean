/- RepairAll: the plain law. -/
import Derived.Test.YtjnleglhcppgcaaGreatZPRep
namespace Go.Proofs.YtjnleglhcppgcaaGreat.En
open Go
theorem Px (x:eg) (ok:gX 1048576 x) (want:Int): ∃y n,rN x want=some (y,n,())/\rX x want=some (y,n,())/\gX 1048576 y/\BM y<=BM x+20972040:=by
 obtain⟨y,n,y1,y2,y3,y4⟩:=Dp x ok want 50;obtain⟨z,k,z1,z2,z3,z4⟩:=Dp y y3 1 50;unfold rN rX;simp only[y1,y2,z1,z2,ae];cases (n==6) with
 |true=>exact⟨z,k,rfl,rfl,z3,by omega⟩
 |false=>exact⟨y,n,rfl,rfl,y3,by omega⟩
end Go.Proofs.YtjnleglhcppgcaaGreat.En
