/- RepairAll: the plain law. -/
import Derived.Test.YtjnleglhcppgcaaGreatZPRep
namespace Go.Proofs.YtjnleglhcppgcaaGreat.En
open Go
theorem M3 (x:dT) (ok:iq 1048576 x) (want:Int): ∃y n,qu x want=some (y,n,())/\oF x want=some (y,n,())/\iq 1048576 y/\vl y<=vl x+20972040:=by
 obtain⟨y,n,y1,y2,y3,y4⟩:=Bv x ok want 50;obtain⟨z,k,z1,z2,z3,z4⟩:=Bv y y3 1 50;unfold qu oF;simp only[y1,y2,z1,z2,ae];cases (n==6) with
 |true=>exact⟨z,k,rfl,rfl,z3,by omega⟩
 |false=>exact⟨y,n,rfl,rfl,y3,by omega⟩
theorem Fw (x:dT) (want:Int) (h:iq maxLen x):lI x want=some (true,()):=by
 unfold lI;obtain⟨n,g1,g2⟩:=S6 x h;simp only[g1,ae,dV];split
 ·rfl
 ·obtain⟨ok,ht,_⟩:=g2 (by omega);obtain⟨y,c,s1,s2,oy,ty⟩:=M3 x ok want;simp only[AR x ok,s1,s2,ae];refine Td x y c some _ ok ht oy (by omega) ?_;simp only[AR x ok,ae,dV]
end Go.Proofs.YtjnleglhcppgcaaGreat.En
