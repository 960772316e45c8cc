/- CanRepair: the plain law. -/
import Derived.Test.YtjnleglhcppgcaaGreatZPAlive
import Derived.Test.YtjnleglhcppgcaaGreatZPSafe
namespace Go.Proofs.YtjnleglhcppgcaaGreat.En
open Go
def Hy (l:List ew) (k:Nat):Bool:=match l[k]? with |some p=>decide (p.load<p.capacity)|none=>false
theorem AY {l:List ew} (hl:l.length<=maxLen) (hv:gD l=some (true,())):l.length=5:=by
 obtain⟨b,h1,h2⟩:=pX l hl;rw[hv] at h1;simp only[af,an,and_true] at h1;subst h1;unfold iO at h2;cases h: ((l.length:Int)==5) with
 |false=>rw[h] at h2; cases h2
 |true=>simp only[beq_iff_eq] at h; omega
theorem Qw (l:List ew) (hl:l.length<=maxLen) (hv:gD l=some (true,())) (k:Nat) (hk:k<5):tZ l (k:Int)=some (Hy l k,())/\ub l (k:Int)=some (Hy l k,()):=by
 have h5:=AY hl hv;obtain⟨b,h1,h2⟩:=pX l hl;rw[hv] at h1;simp only[af,an,and_true] at h1;subst h1;have hw:kE (k:Int) 0 4=true:=fB.2 (by omega);have c2: (0:Int)<=(k:Int):=by omega
 have hlt:k<l.length:=by omega
 unfold tZ ub Hy;simp only[hv,h2,lV,nX,hw,ae,eb,dZ,if_pos c2,ao,ah hlt];exact⟨trivial,trivial⟩
theorem OX (x:dT) (hl:x.servers.length=5) (hs:x.sides.length=5) (k:Nat) (hk:k<5):mX x (k:Int)=some (gV x k,()):=by
 have c2: (0:Int)<=(k:Int):=by omega
 have h1:k<x.servers.length:=by omega
 have h2:k<x.sides.length:=by omega
 unfold mX gV Hv uJ;simp only[dZ,if_pos c2,ao,ah h1,ah h2,ae];cases x.servers[k].up<;>rfl
theorem Ej:kf=some ([0,1,2,3,4],()):=by
 unfold kf
 have :v6 (((),0,()),(()),(([]:List Int),()))=some (((),()),(()),([0,1,2,3,4],())):=by refine (j7 (by rfl)).trans ?_;refine (j7 (by rfl)).trans ?_;refine (j7 (by rfl)).trans ?_;refine (j7 (by rfl)).trans ?_;refine (j7 (by rfl)).trans ?_;exact ga (by rfl)
 rw[this];rfl
end Go.Proofs.YtjnleglhcppgcaaGreat.En
