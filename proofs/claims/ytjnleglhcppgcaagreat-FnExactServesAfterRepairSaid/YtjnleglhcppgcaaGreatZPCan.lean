/- CanRepair: the plain law. -/
import Derived.Test.YtjnleglhcppgcaaGreatZPAlive
import Derived.Test.YtjnleglhcppgcaaGreatZPSafe
namespace Go.Proofs.YtjnleglhcppgcaaGreat.En
open Go
def JB (l:List eN) (k:Nat):Bool:=match l[k]? with |some p=>decide (p.load<p.capacity)|none=>false
theorem CP {l:List eN} (hl:l.length<=maxLen) (hv:ii l=some (true,())):l.length=5:=by
 obtain⟨b,h1,h2⟩:=rp l hl;rw[hv] at h1;simp only[af,an,and_true] at h1;subst h1;unfold jw at h2;cases h: ((l.length:Int)==5) with
 |false=>rw[h] at h2; cases h2
 |true=>simp only[beq_iff_eq] at h; omega
theorem Tq (l:List eN) (hl:l.length<=maxLen) (hv:ii l=some (true,())) (k:Nat) (hk:k<5):vW l (k:Int)=some (JB l k,())/\v9 l (k:Int)=some (JB l k,()):=by
 have h5:=CP hl hv;obtain⟨b,h1,h2⟩:=rp l hl;rw[hv] at h1;simp only[af,an,and_true] at h1;subst h1;have hw:je (k:Int) 0 4=true:=fK.2 (by omega);have c2: (0:Int)<=(k:Int):=by omega
 have hlt:k<l.length:=by omega
 unfold vW v9 JB;simp only[hv,h2,kg,mG,hw,ae,en,ek,if_pos c2,ap,ah hlt];exact⟨trivial,trivial⟩
theorem Rt (x:eg) (hl:x.servers.length=5) (hs:x.sides.length=5) (k:Nat) (hk:k<5):nV x (k:Int)=some (iI x k,()):=by
 have c2: (0:Int)<=(k:Int):=by omega
 have h1:k<x.servers.length:=by omega
 have h2:k<x.sides.length:=by omega
 unfold nV iI Jz wQ;simp only[ek,if_pos c2,ap,ah h1,ah h2,ae];cases x.servers[k].up<;>rfl
theorem F1:og=some ([0,1,2,3,4],()):=by
 unfold og
 have :yp (((),0,()),(()),(([]:List Int),()))=some (((),()),(()),([0,1,2,3,4],())):=by refine (lf (by rfl)).trans ?_;refine (lf (by rfl)).trans ?_;refine (lf (by rfl)).trans ?_;refine (lf (by rfl)).trans ?_;refine (lf (by rfl)).trans ?_;exact gC (by rfl)
 rw[this];rfl
end Go.Proofs.YtjnleglhcppgcaaGreat.En
