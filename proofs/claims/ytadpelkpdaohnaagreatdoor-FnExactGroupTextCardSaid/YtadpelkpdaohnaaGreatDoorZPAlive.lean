/- Servers that are alive. -/
import Derived.Test.YtadpelkpdaohnaaGreatDoorZPAct
namespace Go.Proofs.YtadpelkpdaohnaaGreatDoor.En
open Go
theorem GL {l:List Int} (hl:l.length<=maxLen) (hv:jm l=some (true,())):l.length=5:=by
 obtain⟨b,h1,h2⟩:=sa l hl;rw[hv] at h1;simp only[ae,al,and_true] at h1;subst h1;unfold kf at h2;cases h: ((l.length:Int)==5) with
 |false=>rw[h] at h2; cases h2
 |true=>simp only[beq_iff_eq] at h; omega
end Go.Proofs.YtadpelkpdaohnaaGreatDoor.En
