/- Servers' numbers: spec and impl tell the same. -/
import Derived.Test.YtpagmogboinlpaaZPW
namespace Go.Proofs.Ytpagmogboinlpaa.En
open Go
theorem vM {ρ:Type} (b:Bool) (x y:ρ):br (!b) x y=br b y x:=by cases b<;>rfl
def qN (x a b:Int):Bool:=decide (a<=x)&&decide (x<=b)
theorem wF (x a b:Int):fe x a b=some (qN x a b,()):=by unfold fe qN;rw[th];split<;>rename_i h<;>simp[h]
theorem wG (x a b:Int):eb x a b=some (qN x a b,()):=by unfold eb qN;rw[th];split<;>rename_i h<;>simp[h]
theorem qO {x a b:Int}:qN x a b=true↔a<=x/\x<=b:=by simp[qN]
end Go.Proofs.Ytpagmogboinlpaa.En
