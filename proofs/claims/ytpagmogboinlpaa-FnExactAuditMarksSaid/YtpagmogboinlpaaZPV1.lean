/- Servers' numbers: spec and impl tell the same. -/
import Derived.Test.YtpagmogboinlpaaZPW
namespace Go.Proofs.Ytpagmogboinlpaa.En
open Go
theorem s6 {ρ:Type} (a b:Int) (x y:ρ):br (a==b) x y=if a=b then x else y:=by rw[zF];by_cases h:a=b<;>simp[h]
theorem js {ρ:Type} (b:Bool) (x y:ρ):br (!b) x y=br b y x:=by cases b<;>rfl
def jT (x a b:Int):Bool:=decide (a<=x)&&decide (x<=b)
theorem oK (x a b:Int):fC x a b=some (jT x a b,()):=by unfold fC jT;rw[dL];split<;>rename_i h<;>simp[h]
theorem v4 (x a b:Int):ek x a b=some (jT x a b,()):=by unfold ek jT;rw[dL];split<;>rename_i h<;>simp[h]
theorem oX {x a b:Int}:jT x a b=true↔a<=x/\x<=b:=by simp[jT]
end Go.Proofs.Ytpagmogboinlpaa.En
