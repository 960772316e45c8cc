/- Marks of a cluster: what is written is found again. -/
import Derived.Test.YtkcgfceffffmoaaGreatZPM
namespace Go.Proofs.YtkcgfceffffmoaaGreat.En
open Go
theorem gs1 {α:Type} (l:List α):Gx (fun _=>(1:Int)) l=CX l:=by rw [akG]; unfold CX; omega
theorem adds (n:Int):n+1+1=n+2/\n+2+1=n+3/\n+3+1=n+4/\n+4+1=n+5/\n+5+1=n+6/\n+6+1=n+7:=by omega
def mI (l:List Int) (n:Int):List Int:=aoV (fun _ n=>n) (fun _=>1) l n
end Go.Proofs.YtkcgfceffffmoaaGreat.En
