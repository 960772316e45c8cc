/- UpgradeServer: the plain law. -/
import Derived.Test.YtjnleglhcppgcaaGreatZPCopy
namespace Go.Proofs.YtjnleglhcppgcaaGreat.En
open Go
theorem Rv {α:Type} {w:α->Int} {l:List α} {k:Nat} {x:α} (h:l[k]? =some x) (y:α):oq w (l.set k y)=oq w l-w x+w y:=by
 induction l generalizing k with
 |nil=>cases h
 |cons z l ih=>
  cases k with
  |zero=>
   have :z=x:=by simpa using h
   subst this;simp only[List.set_cons_zero,oq];omega
  |succ k=>
   have h:l[k]? =some x:=by simpa using h
   simp only[List.set_cons_succ,oq,ih h];omega
end Go.Proofs.YtjnleglhcppgcaaGreat.En
