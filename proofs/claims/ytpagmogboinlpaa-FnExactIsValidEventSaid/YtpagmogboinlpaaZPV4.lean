/- Valid clusters: spec and impl tell the same. -/
import Derived.Test.YtpagmogboinlpaaZPV3
namespace Go.Proofs.Ytpagmogboinlpaa.En
open Go
theorem uK (x:Op):vb (fm x) (fo x):=by unfold fm fo;simp only[wF,wG,ak];cases qN x.client 0 2<;>cases qN x.seq 1 99<;>cases qN x.object 0 2<;>cases qN x.value 0 9<;>cases (x.kind==1)<;>cases (x.kind==2)<;>cases (x.old==0)<;>exact⟨_,rfl,rfl⟩
end Go.Proofs.Ytpagmogboinlpaa.En
