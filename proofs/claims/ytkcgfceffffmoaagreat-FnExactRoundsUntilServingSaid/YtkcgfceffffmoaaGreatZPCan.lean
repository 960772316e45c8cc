/- CanRepair: the plain law. -/
import Derived.Test.YtkcgfceffffmoaaGreatZPAlive
import Derived.Test.YtkcgfceffffmoaaGreatZPSafe
namespace Go.Proofs.YtkcgfceffffmoaaGreat.En
open Go
def agr (l:List ey) (k:Nat):Bool:=match l[k]? with | some p=>decide (p.load < p.capacity) | none=>false
theorem Vg {l:List ey} (hl:l.length<=maxLen) (hv:kB l=some (true,())):l.length=5:=by
 obtain⟨b,h1,h2⟩:=Ds l hl;rw [hv] at h1;simp only [af,aq,and_true] at h1;subst h1;unfold mA Cp at h2;cases h: ((l.length:Int)==5) with
 | false=>rw [h] at h2; cases h2
 | true=>simp only [beq_iff_eq] at h; omega
theorem aqv (l:List ey) (hl:l.length<=maxLen) (hv:kB l=some (true,())) (k:Nat) (hk:k < 5):Dg l (k:Int)=some (agr l k,())/\Dn l (k:Int)=some (agr l k,()):=by
 have h5:=Vg hl hv;obtain⟨b,h1,h2⟩:=Ds l hl;rw [hv] at h1;simp only [af,aq,and_true] at h1;subst h1;have hw:sP (k:Int) 0 4=true:=jD.2 (by omega);have c2: (0:Int)<=(k:Int):=by omega
 have hlt:k < l.length:=by omega
 unfold Dg Jj Dn JF agr;simp only [hv,h2,vk,z6,hw,ae,ew,ez,if_pos c2,aw,ai hlt];exact⟨trivial,trivial⟩
theorem ao3 (x:dV) (hl:x.servers.length=5) (hs:x.sides.length=5) (k:Nat) (hk:k < 5):sg x (k:Int)=some (mE x k,()):=by
 have c2: (0:Int)<=(k:Int):=by omega
 have h1:k < x.servers.length:=by omega
 have h2:k < x.sides.length:=by omega
 unfold sg Ek mE ago JU;simp only [ez,if_pos c2,aw,ai h1,ai h2,ae];cases x.servers[k].up <;> rfl
theorem aa9:ob=some ([0,1,2,3,4],()):=by
 unfold ob DR
 have :Cz (((),0,()),(()),(([]:List Int),()))=some (((),()),(()),([0,1,2,3,4],())):=by
  refine (rd (by rfl)).trans ?_;refine (rd (by rfl)).trans ?_;refine (rd (by rfl)).trans ?_;refine (rd (by rfl)).trans ?_;refine (rd (by rfl)).trans ?_;exact kF (by rfl)
 rw [this];rfl
end Go.Proofs.YtkcgfceffffmoaaGreat.En
