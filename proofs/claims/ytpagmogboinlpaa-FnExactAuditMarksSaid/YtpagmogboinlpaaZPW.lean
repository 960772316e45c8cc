/- What the laws' own helpers compute: sizes, copies, equality. -/
import Derived.Test.YtpagmogboinlpaaZB
namespace Go.Proofs.Ytpagmogboinlpaa.En
open Go
theorem zT:Cq kC (fun l=>l.length<=maxLen) (fun l=>l.length<=1048576):=wN (fun _ _=>rfl)
theorem zU (l:List dJ) (h:l.length<=1048576):gD l=some (l,()):=BO (F:=gD) (B:=iR) lP ⟨0,⟨0,0,0,0,0,0⟩⟩ 56 (fun _=>rfl) (fun _ _ _=>rfl) (by decide) l h (fun _ _=>rfl)
theorem zV {n:Nat} (h:n<=1048576):n<=maxLen:=by unfold maxLen; omega
theorem rt (x:Op):n9 x x=some (true,()):=by unfold n9;simp only[beq_self_eq_true,bP,eR]
theorem s5 (x:dJ):i5 x x=some (true,()):=by unfold i5;simp only[beq_self_eq_true,bP,eR,rt,ai]
theorem qG (l:List dJ) (h:l.length<=maxLen):jr l l=some (true,()):=uN (F:=jr) (B:=iV) i5 (fun _ _=>rfl) (fun _ _ _=>rfl) l h (fun x _=>s5 x)
end Go.Proofs.Ytpagmogboinlpaa.En
