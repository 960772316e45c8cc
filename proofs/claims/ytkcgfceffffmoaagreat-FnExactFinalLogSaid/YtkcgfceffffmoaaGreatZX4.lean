import Derived.Test.YtkcgfceffffmoaaGreatZX3
namespace Go.Proofs.YtkcgfceffffmoaaGreat.En
open Go Go.RowKit
section
variable {P:Program} {w0 w w':World} {W:Nat→Prop} {btI bt bt':Bt} {SI S S' SV:St} {a a':Act} {D:eI} {Q:Exit→Act→World→Prop} {ops:Array Oper}
def done (ops:Array Oper) (L:Array Bool) (t:Nat):Bool:=(List.range ops.size).any fun i=>L.getD i false&&(((ops[i]?).bind (·.dst))==some t)
end
end Go.Proofs.YtkcgfceffffmoaaGreat.En
namespace Go.Proofs.YtkcgfceffffmoaaGreat.En
open Go Go.RowKit
section
variable {P:Program} {S S' X Y Z:St} {D:eI}
end
end Go.Proofs.YtkcgfceffffmoaaGreat.En
namespace Go.Proofs.YtkcgfceffffmoaaGreat.En
open Go Go.RowKit
section
variable {P:Program} {w0 w w':World} {W:Nat→Prop} {btI bt bt':Bt} {SI S S' S0:St} {a:Act} {D:eI}
mutual
end
end
end Go.Proofs.YtkcgfceffffmoaaGreat.En
namespace Go.Proofs.YtkcgfceffffmoaaGreat.En
open Go Go.RowKit
section
variable {P:Program} {w0 w w':World} {W:Nat→Prop} {btI bt bt':Bt} {SI S S' SV:St} {a a':Act} {D:eI} {Q:Exit→Act→World→Prop} {ops:Array Oper} {ms:List kp}
end
end Go.Proofs.YtkcgfceffffmoaaGreat.En
namespace Go.Proofs.YtkcgfceffffmoaaGreat.En
open Go Go.RowKit
section
variable {P:Program} {w0 w w':World} {W:Nat→Prop} {btI bt bt':Bt} {SI S S':St} {a a':Act} {D:eI}
def X.out:X→Exit
 | .nor=> .normal
 | .ret=> .ret
 | .ext i=> .exit i
theorem hQ {J:Nat→Prop} (h: ∃ n,J n): ∃ n,J n∧ ∀ m,J m→n≤m:=by
 obtain⟨n,hn⟩:=h
 induction n using Nat.strongRecOn with
 | _ n ih=>
   by_cases hx: ∃ m,m < n∧J m
   ·obtain⟨m,h1,h2⟩:=hx
    exact ih m h1 h2
   ·exact⟨n,hn,fun m hm=>by
     cases Nat.lt_or_ge m n with
     | inl h=>exact absurd ⟨m,h,hm⟩ hx
     | inr h=>exact h⟩
end
end Go.Proofs.YtkcgfceffffmoaaGreat.En
