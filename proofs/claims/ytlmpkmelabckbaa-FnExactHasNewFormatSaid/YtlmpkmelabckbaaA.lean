/- Printed by wip/tools/gen.py: the walk. -/
import Derived.Test.YtlmpkmelabckbaaTh
namespace Go.Proofs.Ytlmpkmelabckbaa.En
open Go
noncomputable section
theorem mixed_ok : Try.prog.follows .mixedOrders = true := by kernel_rfl
/-! loop.example/g01926/laws.szEntryS -/
abbrev Y8 : List (Nat × Ent) := []
theorem Y8_ok : TabOk Try.prog (getY Y8) := tab_nil _
def f8C {ρ : Type} (a0 : List Entry) (a1 : Int) (k : Int × Unit → Option ρ) : Option ρ :=
  br (decide ((IntKind.wrap .i64 (a1 - (a0.length : Int))) < 0)) (k ((-1), ())) (k ((IntKind.wrap .i64 (a1 - (a0.length : Int))), ()))
def f8 (a0 : List Entry) (a1 : Int) : Option (Int × Unit) := f8C a0 a1 some
theorem f8_k {ρ : Type} (a0 : List Entry) (a1 : Int) (k : Int × Unit → Option ρ) : f8C a0 a1 k = (f8 a0 a1).bind k := by
  simp only [f8, f8C, br_bind, iteP_bind, elim_bind, Option.bind_assoc, Option.bind_some, Option.bind_none]
abbrev E8 : Ent := entP [.ty (.ls (.st .entry)), .ty (.i .i64)] [.i .i64] fun x => f8 x.1 x.2.1
theorem e8 : EntOk Try.prog 8 E8 :=
  entP_of (Λ := getL []) (fn := Try.f8) Θ_ok Y8_ok mixed_ok (by kernel_rfl) (hL_of (by kernel_rfl : _ = []) loops_nil) (fun x => f8 x.1 x.2.1)
    (fun x => Eq.trans (by kernel_rfl : _ = f8C x.1 x.2.1 (fun y => ret (pairs [.i .i64] y) fun v g => some (v, g))) (f8_k x.1 x.2.1 _)) fun _ _ h => h
/-! loop.example/g01926/laws.toOp -/
abbrev Y48 : List (Nat × Ent) := []
theorem Y48_ok : TabOk Try.prog (getY Y48) := tab_nil _
def f48C {ρ : Type} (a0 : Op) (k : Op × Unit → Option ρ) : Option ρ :=
  k (a0, ())
def f48 (a0 : Op) : Option (Op × Unit) := f48C a0 some
theorem f48_k {ρ : Type} (a0 : Op) (k : Op × Unit → Option ρ) : f48C a0 k = (f48 a0).bind k := by
  simp only [f48, f48C, br_bind, iteP_bind, elim_bind, Option.bind_assoc, Option.bind_some, Option.bind_none]
abbrev E48 : Ent := entP [.ty (.st .op)] [.st .op] fun x => f48 x.1
theorem e48 : EntOk Try.prog 48 E48 :=
  entP_of (Λ := getL []) (fn := Try.f48) Θ_ok Y48_ok mixed_ok (by kernel_rfl) (hL_of (by kernel_rfl : _ = []) loops_nil) (fun x => f48 x.1)
    (fun x => Eq.trans (by kernel_rfl : _ = f48C x.1 (fun y => ret (pairs [.st .op] y) fun v g => some (v, g))) (f48_k x.1 _)) fun _ _ h => h
/-! loop.example/g01926/laws.toEntry -/
abbrev Y42 : List (Nat × Ent) := [(48, E48)]
theorem Y42_ok : TabOk Try.prog (getY Y42) := tab_cons e48 <| tab_nil _
def f42C {ρ : Type} (a0 : Entry) (k : Entry × Unit → Option ρ) : Option ρ :=
  (f48 a0.op).bind fun y1 => k ((⟨a0.epoch, y1.1⟩ : Entry), ())
def f42 (a0 : Entry) : Option (Entry × Unit) := f42C a0 some
theorem f42_k {ρ : Type} (a0 : Entry) (k : Entry × Unit → Option ρ) : f42C a0 k = (f42 a0).bind k := by
  simp only [f42, f42C, br_bind, iteP_bind, elim_bind, Option.bind_assoc, Option.bind_some, Option.bind_none]
abbrev E42 : Ent := entP [.ty (.st .entry)] [.st .entry] fun x => f42 x.1
theorem e42 : EntOk Try.prog 42 E42 :=
  entP_of (Λ := getL []) (fn := Try.f42) Θ_ok Y42_ok mixed_ok (by kernel_rfl) (hL_of (by kernel_rfl : _ = []) loops_nil) (fun x => f42 x.1)
    (fun x => Eq.trans (by kernel_rfl : _ = f42C x.1 (fun y => ret (pairs [.st .entry] y) fun v g => some (v, g))) (f42_k x.1 _)) fun _ _ h => h
/-! loop.example/g01926/laws.toEntryS -/
abbrev Y10 : List (Nat × Ent) := [(42, E42)]
theorem Y10_ok : TabOk Try.prog (getY Y10) := tab_cons e42 <| tab_nil _
abbrev L10_3 : LSh := ⟨[(0, .cl (.ro (.st .entry))), (2, .cl (.em)), (3, .cl (.own 0 (.st .entry))), (4, .cl (.int .i64))], [], [.st .entry], 0, 23⟩
abbrev X10_3 : List (X × LSh) := [(.ext 0, ⟨[(2, .cl (.em)), (3, .cl (.own 0 (.st .entry))), (22, .cl (.dead))], [], [.st .entry], 0, 23⟩)]
def b10_3C {ρ : Type} (v1 : List Entry) (v2 : List Entry) (v3 : Int) (fn : (((List Entry) × Unit × Unit × Int × Unit) × (Unit) × ((List Entry) × Unit)) → Option ρ) (fe : ((Unit × Unit × Unit × Unit) × (Unit) × ((List Entry) × Unit)) → Option ρ) : Option ρ :=
  br (decide (v3 < (v2.length : Int))) (iteP (0 ≤ v3) ((v2[v3.toNat]?).bind fun x4 => (f42 x4).bind fun y5 => iteP (0 ≤ v3 ∧ v3 < (v1.length : Int)) ((v1[v3.toNat]?).bind fun x6 => fn ((v2, (), (), (IntKind.wrap .i64 (v3 + 1)), ()), (()), ((v1.set v3.toNat y5.1), ()))) none) none) (fe (((), (), (), ()), (()), (v1, ())))
def b10_3 (s : L10_3.D) : Option (L10_3.D ⊕ Exs.D X10_3) := b10_3C s.2.2.1 s.1.1 s.1.2.2.2.1 (fun s => some (.inl s)) (fun e => some (.inr e))
def l10_3 : L10_3.D → Option (Exs.D X10_3) := lim b10_3
theorem b10_3_k {ρ : Type} (s : L10_3.D) (fn : L10_3.D → Option ρ) (fe : Exs.D X10_3 → Option ρ) : b10_3C s.2.2.1 s.1.1 s.1.2.2.2.1 fn fe = (b10_3 s).bind (Sum.elim fn fe) := by
  simp only [b10_3, b10_3C, br_bind, iteP_bind, elim_bind, Option.bind_assoc, Option.bind_some, Option.bind_none, Sum.elim_inl, Sum.elim_inr]
noncomputable abbrev c10_3 : Code := loopAt (bodyOf Try.f10) 0
abbrev E10_3 : LoopE := loopE [] [0, 2, 3, 4] L10_3 X10_3 l10_3
theorem b10_3_ok (s : L10_3.D) : evCK Θ (getY Y10) (getL []) c10_3 (L10_3.mk' s) (tellK [0, 2, 3, 4] [2, 3, 22] fun x S => some (x, S)) = (b10_3 s).bind (Sum.elim (fun s' => some (.nor, L10_3.mk' s')) fun e => some (Exs.e X10_3 e)) :=
  Eq.trans (by kernel_rfl : _ = b10_3C s.2.2.1 s.1.1 s.1.2.2.2.1 (fun s' => some (.nor, L10_3.mk' s')) (fun e => some (Exs.e X10_3 e))) (b10_3_k s _ _)
theorem l10_3_ok : LoopOk Try.prog c10_3 E10_3 := loopE_ok Θ_ok Y10_ok mixed_ok (by kernel_rfl) (hL_in (by kernel_rfl : _ = []) loops_nil) [] [0, 2, 3, 4] [2, 3, 22] L10_3 X10_3 (by kernel_rfl) b10_3 b10_3_ok l10_3 (limN b10_3) (lim_round b10_3)
def f10C {ρ : Type} (a0 : List Entry) (k : (List Entry) × Unit → Option ρ) : Option ρ :=
  iteP (0 ≤ (a0.length : Int) ∧ (a0.length : Int) = (a0.length : Int) ∧ (a0.length : Int) * ((56 : Nat) : Int) ≤ 2 ^ 40) ((l10_3 ((a0, (), (), 0, ()), (()), ((List.replicate (a0.length : Int).toNat (⟨0, (⟨0, 0, 0, 0, 0, 0⟩ : Op)⟩ : Entry)), ()))).bind fun e7 => k (e7.2.2.1, ())) none
def f10 (a0 : List Entry) : Option ((List Entry) × Unit) := f10C a0 some
theorem f10_k {ρ : Type} (a0 : List Entry) (k : (List Entry) × Unit → Option ρ) : f10C a0 k = (f10 a0).bind k := by
  simp only [f10, f10C, br_bind, iteP_bind, elim_bind, Option.bind_assoc, Option.bind_some, Option.bind_none]
abbrev E10 : Ent := entP [.ty (.ls (.st .entry))] [.ls (.st .entry)] fun x => f10 x.1
theorem e10 : EntOk Try.prog 10 E10 :=
  entP_of (Λ := getL [(key c10_3, E10_3)]) (fn := Try.f10) Θ_ok Y10_ok mixed_ok (by kernel_rfl) (hL_of (by kernel_rfl : _ = [c10_3]) (loops_one (q := key c10_3) rfl l10_3_ok fun _ _ _ => by kernel_rfl)) (fun x => f10 x.1)
    (fun x => Eq.trans (by kernel_rfl : _ = f10C x.1 (fun y => ret (pairs [.ls (.st .entry)] y) fun v g => some (v, g))) (f10_k x.1 _)) fun _ _ h => h
/-! loop.example/g01926/spec.IsNewFormat -/
abbrev Y66 : List (Nat × Ent) := []
theorem Y66_ok : TabOk Try.prog (getY Y66) := tab_nil _
def f66C {ρ : Type} (a0 : Op) (k : Bool × Unit → Option ρ) : Option ρ :=
  k ((a0.kind == 2), ())
def f66 (a0 : Op) : Option (Bool × Unit) := f66C a0 some
theorem f66_k {ρ : Type} (a0 : Op) (k : Bool × Unit → Option ρ) : f66C a0 k = (f66 a0).bind k := by
  simp only [f66, f66C, br_bind, iteP_bind, elim_bind, Option.bind_assoc, Option.bind_some, Option.bind_none]
abbrev E66 : Ent := entP [.ty (.st .op)] [.b] fun x => f66 x.1
theorem e66 : EntOk Try.prog 66 E66 :=
  entP_of (Λ := getL []) (fn := Try.f66) Θ_ok Y66_ok mixed_ok (by kernel_rfl) (hL_of (by kernel_rfl : _ = []) loops_nil) (fun x => f66 x.1)
    (fun x => Eq.trans (by kernel_rfl : _ = f66C x.1 (fun y => ret (pairs [.b] y) fun v g => some (v, g))) (f66_k x.1 _)) fun _ _ h => h
/-! loop.example/g01926/spec.l14NewFormat -/
abbrev Y41 : List (Nat × Ent) := [(66, E66)]
theorem Y41_ok : TabOk Try.prog (getY Y41) := tab_cons e66 <| tab_nil _
abbrev L41_2 : LSh := ⟨[(0, .cl (.ro (.st .entry))), (2, .cl (.bl)), (3, .cl (.int .i64))], [], [], 0, 16⟩
abbrev X41_2 : List (X × LSh) := [(.ret, ⟨[(2, .cl (.bl))], [], [], 0, 16⟩), (.ext 0, ⟨[(2, .cl (.bl))], [], [], 0, 16⟩)]
def b41_2C {ρ : Type} (v1 : List Entry) (v2 : Bool) (v3 : Int) (fn : (((List Entry) × Bool × Int × Unit) × (Unit) × (Unit)) → Option ρ) (fe : ((Bool × Unit) × (Unit) × (Unit)) ⊕ ((Bool × Unit) × (Unit) × (Unit)) → Option ρ) : Option ρ :=
  br (decide (v3 < (v1.length : Int))) (iteP (0 ≤ v3) ((v1[v3.toNat]?).bind fun x4 => (f66 x4.op).bind fun y5 => br y5.1 (fe (.inl ((true, ()), (()), (())))) (fn ((v1, v2, (IntKind.wrap .i64 (v3 + 1)), ()), (()), (())))) none) (fe (.inr ((v2, ()), (()), (()))))
def b41_2 (s : L41_2.D) : Option (L41_2.D ⊕ Exs.D X41_2) := b41_2C s.1.1 s.1.2.1 s.1.2.2.1 (fun s => some (.inl s)) (fun e => some (.inr e))
def l41_2 : L41_2.D → Option (Exs.D X41_2) := lim b41_2
theorem b41_2_k {ρ : Type} (s : L41_2.D) (fn : L41_2.D → Option ρ) (fe : Exs.D X41_2 → Option ρ) : b41_2C s.1.1 s.1.2.1 s.1.2.2.1 fn fe = (b41_2 s).bind (Sum.elim fn fe) := by
  simp only [b41_2, b41_2C, br_bind, iteP_bind, elim_bind, Option.bind_assoc, Option.bind_some, Option.bind_none, Sum.elim_inl, Sum.elim_inr]
noncomputable abbrev c41_2 : Code := loopAt (bodyOf Try.f41) 0
abbrev E41_2 : LoopE := loopE [] [0, 2, 3] L41_2 X41_2 l41_2
theorem b41_2_ok (s : L41_2.D) : evCK Θ (getY Y41) (getL []) c41_2 (L41_2.mk' s) (tellK [0, 2, 3] [2] fun x S => some (x, S)) = (b41_2 s).bind (Sum.elim (fun s' => some (.nor, L41_2.mk' s')) fun e => some (Exs.e X41_2 e)) :=
  Eq.trans (by kernel_rfl : _ = b41_2C s.1.1 s.1.2.1 s.1.2.2.1 (fun s' => some (.nor, L41_2.mk' s')) (fun e => some (Exs.e X41_2 e))) (b41_2_k s _ _)
theorem l41_2_ok : LoopOk Try.prog c41_2 E41_2 := loopE_ok Θ_ok Y41_ok mixed_ok (by kernel_rfl) (hL_in (by kernel_rfl : _ = []) loops_nil) [] [0, 2, 3] [2] L41_2 X41_2 (by kernel_rfl) b41_2 b41_2_ok l41_2 (limN b41_2) (lim_round b41_2)
def f41C {ρ : Type} (a0 : List Entry) (k : Bool × Unit → Option ρ) : Option ρ :=
  (l41_2 ((a0, false, 0, ()), (()), (()))).bind fun e6 => Sum.elim (fun e6_ => k (e6_.1.1, ())) (fun e6_ => k (false, ())) e6
def f41 (a0 : List Entry) : Option (Bool × Unit) := f41C a0 some
theorem f41_k {ρ : Type} (a0 : List Entry) (k : Bool × Unit → Option ρ) : f41C a0 k = (f41 a0).bind k := by
  simp only [f41, f41C, br_bind, iteP_bind, elim_bind, Option.bind_assoc, Option.bind_some, Option.bind_none]
abbrev E41 : Ent := entP [.ty (.ls (.st .entry))] [.b] fun x => f41 x.1
theorem e41 : EntOk Try.prog 41 E41 :=
  entP_of (Λ := getL [(key c41_2, E41_2)]) (fn := Try.f41) Θ_ok Y41_ok mixed_ok (by kernel_rfl) (hL_of (by kernel_rfl : _ = [c41_2]) (loops_one (q := key c41_2) rfl l41_2_ok fun _ _ _ => by kernel_rfl)) (fun x => f41 x.1)
    (fun x => Eq.trans (by kernel_rfl : _ = f41C x.1 (fun y => ret (pairs [.b] y) fun v g => some (v, g))) (f41_k x.1 _)) fun _ _ h => h
/-! loop.example/g01926/spec.HasNewFormat -/
abbrev Y9 : List (Nat × Ent) := [(41, E41)]
theorem Y9_ok : TabOk Try.prog (getY Y9) := tab_cons e41 <| tab_nil _
def f9C {ρ : Type} (a0 : List Entry) (k : Bool × Unit → Option ρ) : Option ρ :=
  (f41 a0).bind fun y1 => k (y1.1, ())
def f9 (a0 : List Entry) : Option (Bool × Unit) := f9C a0 some
theorem f9_k {ρ : Type} (a0 : List Entry) (k : Bool × Unit → Option ρ) : f9C a0 k = (f9 a0).bind k := by
  simp only [f9, f9C, br_bind, iteP_bind, elim_bind, Option.bind_assoc, Option.bind_some, Option.bind_none]
abbrev E9 : Ent := entP [.ty (.ls (.st .entry))] [.b] fun x => f9 x.1
theorem e9 : EntOk Try.prog 9 E9 :=
  entP_of (Λ := getL []) (fn := Try.f9) Θ_ok Y9_ok mixed_ok (by kernel_rfl) (hL_of (by kernel_rfl : _ = []) loops_nil) (fun x => f9 x.1)
    (fun x => Eq.trans (by kernel_rfl : _ = f9C x.1 (fun y => ret (pairs [.b] y) fun v g => some (v, g))) (f9_k x.1 _)) fun _ _ h => h
/-! loop.example/g01926/impl.IsNewFormat -/
abbrev Y69 : List (Nat × Ent) := []
theorem Y69_ok : TabOk Try.prog (getY Y69) := tab_nil _
def f69C {ρ : Type} (a0 : Op) (k : Bool × Unit → Option ρ) : Option ρ :=
  k ((a0.kind == 2), ())
def f69 (a0 : Op) : Option (Bool × Unit) := f69C a0 some
theorem f69_k {ρ : Type} (a0 : Op) (k : Bool × Unit → Option ρ) : f69C a0 k = (f69 a0).bind k := by
  simp only [f69, f69C, br_bind, iteP_bind, elim_bind, Option.bind_assoc, Option.bind_some, Option.bind_none]
abbrev E69 : Ent := entP [.ty (.st .op)] [.b] fun x => f69 x.1
theorem e69 : EntOk Try.prog 69 E69 :=
  entP_of (Λ := getL []) (fn := Try.f69) Θ_ok Y69_ok mixed_ok (by kernel_rfl) (hL_of (by kernel_rfl : _ = []) loops_nil) (fun x => f69 x.1)
    (fun x => Eq.trans (by kernel_rfl : _ = f69C x.1 (fun y => ret (pairs [.b] y) fun v g => some (v, g))) (f69_k x.1 _)) fun _ _ h => h
/-! loop.example/g01926/impl.hasNewFormat$1 -/
abbrev Y68 : List (Nat × Ent) := [(69, E69)]
theorem Y68_ok : TabOk Try.prog (getY Y68) := tab_cons e69 <| tab_nil _
def f68C {ρ : Type} (a0 : Entry) (k : Bool × Unit → Option ρ) : Option ρ :=
  (f69 a0.op).bind fun y1 => k (y1.1, ())
def f68 (a0 : Entry) : Option (Bool × Unit) := f68C a0 some
theorem f68_k {ρ : Type} (a0 : Entry) (k : Bool × Unit → Option ρ) : f68C a0 k = (f68 a0).bind k := by
  simp only [f68, f68C, br_bind, iteP_bind, elim_bind, Option.bind_assoc, Option.bind_some, Option.bind_none]
abbrev E68 : Ent := entP [.ty (.st .entry)] [.b] fun x => f68 x.1
theorem e68 : EntOk Try.prog 68 E68 :=
  entP_of (Λ := getL []) (fn := Try.f68) Θ_ok Y68_ok mixed_ok (by kernel_rfl) (hL_of (by kernel_rfl : _ = []) loops_nil) (fun x => f68 x.1)
    (fun x => Eq.trans (by kernel_rfl : _ = f68C x.1 (fun y => ret (pairs [.b] y) fun v g => some (v, g))) (f68_k x.1 _)) fun _ _ h => h
/-! slices.IndexFunc[[]loop.example/g01926/impl.Entry,loop.example/g01926/impl.Entry] -/
abbrev Y82_68 : List (Nat × Ent) := [(68, E68)]
theorem Y82_68_ok : TabOk Try.prog (getY Y82_68) := tab_cons e68 <| tab_nil _
abbrev L82_68_2 : LSh := ⟨[(0, .cl (.ro (.st .entry))), (1, .cl (.fc 68)), (4, .cl (.int .i64)), (7, .cl (.int .i64)), (8, .cl (.int .i64))], [], [], 0, 19⟩
abbrev X82_68_2 : List (X × LSh) := [(.ret, ⟨[(4, .cl (.int .i64))], [], [], 0, 19⟩), (.ext 0, ⟨[(4, .cl (.int .i64))], [], [], 0, 19⟩)]
def b82_68_2C {ρ : Type} (v1 : List Entry) (v2 : Int) (v3 : Int) (v4 : Int) (fn : (((List Entry) × Unit × Int × Int × Int × Unit) × (Unit) × (Unit)) → Option ρ) (fe : ((Int × Unit) × (Unit) × (Unit)) ⊕ ((Int × Unit) × (Unit) × (Unit)) → Option ρ) : Option ρ :=
  br (decide (v4 < v3)) (iteP (0 ≤ v4) ((v1[v4.toNat]?).bind fun x5 => (f68 x5).bind fun y6 => br y6.1 (fe (.inl ((v4, ()), (()), (())))) (fn ((v1, (), v2, v3, (IntKind.wrap .i64 (v4 + 1)), ()), (()), (())))) none) (fe (.inr ((v2, ()), (()), (()))))
def b82_68_2 (s : L82_68_2.D) : Option (L82_68_2.D ⊕ Exs.D X82_68_2) := b82_68_2C s.1.1 s.1.2.2.1 s.1.2.2.2.1 s.1.2.2.2.2.1 (fun s => some (.inl s)) (fun e => some (.inr e))
def l82_68_2 : L82_68_2.D → Option (Exs.D X82_68_2) := lim b82_68_2
theorem b82_68_2_k {ρ : Type} (s : L82_68_2.D) (fn : L82_68_2.D → Option ρ) (fe : Exs.D X82_68_2 → Option ρ) : b82_68_2C s.1.1 s.1.2.2.1 s.1.2.2.2.1 s.1.2.2.2.2.1 fn fe = (b82_68_2 s).bind (Sum.elim fn fe) := by
  simp only [b82_68_2, b82_68_2C, br_bind, iteP_bind, elim_bind, Option.bind_assoc, Option.bind_some, Option.bind_none, Sum.elim_inl, Sum.elim_inr]
noncomputable abbrev c82_68_2 : Code := loopAt (bodyOf Try.f82) 0
abbrev E82_68_2 : LoopE := loopE [] [0, 1, 4, 7, 8] L82_68_2 X82_68_2 l82_68_2
theorem b82_68_2_ok (s : L82_68_2.D) : evCK Θ (getY Y82_68) (getL []) c82_68_2 (L82_68_2.mk' s) (tellK [0, 1, 4, 7, 8] [4] fun x S => some (x, S)) = (b82_68_2 s).bind (Sum.elim (fun s' => some (.nor, L82_68_2.mk' s')) fun e => some (Exs.e X82_68_2 e)) :=
  Eq.trans (by kernel_rfl : _ = b82_68_2C s.1.1 s.1.2.2.1 s.1.2.2.2.1 s.1.2.2.2.2.1 (fun s' => some (.nor, L82_68_2.mk' s')) (fun e => some (Exs.e X82_68_2 e))) (b82_68_2_k s _ _)
theorem l82_68_2_ok : LoopOk Try.prog c82_68_2 E82_68_2 := loopE_ok Θ_ok Y82_68_ok mixed_ok (by kernel_rfl) (hL_in (by kernel_rfl : _ = []) loops_nil) [] [0, 1, 4, 7, 8] [4] L82_68_2 X82_68_2 (by kernel_rfl) b82_68_2 b82_68_2_ok l82_68_2 (limN b82_68_2) (lim_round b82_68_2)
def f82_68C {ρ : Type} (a0 : List Entry) (k : Int × Unit → Option ρ) : Option ρ :=
  (l82_68_2 ((a0, (), 0, (a0.length : Int), 0, ()), (()), (()))).bind fun e7 => Sum.elim (fun e7_ => k (e7_.1.1, ())) (fun e7_ => k ((-1), ())) e7
def f82_68 (a0 : List Entry) : Option (Int × Unit) := f82_68C a0 some
theorem f82_68_k {ρ : Type} (a0 : List Entry) (k : Int × Unit → Option ρ) : f82_68C a0 k = (f82_68 a0).bind k := by
  simp only [f82_68, f82_68C, br_bind, iteP_bind, elim_bind, Option.bind_assoc, Option.bind_some, Option.bind_none]
abbrev E82_68 : Ent := entP [.ty (.ls (.st .entry)), .fc 68] [.i .i64] fun x => f82_68 x.1
theorem e82_68 : EntOk Try.prog 82 E82_68 :=
  entP_of (Λ := getL [(key c82_68_2, E82_68_2)]) (fn := Try.f82) Θ_ok Y82_68_ok mixed_ok (by kernel_rfl) (hL_of (by kernel_rfl : _ = [c82_68_2]) (loops_one (q := key c82_68_2) rfl l82_68_2_ok fun _ _ _ => by kernel_rfl)) (fun x => f82_68 x.1)
    (fun x => Eq.trans (by kernel_rfl : _ = f82_68C x.1 (fun y => ret (pairs [.i .i64] y) fun v g => some (v, g))) (f82_68_k x.1 _)) fun _ _ h => h
/-! slices.ContainsFunc[[]loop.example/g01926/impl.Entry,loop.example/g01926/impl.Entry] -/
abbrev Y67_68 : List (Nat × Ent) := [(82, E82_68)]
theorem Y67_68_ok : TabOk Try.prog (getY Y67_68) := tab_cons e82_68 <| tab_nil _
def f67_68C {ρ : Type} (a0 : List Entry) (k : Bool × Unit → Option ρ) : Option ρ :=
  (f82_68 a0).bind fun y1 => k ((decide (y1.1 ≥ 0)), ())
def f67_68 (a0 : List Entry) : Option (Bool × Unit) := f67_68C a0 some
theorem f67_68_k {ρ : Type} (a0 : List Entry) (k : Bool × Unit → Option ρ) : f67_68C a0 k = (f67_68 a0).bind k := by
  simp only [f67_68, f67_68C, br_bind, iteP_bind, elim_bind, Option.bind_assoc, Option.bind_some, Option.bind_none]
abbrev E67_68 : Ent := entP [.ty (.ls (.st .entry)), .fc 68] [.b] fun x => f67_68 x.1
theorem e67_68 : EntOk Try.prog 67 E67_68 :=
  entP_of (Λ := getL []) (fn := Try.f67) Θ_ok Y67_68_ok mixed_ok (by kernel_rfl) (hL_of (by kernel_rfl : _ = []) loops_nil) (fun x => f67_68 x.1)
    (fun x => Eq.trans (by kernel_rfl : _ = f67_68C x.1 (fun y => ret (pairs [.b] y) fun v g => some (v, g))) (f67_68_k x.1 _)) fun _ _ h => h
/-! loop.example/g01926/impl.hasNewFormat -/
abbrev Y43 : List (Nat × Ent) := [(67, E67_68)]
theorem Y43_ok : TabOk Try.prog (getY Y43) := tab_cons e67_68 <| tab_nil _
def f43C {ρ : Type} (a0 : List Entry) (k : Bool × Unit → Option ρ) : Option ρ :=
  (f67_68 a0).bind fun y1 => k (y1.1, ())
def f43 (a0 : List Entry) : Option (Bool × Unit) := f43C a0 some
theorem f43_k {ρ : Type} (a0 : List Entry) (k : Bool × Unit → Option ρ) : f43C a0 k = (f43 a0).bind k := by
  simp only [f43, f43C, br_bind, iteP_bind, elim_bind, Option.bind_assoc, Option.bind_some, Option.bind_none]
abbrev E43 : Ent := entP [.ty (.ls (.st .entry))] [.b] fun x => f43 x.1
theorem e43 : EntOk Try.prog 43 E43 :=
  entP_of (Λ := getL []) (fn := Try.f43) Θ_ok Y43_ok mixed_ok (by kernel_rfl) (hL_of (by kernel_rfl : _ = []) loops_nil) (fun x => f43 x.1)
    (fun x => Eq.trans (by kernel_rfl : _ = f43C x.1 (fun y => ret (pairs [.b] y) fun v g => some (v, g))) (f43_k x.1 _)) fun _ _ h => h
/-! loop.example/g01926/impl.HasNewFormat -/
abbrev Y11 : List (Nat × Ent) := [(43, E43)]
theorem Y11_ok : TabOk Try.prog (getY Y11) := tab_cons e43 <| tab_nil _
def f11C {ρ : Type} (a0 : List Entry) (k : Bool × Unit → Option ρ) : Option ρ :=
  (f43 a0).bind fun y1 => k (y1.1, ())
def f11 (a0 : List Entry) : Option (Bool × Unit) := f11C a0 some
theorem f11_k {ρ : Type} (a0 : List Entry) (k : Bool × Unit → Option ρ) : f11C a0 k = (f11 a0).bind k := by
  simp only [f11, f11C, br_bind, iteP_bind, elim_bind, Option.bind_assoc, Option.bind_some, Option.bind_none]
abbrev E11 : Ent := entP [.ty (.ls (.st .entry))] [.b] fun x => f11 x.1
theorem e11 : EntOk Try.prog 11 E11 :=
  entP_of (Λ := getL []) (fn := Try.f11) Θ_ok Y11_ok mixed_ok (by kernel_rfl) (hL_of (by kernel_rfl : _ = []) loops_nil) (fun x => f11 x.1)
    (fun x => Eq.trans (by kernel_rfl : _ = f11C x.1 (fun y => ret (pairs [.b] y) fun v g => some (v, g))) (f11_k x.1 _)) fun _ _ h => h
/-! loop.example/g01926/laws.eqOp -/
abbrev Y70 : List (Nat × Ent) := []
theorem Y70_ok : TabOk Try.prog (getY Y70) := tab_nil _
def f70C {ρ : Type} (a0 : Op) (a1 : Op) (k : Bool × Unit → Option ρ) : Option ρ :=
  br (!(a0.client == a1.client)) (k (false, ())) (br (!(a0.seq == a1.seq)) (k (false, ())) (br (!(a0.kind == a1.kind)) (k (false, ())) (br (!(a0.object == a1.object)) (k (false, ())) (br (!(a0.old == a1.old)) (k (false, ())) (br (!(a0.value == a1.value)) (k (false, ())) (k (true, ())))))))
def f70 (a0 : Op) (a1 : Op) : Option (Bool × Unit) := f70C a0 a1 some
theorem f70_k {ρ : Type} (a0 : Op) (a1 : Op) (k : Bool × Unit → Option ρ) : f70C a0 a1 k = (f70 a0 a1).bind k := by
  simp only [f70, f70C, br_bind, iteP_bind, elim_bind, Option.bind_assoc, Option.bind_some, Option.bind_none]
abbrev E70 : Ent := entP [.ty (.st .op), .ty (.st .op)] [.b] fun x => f70 x.1 x.2.1
theorem e70 : EntOk Try.prog 70 E70 :=
  entP_of (Λ := getL []) (fn := Try.f70) Θ_ok Y70_ok mixed_ok (by kernel_rfl) (hL_of (by kernel_rfl : _ = []) loops_nil) (fun x => f70 x.1 x.2.1)
    (fun x => Eq.trans (by kernel_rfl : _ = f70C x.1 x.2.1 (fun y => ret (pairs [.b] y) fun v g => some (v, g))) (f70_k x.1 x.2.1 _)) fun _ _ h => h
/-! loop.example/g01926/laws.eqEntry -/
abbrev Y44 : List (Nat × Ent) := [(70, E70)]
theorem Y44_ok : TabOk Try.prog (getY Y44) := tab_cons e70 <| tab_nil _
def f44C {ρ : Type} (a0 : Entry) (a1 : Entry) (k : Bool × Unit → Option ρ) : Option ρ :=
  br (!(a0.epoch == a1.epoch)) (k (false, ())) ((f70 a0.op a1.op).bind fun y1 => br (!y1.1) (k (false, ())) (k (true, ())))
def f44 (a0 : Entry) (a1 : Entry) : Option (Bool × Unit) := f44C a0 a1 some
theorem f44_k {ρ : Type} (a0 : Entry) (a1 : Entry) (k : Bool × Unit → Option ρ) : f44C a0 a1 k = (f44 a0 a1).bind k := by
  simp only [f44, f44C, br_bind, iteP_bind, elim_bind, Option.bind_assoc, Option.bind_some, Option.bind_none]
abbrev E44 : Ent := entP [.ty (.st .entry), .ty (.st .entry)] [.b] fun x => f44 x.1 x.2.1
theorem e44 : EntOk Try.prog 44 E44 :=
  entP_of (Λ := getL []) (fn := Try.f44) Θ_ok Y44_ok mixed_ok (by kernel_rfl) (hL_of (by kernel_rfl : _ = []) loops_nil) (fun x => f44 x.1 x.2.1)
    (fun x => Eq.trans (by kernel_rfl : _ = f44C x.1 x.2.1 (fun y => ret (pairs [.b] y) fun v g => some (v, g))) (f44_k x.1 x.2.1 _)) fun _ _ h => h
/-! loop.example/g01926/laws.eqEntryS -/
abbrev Y12 : List (Nat × Ent) := [(44, E44)]
theorem Y12_ok : TabOk Try.prog (getY Y12) := tab_cons e44 <| tab_nil _
abbrev L12_4 : LSh := ⟨[(0, .cl (.ro (.st .entry))), (1, .cl (.ro (.st .entry))), (4, .cl (.bl)), (5, .cl (.int .i64))], [], [], 0, 27⟩
abbrev X12_4 : List (X × LSh) := [(.ret, ⟨[(4, .cl (.bl))], [], [], 0, 27⟩), (.ext 0, ⟨[(4, .cl (.bl))], [], [], 0, 27⟩)]
def b12_4C {ρ : Type} (v1 : List Entry) (v2 : List Entry) (v3 : Bool) (v4 : Int) (fn : (((List Entry) × (List Entry) × Bool × Int × Unit) × (Unit) × (Unit)) → Option ρ) (fe : ((Bool × Unit) × (Unit) × (Unit)) ⊕ ((Bool × Unit) × (Unit) × (Unit)) → Option ρ) : Option ρ :=
  br (decide (v4 < (v1.length : Int))) (iteP (0 ≤ v4) ((v1[v4.toNat]?).bind fun x5 => iteP (0 ≤ v4) ((v2[v4.toNat]?).bind fun x6 => (f44 x5 x6).bind fun y7 => br (!y7.1) (fe (.inl ((false, ()), (()), (())))) (fn ((v1, v2, v3, (IntKind.wrap .i64 (v4 + 1)), ()), (()), (())))) none) none) (fe (.inr ((v3, ()), (()), (()))))
def b12_4 (s : L12_4.D) : Option (L12_4.D ⊕ Exs.D X12_4) := b12_4C s.1.1 s.1.2.1 s.1.2.2.1 s.1.2.2.2.1 (fun s => some (.inl s)) (fun e => some (.inr e))
def l12_4 : L12_4.D → Option (Exs.D X12_4) := lim b12_4
theorem b12_4_k {ρ : Type} (s : L12_4.D) (fn : L12_4.D → Option ρ) (fe : Exs.D X12_4 → Option ρ) : b12_4C s.1.1 s.1.2.1 s.1.2.2.1 s.1.2.2.2.1 fn fe = (b12_4 s).bind (Sum.elim fn fe) := by
  simp only [b12_4, b12_4C, br_bind, iteP_bind, elim_bind, Option.bind_assoc, Option.bind_some, Option.bind_none, Sum.elim_inl, Sum.elim_inr]
noncomputable abbrev c12_4 : Code := loopAt (bodyOf Try.f12) 0
abbrev E12_4 : LoopE := loopE [] [0, 1, 4, 5] L12_4 X12_4 l12_4
theorem b12_4_ok (s : L12_4.D) : evCK Θ (getY Y12) (getL []) c12_4 (L12_4.mk' s) (tellK [0, 1, 4, 5] [4] fun x S => some (x, S)) = (b12_4 s).bind (Sum.elim (fun s' => some (.nor, L12_4.mk' s')) fun e => some (Exs.e X12_4 e)) :=
  Eq.trans (by kernel_rfl : _ = b12_4C s.1.1 s.1.2.1 s.1.2.2.1 s.1.2.2.2.1 (fun s' => some (.nor, L12_4.mk' s')) (fun e => some (Exs.e X12_4 e))) (b12_4_k s _ _)
theorem l12_4_ok : LoopOk Try.prog c12_4 E12_4 := loopE_ok Θ_ok Y12_ok mixed_ok (by kernel_rfl) (hL_in (by kernel_rfl : _ = []) loops_nil) [] [0, 1, 4, 5] [4] L12_4 X12_4 (by kernel_rfl) b12_4 b12_4_ok l12_4 (limN b12_4) (lim_round b12_4)
def f12C {ρ : Type} (a0 : List Entry) (a1 : List Entry) (k : Bool × Unit → Option ρ) : Option ρ :=
  br (!((a0.length : Int) == (a1.length : Int))) (k (false, ())) ((l12_4 ((a0, a1, false, 0, ()), (()), (()))).bind fun e8 => Sum.elim (fun e8_ => k (e8_.1.1, ())) (fun e8_ => k (true, ())) e8)
def f12 (a0 : List Entry) (a1 : List Entry) : Option (Bool × Unit) := f12C a0 a1 some
theorem f12_k {ρ : Type} (a0 : List Entry) (a1 : List Entry) (k : Bool × Unit → Option ρ) : f12C a0 a1 k = (f12 a0 a1).bind k := by
  simp only [f12, f12C, br_bind, iteP_bind, elim_bind, Option.bind_assoc, Option.bind_some, Option.bind_none]
abbrev E12 : Ent := entP [.ty (.ls (.st .entry)), .ty (.ls (.st .entry))] [.b] fun x => f12 x.1 x.2.1
theorem e12 : EntOk Try.prog 12 E12 :=
  entP_of (Λ := getL [(key c12_4, E12_4)]) (fn := Try.f12) Θ_ok Y12_ok mixed_ok (by kernel_rfl) (hL_of (by kernel_rfl : _ = [c12_4]) (loops_one (q := key c12_4) rfl l12_4_ok fun _ _ _ => by kernel_rfl)) (fun x => f12 x.1 x.2.1)
    (fun x => Eq.trans (by kernel_rfl : _ = f12C x.1 x.2.1 (fun y => ret (pairs [.b] y) fun v g => some (v, g))) (f12_k x.1 x.2.1 _)) fun _ _ h => h
/-! loop.example/g01926/laws.FnExactHasNewFormat -/
abbrev Y3 : List (Nat × Ent) := [(8, E8), (10, E10), (9, E9), (11, E11), (12, E12)]
theorem Y3_ok : TabOk Try.prog (getY Y3) := tab_cons e8 <| tab_cons e10 <| tab_cons e9 <| tab_cons e11 <| tab_cons e12 <| tab_nil _
def f3C {ρ : Type} (a0 : List Entry) (k : Bool × Unit → Option ρ) : Option ρ :=
  (f8 a0 1048576).bind fun y1 => br (decide (y1.1 < 0)) (k (true, ())) ((f10 a0).bind fun y2 => (f9 y2.1).bind fun y3 => (f10 a0).bind fun y4 => (f11 y4.1).bind fun y5 => br (!(y5.1 == y3.1)) (k (false, ())) ((f10 a0).bind fun y6 => (f12 y4.1 y6.1).bind fun y7 => br (!y7.1) (k (false, ())) (k (true, ()))))
def f3 (a0 : List Entry) : Option (Bool × Unit) := f3C a0 some
theorem f3_k {ρ : Type} (a0 : List Entry) (k : Bool × Unit → Option ρ) : f3C a0 k = (f3 a0).bind k := by
  simp only [f3, f3C, br_bind, iteP_bind, elim_bind, Option.bind_assoc, Option.bind_some, Option.bind_none]
abbrev E3 : Ent := entP [.ty (.ls (.st .entry))] [.b] fun x => f3 x.1
theorem e3 : EntOk Try.prog 3 E3 :=
  entP_of (Λ := getL []) (fn := Try.f3) Θ_ok Y3_ok mixed_ok (by kernel_rfl) (hL_of (by kernel_rfl : _ = []) loops_nil) (fun x => f3 x.1)
    (fun x => Eq.trans (by kernel_rfl : _ = f3C x.1 (fun y => ret (pairs [.b] y) fun v g => some (v, g))) (f3_k x.1 _)) fun _ _ h => h
end
end Go.Proofs.Ytlmpkmelabckbaa.En
