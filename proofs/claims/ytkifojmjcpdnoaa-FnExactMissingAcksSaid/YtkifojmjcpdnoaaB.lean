/- Printed by wip/tools/gen.py: the walk. -/
import Derived.Test.YtkifojmjcpdnoaaTh
namespace Go.Proofs.Ytkifojmjcpdnoaa.En
open Go
noncomputable section
theorem mixed_ok : Try.prog.follows .mixedOrders = true := by kernel_rfl
/-! loop.example/g01926/laws.szAckS -/
abbrev YwszAckS : List (Nat × Ent) := []
theorem YwszAckS_ok : TabOk Try.prog (getY YwszAckS) := tab_nil _
def fwszAckSC {ρ : Type} (a0 : List Ack) (a1 : Int) (k : Int × Unit → Option ρ) : Option ρ :=
  br (decide ((IntKind.wrap .i64 (a1 - (a0.length : Int))) < 0)) (k ((-1), ())) (k ((IntKind.wrap .i64 (a1 - (a0.length : Int))), ()))
def fwszAckS (a0 : List Ack) (a1 : Int) : Option (Int × Unit) := fwszAckSC a0 a1 some
theorem fwszAckS_k {ρ : Type} (a0 : List Ack) (a1 : Int) (k : Int × Unit → Option ρ) : fwszAckSC a0 a1 k = (fwszAckS a0 a1).bind k := by
  simp only [fwszAckS, fwszAckSC, br_bind, Option.bind_some]
abbrev EwszAckS : Ent := entP [.ty (.ls (.st .ack)), .ty (.i .i64)] [.i .i64] fun x => fwszAckS x.1 x.2.1
theorem ewszAckS : EntOk Try.prog 16 EwszAckS :=
  entP_of (Λ := getL []) (fn := Try.f16) Θ_ok YwszAckS_ok mixed_ok (by kernel_rfl) (hL_of (by kernel_rfl : _ = []) loops_nil) (by kernel_rfl) (fun x => fwszAckS x.1 x.2.1)
    (fun x => Eq.trans (by kernel_rfl : _ = fwszAckSC x.1 x.2.1 (fun y => ret (pairs [.i .i64] y) fun v g => some (v, g))) (fwszAckS_k x.1 x.2.1 _)) fun _ _ h => h
/-! loop.example/g01926/laws.szEntryS -/
abbrev YwszEntryS : List (Nat × Ent) := []
theorem YwszEntryS_ok : TabOk Try.prog (getY YwszEntryS) := tab_nil _
def fwszEntrySC {ρ : Type} (a0 : List Entry) (a1 : Int) (k : Int × Unit → Option ρ) : Option ρ :=
  br (decide ((IntKind.wrap .i64 (a1 - (a0.length : Int))) < 0)) (k ((-1), ())) (k ((IntKind.wrap .i64 (a1 - (a0.length : Int))), ()))
def fwszEntryS (a0 : List Entry) (a1 : Int) : Option (Int × Unit) := fwszEntrySC a0 a1 some
theorem fwszEntryS_k {ρ : Type} (a0 : List Entry) (a1 : Int) (k : Int × Unit → Option ρ) : fwszEntrySC a0 a1 k = (fwszEntryS a0 a1).bind k := by
  simp only [fwszEntryS, fwszEntrySC, br_bind, Option.bind_some]
abbrev EwszEntryS : Ent := entP [.ty (.ls (.st .entry)), .ty (.i .i64)] [.i .i64] fun x => fwszEntryS x.1 x.2.1
theorem ewszEntryS : EntOk Try.prog 8 EwszEntryS :=
  entP_of (Λ := getL []) (fn := Try.f8) Θ_ok YwszEntryS_ok mixed_ok (by kernel_rfl) (hL_of (by kernel_rfl : _ = []) loops_nil) (by kernel_rfl) (fun x => fwszEntryS x.1 x.2.1)
    (fun x => Eq.trans (by kernel_rfl : _ = fwszEntrySC x.1 x.2.1 (fun y => ret (pairs [.i .i64] y) fun v g => some (v, g))) (fwszEntryS_k x.1 x.2.1 _)) fun _ _ h => h
/-! loop.example/g01926/laws.toOp -/
abbrev YwtoOp : List (Nat × Ent) := []
theorem YwtoOp_ok : TabOk Try.prog (getY YwtoOp) := tab_nil _
def fwtoOpC {ρ : Type} (a0 : Op) (k : Op × Unit → Option ρ) : Option ρ :=
  k (a0, ())
def fwtoOp (a0 : Op) : Option (Op × Unit) := fwtoOpC a0 some
theorem fwtoOp_k {ρ : Type} (a0 : Op) (k : Op × Unit → Option ρ) : fwtoOpC a0 k = (fwtoOp a0).bind k := by
  simp only [fwtoOp, fwtoOpC, Option.bind_some]
abbrev EwtoOp : Ent := entP [.ty (.st .op)] [.st .op] fun x => fwtoOp x.1
theorem ewtoOp : EntOk Try.prog 48 EwtoOp :=
  entP_of (Λ := getL []) (fn := Try.f48) Θ_ok YwtoOp_ok mixed_ok (by kernel_rfl) (hL_of (by kernel_rfl : _ = []) loops_nil) (by kernel_rfl) (fun x => fwtoOp x.1)
    (fun x => Eq.trans (by kernel_rfl : _ = fwtoOpC x.1 (fun y => ret (pairs [.st .op] y) fun v g => some (v, g))) (fwtoOp_k x.1 _)) fun _ _ h => h
/-! loop.example/g01926/laws.toAck -/
abbrev YwtoAck : List (Nat × Ent) := [(48, EwtoOp)]
theorem YwtoAck_ok : TabOk Try.prog (getY YwtoAck) := tab_cons ewtoOp <| tab_nil _
def fwtoAckC {ρ : Type} (a0 : Ack) (k : Ack × Unit → Option ρ) : Option ρ :=
  (fwtoOp a0.op).bind fun y1 => k ((⟨y1.1, a0.index⟩ : Ack), ())
def fwtoAck (a0 : Ack) : Option (Ack × Unit) := fwtoAckC a0 some
theorem fwtoAck_k {ρ : Type} (a0 : Ack) (k : Ack × Unit → Option ρ) : fwtoAckC a0 k = (fwtoAck a0).bind k := by
  simp only [fwtoAck, fwtoAckC, Option.bind_assoc, Option.bind_some]
abbrev EwtoAck : Ent := entP [.ty (.st .ack)] [.st .ack] fun x => fwtoAck x.1
theorem ewtoAck : EntOk Try.prog 53 EwtoAck :=
  entP_of (Λ := getL []) (fn := Try.f53) Θ_ok YwtoAck_ok mixed_ok (by kernel_rfl) (hL_of (by kernel_rfl : _ = []) loops_nil) (by kernel_rfl) (fun x => fwtoAck x.1)
    (fun x => Eq.trans (by kernel_rfl : _ = fwtoAckC x.1 (fun y => ret (pairs [.st .ack] y) fun v g => some (v, g))) (fwtoAck_k x.1 _)) fun _ _ h => h
/-! loop.example/g01926/laws.toAckS -/
abbrev YwtoAckS : List (Nat × Ent) := [(53, EwtoAck)]
theorem YwtoAckS_ok : TabOk Try.prog (getY YwtoAckS) := tab_cons ewtoAck <| tab_nil _
noncomputable abbrev cwtoAckS_3 : Code := loopAt (bodyOf Try.f18) 0
abbrev LwtoAckS_3 : LSh := ⟨[(0, .cl (.ro (.st .ack))), (3, .cl (.own 0 (.st .ack))), (4, .cl (.int .i64))], [], [.st .ack], 0, 23⟩
abbrev XwtoAckS_3 : List (X × LSh) := [(.ext 0, ⟨[(3, .cl (.own 0 (.st .ack)))], [], [.st .ack], 0, 23⟩)]
def bwtoAckS_3C {ρ : Type} (v1 : List Ack) (v2 : List Ack) (v3 : Int) (fn : (((List Ack) × Unit × Int × Unit) × (Unit) × ((List Ack) × Unit)) → Option ρ) (fe : ((Unit × Unit) × (Unit) × ((List Ack) × Unit)) → Option ρ) : Option ρ :=
  br (decide (v3 < (v2.length : Int))) (iteP (0 ≤ v3) ((v2[v3.toNat]?).bind fun x4 => (fwtoAck x4).bind fun y5 => iteP (0 ≤ v3 ∧ v3 < (v1.length : Int)) ((v1[v3.toNat]?).bind fun _ => fn ((v2, (), (IntKind.wrap .i64 (v3 + 1)), ()), (()), ((v1.set v3.toNat y5.1), ()))) none) none) (fe (((), ()), (()), (v1, ())))
def bwtoAckS_3 (s : LwtoAckS_3.D) : Option (LwtoAckS_3.D ⊕ Exs.D XwtoAckS_3) := bwtoAckS_3C s.2.2.1 s.1.1 s.1.2.2.1 (fun s => some (.inl s)) (fun e => some (.inr e))
def lwtoAckS_3 : LwtoAckS_3.D → Option (Exs.D XwtoAckS_3) := lim bwtoAckS_3
theorem bwtoAckS_3_k {ρ : Type} (s : LwtoAckS_3.D) (fn : LwtoAckS_3.D → Option ρ) (fe : Exs.D XwtoAckS_3 → Option ρ) : bwtoAckS_3C s.2.2.1 s.1.1 s.1.2.2.1 fn fe = (bwtoAckS_3 s).bind (Sum.elim fn fe) := by
  simp only [bwtoAckS_3, bwtoAckS_3C, br_bind, iteP_bind, Option.bind_none, Option.bind_assoc, Option.bind_some, Sum.elim_inl, Sum.elim_inr]
abbrev EwtoAckS_3 : LoopE := loopE [] [0, 3, 4] LwtoAckS_3 XwtoAckS_3 lwtoAckS_3
theorem bwtoAckS_3_ok (s : LwtoAckS_3.D) : evCK Θ (getY YwtoAckS) (getL []) cwtoAckS_3 (LwtoAckS_3.mk' s) (tellK [0, 3, 4] [3] fun x S => some (x, S)) = (bwtoAckS_3 s).bind (Sum.elim (fun s' => some (.nor, LwtoAckS_3.mk' s')) fun e => some (Exs.e XwtoAckS_3 e)) :=
  Eq.trans (by kernel_rfl : _ = bwtoAckS_3C s.2.2.1 s.1.1 s.1.2.2.1 (fun s' => some (.nor, LwtoAckS_3.mk' s')) (fun e => some (Exs.e XwtoAckS_3 e))) (bwtoAckS_3_k s _ _)
theorem lwtoAckS_3_ok : LoopOk Try.prog cwtoAckS_3 EwtoAckS_3 := loopE_ok Θ_ok YwtoAckS_ok mixed_ok (by kernel_rfl) (hL_in (by kernel_rfl : _ = []) loops_nil) [] [0, 3, 4] [3] LwtoAckS_3 XwtoAckS_3 (by kernel_rfl) bwtoAckS_3 bwtoAckS_3_ok lwtoAckS_3 (limN bwtoAckS_3) (lim_round bwtoAckS_3)
def fwtoAckSC {ρ : Type} (a0 : List Ack) (k : (List Ack) × Unit → Option ρ) : Option ρ :=
  iteP (0 ≤ (a0.length : Int) ∧ (a0.length : Int) = (a0.length : Int) ∧ (a0.length : Int) * ((56 : Nat) : Int) ≤ 2 ^ 40) ((lwtoAckS_3 ((a0, (), 0, ()), (()), ((List.replicate (a0.length : Int).toNat (⟨(⟨0, 0, 0, 0, 0, 0⟩ : Op), 0⟩ : Ack)), ()))).bind fun e7 => k (e7.2.2.1, ())) none
def fwtoAckS (a0 : List Ack) : Option ((List Ack) × Unit) := fwtoAckSC a0 some
theorem fwtoAckS_k {ρ : Type} (a0 : List Ack) (k : (List Ack) × Unit → Option ρ) : fwtoAckSC a0 k = (fwtoAckS a0).bind k := by
  simp only [fwtoAckS, fwtoAckSC, iteP_bind, Option.bind_none, Option.bind_assoc, Option.bind_some]
abbrev EwtoAckS : Ent := entP [.ty (.ls (.st .ack))] [.ls (.st .ack)] fun x => fwtoAckS x.1
theorem ewtoAckS : EntOk Try.prog 18 EwtoAckS :=
  entP_of (Λ := getL [(key cwtoAckS_3, EwtoAckS_3)]) (fn := Try.f18) Θ_ok YwtoAckS_ok mixed_ok (by kernel_rfl) (hL_of (by kernel_rfl : _ = [cwtoAckS_3]) (loops_one (q := key cwtoAckS_3) rfl lwtoAckS_3_ok fun _ _ _ => by kernel_rfl)) (by kernel_rfl) (fun x => fwtoAckS x.1)
    (fun x => Eq.trans (by kernel_rfl : _ = fwtoAckSC x.1 (fun y => ret (pairs [.ls (.st .ack)] y) fun v g => some (v, g))) (fwtoAckS_k x.1 _)) fun _ _ h => h
/-! loop.example/g01926/laws.toEntry -/
abbrev YwtoEntry : List (Nat × Ent) := [(48, EwtoOp)]
theorem YwtoEntry_ok : TabOk Try.prog (getY YwtoEntry) := tab_cons ewtoOp <| tab_nil _
def fwtoEntryC {ρ : Type} (a0 : Entry) (k : Entry × Unit → Option ρ) : Option ρ :=
  (fwtoOp a0.op).bind fun y1 => k ((⟨a0.epoch, y1.1⟩ : Entry), ())
def fwtoEntry (a0 : Entry) : Option (Entry × Unit) := fwtoEntryC a0 some
theorem fwtoEntry_k {ρ : Type} (a0 : Entry) (k : Entry × Unit → Option ρ) : fwtoEntryC a0 k = (fwtoEntry a0).bind k := by
  simp only [fwtoEntry, fwtoEntryC, Option.bind_assoc, Option.bind_some]
abbrev EwtoEntry : Ent := entP [.ty (.st .entry)] [.st .entry] fun x => fwtoEntry x.1
theorem ewtoEntry : EntOk Try.prog 42 EwtoEntry :=
  entP_of (Λ := getL []) (fn := Try.f42) Θ_ok YwtoEntry_ok mixed_ok (by kernel_rfl) (hL_of (by kernel_rfl : _ = []) loops_nil) (by kernel_rfl) (fun x => fwtoEntry x.1)
    (fun x => Eq.trans (by kernel_rfl : _ = fwtoEntryC x.1 (fun y => ret (pairs [.st .entry] y) fun v g => some (v, g))) (fwtoEntry_k x.1 _)) fun _ _ h => h
/-! loop.example/g01926/laws.toEntryS -/
abbrev YwtoEntryS : List (Nat × Ent) := [(42, EwtoEntry)]
theorem YwtoEntryS_ok : TabOk Try.prog (getY YwtoEntryS) := tab_cons ewtoEntry <| tab_nil _
noncomputable abbrev cwtoEntryS_3 : Code := loopAt (bodyOf Try.f10) 0
abbrev LwtoEntryS_3 : LSh := ⟨[(0, .cl (.ro (.st .entry))), (3, .cl (.own 0 (.st .entry))), (4, .cl (.int .i64))], [], [.st .entry], 0, 23⟩
abbrev XwtoEntryS_3 : List (X × LSh) := [(.ext 0, ⟨[(3, .cl (.own 0 (.st .entry)))], [], [.st .entry], 0, 23⟩)]
def bwtoEntryS_3C {ρ : Type} (v1 : List Entry) (v2 : List Entry) (v3 : Int) (fn : (((List Entry) × Unit × Int × Unit) × (Unit) × ((List Entry) × Unit)) → Option ρ) (fe : ((Unit × Unit) × (Unit) × ((List Entry) × Unit)) → Option ρ) : Option ρ :=
  br (decide (v3 < (v2.length : Int))) (iteP (0 ≤ v3) ((v2[v3.toNat]?).bind fun x4 => (fwtoEntry x4).bind fun y5 => iteP (0 ≤ v3 ∧ v3 < (v1.length : Int)) ((v1[v3.toNat]?).bind fun _ => fn ((v2, (), (IntKind.wrap .i64 (v3 + 1)), ()), (()), ((v1.set v3.toNat y5.1), ()))) none) none) (fe (((), ()), (()), (v1, ())))
def bwtoEntryS_3 (s : LwtoEntryS_3.D) : Option (LwtoEntryS_3.D ⊕ Exs.D XwtoEntryS_3) := bwtoEntryS_3C s.2.2.1 s.1.1 s.1.2.2.1 (fun s => some (.inl s)) (fun e => some (.inr e))
def lwtoEntryS_3 : LwtoEntryS_3.D → Option (Exs.D XwtoEntryS_3) := lim bwtoEntryS_3
theorem bwtoEntryS_3_k {ρ : Type} (s : LwtoEntryS_3.D) (fn : LwtoEntryS_3.D → Option ρ) (fe : Exs.D XwtoEntryS_3 → Option ρ) : bwtoEntryS_3C s.2.2.1 s.1.1 s.1.2.2.1 fn fe = (bwtoEntryS_3 s).bind (Sum.elim fn fe) := by
  simp only [bwtoEntryS_3, bwtoEntryS_3C, br_bind, iteP_bind, Option.bind_none, Option.bind_assoc, Option.bind_some, Sum.elim_inl, Sum.elim_inr]
abbrev EwtoEntryS_3 : LoopE := loopE [] [0, 3, 4] LwtoEntryS_3 XwtoEntryS_3 lwtoEntryS_3
theorem bwtoEntryS_3_ok (s : LwtoEntryS_3.D) : evCK Θ (getY YwtoEntryS) (getL []) cwtoEntryS_3 (LwtoEntryS_3.mk' s) (tellK [0, 3, 4] [3] fun x S => some (x, S)) = (bwtoEntryS_3 s).bind (Sum.elim (fun s' => some (.nor, LwtoEntryS_3.mk' s')) fun e => some (Exs.e XwtoEntryS_3 e)) :=
  Eq.trans (by kernel_rfl : _ = bwtoEntryS_3C s.2.2.1 s.1.1 s.1.2.2.1 (fun s' => some (.nor, LwtoEntryS_3.mk' s')) (fun e => some (Exs.e XwtoEntryS_3 e))) (bwtoEntryS_3_k s _ _)
theorem lwtoEntryS_3_ok : LoopOk Try.prog cwtoEntryS_3 EwtoEntryS_3 := loopE_ok Θ_ok YwtoEntryS_ok mixed_ok (by kernel_rfl) (hL_in (by kernel_rfl : _ = []) loops_nil) [] [0, 3, 4] [3] LwtoEntryS_3 XwtoEntryS_3 (by kernel_rfl) bwtoEntryS_3 bwtoEntryS_3_ok lwtoEntryS_3 (limN bwtoEntryS_3) (lim_round bwtoEntryS_3)
def fwtoEntrySC {ρ : Type} (a0 : List Entry) (k : (List Entry) × Unit → Option ρ) : Option ρ :=
  iteP (0 ≤ (a0.length : Int) ∧ (a0.length : Int) = (a0.length : Int) ∧ (a0.length : Int) * ((56 : Nat) : Int) ≤ 2 ^ 40) ((lwtoEntryS_3 ((a0, (), 0, ()), (()), ((List.replicate (a0.length : Int).toNat (⟨0, (⟨0, 0, 0, 0, 0, 0⟩ : Op)⟩ : Entry)), ()))).bind fun e7 => k (e7.2.2.1, ())) none
def fwtoEntryS (a0 : List Entry) : Option ((List Entry) × Unit) := fwtoEntrySC a0 some
theorem fwtoEntryS_k {ρ : Type} (a0 : List Entry) (k : (List Entry) × Unit → Option ρ) : fwtoEntrySC a0 k = (fwtoEntryS a0).bind k := by
  simp only [fwtoEntryS, fwtoEntrySC, iteP_bind, Option.bind_none, Option.bind_assoc, Option.bind_some]
abbrev EwtoEntryS : Ent := entP [.ty (.ls (.st .entry))] [.ls (.st .entry)] fun x => fwtoEntryS x.1
theorem ewtoEntryS : EntOk Try.prog 10 EwtoEntryS :=
  entP_of (Λ := getL [(key cwtoEntryS_3, EwtoEntryS_3)]) (fn := Try.f10) Θ_ok YwtoEntryS_ok mixed_ok (by kernel_rfl) (hL_of (by kernel_rfl : _ = [cwtoEntryS_3]) (loops_one (q := key cwtoEntryS_3) rfl lwtoEntryS_3_ok fun _ _ _ => by kernel_rfl)) (by kernel_rfl) (fun x => fwtoEntryS x.1)
    (fun x => Eq.trans (by kernel_rfl : _ = fwtoEntrySC x.1 (fun y => ret (pairs [.ls (.st .entry)] y) fun v g => some (v, g))) (fwtoEntryS_k x.1 _)) fun _ _ h => h
/-! loop.example/g01926/spec.l1In -/
abbrev Ysl1In : List (Nat × Ent) := []
theorem Ysl1In_ok : TabOk Try.prog (getY Ysl1In) := tab_nil _
def fsl1InC {ρ : Type} (a0 : Int) (a1 : Int) (a2 : Int) (k : Bool × Unit → Option ρ) : Option ρ :=
  br (decide (a0 ≥ a1)) (k ((decide (a0 ≤ a2)), ())) (k (false, ()))
def fsl1In (a0 : Int) (a1 : Int) (a2 : Int) : Option (Bool × Unit) := fsl1InC a0 a1 a2 some
theorem fsl1In_k {ρ : Type} (a0 : Int) (a1 : Int) (a2 : Int) (k : Bool × Unit → Option ρ) : fsl1InC a0 a1 a2 k = (fsl1In a0 a1 a2).bind k := by
  simp only [fsl1In, fsl1InC, br_bind, Option.bind_some]
abbrev Esl1In : Ent := entP [.ty (.i .i64), .ty (.i .i64), .ty (.i .i64)] [.b] fun x => fsl1In x.1 x.2.1 x.2.2.1
theorem esl1In : EntOk Try.prog 45 Esl1In :=
  entP_of (Λ := getL []) (fn := Try.f45) Θ_ok Ysl1In_ok mixed_ok (by kernel_rfl) (hL_of (by kernel_rfl : _ = []) loops_nil) (by kernel_rfl) (fun x => fsl1In x.1 x.2.1 x.2.2.1)
    (fun x => Eq.trans (by kernel_rfl : _ = fsl1InC x.1 x.2.1 x.2.2.1 (fun y => ret (pairs [.b] y) fun v g => some (v, g))) (fsl1In_k x.1 x.2.1 x.2.2.1 _)) fun _ _ h => h
/-! loop.example/g01926/spec.MissingAcks -/
abbrev YsMissingAcks : List (Nat × Ent) := [(45, Esl1In)]
theorem YsMissingAcks_ok : TabOk Try.prog (getY YsMissingAcks) := tab_cons esl1In <| tab_nil _
noncomputable abbrev csMissingAcks_3 : Code := loopAt (bodyOf Try.f17) 0
abbrev LsMissingAcks_3 : LSh := ⟨[(0, .cl (.ro (.st .ack))), (1, .cl (.ro (.st .entry))), (5, .cl (.own 0 (.st .ack))), (6, .cl (.int .i64))], [], [.st .ack], 0, 47⟩
abbrev XsMissingAcks_3 : List (X × LSh) := [(.ext 0, ⟨[(5, .cl (.own 0 (.st .ack)))], [], [.st .ack], 0, 47⟩)]
def bsMissingAcks_3C {ρ : Type} (v1 : List Ack) (v2 : List Ack) (v3 : List Entry) (v4 : Int) (fn : (((List Ack) × (List Entry) × Unit × Int × Unit) × (Unit) × ((List Ack) × Unit)) → Option ρ) (fe : ((Unit × Unit) × (Unit) × ((List Ack) × Unit)) → Option ρ) : Option ρ :=
  br (decide (v4 < (v2.length : Int))) (iteP (0 ≤ v4) ((v2[v4.toNat]?).bind fun x5 => (fsl1In x5.index 0 (IntKind.wrap .i64 ((v3.length : Int) - 1))).bind fun y6 => br (!y6.1) (iteP (0 ≤ v4) ((v2[v4.toNat]?).bind fun x7 => iteP ((v1 ++ ([x7] : List Ack)).length * 56 ≤ 2 ^ 40) (fn ((v2, v3, (), (IntKind.wrap .i64 (v4 + 1)), ()), (()), ((v1 ++ ([x7] : List Ack)), ()))) none) none) (iteP (0 ≤ x5.index) ((v3[x5.index.toNat]?).bind fun x8 => iteP (0 ≤ v4) ((v2[v4.toNat]?).bind fun x9 => br (!((x8.op.client == x9.op.client) && ((x8.op.seq == x9.op.seq) && ((x8.op.kind == x9.op.kind) && ((x8.op.object == x9.op.object) && ((x8.op.old == x9.op.old) && ((x8.op.value == x9.op.value) && true))))))) (iteP (0 ≤ v4) ((v2[v4.toNat]?).bind fun x10 => iteP ((v1 ++ ([x10] : List Ack)).length * 56 ≤ 2 ^ 40) (fn ((v2, v3, (), (IntKind.wrap .i64 (v4 + 1)), ()), (()), ((v1 ++ ([x10] : List Ack)), ()))) none) none) (fn ((v2, v3, (), (IntKind.wrap .i64 (v4 + 1)), ()), (()), (v1, ())))) none) none)) none) (fe (((), ()), (()), (v1, ())))
def bsMissingAcks_3 (s : LsMissingAcks_3.D) : Option (LsMissingAcks_3.D ⊕ Exs.D XsMissingAcks_3) := bsMissingAcks_3C s.2.2.1 s.1.1 s.1.2.1 s.1.2.2.2.1 (fun s => some (.inl s)) (fun e => some (.inr e))
def lsMissingAcks_3 : LsMissingAcks_3.D → Option (Exs.D XsMissingAcks_3) := lim bsMissingAcks_3
theorem bsMissingAcks_3_k {ρ : Type} (s : LsMissingAcks_3.D) (fn : LsMissingAcks_3.D → Option ρ) (fe : Exs.D XsMissingAcks_3 → Option ρ) : bsMissingAcks_3C s.2.2.1 s.1.1 s.1.2.1 s.1.2.2.2.1 fn fe = (bsMissingAcks_3 s).bind (Sum.elim fn fe) := by
  simp only [bsMissingAcks_3, bsMissingAcks_3C, br_bind, iteP_bind, Option.bind_none, Option.bind_assoc, Option.bind_some, Sum.elim_inl, Sum.elim_inr]
abbrev EsMissingAcks_3 : LoopE := loopE [] [0, 1, 5, 6] LsMissingAcks_3 XsMissingAcks_3 lsMissingAcks_3
theorem bsMissingAcks_3_ok (s : LsMissingAcks_3.D) : evCK Θ (getY YsMissingAcks) (getL []) csMissingAcks_3 (LsMissingAcks_3.mk' s) (tellK [0, 1, 5, 6] [5] fun x S => some (x, S)) = (bsMissingAcks_3 s).bind (Sum.elim (fun s' => some (.nor, LsMissingAcks_3.mk' s')) fun e => some (Exs.e XsMissingAcks_3 e)) :=
  Eq.trans (by kernel_rfl : _ = bsMissingAcks_3C s.2.2.1 s.1.1 s.1.2.1 s.1.2.2.2.1 (fun s' => some (.nor, LsMissingAcks_3.mk' s')) (fun e => some (Exs.e XsMissingAcks_3 e))) (bsMissingAcks_3_k s _ _)
theorem lsMissingAcks_3_ok : LoopOk Try.prog csMissingAcks_3 EsMissingAcks_3 := loopE_ok Θ_ok YsMissingAcks_ok mixed_ok (by kernel_rfl) (hL_in (by kernel_rfl : _ = []) loops_nil) [] [0, 1, 5, 6] [5] LsMissingAcks_3 XsMissingAcks_3 (by kernel_rfl) bsMissingAcks_3 bsMissingAcks_3_ok lsMissingAcks_3 (limN bsMissingAcks_3) (lim_round bsMissingAcks_3)
def fsMissingAcksC {ρ : Type} (a0 : List Ack) (a1 : List Entry) (k : (List Ack) × Unit → Option ρ) : Option ρ :=
  (lsMissingAcks_3 ((a0, a1, (), 0, ()), (()), (([] : List Ack), ()))).bind fun e11 => k (e11.2.2.1, ())
def fsMissingAcks (a0 : List Ack) (a1 : List Entry) : Option ((List Ack) × Unit) := fsMissingAcksC a0 a1 some
theorem fsMissingAcks_k {ρ : Type} (a0 : List Ack) (a1 : List Entry) (k : (List Ack) × Unit → Option ρ) : fsMissingAcksC a0 a1 k = (fsMissingAcks a0 a1).bind k := by
  simp only [fsMissingAcks, fsMissingAcksC, Option.bind_assoc, Option.bind_some]
abbrev EsMissingAcks : Ent := entP [.ty (.ls (.st .ack)), .ty (.ls (.st .entry))] [.ls (.st .ack)] fun x => fsMissingAcks x.1 x.2.1
theorem esMissingAcks : EntOk Try.prog 17 EsMissingAcks :=
  entP_of (Λ := getL [(key csMissingAcks_3, EsMissingAcks_3)]) (fn := Try.f17) Θ_ok YsMissingAcks_ok mixed_ok (by kernel_rfl) (hL_of (by kernel_rfl : _ = [csMissingAcks_3]) (loops_one (q := key csMissingAcks_3) rfl lsMissingAcks_3_ok fun _ _ _ => by kernel_rfl)) (by kernel_rfl) (fun x => fsMissingAcks x.1 x.2.1)
    (fun x => Eq.trans (by kernel_rfl : _ = fsMissingAcksC x.1 x.2.1 (fun y => ret (pairs [.ls (.st .ack)] y) fun v g => some (v, g))) (fsMissingAcks_k x.1 x.2.1 _)) fun _ _ h => h
/-! loop.example/g01926/impl.within -/
abbrev Yiwithin : List (Nat × Ent) := []
theorem Yiwithin_ok : TabOk Try.prog (getY Yiwithin) := tab_nil _
def fiwithinC {ρ : Type} (a0 : Int) (a1 : Int) (a2 : Int) (k : Bool × Unit → Option ρ) : Option ρ :=
  br (decide (a1 ≤ a0)) (k ((decide (a0 ≤ a2)), ())) (k (false, ()))
def fiwithin (a0 : Int) (a1 : Int) (a2 : Int) : Option (Bool × Unit) := fiwithinC a0 a1 a2 some
theorem fiwithin_k {ρ : Type} (a0 : Int) (a1 : Int) (a2 : Int) (k : Bool × Unit → Option ρ) : fiwithinC a0 a1 a2 k = (fiwithin a0 a1 a2).bind k := by
  simp only [fiwithin, fiwithinC, br_bind, Option.bind_some]
abbrev Eiwithin : Ent := entP [.ty (.i .i64), .ty (.i .i64), .ty (.i .i64)] [.b] fun x => fiwithin x.1 x.2.1 x.2.2.1
theorem eiwithin : EntOk Try.prog 50 Eiwithin :=
  entP_of (Λ := getL []) (fn := Try.f50) Θ_ok Yiwithin_ok mixed_ok (by kernel_rfl) (hL_of (by kernel_rfl : _ = []) loops_nil) (by kernel_rfl) (fun x => fiwithin x.1 x.2.1 x.2.2.1)
    (fun x => Eq.trans (by kernel_rfl : _ = fiwithinC x.1 x.2.1 x.2.2.1 (fun y => ret (pairs [.b] y) fun v g => some (v, g))) (fiwithin_k x.1 x.2.1 x.2.2.1 _)) fun _ _ h => h
/-! loop.example/g01926/impl.MissingAcks -/
abbrev YiMissingAcks : List (Nat × Ent) := [(50, Eiwithin)]
theorem YiMissingAcks_ok : TabOk Try.prog (getY YiMissingAcks) := tab_cons eiwithin <| tab_nil _
noncomputable abbrev ciMissingAcks_3 : Code := loopAt (bodyOf Try.f19) 0
abbrev LiMissingAcks_3 : LSh := ⟨[(1, .cl (.ro (.st .entry))), (5, .cl (.own 0 (.st .ack))), (9, .cl (.ro (.st .ack))), (10, .cl (.int .i64)), (11, .cl (.int .i64))], [], [.st .ack], 0, 39⟩
abbrev XiMissingAcks_3 : List (X × LSh) := [(.ext 0, ⟨[(5, .cl (.own 0 (.st .ack)))], [], [.st .ack], 0, 39⟩)]
def biMissingAcks_3C {ρ : Type} (v1 : List Ack) (v2 : List Entry) (v3 : List Ack) (v4 : Int) (v5 : Int) (fn : (((List Entry) × Unit × (List Ack) × Int × Int × Unit) × (Unit) × ((List Ack) × Unit)) → Option ρ) (fe : ((Unit × Unit) × (Unit) × ((List Ack) × Unit)) → Option ρ) : Option ρ :=
  br (decide (v5 < v4)) (iteP (0 ≤ v5) ((v3[v5.toNat]?).bind fun x6 => (fiwithin x6.index 0 (IntKind.wrap .i64 ((v2.length : Int) - 1))).bind fun y7 => br (!y7.1) (iteP ((v1 ++ ([x6] : List Ack)).length * 56 ≤ 2 ^ 40) (fn ((v2, (), v3, v4, (IntKind.wrap .i64 (v5 + 1)), ()), (()), ((v1 ++ ([x6] : List Ack)), ()))) none) (iteP (0 ≤ x6.index) ((v2[x6.index.toNat]?).bind fun x8 => br (!((x8.op.client == x6.op.client) && ((x8.op.seq == x6.op.seq) && ((x8.op.kind == x6.op.kind) && ((x8.op.object == x6.op.object) && ((x8.op.old == x6.op.old) && ((x8.op.value == x6.op.value) && true))))))) (iteP ((v1 ++ ([x6] : List Ack)).length * 56 ≤ 2 ^ 40) (fn ((v2, (), v3, v4, (IntKind.wrap .i64 (v5 + 1)), ()), (()), ((v1 ++ ([x6] : List Ack)), ()))) none) (fn ((v2, (), v3, v4, (IntKind.wrap .i64 (v5 + 1)), ()), (()), (v1, ())))) none)) none) (fe (((), ()), (()), (v1, ())))
def biMissingAcks_3 (s : LiMissingAcks_3.D) : Option (LiMissingAcks_3.D ⊕ Exs.D XiMissingAcks_3) := biMissingAcks_3C s.2.2.1 s.1.1 s.1.2.2.1 s.1.2.2.2.1 s.1.2.2.2.2.1 (fun s => some (.inl s)) (fun e => some (.inr e))
def liMissingAcks_3 : LiMissingAcks_3.D → Option (Exs.D XiMissingAcks_3) := lim biMissingAcks_3
theorem biMissingAcks_3_k {ρ : Type} (s : LiMissingAcks_3.D) (fn : LiMissingAcks_3.D → Option ρ) (fe : Exs.D XiMissingAcks_3 → Option ρ) : biMissingAcks_3C s.2.2.1 s.1.1 s.1.2.2.1 s.1.2.2.2.1 s.1.2.2.2.2.1 fn fe = (biMissingAcks_3 s).bind (Sum.elim fn fe) := by
  simp only [biMissingAcks_3, biMissingAcks_3C, br_bind, iteP_bind, Option.bind_none, Option.bind_assoc, Option.bind_some, Sum.elim_inl, Sum.elim_inr]
abbrev EiMissingAcks_3 : LoopE := loopE [] [1, 5, 9, 10, 11] LiMissingAcks_3 XiMissingAcks_3 liMissingAcks_3
theorem biMissingAcks_3_ok (s : LiMissingAcks_3.D) : evCK Θ (getY YiMissingAcks) (getL []) ciMissingAcks_3 (LiMissingAcks_3.mk' s) (tellK [1, 5, 9, 10, 11] [5] fun x S => some (x, S)) = (biMissingAcks_3 s).bind (Sum.elim (fun s' => some (.nor, LiMissingAcks_3.mk' s')) fun e => some (Exs.e XiMissingAcks_3 e)) :=
  Eq.trans (by kernel_rfl : _ = biMissingAcks_3C s.2.2.1 s.1.1 s.1.2.2.1 s.1.2.2.2.1 s.1.2.2.2.2.1 (fun s' => some (.nor, LiMissingAcks_3.mk' s')) (fun e => some (Exs.e XiMissingAcks_3 e))) (biMissingAcks_3_k s _ _)
theorem liMissingAcks_3_ok : LoopOk Try.prog ciMissingAcks_3 EiMissingAcks_3 := loopE_ok Θ_ok YiMissingAcks_ok mixed_ok (by kernel_rfl) (hL_in (by kernel_rfl : _ = []) loops_nil) [] [1, 5, 9, 10, 11] [5] LiMissingAcks_3 XiMissingAcks_3 (by kernel_rfl) biMissingAcks_3 biMissingAcks_3_ok liMissingAcks_3 (limN biMissingAcks_3) (lim_round biMissingAcks_3)
def fiMissingAcksC {ρ : Type} (a0 : List Ack) (a1 : List Entry) (k : (List Ack) × Unit → Option ρ) : Option ρ :=
  (liMissingAcks_3 ((a1, (), a0, (a0.length : Int), 0, ()), (()), (([] : List Ack), ()))).bind fun e9 => k (e9.2.2.1, ())
def fiMissingAcks (a0 : List Ack) (a1 : List Entry) : Option ((List Ack) × Unit) := fiMissingAcksC a0 a1 some
theorem fiMissingAcks_k {ρ : Type} (a0 : List Ack) (a1 : List Entry) (k : (List Ack) × Unit → Option ρ) : fiMissingAcksC a0 a1 k = (fiMissingAcks a0 a1).bind k := by
  simp only [fiMissingAcks, fiMissingAcksC, Option.bind_assoc, Option.bind_some]
abbrev EiMissingAcks : Ent := entP [.ty (.ls (.st .ack)), .ty (.ls (.st .entry))] [.ls (.st .ack)] fun x => fiMissingAcks x.1 x.2.1
theorem eiMissingAcks : EntOk Try.prog 19 EiMissingAcks :=
  entP_of (Λ := getL [(key ciMissingAcks_3, EiMissingAcks_3)]) (fn := Try.f19) Θ_ok YiMissingAcks_ok mixed_ok (by kernel_rfl) (hL_of (by kernel_rfl : _ = [ciMissingAcks_3]) (loops_one (q := key ciMissingAcks_3) rfl liMissingAcks_3_ok fun _ _ _ => by kernel_rfl)) (by kernel_rfl) (fun x => fiMissingAcks x.1 x.2.1)
    (fun x => Eq.trans (by kernel_rfl : _ = fiMissingAcksC x.1 x.2.1 (fun y => ret (pairs [.ls (.st .ack)] y) fun v g => some (v, g))) (fiMissingAcks_k x.1 x.2.1 _)) fun _ _ h => h
/-! loop.example/g01926/laws.eqOp -/
abbrev YweqOp : List (Nat × Ent) := []
theorem YweqOp_ok : TabOk Try.prog (getY YweqOp) := tab_nil _
def fweqOpC {ρ : Type} (a0 : Op) (a1 : Op) (k : Bool × Unit → Option ρ) : Option ρ :=
  br (!(a0.client == a1.client)) (k (false, ())) (br (!(a0.seq == a1.seq)) (k (false, ())) (br (!(a0.kind == a1.kind)) (k (false, ())) (br (!(a0.object == a1.object)) (k (false, ())) (br (!(a0.old == a1.old)) (k (false, ())) (br (!(a0.value == a1.value)) (k (false, ())) (k (true, ())))))))
def fweqOp (a0 : Op) (a1 : Op) : Option (Bool × Unit) := fweqOpC a0 a1 some
theorem fweqOp_k {ρ : Type} (a0 : Op) (a1 : Op) (k : Bool × Unit → Option ρ) : fweqOpC a0 a1 k = (fweqOp a0 a1).bind k := by
  simp only [fweqOp, fweqOpC, br_bind, Option.bind_some]
abbrev EweqOp : Ent := entP [.ty (.st .op), .ty (.st .op)] [.b] fun x => fweqOp x.1 x.2.1
theorem eweqOp : EntOk Try.prog 70 EweqOp :=
  entP_of (Λ := getL []) (fn := Try.f70) Θ_ok YweqOp_ok mixed_ok (by kernel_rfl) (hL_of (by kernel_rfl : _ = []) loops_nil) (by kernel_rfl) (fun x => fweqOp x.1 x.2.1)
    (fun x => Eq.trans (by kernel_rfl : _ = fweqOpC x.1 x.2.1 (fun y => ret (pairs [.b] y) fun v g => some (v, g))) (fweqOp_k x.1 x.2.1 _)) fun _ _ h => h
/-! loop.example/g01926/laws.eqAck -/
abbrev YweqAck : List (Nat × Ent) := [(70, EweqOp)]
theorem YweqAck_ok : TabOk Try.prog (getY YweqAck) := tab_cons eweqOp <| tab_nil _
def fweqAckC {ρ : Type} (a0 : Ack) (a1 : Ack) (k : Bool × Unit → Option ρ) : Option ρ :=
  (fweqOp a0.op a1.op).bind fun y1 => br (!y1.1) (k (false, ())) (br (!(a0.index == a1.index)) (k (false, ())) (k (true, ())))
def fweqAck (a0 : Ack) (a1 : Ack) : Option (Bool × Unit) := fweqAckC a0 a1 some
theorem fweqAck_k {ρ : Type} (a0 : Ack) (a1 : Ack) (k : Bool × Unit → Option ρ) : fweqAckC a0 a1 k = (fweqAck a0 a1).bind k := by
  simp only [fweqAck, fweqAckC, br_bind, Option.bind_assoc, Option.bind_some]
abbrev EweqAck : Ent := entP [.ty (.st .ack), .ty (.st .ack)] [.b] fun x => fweqAck x.1 x.2.1
theorem eweqAck : EntOk Try.prog 54 EweqAck :=
  entP_of (Λ := getL []) (fn := Try.f54) Θ_ok YweqAck_ok mixed_ok (by kernel_rfl) (hL_of (by kernel_rfl : _ = []) loops_nil) (by kernel_rfl) (fun x => fweqAck x.1 x.2.1)
    (fun x => Eq.trans (by kernel_rfl : _ = fweqAckC x.1 x.2.1 (fun y => ret (pairs [.b] y) fun v g => some (v, g))) (fweqAck_k x.1 x.2.1 _)) fun _ _ h => h
/-! loop.example/g01926/laws.eqAckS -/
abbrev YweqAckS : List (Nat × Ent) := [(54, EweqAck)]
theorem YweqAckS_ok : TabOk Try.prog (getY YweqAckS) := tab_cons eweqAck <| tab_nil _
noncomputable abbrev cweqAckS_4 : Code := loopAt (bodyOf Try.f20) 0
abbrev LweqAckS_4 : LSh := ⟨[(0, .cl (.ro (.st .ack))), (1, .cl (.ro (.st .ack))), (5, .cl (.int .i64))], [], [], 0, 27⟩
abbrev XweqAckS_4 : List (X × LSh) := [(.ret, ⟨[(4, .cl (.bl))], [], [], 0, 27⟩), (.ext 0, ⟨[(4, .cl (.dead))], [], [], 0, 27⟩)]
def bweqAckS_4C {ρ : Type} (v1 : List Ack) (v2 : List Ack) (v3 : Int) (fn : (((List Ack) × (List Ack) × Int × Unit) × (Unit) × (Unit)) → Option ρ) (fe : ((Bool × Unit) × (Unit) × (Unit)) ⊕ ((Unit × Unit) × (Unit) × (Unit)) → Option ρ) : Option ρ :=
  br (decide (v3 < (v1.length : Int))) (iteP (0 ≤ v3) ((v1[v3.toNat]?).bind fun x4 => iteP (0 ≤ v3) ((v2[v3.toNat]?).bind fun x5 => (fweqAck x4 x5).bind fun y6 => br (!y6.1) (fe (.inl ((false, ()), (()), (())))) (fn ((v1, v2, (IntKind.wrap .i64 (v3 + 1)), ()), (()), (())))) none) none) (fe (.inr (((), ()), (()), (()))))
def bweqAckS_4 (s : LweqAckS_4.D) : Option (LweqAckS_4.D ⊕ Exs.D XweqAckS_4) := bweqAckS_4C s.1.1 s.1.2.1 s.1.2.2.1 (fun s => some (.inl s)) (fun e => some (.inr e))
def lweqAckS_4 : LweqAckS_4.D → Option (Exs.D XweqAckS_4) := lim bweqAckS_4
theorem bweqAckS_4_k {ρ : Type} (s : LweqAckS_4.D) (fn : LweqAckS_4.D → Option ρ) (fe : Exs.D XweqAckS_4 → Option ρ) : bweqAckS_4C s.1.1 s.1.2.1 s.1.2.2.1 fn fe = (bweqAckS_4 s).bind (Sum.elim fn fe) := by
  simp only [bweqAckS_4, bweqAckS_4C, br_bind, iteP_bind, Option.bind_none, Option.bind_assoc, Option.bind_some, Sum.elim_inl, Sum.elim_inr]
abbrev EweqAckS_4 : LoopE := loopE [] [0, 1, 5] LweqAckS_4 XweqAckS_4 lweqAckS_4
theorem bweqAckS_4_ok (s : LweqAckS_4.D) : evCK Θ (getY YweqAckS) (getL []) cweqAckS_4 (LweqAckS_4.mk' s) (tellK [0, 1, 5] [4] fun x S => some (x, S)) = (bweqAckS_4 s).bind (Sum.elim (fun s' => some (.nor, LweqAckS_4.mk' s')) fun e => some (Exs.e XweqAckS_4 e)) :=
  Eq.trans (by kernel_rfl : _ = bweqAckS_4C s.1.1 s.1.2.1 s.1.2.2.1 (fun s' => some (.nor, LweqAckS_4.mk' s')) (fun e => some (Exs.e XweqAckS_4 e))) (bweqAckS_4_k s _ _)
theorem lweqAckS_4_ok : LoopOk Try.prog cweqAckS_4 EweqAckS_4 := loopE_ok Θ_ok YweqAckS_ok mixed_ok (by kernel_rfl) (hL_in (by kernel_rfl : _ = []) loops_nil) [] [0, 1, 5] [4] LweqAckS_4 XweqAckS_4 (by kernel_rfl) bweqAckS_4 bweqAckS_4_ok lweqAckS_4 (limN bweqAckS_4) (lim_round bweqAckS_4)
def fweqAckSC {ρ : Type} (a0 : List Ack) (a1 : List Ack) (k : Bool × Unit → Option ρ) : Option ρ :=
  br (!((a0.length : Int) == (a1.length : Int))) (k (false, ())) ((lweqAckS_4 ((a0, a1, 0, ()), (()), (()))).bind fun e7 => Sum.elim (fun e7_ => k (e7_.1.1, ())) (fun e7_ => k (true, ())) e7)
def fweqAckS (a0 : List Ack) (a1 : List Ack) : Option (Bool × Unit) := fweqAckSC a0 a1 some
theorem fweqAckS_k {ρ : Type} (a0 : List Ack) (a1 : List Ack) (k : Bool × Unit → Option ρ) : fweqAckSC a0 a1 k = (fweqAckS a0 a1).bind k := by
  simp only [fweqAckS, fweqAckSC, br_bind, elim_bind, Option.bind_assoc, Option.bind_some]
abbrev EweqAckS : Ent := entP [.ty (.ls (.st .ack)), .ty (.ls (.st .ack))] [.b] fun x => fweqAckS x.1 x.2.1
theorem eweqAckS : EntOk Try.prog 20 EweqAckS :=
  entP_of (Λ := getL [(key cweqAckS_4, EweqAckS_4)]) (fn := Try.f20) Θ_ok YweqAckS_ok mixed_ok (by kernel_rfl) (hL_of (by kernel_rfl : _ = [cweqAckS_4]) (loops_one (q := key cweqAckS_4) rfl lweqAckS_4_ok fun _ _ _ => by kernel_rfl)) (by kernel_rfl) (fun x => fweqAckS x.1 x.2.1)
    (fun x => Eq.trans (by kernel_rfl : _ = fweqAckSC x.1 x.2.1 (fun y => ret (pairs [.b] y) fun v g => some (v, g))) (fweqAckS_k x.1 x.2.1 _)) fun _ _ h => h
/-! loop.example/g01926/laws.eqEntry -/
abbrev YweqEntry : List (Nat × Ent) := [(70, EweqOp)]
theorem YweqEntry_ok : TabOk Try.prog (getY YweqEntry) := tab_cons eweqOp <| tab_nil _
def fweqEntryC {ρ : Type} (a0 : Entry) (a1 : Entry) (k : Bool × Unit → Option ρ) : Option ρ :=
  br (!(a0.epoch == a1.epoch)) (k (false, ())) ((fweqOp a0.op a1.op).bind fun y1 => br (!y1.1) (k (false, ())) (k (true, ())))
def fweqEntry (a0 : Entry) (a1 : Entry) : Option (Bool × Unit) := fweqEntryC a0 a1 some
theorem fweqEntry_k {ρ : Type} (a0 : Entry) (a1 : Entry) (k : Bool × Unit → Option ρ) : fweqEntryC a0 a1 k = (fweqEntry a0 a1).bind k := by
  simp only [fweqEntry, fweqEntryC, br_bind, Option.bind_assoc, Option.bind_some]
abbrev EweqEntry : Ent := entP [.ty (.st .entry), .ty (.st .entry)] [.b] fun x => fweqEntry x.1 x.2.1
theorem eweqEntry : EntOk Try.prog 44 EweqEntry :=
  entP_of (Λ := getL []) (fn := Try.f44) Θ_ok YweqEntry_ok mixed_ok (by kernel_rfl) (hL_of (by kernel_rfl : _ = []) loops_nil) (by kernel_rfl) (fun x => fweqEntry x.1 x.2.1)
    (fun x => Eq.trans (by kernel_rfl : _ = fweqEntryC x.1 x.2.1 (fun y => ret (pairs [.b] y) fun v g => some (v, g))) (fweqEntry_k x.1 x.2.1 _)) fun _ _ h => h
/-! loop.example/g01926/laws.eqEntryS -/
abbrev YweqEntryS : List (Nat × Ent) := [(44, EweqEntry)]
theorem YweqEntryS_ok : TabOk Try.prog (getY YweqEntryS) := tab_cons eweqEntry <| tab_nil _
noncomputable abbrev cweqEntryS_4 : Code := loopAt (bodyOf Try.f12) 0
abbrev LweqEntryS_4 : LSh := ⟨[(0, .cl (.ro (.st .entry))), (1, .cl (.ro (.st .entry))), (5, .cl (.int .i64))], [], [], 0, 27⟩
abbrev XweqEntryS_4 : List (X × LSh) := [(.ret, ⟨[(4, .cl (.bl))], [], [], 0, 27⟩), (.ext 0, ⟨[(4, .cl (.dead))], [], [], 0, 27⟩)]
def bweqEntryS_4C {ρ : Type} (v1 : List Entry) (v2 : List Entry) (v3 : Int) (fn : (((List Entry) × (List Entry) × Int × Unit) × (Unit) × (Unit)) → Option ρ) (fe : ((Bool × Unit) × (Unit) × (Unit)) ⊕ ((Unit × Unit) × (Unit) × (Unit)) → Option ρ) : Option ρ :=
  br (decide (v3 < (v1.length : Int))) (iteP (0 ≤ v3) ((v1[v3.toNat]?).bind fun x4 => iteP (0 ≤ v3) ((v2[v3.toNat]?).bind fun x5 => (fweqEntry x4 x5).bind fun y6 => br (!y6.1) (fe (.inl ((false, ()), (()), (())))) (fn ((v1, v2, (IntKind.wrap .i64 (v3 + 1)), ()), (()), (())))) none) none) (fe (.inr (((), ()), (()), (()))))
def bweqEntryS_4 (s : LweqEntryS_4.D) : Option (LweqEntryS_4.D ⊕ Exs.D XweqEntryS_4) := bweqEntryS_4C s.1.1 s.1.2.1 s.1.2.2.1 (fun s => some (.inl s)) (fun e => some (.inr e))
def lweqEntryS_4 : LweqEntryS_4.D → Option (Exs.D XweqEntryS_4) := lim bweqEntryS_4
theorem bweqEntryS_4_k {ρ : Type} (s : LweqEntryS_4.D) (fn : LweqEntryS_4.D → Option ρ) (fe : Exs.D XweqEntryS_4 → Option ρ) : bweqEntryS_4C s.1.1 s.1.2.1 s.1.2.2.1 fn fe = (bweqEntryS_4 s).bind (Sum.elim fn fe) := by
  simp only [bweqEntryS_4, bweqEntryS_4C, br_bind, iteP_bind, Option.bind_none, Option.bind_assoc, Option.bind_some, Sum.elim_inl, Sum.elim_inr]
abbrev EweqEntryS_4 : LoopE := loopE [] [0, 1, 5] LweqEntryS_4 XweqEntryS_4 lweqEntryS_4
theorem bweqEntryS_4_ok (s : LweqEntryS_4.D) : evCK Θ (getY YweqEntryS) (getL []) cweqEntryS_4 (LweqEntryS_4.mk' s) (tellK [0, 1, 5] [4] fun x S => some (x, S)) = (bweqEntryS_4 s).bind (Sum.elim (fun s' => some (.nor, LweqEntryS_4.mk' s')) fun e => some (Exs.e XweqEntryS_4 e)) :=
  Eq.trans (by kernel_rfl : _ = bweqEntryS_4C s.1.1 s.1.2.1 s.1.2.2.1 (fun s' => some (.nor, LweqEntryS_4.mk' s')) (fun e => some (Exs.e XweqEntryS_4 e))) (bweqEntryS_4_k s _ _)
theorem lweqEntryS_4_ok : LoopOk Try.prog cweqEntryS_4 EweqEntryS_4 := loopE_ok Θ_ok YweqEntryS_ok mixed_ok (by kernel_rfl) (hL_in (by kernel_rfl : _ = []) loops_nil) [] [0, 1, 5] [4] LweqEntryS_4 XweqEntryS_4 (by kernel_rfl) bweqEntryS_4 bweqEntryS_4_ok lweqEntryS_4 (limN bweqEntryS_4) (lim_round bweqEntryS_4)
def fweqEntrySC {ρ : Type} (a0 : List Entry) (a1 : List Entry) (k : Bool × Unit → Option ρ) : Option ρ :=
  br (!((a0.length : Int) == (a1.length : Int))) (k (false, ())) ((lweqEntryS_4 ((a0, a1, 0, ()), (()), (()))).bind fun e7 => Sum.elim (fun e7_ => k (e7_.1.1, ())) (fun e7_ => k (true, ())) e7)
def fweqEntryS (a0 : List Entry) (a1 : List Entry) : Option (Bool × Unit) := fweqEntrySC a0 a1 some
theorem fweqEntryS_k {ρ : Type} (a0 : List Entry) (a1 : List Entry) (k : Bool × Unit → Option ρ) : fweqEntrySC a0 a1 k = (fweqEntryS a0 a1).bind k := by
  simp only [fweqEntryS, fweqEntrySC, br_bind, elim_bind, Option.bind_assoc, Option.bind_some]
abbrev EweqEntryS : Ent := entP [.ty (.ls (.st .entry)), .ty (.ls (.st .entry))] [.b] fun x => fweqEntryS x.1 x.2.1
theorem eweqEntryS : EntOk Try.prog 12 EweqEntryS :=
  entP_of (Λ := getL [(key cweqEntryS_4, EweqEntryS_4)]) (fn := Try.f12) Θ_ok YweqEntryS_ok mixed_ok (by kernel_rfl) (hL_of (by kernel_rfl : _ = [cweqEntryS_4]) (loops_one (q := key cweqEntryS_4) rfl lweqEntryS_4_ok fun _ _ _ => by kernel_rfl)) (by kernel_rfl) (fun x => fweqEntryS x.1 x.2.1)
    (fun x => Eq.trans (by kernel_rfl : _ = fweqEntrySC x.1 x.2.1 (fun y => ret (pairs [.b] y) fun v g => some (v, g))) (fweqEntryS_k x.1 x.2.1 _)) fun _ _ h => h
/-! loop.example/g01926/laws.markAckS -/
abbrev YwmarkAckS_io : List (Nat × Ent) := []
theorem YwmarkAckS_io_ok : TabOk Try.prog (getY YwmarkAckS_io) := tab_nil _
noncomputable abbrev cwmarkAckS_io_2 : Code := loopAt (bodyOf Try.f21) 0
abbrev LwmarkAckS_io_2 : LSh := ⟨[(0, .cl (.own 0 (.st .ack))), (1, .cl (.int .i64)), (5, .cl (.int .i64))], [], [.st .ack], 1, 68⟩
abbrev XwmarkAckS_io_2 : List (X × LSh) := [(.ext 0, ⟨[(1, .cl (.int .i64))], [], [.st .ack], 1, 68⟩)]
def bwmarkAckS_io_2C {ρ : Type} (v1 : List Ack) (v2 : Int) (v3 : Int) (fn : ((Unit × Int × Int × Unit) × (Unit) × ((List Ack) × Unit)) → Option ρ) (fe : ((Int × Unit) × (Unit) × ((List Ack) × Unit)) → Option ρ) : Option ρ :=
  br (decide (v3 < (v1.length : Int))) (iteP (0 ≤ v3 ∧ v3 < (v1.length : Int)) ((v1[v3.toNat]?).bind fun x4 => iteP (0 ≤ v3 ∧ v3 < ((v1.set v3.toNat (⟨(⟨v2, x4.op.seq, x4.op.kind, x4.op.object, x4.op.old, x4.op.value⟩ : Op), x4.index⟩ : Ack)).length : Int)) (((v1.set v3.toNat (⟨(⟨v2, x4.op.seq, x4.op.kind, x4.op.object, x4.op.old, x4.op.value⟩ : Op), x4.index⟩ : Ack))[v3.toNat]?).bind fun x5 => iteP (0 ≤ v3 ∧ v3 < (((v1.set v3.toNat (⟨(⟨v2, x4.op.seq, x4.op.kind, x4.op.object, x4.op.old, x4.op.value⟩ : Op), x4.index⟩ : Ack)).set v3.toNat (⟨(⟨x5.op.client, (IntKind.wrap .i64 (v2 + 1)), x5.op.kind, x5.op.object, x5.op.old, x5.op.value⟩ : Op), x5.index⟩ : Ack)).length : Int)) ((((v1.set v3.toNat (⟨(⟨v2, x4.op.seq, x4.op.kind, x4.op.object, x4.op.old, x4.op.value⟩ : Op), x4.index⟩ : Ack)).set v3.toNat (⟨(⟨x5.op.client, (IntKind.wrap .i64 (v2 + 1)), x5.op.kind, x5.op.object, x5.op.old, x5.op.value⟩ : Op), x5.index⟩ : Ack))[v3.toNat]?).bind fun x6 => iteP (0 ≤ v3 ∧ v3 < ((((v1.set v3.toNat (⟨(⟨v2, x4.op.seq, x4.op.kind, x4.op.object, x4.op.old, x4.op.value⟩ : Op), x4.index⟩ : Ack)).set v3.toNat (⟨(⟨x5.op.client, (IntKind.wrap .i64 (v2 + 1)), x5.op.kind, x5.op.object, x5.op.old, x5.op.value⟩ : Op), x5.index⟩ : Ack)).set v3.toNat (⟨(⟨x6.op.client, x6.op.seq, (IntKind.wrap .i64 ((IntKind.wrap .i64 (v2 + 1)) + 1)), x6.op.object, x6.op.old, x6.op.value⟩ : Op), x6.index⟩ : Ack)).length : Int)) (((((v1.set v3.toNat (⟨(⟨v2, x4.op.seq, x4.op.kind, x4.op.object, x4.op.old, x4.op.value⟩ : Op), x4.index⟩ : Ack)).set v3.toNat (⟨(⟨x5.op.client, (IntKind.wrap .i64 (v2 + 1)), x5.op.kind, x5.op.object, x5.op.old, x5.op.value⟩ : Op), x5.index⟩ : Ack)).set v3.toNat (⟨(⟨x6.op.client, x6.op.seq, (IntKind.wrap .i64 ((IntKind.wrap .i64 (v2 + 1)) + 1)), x6.op.object, x6.op.old, x6.op.value⟩ : Op), x6.index⟩ : Ack))[v3.toNat]?).bind fun x7 => iteP (0 ≤ v3 ∧ v3 < (((((v1.set v3.toNat (⟨(⟨v2, x4.op.seq, x4.op.kind, x4.op.object, x4.op.old, x4.op.value⟩ : Op), x4.index⟩ : Ack)).set v3.toNat (⟨(⟨x5.op.client, (IntKind.wrap .i64 (v2 + 1)), x5.op.kind, x5.op.object, x5.op.old, x5.op.value⟩ : Op), x5.index⟩ : Ack)).set v3.toNat (⟨(⟨x6.op.client, x6.op.seq, (IntKind.wrap .i64 ((IntKind.wrap .i64 (v2 + 1)) + 1)), x6.op.object, x6.op.old, x6.op.value⟩ : Op), x6.index⟩ : Ack)).set v3.toNat (⟨(⟨x7.op.client, x7.op.seq, x7.op.kind, (IntKind.wrap .i64 ((IntKind.wrap .i64 ((IntKind.wrap .i64 (v2 + 1)) + 1)) + 1)), x7.op.old, x7.op.value⟩ : Op), x7.index⟩ : Ack)).length : Int)) ((((((v1.set v3.toNat (⟨(⟨v2, x4.op.seq, x4.op.kind, x4.op.object, x4.op.old, x4.op.value⟩ : Op), x4.index⟩ : Ack)).set v3.toNat (⟨(⟨x5.op.client, (IntKind.wrap .i64 (v2 + 1)), x5.op.kind, x5.op.object, x5.op.old, x5.op.value⟩ : Op), x5.index⟩ : Ack)).set v3.toNat (⟨(⟨x6.op.client, x6.op.seq, (IntKind.wrap .i64 ((IntKind.wrap .i64 (v2 + 1)) + 1)), x6.op.object, x6.op.old, x6.op.value⟩ : Op), x6.index⟩ : Ack)).set v3.toNat (⟨(⟨x7.op.client, x7.op.seq, x7.op.kind, (IntKind.wrap .i64 ((IntKind.wrap .i64 ((IntKind.wrap .i64 (v2 + 1)) + 1)) + 1)), x7.op.old, x7.op.value⟩ : Op), x7.index⟩ : Ack))[v3.toNat]?).bind fun x8 => iteP (0 ≤ v3 ∧ v3 < ((((((v1.set v3.toNat (⟨(⟨v2, x4.op.seq, x4.op.kind, x4.op.object, x4.op.old, x4.op.value⟩ : Op), x4.index⟩ : Ack)).set v3.toNat (⟨(⟨x5.op.client, (IntKind.wrap .i64 (v2 + 1)), x5.op.kind, x5.op.object, x5.op.old, x5.op.value⟩ : Op), x5.index⟩ : Ack)).set v3.toNat (⟨(⟨x6.op.client, x6.op.seq, (IntKind.wrap .i64 ((IntKind.wrap .i64 (v2 + 1)) + 1)), x6.op.object, x6.op.old, x6.op.value⟩ : Op), x6.index⟩ : Ack)).set v3.toNat (⟨(⟨x7.op.client, x7.op.seq, x7.op.kind, (IntKind.wrap .i64 ((IntKind.wrap .i64 ((IntKind.wrap .i64 (v2 + 1)) + 1)) + 1)), x7.op.old, x7.op.value⟩ : Op), x7.index⟩ : Ack)).set v3.toNat (⟨(⟨x8.op.client, x8.op.seq, x8.op.kind, x8.op.object, (IntKind.wrap .i64 ((IntKind.wrap .i64 ((IntKind.wrap .i64 ((IntKind.wrap .i64 (v2 + 1)) + 1)) + 1)) + 1)), x8.op.value⟩ : Op), x8.index⟩ : Ack)).length : Int)) (((((((v1.set v3.toNat (⟨(⟨v2, x4.op.seq, x4.op.kind, x4.op.object, x4.op.old, x4.op.value⟩ : Op), x4.index⟩ : Ack)).set v3.toNat (⟨(⟨x5.op.client, (IntKind.wrap .i64 (v2 + 1)), x5.op.kind, x5.op.object, x5.op.old, x5.op.value⟩ : Op), x5.index⟩ : Ack)).set v3.toNat (⟨(⟨x6.op.client, x6.op.seq, (IntKind.wrap .i64 ((IntKind.wrap .i64 (v2 + 1)) + 1)), x6.op.object, x6.op.old, x6.op.value⟩ : Op), x6.index⟩ : Ack)).set v3.toNat (⟨(⟨x7.op.client, x7.op.seq, x7.op.kind, (IntKind.wrap .i64 ((IntKind.wrap .i64 ((IntKind.wrap .i64 (v2 + 1)) + 1)) + 1)), x7.op.old, x7.op.value⟩ : Op), x7.index⟩ : Ack)).set v3.toNat (⟨(⟨x8.op.client, x8.op.seq, x8.op.kind, x8.op.object, (IntKind.wrap .i64 ((IntKind.wrap .i64 ((IntKind.wrap .i64 ((IntKind.wrap .i64 (v2 + 1)) + 1)) + 1)) + 1)), x8.op.value⟩ : Op), x8.index⟩ : Ack))[v3.toNat]?).bind fun x9 => iteP (0 ≤ v3 ∧ v3 < (((((((v1.set v3.toNat (⟨(⟨v2, x4.op.seq, x4.op.kind, x4.op.object, x4.op.old, x4.op.value⟩ : Op), x4.index⟩ : Ack)).set v3.toNat (⟨(⟨x5.op.client, (IntKind.wrap .i64 (v2 + 1)), x5.op.kind, x5.op.object, x5.op.old, x5.op.value⟩ : Op), x5.index⟩ : Ack)).set v3.toNat (⟨(⟨x6.op.client, x6.op.seq, (IntKind.wrap .i64 ((IntKind.wrap .i64 (v2 + 1)) + 1)), x6.op.object, x6.op.old, x6.op.value⟩ : Op), x6.index⟩ : Ack)).set v3.toNat (⟨(⟨x7.op.client, x7.op.seq, x7.op.kind, (IntKind.wrap .i64 ((IntKind.wrap .i64 ((IntKind.wrap .i64 (v2 + 1)) + 1)) + 1)), x7.op.old, x7.op.value⟩ : Op), x7.index⟩ : Ack)).set v3.toNat (⟨(⟨x8.op.client, x8.op.seq, x8.op.kind, x8.op.object, (IntKind.wrap .i64 ((IntKind.wrap .i64 ((IntKind.wrap .i64 ((IntKind.wrap .i64 (v2 + 1)) + 1)) + 1)) + 1)), x8.op.value⟩ : Op), x8.index⟩ : Ack)).set v3.toNat (⟨(⟨x9.op.client, x9.op.seq, x9.op.kind, x9.op.object, x9.op.old, (IntKind.wrap .i64 ((IntKind.wrap .i64 ((IntKind.wrap .i64 ((IntKind.wrap .i64 ((IntKind.wrap .i64 (v2 + 1)) + 1)) + 1)) + 1)) + 1))⟩ : Op), x9.index⟩ : Ack)).length : Int)) ((((((((v1.set v3.toNat (⟨(⟨v2, x4.op.seq, x4.op.kind, x4.op.object, x4.op.old, x4.op.value⟩ : Op), x4.index⟩ : Ack)).set v3.toNat (⟨(⟨x5.op.client, (IntKind.wrap .i64 (v2 + 1)), x5.op.kind, x5.op.object, x5.op.old, x5.op.value⟩ : Op), x5.index⟩ : Ack)).set v3.toNat (⟨(⟨x6.op.client, x6.op.seq, (IntKind.wrap .i64 ((IntKind.wrap .i64 (v2 + 1)) + 1)), x6.op.object, x6.op.old, x6.op.value⟩ : Op), x6.index⟩ : Ack)).set v3.toNat (⟨(⟨x7.op.client, x7.op.seq, x7.op.kind, (IntKind.wrap .i64 ((IntKind.wrap .i64 ((IntKind.wrap .i64 (v2 + 1)) + 1)) + 1)), x7.op.old, x7.op.value⟩ : Op), x7.index⟩ : Ack)).set v3.toNat (⟨(⟨x8.op.client, x8.op.seq, x8.op.kind, x8.op.object, (IntKind.wrap .i64 ((IntKind.wrap .i64 ((IntKind.wrap .i64 ((IntKind.wrap .i64 (v2 + 1)) + 1)) + 1)) + 1)), x8.op.value⟩ : Op), x8.index⟩ : Ack)).set v3.toNat (⟨(⟨x9.op.client, x9.op.seq, x9.op.kind, x9.op.object, x9.op.old, (IntKind.wrap .i64 ((IntKind.wrap .i64 ((IntKind.wrap .i64 ((IntKind.wrap .i64 ((IntKind.wrap .i64 (v2 + 1)) + 1)) + 1)) + 1)) + 1))⟩ : Op), x9.index⟩ : Ack))[v3.toNat]?).bind fun x10 => fn (((), (IntKind.wrap .i64 ((IntKind.wrap .i64 ((IntKind.wrap .i64 ((IntKind.wrap .i64 ((IntKind.wrap .i64 ((IntKind.wrap .i64 ((IntKind.wrap .i64 (v2 + 1)) + 1)) + 1)) + 1)) + 1)) + 1)) + 1)), (IntKind.wrap .i64 (v3 + 1)), ()), (()), ((((((((v1.set v3.toNat (⟨(⟨v2, x4.op.seq, x4.op.kind, x4.op.object, x4.op.old, x4.op.value⟩ : Op), x4.index⟩ : Ack)).set v3.toNat (⟨(⟨x5.op.client, (IntKind.wrap .i64 (v2 + 1)), x5.op.kind, x5.op.object, x5.op.old, x5.op.value⟩ : Op), x5.index⟩ : Ack)).set v3.toNat (⟨(⟨x6.op.client, x6.op.seq, (IntKind.wrap .i64 ((IntKind.wrap .i64 (v2 + 1)) + 1)), x6.op.object, x6.op.old, x6.op.value⟩ : Op), x6.index⟩ : Ack)).set v3.toNat (⟨(⟨x7.op.client, x7.op.seq, x7.op.kind, (IntKind.wrap .i64 ((IntKind.wrap .i64 ((IntKind.wrap .i64 (v2 + 1)) + 1)) + 1)), x7.op.old, x7.op.value⟩ : Op), x7.index⟩ : Ack)).set v3.toNat (⟨(⟨x8.op.client, x8.op.seq, x8.op.kind, x8.op.object, (IntKind.wrap .i64 ((IntKind.wrap .i64 ((IntKind.wrap .i64 ((IntKind.wrap .i64 (v2 + 1)) + 1)) + 1)) + 1)), x8.op.value⟩ : Op), x8.index⟩ : Ack)).set v3.toNat (⟨(⟨x9.op.client, x9.op.seq, x9.op.kind, x9.op.object, x9.op.old, (IntKind.wrap .i64 ((IntKind.wrap .i64 ((IntKind.wrap .i64 ((IntKind.wrap .i64 ((IntKind.wrap .i64 (v2 + 1)) + 1)) + 1)) + 1)) + 1))⟩ : Op), x9.index⟩ : Ack)).set v3.toNat (⟨x10.op, (IntKind.wrap .i64 ((IntKind.wrap .i64 ((IntKind.wrap .i64 ((IntKind.wrap .i64 ((IntKind.wrap .i64 ((IntKind.wrap .i64 (v2 + 1)) + 1)) + 1)) + 1)) + 1)) + 1))⟩ : Ack)), ()))) none) none) none) none) none) none) none) (fe ((v2, ()), (()), (v1, ())))
def bwmarkAckS_io_2 (s : LwmarkAckS_io_2.D) : Option (LwmarkAckS_io_2.D ⊕ Exs.D XwmarkAckS_io_2) := bwmarkAckS_io_2C s.2.2.1 s.1.2.1 s.1.2.2.1 (fun s => some (.inl s)) (fun e => some (.inr e))
def lwmarkAckS_io_2 : LwmarkAckS_io_2.D → Option (Exs.D XwmarkAckS_io_2) := lim bwmarkAckS_io_2
theorem bwmarkAckS_io_2_k {ρ : Type} (s : LwmarkAckS_io_2.D) (fn : LwmarkAckS_io_2.D → Option ρ) (fe : Exs.D XwmarkAckS_io_2 → Option ρ) : bwmarkAckS_io_2C s.2.2.1 s.1.2.1 s.1.2.2.1 fn fe = (bwmarkAckS_io_2 s).bind (Sum.elim fn fe) := by
  simp only [bwmarkAckS_io_2, bwmarkAckS_io_2C, br_bind, iteP_bind, Option.bind_none, Option.bind_assoc, Option.bind_some, Sum.elim_inl, Sum.elim_inr]
abbrev EwmarkAckS_io_2 : LoopE := loopE [] [0, 1, 5] LwmarkAckS_io_2 XwmarkAckS_io_2 lwmarkAckS_io_2
theorem bwmarkAckS_io_2_ok (s : LwmarkAckS_io_2.D) : evCK Θ (getY YwmarkAckS_io) (getL []) cwmarkAckS_io_2 (LwmarkAckS_io_2.mk' s) (tellK [0, 1, 5] [1] fun x S => some (x, S)) = (bwmarkAckS_io_2 s).bind (Sum.elim (fun s' => some (.nor, LwmarkAckS_io_2.mk' s')) fun e => some (Exs.e XwmarkAckS_io_2 e)) :=
  Eq.trans (by kernel_rfl : _ = bwmarkAckS_io_2C s.2.2.1 s.1.2.1 s.1.2.2.1 (fun s' => some (.nor, LwmarkAckS_io_2.mk' s')) (fun e => some (Exs.e XwmarkAckS_io_2 e))) (bwmarkAckS_io_2_k s _ _)
theorem lwmarkAckS_io_2_ok : LoopOk Try.prog cwmarkAckS_io_2 EwmarkAckS_io_2 := loopE_ok Θ_ok YwmarkAckS_io_ok mixed_ok (by kernel_rfl) (hL_in (by kernel_rfl : _ = []) loops_nil) [] [0, 1, 5] [1] LwmarkAckS_io_2 XwmarkAckS_io_2 (by kernel_rfl) bwmarkAckS_io_2 bwmarkAckS_io_2_ok lwmarkAckS_io_2 (limN bwmarkAckS_io_2) (lim_round bwmarkAckS_io_2)
def fwmarkAckS_ioC {ρ : Type} (a0 : List Ack) (a1 : Int) (k : (List Ack) × Int × Unit → Option ρ) : Option ρ :=
  (lwmarkAckS_io_2 (((), a1, 0, ()), (()), (a0, ()))).bind fun e11 => k (e11.2.2.1, e11.1.1, ())
def fwmarkAckS_io (a0 : List Ack) (a1 : Int) : Option ((List Ack) × Int × Unit) := fwmarkAckS_ioC a0 a1 some
theorem fwmarkAckS_io_k {ρ : Type} (a0 : List Ack) (a1 : Int) (k : (List Ack) × Int × Unit → Option ρ) : fwmarkAckS_ioC a0 a1 k = (fwmarkAckS_io a0 a1).bind k := by
  simp only [fwmarkAckS_io, fwmarkAckS_ioC, Option.bind_assoc, Option.bind_some]
abbrev EwmarkAckS_io : Ent := entI (.st .ack) [.ty (.i .i64)] [.i .i64] fun l x => fwmarkAckS_io l x.1
theorem ewmarkAckS_io : EntOk Try.prog (ioOf 21) EwmarkAckS_io :=
  entI_of (Λ := getL [(key cwmarkAckS_io_2, EwmarkAckS_io_2)]) (fn := Try.f21) Θ_ok YwmarkAckS_io_ok mixed_ok (by kernel_rfl) (hL_of (by kernel_rfl : _ = [cwmarkAckS_io_2]) (loops_one (q := key cwmarkAckS_io_2) rfl lwmarkAckS_io_2_ok fun _ _ _ => by kernel_rfl)) (by kernel_rfl) (fun l x => fwmarkAckS_io l x.1)
    (fun l x => Eq.trans (by kernel_rfl : _ = fwmarkAckS_ioC l x.1 (fun y => retI (.st .ack) [.i .i64] y fun v g => some (v, g))) (fwmarkAckS_io_k l x.1 _)) fun _ _ _ h => h
/-! loop.example/g01926/laws.markEntryS -/
abbrev YwmarkEntryS_io : List (Nat × Ent) := []
theorem YwmarkEntryS_io_ok : TabOk Try.prog (getY YwmarkEntryS_io) := tab_nil _
noncomputable abbrev cwmarkEntryS_io_2 : Code := loopAt (bodyOf Try.f22) 0
abbrev LwmarkEntryS_io_2 : LSh := ⟨[(0, .cl (.own 0 (.st .entry))), (1, .cl (.int .i64)), (5, .cl (.int .i64))], [], [.st .entry], 1, 68⟩
abbrev XwmarkEntryS_io_2 : List (X × LSh) := [(.ext 0, ⟨[(1, .cl (.int .i64))], [], [.st .entry], 1, 68⟩)]
def bwmarkEntryS_io_2C {ρ : Type} (v1 : List Entry) (v2 : Int) (v3 : Int) (fn : ((Unit × Int × Int × Unit) × (Unit) × ((List Entry) × Unit)) → Option ρ) (fe : ((Int × Unit) × (Unit) × ((List Entry) × Unit)) → Option ρ) : Option ρ :=
  br (decide (v3 < (v1.length : Int))) (iteP (0 ≤ v3 ∧ v3 < (v1.length : Int)) ((v1[v3.toNat]?).bind fun x4 => iteP (0 ≤ v3 ∧ v3 < ((v1.set v3.toNat (⟨v2, x4.op⟩ : Entry)).length : Int)) (((v1.set v3.toNat (⟨v2, x4.op⟩ : Entry))[v3.toNat]?).bind fun x5 => iteP (0 ≤ v3 ∧ v3 < (((v1.set v3.toNat (⟨v2, x4.op⟩ : Entry)).set v3.toNat (⟨x5.epoch, (⟨(IntKind.wrap .i64 (v2 + 1)), x5.op.seq, x5.op.kind, x5.op.object, x5.op.old, x5.op.value⟩ : Op)⟩ : Entry)).length : Int)) ((((v1.set v3.toNat (⟨v2, x4.op⟩ : Entry)).set v3.toNat (⟨x5.epoch, (⟨(IntKind.wrap .i64 (v2 + 1)), x5.op.seq, x5.op.kind, x5.op.object, x5.op.old, x5.op.value⟩ : Op)⟩ : Entry))[v3.toNat]?).bind fun x6 => iteP (0 ≤ v3 ∧ v3 < ((((v1.set v3.toNat (⟨v2, x4.op⟩ : Entry)).set v3.toNat (⟨x5.epoch, (⟨(IntKind.wrap .i64 (v2 + 1)), x5.op.seq, x5.op.kind, x5.op.object, x5.op.old, x5.op.value⟩ : Op)⟩ : Entry)).set v3.toNat (⟨x6.epoch, (⟨x6.op.client, (IntKind.wrap .i64 ((IntKind.wrap .i64 (v2 + 1)) + 1)), x6.op.kind, x6.op.object, x6.op.old, x6.op.value⟩ : Op)⟩ : Entry)).length : Int)) (((((v1.set v3.toNat (⟨v2, x4.op⟩ : Entry)).set v3.toNat (⟨x5.epoch, (⟨(IntKind.wrap .i64 (v2 + 1)), x5.op.seq, x5.op.kind, x5.op.object, x5.op.old, x5.op.value⟩ : Op)⟩ : Entry)).set v3.toNat (⟨x6.epoch, (⟨x6.op.client, (IntKind.wrap .i64 ((IntKind.wrap .i64 (v2 + 1)) + 1)), x6.op.kind, x6.op.object, x6.op.old, x6.op.value⟩ : Op)⟩ : Entry))[v3.toNat]?).bind fun x7 => iteP (0 ≤ v3 ∧ v3 < (((((v1.set v3.toNat (⟨v2, x4.op⟩ : Entry)).set v3.toNat (⟨x5.epoch, (⟨(IntKind.wrap .i64 (v2 + 1)), x5.op.seq, x5.op.kind, x5.op.object, x5.op.old, x5.op.value⟩ : Op)⟩ : Entry)).set v3.toNat (⟨x6.epoch, (⟨x6.op.client, (IntKind.wrap .i64 ((IntKind.wrap .i64 (v2 + 1)) + 1)), x6.op.kind, x6.op.object, x6.op.old, x6.op.value⟩ : Op)⟩ : Entry)).set v3.toNat (⟨x7.epoch, (⟨x7.op.client, x7.op.seq, (IntKind.wrap .i64 ((IntKind.wrap .i64 ((IntKind.wrap .i64 (v2 + 1)) + 1)) + 1)), x7.op.object, x7.op.old, x7.op.value⟩ : Op)⟩ : Entry)).length : Int)) ((((((v1.set v3.toNat (⟨v2, x4.op⟩ : Entry)).set v3.toNat (⟨x5.epoch, (⟨(IntKind.wrap .i64 (v2 + 1)), x5.op.seq, x5.op.kind, x5.op.object, x5.op.old, x5.op.value⟩ : Op)⟩ : Entry)).set v3.toNat (⟨x6.epoch, (⟨x6.op.client, (IntKind.wrap .i64 ((IntKind.wrap .i64 (v2 + 1)) + 1)), x6.op.kind, x6.op.object, x6.op.old, x6.op.value⟩ : Op)⟩ : Entry)).set v3.toNat (⟨x7.epoch, (⟨x7.op.client, x7.op.seq, (IntKind.wrap .i64 ((IntKind.wrap .i64 ((IntKind.wrap .i64 (v2 + 1)) + 1)) + 1)), x7.op.object, x7.op.old, x7.op.value⟩ : Op)⟩ : Entry))[v3.toNat]?).bind fun x8 => iteP (0 ≤ v3 ∧ v3 < ((((((v1.set v3.toNat (⟨v2, x4.op⟩ : Entry)).set v3.toNat (⟨x5.epoch, (⟨(IntKind.wrap .i64 (v2 + 1)), x5.op.seq, x5.op.kind, x5.op.object, x5.op.old, x5.op.value⟩ : Op)⟩ : Entry)).set v3.toNat (⟨x6.epoch, (⟨x6.op.client, (IntKind.wrap .i64 ((IntKind.wrap .i64 (v2 + 1)) + 1)), x6.op.kind, x6.op.object, x6.op.old, x6.op.value⟩ : Op)⟩ : Entry)).set v3.toNat (⟨x7.epoch, (⟨x7.op.client, x7.op.seq, (IntKind.wrap .i64 ((IntKind.wrap .i64 ((IntKind.wrap .i64 (v2 + 1)) + 1)) + 1)), x7.op.object, x7.op.old, x7.op.value⟩ : Op)⟩ : Entry)).set v3.toNat (⟨x8.epoch, (⟨x8.op.client, x8.op.seq, x8.op.kind, (IntKind.wrap .i64 ((IntKind.wrap .i64 ((IntKind.wrap .i64 ((IntKind.wrap .i64 (v2 + 1)) + 1)) + 1)) + 1)), x8.op.old, x8.op.value⟩ : Op)⟩ : Entry)).length : Int)) (((((((v1.set v3.toNat (⟨v2, x4.op⟩ : Entry)).set v3.toNat (⟨x5.epoch, (⟨(IntKind.wrap .i64 (v2 + 1)), x5.op.seq, x5.op.kind, x5.op.object, x5.op.old, x5.op.value⟩ : Op)⟩ : Entry)).set v3.toNat (⟨x6.epoch, (⟨x6.op.client, (IntKind.wrap .i64 ((IntKind.wrap .i64 (v2 + 1)) + 1)), x6.op.kind, x6.op.object, x6.op.old, x6.op.value⟩ : Op)⟩ : Entry)).set v3.toNat (⟨x7.epoch, (⟨x7.op.client, x7.op.seq, (IntKind.wrap .i64 ((IntKind.wrap .i64 ((IntKind.wrap .i64 (v2 + 1)) + 1)) + 1)), x7.op.object, x7.op.old, x7.op.value⟩ : Op)⟩ : Entry)).set v3.toNat (⟨x8.epoch, (⟨x8.op.client, x8.op.seq, x8.op.kind, (IntKind.wrap .i64 ((IntKind.wrap .i64 ((IntKind.wrap .i64 ((IntKind.wrap .i64 (v2 + 1)) + 1)) + 1)) + 1)), x8.op.old, x8.op.value⟩ : Op)⟩ : Entry))[v3.toNat]?).bind fun x9 => iteP (0 ≤ v3 ∧ v3 < (((((((v1.set v3.toNat (⟨v2, x4.op⟩ : Entry)).set v3.toNat (⟨x5.epoch, (⟨(IntKind.wrap .i64 (v2 + 1)), x5.op.seq, x5.op.kind, x5.op.object, x5.op.old, x5.op.value⟩ : Op)⟩ : Entry)).set v3.toNat (⟨x6.epoch, (⟨x6.op.client, (IntKind.wrap .i64 ((IntKind.wrap .i64 (v2 + 1)) + 1)), x6.op.kind, x6.op.object, x6.op.old, x6.op.value⟩ : Op)⟩ : Entry)).set v3.toNat (⟨x7.epoch, (⟨x7.op.client, x7.op.seq, (IntKind.wrap .i64 ((IntKind.wrap .i64 ((IntKind.wrap .i64 (v2 + 1)) + 1)) + 1)), x7.op.object, x7.op.old, x7.op.value⟩ : Op)⟩ : Entry)).set v3.toNat (⟨x8.epoch, (⟨x8.op.client, x8.op.seq, x8.op.kind, (IntKind.wrap .i64 ((IntKind.wrap .i64 ((IntKind.wrap .i64 ((IntKind.wrap .i64 (v2 + 1)) + 1)) + 1)) + 1)), x8.op.old, x8.op.value⟩ : Op)⟩ : Entry)).set v3.toNat (⟨x9.epoch, (⟨x9.op.client, x9.op.seq, x9.op.kind, x9.op.object, (IntKind.wrap .i64 ((IntKind.wrap .i64 ((IntKind.wrap .i64 ((IntKind.wrap .i64 ((IntKind.wrap .i64 (v2 + 1)) + 1)) + 1)) + 1)) + 1)), x9.op.value⟩ : Op)⟩ : Entry)).length : Int)) ((((((((v1.set v3.toNat (⟨v2, x4.op⟩ : Entry)).set v3.toNat (⟨x5.epoch, (⟨(IntKind.wrap .i64 (v2 + 1)), x5.op.seq, x5.op.kind, x5.op.object, x5.op.old, x5.op.value⟩ : Op)⟩ : Entry)).set v3.toNat (⟨x6.epoch, (⟨x6.op.client, (IntKind.wrap .i64 ((IntKind.wrap .i64 (v2 + 1)) + 1)), x6.op.kind, x6.op.object, x6.op.old, x6.op.value⟩ : Op)⟩ : Entry)).set v3.toNat (⟨x7.epoch, (⟨x7.op.client, x7.op.seq, (IntKind.wrap .i64 ((IntKind.wrap .i64 ((IntKind.wrap .i64 (v2 + 1)) + 1)) + 1)), x7.op.object, x7.op.old, x7.op.value⟩ : Op)⟩ : Entry)).set v3.toNat (⟨x8.epoch, (⟨x8.op.client, x8.op.seq, x8.op.kind, (IntKind.wrap .i64 ((IntKind.wrap .i64 ((IntKind.wrap .i64 ((IntKind.wrap .i64 (v2 + 1)) + 1)) + 1)) + 1)), x8.op.old, x8.op.value⟩ : Op)⟩ : Entry)).set v3.toNat (⟨x9.epoch, (⟨x9.op.client, x9.op.seq, x9.op.kind, x9.op.object, (IntKind.wrap .i64 ((IntKind.wrap .i64 ((IntKind.wrap .i64 ((IntKind.wrap .i64 ((IntKind.wrap .i64 (v2 + 1)) + 1)) + 1)) + 1)) + 1)), x9.op.value⟩ : Op)⟩ : Entry))[v3.toNat]?).bind fun x10 => fn (((), (IntKind.wrap .i64 ((IntKind.wrap .i64 ((IntKind.wrap .i64 ((IntKind.wrap .i64 ((IntKind.wrap .i64 ((IntKind.wrap .i64 ((IntKind.wrap .i64 (v2 + 1)) + 1)) + 1)) + 1)) + 1)) + 1)) + 1)), (IntKind.wrap .i64 (v3 + 1)), ()), (()), ((((((((v1.set v3.toNat (⟨v2, x4.op⟩ : Entry)).set v3.toNat (⟨x5.epoch, (⟨(IntKind.wrap .i64 (v2 + 1)), x5.op.seq, x5.op.kind, x5.op.object, x5.op.old, x5.op.value⟩ : Op)⟩ : Entry)).set v3.toNat (⟨x6.epoch, (⟨x6.op.client, (IntKind.wrap .i64 ((IntKind.wrap .i64 (v2 + 1)) + 1)), x6.op.kind, x6.op.object, x6.op.old, x6.op.value⟩ : Op)⟩ : Entry)).set v3.toNat (⟨x7.epoch, (⟨x7.op.client, x7.op.seq, (IntKind.wrap .i64 ((IntKind.wrap .i64 ((IntKind.wrap .i64 (v2 + 1)) + 1)) + 1)), x7.op.object, x7.op.old, x7.op.value⟩ : Op)⟩ : Entry)).set v3.toNat (⟨x8.epoch, (⟨x8.op.client, x8.op.seq, x8.op.kind, (IntKind.wrap .i64 ((IntKind.wrap .i64 ((IntKind.wrap .i64 ((IntKind.wrap .i64 (v2 + 1)) + 1)) + 1)) + 1)), x8.op.old, x8.op.value⟩ : Op)⟩ : Entry)).set v3.toNat (⟨x9.epoch, (⟨x9.op.client, x9.op.seq, x9.op.kind, x9.op.object, (IntKind.wrap .i64 ((IntKind.wrap .i64 ((IntKind.wrap .i64 ((IntKind.wrap .i64 ((IntKind.wrap .i64 (v2 + 1)) + 1)) + 1)) + 1)) + 1)), x9.op.value⟩ : Op)⟩ : Entry)).set v3.toNat (⟨x10.epoch, (⟨x10.op.client, x10.op.seq, x10.op.kind, x10.op.object, x10.op.old, (IntKind.wrap .i64 ((IntKind.wrap .i64 ((IntKind.wrap .i64 ((IntKind.wrap .i64 ((IntKind.wrap .i64 ((IntKind.wrap .i64 (v2 + 1)) + 1)) + 1)) + 1)) + 1)) + 1))⟩ : Op)⟩ : Entry)), ()))) none) none) none) none) none) none) none) (fe ((v2, ()), (()), (v1, ())))
def bwmarkEntryS_io_2 (s : LwmarkEntryS_io_2.D) : Option (LwmarkEntryS_io_2.D ⊕ Exs.D XwmarkEntryS_io_2) := bwmarkEntryS_io_2C s.2.2.1 s.1.2.1 s.1.2.2.1 (fun s => some (.inl s)) (fun e => some (.inr e))
def lwmarkEntryS_io_2 : LwmarkEntryS_io_2.D → Option (Exs.D XwmarkEntryS_io_2) := lim bwmarkEntryS_io_2
theorem bwmarkEntryS_io_2_k {ρ : Type} (s : LwmarkEntryS_io_2.D) (fn : LwmarkEntryS_io_2.D → Option ρ) (fe : Exs.D XwmarkEntryS_io_2 → Option ρ) : bwmarkEntryS_io_2C s.2.2.1 s.1.2.1 s.1.2.2.1 fn fe = (bwmarkEntryS_io_2 s).bind (Sum.elim fn fe) := by
  simp only [bwmarkEntryS_io_2, bwmarkEntryS_io_2C, br_bind, iteP_bind, Option.bind_none, Option.bind_assoc, Option.bind_some, Sum.elim_inl, Sum.elim_inr]
abbrev EwmarkEntryS_io_2 : LoopE := loopE [] [0, 1, 5] LwmarkEntryS_io_2 XwmarkEntryS_io_2 lwmarkEntryS_io_2
theorem bwmarkEntryS_io_2_ok (s : LwmarkEntryS_io_2.D) : evCK Θ (getY YwmarkEntryS_io) (getL []) cwmarkEntryS_io_2 (LwmarkEntryS_io_2.mk' s) (tellK [0, 1, 5] [1] fun x S => some (x, S)) = (bwmarkEntryS_io_2 s).bind (Sum.elim (fun s' => some (.nor, LwmarkEntryS_io_2.mk' s')) fun e => some (Exs.e XwmarkEntryS_io_2 e)) :=
  Eq.trans (by kernel_rfl : _ = bwmarkEntryS_io_2C s.2.2.1 s.1.2.1 s.1.2.2.1 (fun s' => some (.nor, LwmarkEntryS_io_2.mk' s')) (fun e => some (Exs.e XwmarkEntryS_io_2 e))) (bwmarkEntryS_io_2_k s _ _)
theorem lwmarkEntryS_io_2_ok : LoopOk Try.prog cwmarkEntryS_io_2 EwmarkEntryS_io_2 := loopE_ok Θ_ok YwmarkEntryS_io_ok mixed_ok (by kernel_rfl) (hL_in (by kernel_rfl : _ = []) loops_nil) [] [0, 1, 5] [1] LwmarkEntryS_io_2 XwmarkEntryS_io_2 (by kernel_rfl) bwmarkEntryS_io_2 bwmarkEntryS_io_2_ok lwmarkEntryS_io_2 (limN bwmarkEntryS_io_2) (lim_round bwmarkEntryS_io_2)
def fwmarkEntryS_ioC {ρ : Type} (a0 : List Entry) (a1 : Int) (k : (List Entry) × Int × Unit → Option ρ) : Option ρ :=
  (lwmarkEntryS_io_2 (((), a1, 0, ()), (()), (a0, ()))).bind fun e11 => k (e11.2.2.1, e11.1.1, ())
def fwmarkEntryS_io (a0 : List Entry) (a1 : Int) : Option ((List Entry) × Int × Unit) := fwmarkEntryS_ioC a0 a1 some
theorem fwmarkEntryS_io_k {ρ : Type} (a0 : List Entry) (a1 : Int) (k : (List Entry) × Int × Unit → Option ρ) : fwmarkEntryS_ioC a0 a1 k = (fwmarkEntryS_io a0 a1).bind k := by
  simp only [fwmarkEntryS_io, fwmarkEntryS_ioC, Option.bind_assoc, Option.bind_some]
abbrev EwmarkEntryS_io : Ent := entI (.st .entry) [.ty (.i .i64)] [.i .i64] fun l x => fwmarkEntryS_io l x.1
theorem ewmarkEntryS_io : EntOk Try.prog (ioOf 22) EwmarkEntryS_io :=
  entI_of (Λ := getL [(key cwmarkEntryS_io_2, EwmarkEntryS_io_2)]) (fn := Try.f22) Θ_ok YwmarkEntryS_io_ok mixed_ok (by kernel_rfl) (hL_of (by kernel_rfl : _ = [cwmarkEntryS_io_2]) (loops_one (q := key cwmarkEntryS_io_2) rfl lwmarkEntryS_io_2_ok fun _ _ _ => by kernel_rfl)) (by kernel_rfl) (fun l x => fwmarkEntryS_io l x.1)
    (fun l x => Eq.trans (by kernel_rfl : _ = fwmarkEntryS_ioC l x.1 (fun y => retI (.st .entry) [.i .i64] y fun v g => some (v, g))) (fwmarkEntryS_io_k l x.1 _)) fun _ _ _ h => h
/-! loop.example/g01926/laws.heldAckS -/
abbrev YwheldAckS : List (Nat × Ent) := []
theorem YwheldAckS_ok : TabOk Try.prog (getY YwheldAckS) := tab_nil _
noncomputable abbrev cwheldAckS_2 : Code := loopAt (bodyOf Try.f23) 0
abbrev LwheldAckS_2 : LSh := ⟨[(0, .cl (.ro (.st .ack))), (1, .cl (.int .i64)), (5, .cl (.int .i64))], [], [], 0, 82⟩
abbrev XwheldAckS_2 : List (X × LSh) := [(.ret, ⟨[(1, .cl (.int .i64)), (4, .cl (.int .i64))], [], [], 0, 82⟩), (.ext 0, ⟨[(1, .cl (.int .i64)), (4, .cl (.dead))], [], [], 0, 82⟩)]
def bwheldAckS_2C {ρ : Type} (v1 : List Ack) (v2 : Int) (v3 : Int) (fn : (((List Ack) × Int × Int × Unit) × (Unit) × (Unit)) → Option ρ) (fe : ((Int × Int × Unit) × (Unit) × (Unit)) ⊕ ((Int × Unit × Unit) × (Unit) × (Unit)) → Option ρ) : Option ρ :=
  br (decide (v3 < (v1.length : Int))) (iteP (0 ≤ v3) ((v1[v3.toNat]?).bind fun x4 => br (!(x4.op.client == v2)) (fe (.inl ((v2, (-1), ()), (()), (())))) (iteP (0 ≤ v3) ((v1[v3.toNat]?).bind fun x5 => br (!(x5.op.seq == (IntKind.wrap .i64 (v2 + 1)))) (fe (.inl (((IntKind.wrap .i64 (v2 + 1)), (-1), ()), (()), (())))) (iteP (0 ≤ v3) ((v1[v3.toNat]?).bind fun x6 => br (!(x6.op.kind == (IntKind.wrap .i64 ((IntKind.wrap .i64 (v2 + 1)) + 1)))) (fe (.inl (((IntKind.wrap .i64 ((IntKind.wrap .i64 (v2 + 1)) + 1)), (-1), ()), (()), (())))) (iteP (0 ≤ v3) ((v1[v3.toNat]?).bind fun x7 => br (!(x7.op.object == (IntKind.wrap .i64 ((IntKind.wrap .i64 ((IntKind.wrap .i64 (v2 + 1)) + 1)) + 1)))) (fe (.inl (((IntKind.wrap .i64 ((IntKind.wrap .i64 ((IntKind.wrap .i64 (v2 + 1)) + 1)) + 1)), (-1), ()), (()), (())))) (iteP (0 ≤ v3) ((v1[v3.toNat]?).bind fun x8 => br (!(x8.op.old == (IntKind.wrap .i64 ((IntKind.wrap .i64 ((IntKind.wrap .i64 ((IntKind.wrap .i64 (v2 + 1)) + 1)) + 1)) + 1)))) (fe (.inl (((IntKind.wrap .i64 ((IntKind.wrap .i64 ((IntKind.wrap .i64 ((IntKind.wrap .i64 (v2 + 1)) + 1)) + 1)) + 1)), (-1), ()), (()), (())))) (iteP (0 ≤ v3) ((v1[v3.toNat]?).bind fun x9 => br (!(x9.op.value == (IntKind.wrap .i64 ((IntKind.wrap .i64 ((IntKind.wrap .i64 ((IntKind.wrap .i64 ((IntKind.wrap .i64 (v2 + 1)) + 1)) + 1)) + 1)) + 1)))) (fe (.inl (((IntKind.wrap .i64 ((IntKind.wrap .i64 ((IntKind.wrap .i64 ((IntKind.wrap .i64 ((IntKind.wrap .i64 (v2 + 1)) + 1)) + 1)) + 1)) + 1)), (-1), ()), (()), (())))) (iteP (0 ≤ v3) ((v1[v3.toNat]?).bind fun x10 => br (!(x10.index == (IntKind.wrap .i64 ((IntKind.wrap .i64 ((IntKind.wrap .i64 ((IntKind.wrap .i64 ((IntKind.wrap .i64 ((IntKind.wrap .i64 (v2 + 1)) + 1)) + 1)) + 1)) + 1)) + 1)))) (fe (.inl (((IntKind.wrap .i64 ((IntKind.wrap .i64 ((IntKind.wrap .i64 ((IntKind.wrap .i64 ((IntKind.wrap .i64 ((IntKind.wrap .i64 (v2 + 1)) + 1)) + 1)) + 1)) + 1)) + 1)), (-1), ()), (()), (())))) (fn ((v1, (IntKind.wrap .i64 ((IntKind.wrap .i64 ((IntKind.wrap .i64 ((IntKind.wrap .i64 ((IntKind.wrap .i64 ((IntKind.wrap .i64 ((IntKind.wrap .i64 (v2 + 1)) + 1)) + 1)) + 1)) + 1)) + 1)) + 1)), (IntKind.wrap .i64 (v3 + 1)), ()), (()), (())))) none)) none)) none)) none)) none)) none)) none) (fe (.inr ((v2, (), ()), (()), (()))))
def bwheldAckS_2 (s : LwheldAckS_2.D) : Option (LwheldAckS_2.D ⊕ Exs.D XwheldAckS_2) := bwheldAckS_2C s.1.1 s.1.2.1 s.1.2.2.1 (fun s => some (.inl s)) (fun e => some (.inr e))
def lwheldAckS_2 : LwheldAckS_2.D → Option (Exs.D XwheldAckS_2) := lim bwheldAckS_2
theorem bwheldAckS_2_k {ρ : Type} (s : LwheldAckS_2.D) (fn : LwheldAckS_2.D → Option ρ) (fe : Exs.D XwheldAckS_2 → Option ρ) : bwheldAckS_2C s.1.1 s.1.2.1 s.1.2.2.1 fn fe = (bwheldAckS_2 s).bind (Sum.elim fn fe) := by
  simp only [bwheldAckS_2, bwheldAckS_2C, br_bind, iteP_bind, Option.bind_none, Option.bind_assoc, Option.bind_some, Sum.elim_inl, Sum.elim_inr]
abbrev EwheldAckS_2 : LoopE := loopE [] [0, 1, 5] LwheldAckS_2 XwheldAckS_2 lwheldAckS_2
theorem bwheldAckS_2_ok (s : LwheldAckS_2.D) : evCK Θ (getY YwheldAckS) (getL []) cwheldAckS_2 (LwheldAckS_2.mk' s) (tellK [0, 1, 5] [1, 4] fun x S => some (x, S)) = (bwheldAckS_2 s).bind (Sum.elim (fun s' => some (.nor, LwheldAckS_2.mk' s')) fun e => some (Exs.e XwheldAckS_2 e)) :=
  Eq.trans (by kernel_rfl : _ = bwheldAckS_2C s.1.1 s.1.2.1 s.1.2.2.1 (fun s' => some (.nor, LwheldAckS_2.mk' s')) (fun e => some (Exs.e XwheldAckS_2 e))) (bwheldAckS_2_k s _ _)
theorem lwheldAckS_2_ok : LoopOk Try.prog cwheldAckS_2 EwheldAckS_2 := loopE_ok Θ_ok YwheldAckS_ok mixed_ok (by kernel_rfl) (hL_in (by kernel_rfl : _ = []) loops_nil) [] [0, 1, 5] [1, 4] LwheldAckS_2 XwheldAckS_2 (by kernel_rfl) bwheldAckS_2 bwheldAckS_2_ok lwheldAckS_2 (limN bwheldAckS_2) (lim_round bwheldAckS_2)
def fwheldAckSC {ρ : Type} (a0 : List Ack) (a1 : Int) (k : Int × Unit → Option ρ) : Option ρ :=
  (lwheldAckS_2 ((a0, a1, 0, ()), (()), (()))).bind fun e11 => Sum.elim (fun e11_ => k (e11_.1.2.1, ())) (fun e11_ => k (e11_.1.1, ())) e11
def fwheldAckS (a0 : List Ack) (a1 : Int) : Option (Int × Unit) := fwheldAckSC a0 a1 some
theorem fwheldAckS_k {ρ : Type} (a0 : List Ack) (a1 : Int) (k : Int × Unit → Option ρ) : fwheldAckSC a0 a1 k = (fwheldAckS a0 a1).bind k := by
  simp only [fwheldAckS, fwheldAckSC, elim_bind, Option.bind_assoc, Option.bind_some]
abbrev EwheldAckS : Ent := entP [.ty (.ls (.st .ack)), .ty (.i .i64)] [.i .i64] fun x => fwheldAckS x.1 x.2.1
theorem ewheldAckS : EntOk Try.prog 23 EwheldAckS :=
  entP_of (Λ := getL [(key cwheldAckS_2, EwheldAckS_2)]) (fn := Try.f23) Θ_ok YwheldAckS_ok mixed_ok (by kernel_rfl) (hL_of (by kernel_rfl : _ = [cwheldAckS_2]) (loops_one (q := key cwheldAckS_2) rfl lwheldAckS_2_ok fun _ _ _ => by kernel_rfl)) (by kernel_rfl) (fun x => fwheldAckS x.1 x.2.1)
    (fun x => Eq.trans (by kernel_rfl : _ = fwheldAckSC x.1 x.2.1 (fun y => ret (pairs [.i .i64] y) fun v g => some (v, g))) (fwheldAckS_k x.1 x.2.1 _)) fun _ _ h => h
/-! loop.example/g01926/laws.FnExactMissingAcks -/
abbrev YwFnExactMissingAcks : List (Nat × Ent) := [(16, EwszAckS), (8, EwszEntryS), (18, EwtoAckS), (10, EwtoEntryS), (17, EsMissingAcks), (19, EiMissingAcks), (20, EweqAckS), (12, EweqEntryS), (ioOf 21, EwmarkAckS_io), (ioOf 22, EwmarkEntryS_io), (23, EwheldAckS)]
theorem YwFnExactMissingAcks_ok : TabOk Try.prog (getY YwFnExactMissingAcks) := tab_cons ewszAckS <| tab_cons ewszEntryS <| tab_cons ewtoAckS <| tab_cons ewtoEntryS <| tab_cons esMissingAcks <| tab_cons eiMissingAcks <| tab_cons eweqAckS <| tab_cons eweqEntryS <| tab_cons ewmarkAckS_io <| tab_cons ewmarkEntryS_io <| tab_cons ewheldAckS <| tab_nil _
def fwFnExactMissingAcksC {ρ : Type} (a0 : List Ack) (a1 : List Entry) (k : Bool × Unit → Option ρ) : Option ρ :=
  (fwszAckS a0 1048576).bind fun y1 => br (decide (y1.1 < 0)) (k (true, ())) ((fwszEntryS a1 y1.1).bind fun y2 => br (decide (y2.1 < 0)) (k (true, ())) ((fwtoAckS a0).bind fun y3 => (fwtoEntryS a1).bind fun y4 => (fsMissingAcks y3.1 y4.1).bind fun y5 => (fwtoAckS a0).bind fun y6 => (fwtoEntryS a1).bind fun y7 => (fiMissingAcks y6.1 y7.1).bind fun y8 => (fweqAckS y8.1 y5.1).bind fun y9 => br (!y9.1) (k (false, ())) ((fwtoAckS a0).bind fun y10 => (fweqAckS y6.1 y10.1).bind fun y11 => br (!y11.1) (k (false, ())) ((fwtoEntryS a1).bind fun y12 => (fweqEntryS y7.1 y12.1).bind fun y13 => br (!y13.1) (k (false, ())) ((fwmarkAckS_io y6.1 1).bind fun y14 => iteP (y14.1.length = y6.1.length) ((fwmarkEntryS_io y7.1 y14.2.1).bind fun y15 => iteP (y15.1.length = y7.1.length) (br (decide (y15.2.1 < 0)) (k (false, ())) ((fweqAckS y8.1 y5.1).bind fun y16 => br (!y16.1) (k (false, ())) ((fwmarkAckS_io y8.1 1).bind fun y17 => iteP (y17.1.length = y8.1.length) ((fwheldAckS y17.1 1).bind fun y18 => br (decide (y18.1 < 0)) (k (false, ())) (br (!(y18.1 == y17.2.1)) (k (false, ())) ((fwtoAckS a0).bind fun y19 => (fwtoEntryS a1).bind fun y20 => (fiMissingAcks y19.1 y20.1).bind fun y21 => (fweqAckS y21.1 y5.1).bind fun y22 => br (!y22.1) (k (false, ())) ((fwheldAckS y17.1 1).bind fun y23 => br (decide (y23.1 < 0)) (k (false, ())) (br (!(y23.1 == y17.2.1)) (k (false, ())) (k (true, ()))))))) none))) none) none)))))
def fwFnExactMissingAcks (a0 : List Ack) (a1 : List Entry) : Option (Bool × Unit) := fwFnExactMissingAcksC a0 a1 some
theorem fwFnExactMissingAcks_k {ρ : Type} (a0 : List Ack) (a1 : List Entry) (k : Bool × Unit → Option ρ) : fwFnExactMissingAcksC a0 a1 k = (fwFnExactMissingAcks a0 a1).bind k := by
  simp only [fwFnExactMissingAcks, fwFnExactMissingAcksC, br_bind, iteP_bind, Option.bind_none, Option.bind_assoc, Option.bind_some]
abbrev EwFnExactMissingAcks : Ent := entP [.ty (.ls (.st .ack)), .ty (.ls (.st .entry))] [.b] fun x => fwFnExactMissingAcks x.1 x.2.1
theorem ewFnExactMissingAcks : EntOk Try.prog 5 EwFnExactMissingAcks :=
  entP_of (Λ := getL []) (fn := Try.f5) Θ_ok YwFnExactMissingAcks_ok mixed_ok (by kernel_rfl) (hL_of (by kernel_rfl : _ = []) loops_nil) (by kernel_rfl) (fun x => fwFnExactMissingAcks x.1 x.2.1)
    (fun x => Eq.trans (by kernel_rfl : _ = fwFnExactMissingAcksC x.1 x.2.1 (fun y => ret (pairs [.b] y) fun v g => some (v, g))) (fwFnExactMissingAcks_k x.1 x.2.1 _)) fun _ _ h => h
end
end Go.Proofs.Ytkifojmjcpdnoaa.En
