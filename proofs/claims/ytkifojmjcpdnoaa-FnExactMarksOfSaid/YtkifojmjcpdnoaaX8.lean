import Derived.Test.YtkifojmjcpdnoaaX7
import Derived.ProofKit
import Derived.ChangeOld
import Derived.Deep.Slices
import Derived.OpenShut
import Derived.Below
import Derived.Carry
import Derived.WideShapes
/- The typed evaluator, part 22: equality of flat structures. -/
namespace Go.Proofs.Ytkifojmjcpdnoaa.En
open Go

def eqFs (P : Program) (e : TypeId → List Value → Bool) : List Field → Nat → List Value → Bool
  | [], _, [] => true
  | [], _, _ :: _ => false
  | f :: fs, off, zs => f.name != "_" && Nat.beq f.offset off && Nat.blt 0 (P.cellsOf f.type) && Nat.ble (P.cellsOf f.type) zs.length && (P.info? f.type).isSome && e f.type (zs.take (P.cellsOf f.type)) && eqFs P e fs (off + P.cellsOf f.type) (zs.drop (P.cellsOf f.type))
def eqTB (P : Program) : Nat → TypeId → List Value → Bool
  | 0, _, _ => false
  | n + 1, t, zs => match P.underlying t with
    | some .bool => (match zs with | [.bool _] => true | _ => false)
    | some (.int _) => (match zs with | [.int _ _] => true | _ => false)
    | some (.struct fs) => !P.stoodInHeld t && eqFs P (eqTB P n) fs.toList 0 zs
    | _ => false
def valT (P : Program) (t : TypeId) (xs : List Value) : Value := match P.underlying t with
  | some (.struct _) => .agg xs.toArray
  | _ => xs.headD (.bool false)
def kinds : List Value → List Value → Bool
  | [], [] => true
  | .int k _ :: zs, .int k' _ :: cs => bif decide (k = k') then kinds zs cs else false
  | .bool _ :: zs, .bool _ :: cs => kinds zs cs
  | _, _ => false
def eqVals : List Value → List Value → Option Bool
  | [], [] => some true
  | a :: l, b :: m => match eqVal a b, eqVals l m with
    | some x, some y => some (x && y)
    | _, _ => none
  | _, _ => none
theorem kinds_fits : ∀ {zs xs : List Value}, fits zs (xs.map fun x => .c (.sc x)) = true → kinds zs xs = true := by
  intro zs
  induction zs with
  | nil => intro xs h; cases xs with
    | nil => rfl
    | cons => simp [fits] at h
  | cons z zs ih =>
    intro xs h
    cases xs with
    | nil => cases z <;> simp [fits] at h
    | cons x xs =>
      cases z <;> cases x <;> simp only [List.map_cons, fits, kinds, cond_eq_ite, Bool.false_eq_true] at h ⊢
      · exact ih h
      · split at h
        · rename_i hk
          rw [if_pos hk]
          exact ih h
        · cases h
theorem eqVals_eq : ∀ {xs ys : List Value}, eqCells (xs.map fun x => .c (.sc x)) (ys.map fun x => .c (.sc x)) = eqVals xs ys := by
  intro xs
  induction xs with
  | nil => intro ys; cases ys <;> rfl
  | cons x xs ih =>
    intro ys
    cases ys with
    | nil => rfl
    | cons y ys =>
      simp only [List.map_cons, eqCells, eqVals, ih]
      cases eqVal x y <;> cases eqVals xs ys <;> rfl
theorem kinds_length : ∀ {zs xs : List Value}, kinds zs xs = true → xs.length = zs.length := by
  intro zs
  induction zs with
  | nil => intro xs h; cases xs with
    | nil => rfl
    | cons => simp [kinds] at h
  | cons z zs ih =>
    intro xs h
    cases xs with
    | nil => cases z <;> simp [kinds] at h
    | cons x xs =>
      cases z <;> cases x <;> simp only [kinds, cond_eq_ite, Bool.false_eq_true] at h
      · simp [ih h]
      · split at h
        · simp [ih h]
        · cases h
theorem kinds_take : ∀ {zs xs : List Value} (n : Nat), kinds zs xs = true → kinds (zs.take n) (xs.take n) = true ∧ kinds (zs.drop n) (xs.drop n) = true := by
  intro zs
  induction zs with
  | nil => intro xs n h; cases xs with
    | nil => simp [kinds]
    | cons => simp [kinds] at h
  | cons z zs ih =>
    intro xs n h
    cases xs with
    | nil => cases z <;> simp [kinds] at h
    | cons x xs =>
      cases n with
      | zero => exact ⟨rfl, h⟩
      | succ n =>
        cases z <;> cases x <;> simp only [kinds, cond_eq_ite, Bool.false_eq_true] at h
        · exact ih n h
        · split at h
          · rename_i hk
            refine ⟨?_, (ih n h).2⟩
            simp only [List.take_succ_cons, kinds, cond_eq_ite]
            rw [if_pos (by simpa using hk)]
            exact (ih n h).1
          · cases h
theorem eqVals_split : ∀ {xs ys : List Value} (n : Nat) {r : Bool}, eqVals xs ys = some r → ∃ a b, eqVals (xs.take n) (ys.take n) = some a ∧ eqVals (xs.drop n) (ys.drop n) = some b ∧ r = (a && b) := by
  intro xs
  induction xs with
  | nil => intro ys n r h; cases ys with
    | nil => cases h; exact ⟨true, true, by simp [eqVals], by simp [eqVals], rfl⟩
    | cons => simp [eqVals] at h
  | cons x xs ih =>
    intro ys n r h
    cases ys with
    | nil => simp [eqVals] at h
    | cons y ys =>
      cases n with
      | zero => exact ⟨true, r, rfl, h, rfl⟩
      | succ n =>
        simp only [eqVals] at h
        split at h
        · rename_i p q hp hq
          cases h
          obtain ⟨a, b, h1, h2, rfl⟩ := ih n hq
          exact ⟨p && a, b, by simp [eqVals, hp, h1], h2, by cases p <;> rfl⟩
        · cases h
theorem pureRun_info {P : Program} {t : TypeId} {i : TypeInfo} (h : P.info? t = some i) : pureRun P (typeInfo t) = some i := by
  simp only [typeInfo, pureRun_bind, program, pureRun, Option.bind_some, h]
  rfl
theorem part_val {P : Program} {t : TypeId} {i : TypeInfo} (hi : P.info? t = some i) {d : TypeDesc} (hd : P.underlying t = some d) (hs : ∀ n e, d ≠ .array n e) {xs : List Value} {off : Nat} {c : Value} (hc : xs[off]? = some c) :
    pureRun P (part t xs.toArray off) = some (valT P t ((xs.drop off).take (P.cellsOf t))) ∨ P.cellsOf t = 0 := by
  by_cases h0 : P.cellsOf t = 0
  · exact .inr h0
  refine .inl ?_
  have hcell : P.cellsOf t = i.size := by simp [Program.cellsOf, hi]
  cases hst : (match d with | .struct _ => true | _ => false) with
  | true =>
    have hag : pureRun P (isAgg t) = some true := by
      simp only [isAgg, pureRun_bind, pureRun_underlying hd, Option.bind_some]
      cases d <;> simp at hst
      rfl
    simp only [part, sizeOf, pureRun_bind, hag, Option.bind_some, if_true, pureRun_info hi, pureRun_pure, valT, hd]
    cases d <;> simp at hst
    simp [hcell, Nat.add_sub_cancel_left]
  | false =>
    have hag : pureRun P (isAgg t) = some false := by
      simp only [isAgg, pureRun_bind, pureRun_underlying hd, Option.bind_some]
      cases d <;> simp at hst
      all_goals first | rfl | exact absurd rfl (hs _ _)
    have hv : valT P t ((xs.drop off).take (P.cellsOf t)) = c := by
      have : ((xs.drop off).take (P.cellsOf t)).headD (.bool false) = c := by
        obtain ⟨n, hn⟩ : ∃ n, P.cellsOf t = n + 1 := ⟨P.cellsOf t - 1, by omega⟩
        have h1 : off < xs.length := (List.getElem?_eq_some_iff.1 hc).1
        rw [hn, List.drop_eq_getElem_cons h1, List.take_succ_cons]
        exact (List.getElem?_eq_some_iff.1 hc).2
      unfold valT
      rw [hd]
      cases d <;> first | exact this | simp at hst
    rw [hv]
    simp only [part, pureRun_bind, hag, Option.bind_some, Bool.false_eq_true, if_false]
    have : xs.toArray[off]? = some c := by simpa using hc
    rw [this]
    rfl
theorem eqTB_ok (P : Program) : ∀ (n : Nat) {t : TypeId} {zs xs ys : List Value} {r : Bool} (d : Nat), eqTB P n t zs = true → kinds zs xs = true → kinds zs ys = true → eqVals xs ys = some r → pureRun P (Op.equalIn (n + d) t (valT P t xs) (valT P t ys)) = some r
  | 0, t, zs, xs, ys, r, d, h, _, _, _ => by cases h
  | n + 1, t, zs, xs, ys, r, d, h, hx, hy, he => by
    have hn : n + 1 + d = (n + d) + 1 := by omega
    rw [hn]
    unfold eqTB at h
    cases hu : P.underlying t with
    | none => rw [hu] at h; cases h
    | some D =>
      rw [hu] at h
      cases D <;> simp only [Bool.false_eq_true] at h
      case bool =>
        split at h
        case h_2 => cases h
        obtain ⟨x, rfl⟩ : ∃ x, xs = [.bool x] := by
          match xs, hx with
          | [.bool x], _ => exact ⟨x, rfl⟩
        obtain ⟨y, rfl⟩ : ∃ y, ys = [.bool y] := by
          match ys, hy with
          | [.bool y], _ => exact ⟨y, rfl⟩
        simp only [eqVals, eqVal, Bool.and_true, Option.some.injEq] at he
        subst he
        simp only [valT, hu, List.headD_cons]
        rw [Op.equalIn]
        simp only [pureRun_bind, pureRun_underlying hu, Option.bind_some, pureRun_pure]
      case int k =>
        split at h
        case h_2 => cases h
        rename_i k0 _
        obtain ⟨x, rfl⟩ : ∃ x, xs = [.int k0 x] := by
          match xs, hx with
          | [.int k1 x], hx =>
            simp only [kinds, cond_eq_ite] at hx
            split at hx
            · rename_i hk; simp at hk; subst hk; exact ⟨x, rfl⟩
            · cases hx
          | .int _ _ :: _ :: _, hx => simp [kinds] at hx
        obtain ⟨y, rfl⟩ : ∃ y, ys = [.int k0 y] := by
          match ys, hy with
          | [.int k1 x], hx =>
            simp only [kinds, cond_eq_ite] at hx
            split at hx
            · rename_i hk; simp at hk; subst hk; exact ⟨x, rfl⟩
            · cases hx
          | .int _ _ :: _ :: _, hx => simp [kinds] at hx
        simp only [eqVals, eqVal, Bool.and_true, Option.some.injEq] at he
        subst he
        simp only [valT, hu, List.headD_cons]
        rw [Op.equalIn]
        simp only [pureRun_bind, pureRun_underlying hu, Option.bind_some, pureRun_pure, if_true]
      case struct fs =>
        simp only [Bool.and_eq_true, Bool.not_eq_true'] at h
        obtain ⟨hst, h⟩ := h
        simp only [valT, hu]
        have key : ∀ (fs : List Field) (off : Nat) (zs : List Value) (r : Bool), eqFs P (eqTB P n) fs off zs = true → kinds zs (xs.drop off) = true → kinds zs (ys.drop off) = true → eqVals (xs.drop off) (ys.drop off) = some r →
            pureRun P (Op.eqFields (n + d) xs.toArray ys.toArray fs) = some r := by
          intro fs
          induction fs with
          | nil =>
            intro off zs r h hx hy he
            cases zs with
            | nil =>
              have h1 := kinds_length hx
              have h2 := kinds_length hy
              simp only [List.length_nil, List.length_eq_zero_iff] at h1 h2
              rw [h1, h2] at he
              cases he
              rfl
            | cons => cases h
          | cons f fs ih =>
            intro off zs r h hx hy he
            simp only [eqFs, Bool.and_eq_true, bne_iff_ne, ne_eq] at h
            obtain ⟨⟨⟨⟨⟨⟨hname, hoff⟩, hpos⟩, hle⟩, hi⟩, h1⟩, h2⟩ := h
            have hoff := Nat.eq_of_beq_eq_true hoff
            have hpos : 0 < P.cellsOf f.type := Nat.le_of_ble_eq_true hpos
            have hle : P.cellsOf f.type ≤ zs.length := Nat.le_of_ble_eq_true hle
            have hlx := kinds_length hx
            have hly := kinds_length hy
            rw [List.length_drop] at hlx hly
            obtain ⟨i, hi⟩ := Option.isSome_iff_exists.1 hi
            have hu' : ∃ D, P.underlying f.type = some D ∧ ∀ n e, D ≠ .array n e := by
              cases hun : P.underlying f.type with
              | none => cases n <;> simp [eqTB, hun] at h1
              | some D => refine ⟨D, rfl, fun k e he => ?_⟩; subst he; cases n <;> simp [eqTB, hun] at h1
            obtain ⟨D, hD, hDa⟩ := hu'
            have px := part_val hi hD hDa (xs := xs) (off := off) (List.getElem?_eq_getElem (by omega))
            have py := part_val hi hD hDa (xs := ys) (off := off) (List.getElem?_eq_getElem (by omega))
            have px := px.resolve_right (by omega)
            have py := py.resolve_right (by omega)
            obtain ⟨a, b, ha, hb, rfl⟩ := eqVals_split (P.cellsOf f.type) he
            have hA := eqTB_ok P n d h1 (kinds_take _ hx).1 (kinds_take _ hy).1 ha
            rw [Op.eqFields, if_pos hname]
            simp only [hoff, pureRun_bind, px, py, Option.bind_some, hA]
            cases a with
            | false => rfl
            | true =>
              simp only [Bool.not_true, Bool.false_eq_true, if_false, Bool.true_and]
              simp only [List.drop_drop] at hb
              refine ih _ _ _ h2 ?_ ?_ hb
              · have := (kinds_take (P.cellsOf f.type) hx).2; rw [List.drop_drop] at this; exact this
              · have := (kinds_take (P.cellsOf f.type) hy).2; rw [List.drop_drop] at this; exact this
        have := key fs.toList 0 zs r h (by simpa using hx) (by simpa using hy) (by simpa using he)
        rw [← this]
        rw [Op.equalIn]
        simp only [pureRun_bind, pureRun_underlying hu, Option.bind_some, program, pureRun, hst, Bool.false_eq_true, if_false]
        rw [← Array.forIn_toList]
        generalize fs.toList = fs
        clear this key h hu hst hn
        induction fs with
        | nil => rfl
        | cons f fs ih =>
          simp only [List.forIn_cons, Op.eqFields]
          split
          · simp only [pureRun_bind]
            cases pureRun P (part f.type xs.toArray f.offset) with
            | none => rfl
            | some a =>
              cases pureRun P (part f.type ys.toArray f.offset) with
              | none => rfl
              | some b =>
                simp only [Option.bind_some]
                cases pureRun P (Op.equalIn (n + d) f.type a b) with
                | none => rfl
                | some q =>
                  cases q
                  · rfl
                  · simp only [Option.bind_some, Bool.not_true, Bool.false_eq_true, if_false, pureRun_pure]
                    simpa only [pureRun_bind, Option.bind_assoc] using ih
          · simp only [pureRun_bind, pureRun_pure, Option.bind_some]
            simpa only [pureRun_bind, Option.bind_assoc] using ih
theorem eq_ok {P : Program} {t : TypeId} {zs : List Value} {fs : Array Field} (hu : P.underlying t = some (.struct fs)) (h : eqTB P 8 t zs = true) (a b : List Cl) (r : Bool) (xs ys : List Value) (ha : fits zs a = true) (hb : fits zs b = true) (he : eqCells a b = some r) (hx : a = xs.map (fun x => .c (.sc x))) (hy : b = ys.map (fun x => .c (.sc x))) :
    pureRun P (Op.equal t (.agg xs.toArray) (.agg ys.toArray)) = some r := by
  subst hx hy
  have := eqTB_ok P 8 9992 h (kinds_fits ha) (kinds_fits hb) (by rw [← eqVals_eq]; exact he)
  unfold valT at this
  rw [hu] at this
  exact this
end Go.Proofs.Ytkifojmjcpdnoaa.En

/- The typed evaluator, part 23: a seat's table of types is right. -/
namespace Go.Proofs.Ytkifojmjcpdnoaa.En
open Go

def fdL (P : Program) : List Field → Option (List (Nat × Nat × Bool))
  | [] => some []
  | f :: fs => match agT P f.type, fdL P fs with
    | some ag, some l => some ((f.offset, P.cellsOf f.type, ag) :: l)
    | _, _ => none
def fdA (P : Program) (t : TypeId) : Option (List (Nat × Nat × Bool)) := match P.underlying t with | some (.struct fs) => fdL P fs.toList | _ => none
theorem nth_getElem {α : Type} : ∀ (l : List α) (k : Nat), nth l k = l[k]?
  | [], k => rfl
  | a :: l, 0 => rfl
  | a :: l, k + 1 => by
    show nth l (k + 1 - 1) = _
    rw [Nat.add_sub_cancel, nth_getElem l k, List.getElem?_cons_succ]
theorem fdL_nth {P : Program} : ∀ {fs : List Field} {l : List (Nat × Nat × Bool)}, fdL P fs = some l → ∀ k, (fs[k]?).bind (fun f => (agT P f.type).map fun ag => (f.offset, P.cellsOf f.type, ag)) = nth l k
  | [], l, h, k => by cases h; rfl
  | f :: fs, l, h, k => by
    unfold fdL at h
    split at h
    · rename_i ag l' h1 h2
      cases h
      cases k with
      | zero => simp [h1, nth]
      | succ k =>
        show _ = nth l' (k + 1 - 1)
        rw [Nat.add_sub_cancel, ← fdL_nth h2 k, List.getElem?_cons_succ]
    · cases h
theorem fdA_nth {P : Program} {t : TypeId} {l : List (Nat × Nat × Bool)} (h : fdA P t = some l) (k : Nat) : fdT P t k = nth l k := by
  unfold fdA at h
  unfold fdT
  split at h
  · rename_i fs hu
    simp only [hu]
    rw [← fdL_nth h k, Array.getElem?_toList]
  · cases h
theorem tys_nil (P : Program) : TysOk P [] := fun _ _ h => by cases h
theorem tys_cons {P : Program} {t : Nat} {ti : TI} {l : Tys} (h : ti.ok P t) (hl : TysOk P l) : TysOk P ((t, ti) :: l) := by
  intro u ui hu
  unfold getT at hu
  cases hb : Nat.beq t u with
  | true =>
    rw [hb] at hu
    have := Nat.eq_of_beq_eq_true hb
    subst this
    cases hu
    exact h
  | false =>
    rw [hb] at hu
    exact hl u ui hu
def isSt (P : Program) (t : TypeId) : Bool := match P.underlying t with | some (.struct _) => true | _ => false
section
variable {P : Program} {t : TypeId}
theorem ti_st {n : Sn} {fds : List (Nat × Nat × Bool)} {by' : Nat} (h1 : isSt P t = true) (h2 : P.cellsOf t = (Ty.st n).width) (h3 : shT P 9 t = (Ty.st n).shs) (h4 : zeT P t = some (Ty.st n).zvs) (h5 : fdA P t = some fds)
    (h6 : plT P t = some (fds.map fun x => (x.1, x.2.1))) (h7 : ((Ty.st n).flatB = true → P.eqGuardType P.depth t = false ∧ eqTB P 8 t (Ty.st n).zvs = true)) (hz : (Ty.st n).flatB = false → ∀ xs : List Value, fits (Ty.st n).zvs (xs.map fun x => .c (.sc x)) = false) : TI.ok P t ⟨.st n, 0, fds, by'⟩ := by
  unfold isSt at h1
  split at h1
  case h_2 => cases h1
  rename_i fs hu
  refine ⟨?_, h2, h3, h4, fdA_nth h5, fun _ => h6, fun e he => (by cases he), fun hb => (by cases hb), fun _ hf => (h7 hf).1, fun _ a b r xs ys ha hb he hx hy => ?_, ?_, fun k hk => (by cases hk)⟩
  · simp [agT, hu, Ty.ag]
  · cases hf : (Ty.st n).flatB with
    | true => exact eq_ok hu (h7 hf).2 a b r xs ys ha hb he hx hy
    | false =>
      subst hx
      have := hz hf xs
      rw [show fits (Ty.st n).zvs _ = true from ha] at this
      cases this
  · simp [strT, hu]
theorem ti_ls {e : Ty} {el : Nat} {by' : Nat} {u : TypeId} (h1 : elT P t = some u) (h2 : P.cellsOf t = 1) (h4 : zeT P t = some [.slice none 0 0]) (h5 : P.cellsOf u = e.width) (h6 : P.bytesOf u = el) (h7 : Nat.blt 0 el = true) (h8 : shT P 9 u = e.shs) (h9 : zeT P u = some e.zvs) : TI.ok P t ⟨.ls e, el, [], by'⟩ := by
  have hu : P.underlying t = some (.slice u) := by
    unfold elT at h1
    split at h1
    · rename_i e hu; cases h1; exact hu
    · cases h1
  refine ⟨?_, h2, ?_, h4, fun k => ?_, fun h => (by cases h), fun e' he => ?_, fun hb => (by cases hb), fun h => (by cases h), fun h => (by cases h), ?_, fun k hk => (by cases hk)⟩
  · simp [agT, hu, Ty.ag]
  · simp [shT, hu, Ty.shs, Ty.csh, h5]
  · simp [fdT, hu, nth]
  · cases he
    exact ⟨u, h1, h5, h6, Nat.le_of_ble_eq_true h7, h8, h9⟩
  · simp [strT, hu]
def scT (P : Program) (t : TypeId) (y : Ty) : Bool := match P.underlying t, y with
  | some (.int k), .i k' => decide (k = k')
  | some .bool, .b => true
  | some .string, .s => true
  | _, _ => false
theorem ti_sc {y : Ty} {by' : Nat} (h1 : scT P t y = true) (h2 : P.cellsOf t = 1) (h4 : zeT P t = some y.zvs) : TI.ok P t ⟨y, 0, [], by'⟩ := by
  unfold scT at h1
  split at h1
  · rename_i k k' hu
    refine ⟨(by simp [agT, hu, Ty.ag]), h2, (by simp [shT, hu, Ty.shs, Ty.csh]), h4, fun k => (by simp [fdT, hu, nth]), fun h => (by cases h), fun e' he => (by cases he), fun hb => (by cases hb), fun h => (by cases h), fun h => (by cases h), by simp [strT, hu], fun q hq => (by cases hq; rw [hu]; simp only [decide_eq_true_eq] at h1; rw [h1])⟩
  · rename_i hu
    refine ⟨(by simp [agT, hu, Ty.ag]), h2, (by simp [shT, hu, Ty.shs, Ty.csh]), h4, fun k => (by simp [fdT, hu, nth]), fun h => (by cases h), fun e' he => (by cases he), fun hb => hu, fun h => (by cases h), fun h => (by cases h), by simp [strT, hu], fun q hq => (by cases hq)⟩
  · rename_i hu
    refine ⟨(by simp [agT, hu, Ty.ag]), h2, (by simp [shT, hu, Ty.shs, Ty.csh]), h4, fun k => (by simp [fdT, hu, nth]), fun h => (by cases h), fun e' he => (by cases he), fun hb => (by cases hb), fun h => (by cases h), fun h => (by cases h), by simp [strT, hu], fun q hq => (by cases hq)⟩
  · cases h1
end
theorem fits_slice : ∀ {zs : List Value} (xs : List Value), zs.any (fun z => match z with | .int _ _ => false | .bool _ => false | _ => true) = true → fits zs (xs.map fun x => .c (.sc x)) = false
  | [], xs, h => by cases h
  | z :: zs, xs, h => by
    cases hb : fits (z :: zs) (xs.map fun x => .c (.sc x)) with
    | false => rfl
    | true =>
      exfalso
      cases xs with
      | nil => cases z <;> simp [fits] at hb
      | cons x xs =>
        cases z <;> simp only [fits, List.map_cons, Bool.false_eq_true] at hb
        all_goals cases x <;> simp only [fits, cond_eq_ite, Bool.false_eq_true] at hb
        · rw [fits_slice xs (by simpa using h)] at hb; cases hb
        · split at hb
          · rw [fits_slice xs (by simpa using h)] at hb; cases hb
          · cases hb
end Go.Proofs.Ytkifojmjcpdnoaa.En

/- The typed evaluator, part 24: loops as limits; parameters that are functions. -/
namespace Go.Proofs.Ytkifojmjcpdnoaa.En
open Go

section
variable {σ ε : Type}
def runB (B : σ → Option (σ ⊕ ε)) : Nat → σ → Option ε
  | 0, _ => none
  | n + 1, s => (B s).bind (Sum.elim (runB B n) some)
theorem runB_mono (B : σ → Option (σ ⊕ ε)) : ∀ {n m : Nat} {s : σ} {e : ε}, n ≤ m → runB B n s = some e → runB B m s = some e
  | 0, _, _, _, _, h => by cases h
  | n + 1, 0, _, _, hm, _ => by omega
  | n + 1, m + 1, s, e, hm, h => by
    unfold runB at h ⊢
    cases hB : B s with
    | none => rw [hB] at h; cases h
    | some x =>
      rw [hB] at h
      cases x with
      | inl s' => exact runB_mono B (by omega) h
      | inr e' => exact h
theorem leastN {p : Nat → Prop} (h : ∃ n, p n) : ∃ n, p n ∧ ∀ m, p m → n ≤ m := by
  obtain ⟨n, hn⟩ := h
  induction n using Nat.strongRecOn with
  | _ n ih =>
    by_cases hx : ∃ m, m < n ∧ p m
    · obtain ⟨m, hm, hp⟩ := hx
      exact ih m hm hp
    · exact ⟨n, hn, fun m hm => Nat.le_of_not_lt fun hlt => hx ⟨m, hlt, hm⟩⟩
/-- What a loop comes to. -/
noncomputable def lim (B : σ → Option (σ ⊕ ε)) (s : σ) : Option ε := open Classical in if h : ∃ n, (runB B n s).isSome = true then runB B (Classical.choose h) s else none
noncomputable def limN (B : σ → Option (σ ⊕ ε)) (s : σ) : Nat := open Classical in if h : ∃ n, (runB B n s).isSome = true then Classical.choose (leastN h) else 0
theorem lim_some {B : σ → Option (σ ⊕ ε)} {s : σ} {e : ε} : lim B s = some e ↔ ∃ n, runB B n s = some e := by
  classical
  constructor
  · intro h
    unfold lim at h
    split at h
    · rename_i hx
      exact ⟨_, h⟩
    · cases h
  · rintro ⟨n, h⟩
    have hx : ∃ n, (runB B n s).isSome = true := ⟨n, by rw [h]; rfl⟩
    unfold lim
    rw [dif_pos hx]
    obtain ⟨e', he⟩ := Option.isSome_iff_exists.1 (Classical.choose_spec hx)
    have h1 := runB_mono B (Nat.le_max_left (Classical.choose hx) n) he
    have h2 := runB_mono B (Nat.le_max_right (Classical.choose hx) n) h
    rw [h1] at h2
    cases h2
    exact he
theorem lim_eq (B : σ → Option (σ ⊕ ε)) (s : σ) : lim B s = (B s).bind (Sum.elim (lim B) some) := by
  apply Option.ext
  intro e
  rw [lim_some]
  constructor
  · rintro ⟨n, h⟩
    cases n with
    | zero => cases h
    | succ n =>
      unfold runB at h
      cases hB : B s with
      | none => rw [hB] at h; cases h
      | some x =>
        rw [hB] at h
        cases x with
        | inl s' => exact lim_some.2 ⟨n, h⟩
        | inr e' => exact h
  · intro h
    cases hB : B s with
    | none => rw [hB] at h; cases h
    | some x =>
      rw [hB] at h
      cases x with
      | inl s' =>
        obtain ⟨n, h⟩ := lim_some.1 (show lim B s' = some e from h)
        exact ⟨n + 1, by unfold runB; rw [hB]; exact h⟩
      | inr e' => exact ⟨1, by unfold runB; rw [hB]; exact h⟩
theorem lim_round (B : σ → Option (σ ⊕ ε)) (s : σ) (e : ε) (h : lim B s = some e) : Round (lim B) (limN B) s e (B s) := by
  classical
  have h0 := h
  rw [lim_eq] at h
  cases hB : B s with
  | none => rw [hB] at h; cases h
  | some x =>
    rw [hB] at h
    cases x with
    | inl s' =>
      refine ⟨?_, h⟩
      have hx : ∃ n, (runB B n s).isSome = true := by
        obtain ⟨n, hn⟩ := lim_some.1 h0
        exact ⟨n, by rw [hn]; rfl⟩
      have hx' : ∃ n, (runB B n s').isSome = true := by
        obtain ⟨n, hn⟩ := lim_some.1 (show lim B s' = some e from h)
        exact ⟨n, by rw [hn]; rfl⟩
      unfold limN
      rw [dif_pos hx, dif_pos hx']
      have := (Classical.choose_spec (leastN hx)).1
      cases hn : Classical.choose (leastN hx) with
      | zero => rw [hn] at this; cases this
      | succ n =>
        rw [hn] at this
        unfold runB at this
        rw [hB] at this
        exact Nat.lt_succ_of_le ((Classical.choose_spec (leastN hx')).2 n this)
    | inr e' => exact (Option.some.inj h)
end
theorem elim_bind {α β γ δ : Type} (x : α ⊕ β) (f : α → Option γ) (g : β → Option γ) (h : γ → Option δ) : (Sum.elim f g x).bind h = Sum.elim (fun a => (f a).bind h) (fun a => (g a).bind h) x := by cases x <;> rfl

/-! parameters: data, captured variables, functions -/
inductive Par where
  | ty (t : Ty) | pr (t : Ty) | fc (g : Nat) | fn (g : Nat) (caps : List Ty)
abbrev Par.D : Par → Type
  | .ty t => t.D
  | .pr t => t.D
  | .fc _ => Unit
  | .fn _ caps => Args.D caps
abbrev Pars.D : List Par → Type
  | [] => Unit
  | p :: l => p.D × Pars.D l
def capsOf : (l : List Ty) → Args.D l → List Cl
  | [], _ => []
  | t :: l, x => .pro (t.flat x.1) :: capsOf l x.2
def Par.v1 : (p : Par) → p.D → V1
  | .ty t, x => arg t x
  | .pr t, x => .cl (.pro (t.flat x))
  | .fc g, _ => .cl (.c (.sc (.func (.func g) #[] #[])))
  | .fn g caps, x => .fn g (capsOf caps x)
def parsOf : (l : List Par) → Pars.D l → List V1
  | [], _ => []
  | p :: l, x => p.v1 x.1 :: parsOf l x.2
def unPr {ρ : Type} (t : Ty) (c : Cl) (κ : t.D → Option ρ) : Option ρ := match c with
  | .pro xs => (match t.unflat xs with | some x => κ x | none => none)
  | _ => none
def unCaps {ρ : Type} : (l : List Ty) → List Cl → (Args.D l → Option ρ) → Option ρ
  | [], [], κ => κ ()
  | t :: l, c :: cs, κ => unPr t c fun x => unCaps l cs fun y => κ (x, y)
  | _, _, _ => none
def unP {ρ : Type} : (p : Par) → V1 → (p.D → Option ρ) → Option ρ
  | .ty t, a, κ => un t a κ
  | .pr t, .cl c, κ => unPr t c κ
  | .fc g, .cl (.c (.sc (.func (.func g') cs ts))), κ => bif Nat.beq g' g && Nat.beq cs.size 0 && Nat.beq ts.size 0 then κ () else none
  | .fn g caps, .fn g' cs, κ => bif Nat.beq g' g then unCaps caps cs κ else none
  | _, _, _ => none
def unPs {ρ : Type} : (l : List Par) → List V1 → (Pars.D l → Option ρ) → Option ρ
  | [], [], κ => κ ()
  | p :: l, a :: as, κ => unP p a fun x => unPs l as fun y => κ (x, y)
  | _, _, _ => none
def entP (ps : List Par) (rs : List Ty) (G : Pars.D ps → Option (Args.D rs)) : Ent := fun args _ κ => unPs ps args fun x => (G x).bind fun y => ret (pairs rs y) κ
theorem unPr_some {ρ : Type} {t : Ty} {c : Cl} {κ : t.D → Option ρ} {r : ρ} (h : unPr t c κ = some r) : ∃ x, c = .pro (t.flat x) ∧ κ x = some r := by
  unfold unPr at h
  split at h
  · split at h
    · rename_i x hx
      exact ⟨x, by rw [t.unflat_some _ _ hx], h⟩
    · cases h
  · cases h
theorem unCaps_some {ρ : Type} : ∀ {l : List Ty} {cs : List Cl} {κ : Args.D l → Option ρ} {r : ρ}, unCaps l cs κ = some r → ∃ x, cs = capsOf l x ∧ κ x = some r
  | [], [], κ, r, h => ⟨(), rfl, h⟩
  | t :: l, c :: cs, κ, r, h => by
    unfold unCaps at h
    obtain ⟨x, h1, h⟩ := unPr_some h
    obtain ⟨y, h2, h⟩ := unCaps_some h
    exact ⟨(x, y), by rw [h1, h2]; rfl, h⟩
  | [], _ :: _, κ, r, h => by simp [unCaps] at h
  | _ :: _, [], κ, r, h => by simp [unCaps] at h
theorem unP_some {ρ : Type} {p : Par} {a : V1} {κ : p.D → Option ρ} {r : ρ} (h : unP p a κ = some r) : ∃ x, a = p.v1 x ∧ κ x = some r := by
  unfold unP at h
  split at h
  · exact un_some h
  · obtain ⟨x, h1, h⟩ := unPr_some h
    exact ⟨x, by rw [h1]; rfl, h⟩
  · obtain ⟨h1, h⟩ := bif_some h
    simp only [Bool.and_eq_true] at h1
    obtain ⟨⟨h1, h2⟩, h3⟩ := h1
    have h1 := Nat.eq_of_beq_eq_true h1
    have h2 := Array.eq_empty_of_size_eq_zero (Nat.eq_of_beq_eq_true h2)
    have h3 := Array.eq_empty_of_size_eq_zero (Nat.eq_of_beq_eq_true h3)
    exact ⟨(), by rw [h1, h2, h3]; rfl, h⟩
  · obtain ⟨h1, h⟩ := bif_some h
    obtain ⟨x, h2, h⟩ := unCaps_some h
    exact ⟨x, by rw [Nat.eq_of_beq_eq_true h1, h2]; rfl, h⟩
  · cases h
theorem unPs_some {ρ : Type} : ∀ {l : List Par} {as : List V1} {κ : Pars.D l → Option ρ} {r : ρ}, unPs l as κ = some r → ∃ x, as = parsOf l x ∧ κ x = some r
  | [], [], κ, r, h => ⟨(), rfl, h⟩
  | p :: l, a :: as, κ, r, h => by
    unfold unPs at h
    obtain ⟨x, h1, h⟩ := unP_some h
    obtain ⟨y, h2, h⟩ := unPs_some h
    exact ⟨(x, y), by rw [h1, h2]; rfl, h⟩
  | [], _ :: _, κ, r, h => by simp [unPs] at h
  | _ :: _, [], κ, r, h => by simp [unPs] at h
theorem capsOf_ok (G : List (Option Tre)) : ∀ (l : List Ty) (x : Args.D l), ∀ c ∈ capsOf l x, c.ok G
  | [], x, c, h => by cases h
  | t :: l, x, c, h => by
    rcases List.mem_cons.1 h with rfl | h
    · trivial
    · exact capsOf_ok G l x.2 c h
theorem Par.ok (p : Par) (x : p.D) : (p.v1 x).ok [] := by
  cases p with
  | ty t => exact arg_ok t x
  | pr t => trivial
  | fc g => trivial
  | fn g caps => exact capsOf_ok [] caps x
theorem parsOf_ok : ∀ (l : List Par) (x : Pars.D l), ∀ a ∈ parsOf l x, a.ok []
  | [], x, a, h => by cases h
  | p :: l, x, a, h => by
    rcases List.mem_cons.1 h with rfl | h
    · exact p.ok x.1
    · exact parsOf_ok l x.2 a h
/-- A contract, by a tree of choices. -/
theorem entP_of {P : Program} {Θ : Tys} {Y : Tab} {Λ : Loops} (hΘ : TysOk P Θ) (hY : TabOk P Y) (hm : P.follows .mixedOrders = true) {f : FuncId} {fn : Func} (hf : fnT P f = some fn) (hL : ∀ c, fn.body = some c → LoopsOk P Λ (loopsIn c)) {ps : List Par} {rs : List Ty} {G : Pars.D ps → Option (Args.D rs)} (hk : Nat.blt f 1048576 = true)
    (F : Pars.D ps → Option (Args.D rs)) (hF : ∀ x, fnK Θ Y Λ fn (parsOf ps x) (fun v g => some (v, g)) = (F x).bind fun y => ret (pairs rs y) (fun v g => some (v, g))) (hG : ∀ x y, G x = some y → F x = some y) : EntOk P f (entP ps rs G) := by
  intro args ρ κ r hr
  unfold entP at hr
  obtain ⟨x, rfl, hr2⟩ := unPs_some hr
  obtain ⟨y, h1, hr3⟩ := Option.bind_eq_some_iff.1 hr2
  exact ⟨_, _, .of_fn (fnK_ok hΘ hY hm hf hL (parsOf_ok ps x) (by rw [hF, hG x y h1]; rfl)) (Nat.le_of_ble_eq_true hk), ret_ok _, hr3⟩
/-- A function that takes a slice over. -/
def entM (el : Ty) (ps : List Par) (rs : List Ty) (G : List el.D → Pars.D ps → Option (Args.D rs)) : Ent := fun args _ κ => match args with
  | .cl (.c (.ls t l)) :: as => (match castL t el l with
    | some l => unPs ps as fun x => (G l x).bind fun y => ret (pairs rs y) κ
    | none => none)
  | _ => none
/-- What a function that writes into a slice leaves: the slice and its results. -/
def retI {ρ : Type} (el : Ty) (rs : List Ty) (y : List el.D × Args.D rs) (κ : V → List Tre → Option ρ) : Option ρ := κ (oneV (retVs 1 (pairs rs y.2))) (⟨el, y.1, none⟩ :: retGs (pairs rs y.2))
def entI (el : Ty) (ps : List Par) (rs : List Ty) (G : List el.D → Pars.D ps → Option (List el.D × Args.D rs)) : Ent := fun args _ κ => match args with
  | .cl (.c (.ls t l)) :: as => (match castL t el l with
    | some l => unPs ps as fun x => (G l x).bind fun y => retI el rs y κ
    | none => none)
  | _ => none
theorem entM_of {P : Program} {Θ : Tys} {Y : Tab} {Λ : Loops} (hΘ : TysOk P Θ) (hY : TabOk P Y) (hm : P.follows .mixedOrders = true) {f : FuncId} {fn : Func} (hf : fnT P f = some fn) (hL : ∀ c, fn.body = some c → LoopsOk P Λ (loopsIn c)) {el : Ty} {ps : List Par} {rs : List Ty} {G : List el.D → Pars.D ps → Option (Args.D rs)}
    (F : List el.D → Pars.D ps → Option (Args.D rs)) (hF : ∀ l x, fnHK Θ Y Λ fn 0 el l (parsOf ps x) (fun v g => some (v, g)) = (F l x).bind fun y => ret (pairs rs y) (fun v g => some (v, g))) (hG : ∀ l x y, G l x = some y → F l x = some y) : EntOk P (mvOf f) (entM el ps rs G) := by
  intro args ρ κ r hr
  unfold entM at hr
  split at hr
  · rename_i t l as
    split at hr
    · rename_i l' hl
      obtain ⟨e, hl⟩ := castL_some hl
      subst e
      have hl : l = l' := hl
      subst hl
      obtain ⟨x, rfl, hr2⟩ := unPs_some hr
      obtain ⟨y, h1, hr3⟩ := Option.bind_eq_some_iff.1 hr2
      exact ⟨_, _, .of_mv ⟨_, rfl, fnHK_ok hΘ hY hm hf hL (Nat.zero_le 1) (parsOf_ok ps x) (by rw [hF, hG l x y h1]; rfl)⟩, ret_ok _, hr3⟩
    · cases hr
  · cases hr
theorem retI_ok (el : Ty) (l : List el.D) (ys : List ((t : Ty) × t.D)) : (oneV (retVs 1 ys)).ok ((⟨el, l, none⟩ :: retGs ys).map some) := by
  have h := retVs_ok ys [⟨el, l, none⟩]
  simp only [List.length_singleton, List.singleton_append] at h
  match retVs 1 ys, h with
  | [], _ => exact fun x hx => by cases hx
  | [v], h => exact h v List.mem_cons_self
  | v :: u :: vs, h => exact h
theorem entI_of {P : Program} {Θ : Tys} {Y : Tab} {Λ : Loops} (hΘ : TysOk P Θ) (hY : TabOk P Y) (hm : P.follows .mixedOrders = true) {f : FuncId} {fn : Func} (hf : fnT P f = some fn) (hL : ∀ c, fn.body = some c → LoopsOk P Λ (loopsIn c)) {el : Ty} {ps : List Par} {rs : List Ty} {G : List el.D → Pars.D ps → Option (List el.D × Args.D rs)} (hk : Nat.blt f 1048576 = true)
    (F : List el.D → Pars.D ps → Option (List el.D × Args.D rs)) (hF : ∀ l x, fnHK Θ Y Λ fn 1 el l (parsOf ps x) (fun v g => some (v, g)) = (F l x).bind fun y => retI el rs y (fun v g => some (v, g))) (hG : ∀ l x y, G l x = some y → F l x = some y) : EntOk P (ioOf f) (entI el ps rs G) := by
  intro args ρ κ r hr
  unfold entI at hr
  split at hr
  · rename_i t l as
    split at hr
    · rename_i l' hl
      obtain ⟨e, hl⟩ := castL_some hl
      subst e
      have hl : l = l' := hl
      subst hl
      obtain ⟨x, rfl, hr2⟩ := unPs_some hr
      obtain ⟨y, h1, hr3⟩ := Option.bind_eq_some_iff.1 hr2
      exact ⟨_, _, .of_io ⟨_, rfl, fnHK_ok hΘ hY hm hf hL (Nat.le_refl 1) (parsOf_ok ps x) (by rw [hF, hG l x y h1]; rfl)⟩ (Nat.le_of_ble_eq_true hk), retI_ok _ _ (pairs rs y.2), hr3⟩
    · cases hr
  · cases hr
/-- Two contracts of one function, by its arguments. -/
def entOr (p : List V1 → Bool) (e1 e2 : Ent) : Ent := fun args ρ κ => bif p args then e1 args ρ κ else e2 args ρ κ
theorem entOr_ok {P : Program} {f : FuncId} {p : List V1 → Bool} {e1 e2 : Ent} (h1 : EntOk P f e1) (h2 : EntOk P f e2) : EntOk P f (entOr p e1 e2) := by
  intro args ρ κ r hr
  unfold entOr at hr
  cases hp : p args with
  | true => rw [hp] at hr; exact h1 args ρ κ r hr
  | false => rw [hp] at hr; exact h2 args ρ κ r hr
/-- The n-th argument is this function. -/
def isPar (n g : Nat) (args : List V1) : Bool := match nth args n with
  | some (.fn g' _) => Nat.beq g' g
  | some (.cl (.c (.sc (.func (.func g') _ _)))) => Nat.beq g' g
  | _ => false
/-! names for the parts of a function -/
def bodyOf (fn : Func) : Code := match fn.body with | some c => c | none => .skip
def loopAt (c : Code) (n : Nat) : Code := (nth (loopsIn c) n).getD .skip
theorem hL_of {P : Program} {Λ : Loops} {fn : Func} {cs : List Code} (h : loopsIn (bodyOf fn) = cs) (H : LoopsOk P Λ cs) (c : Code) (hc : fn.body = some c) : LoopsOk P Λ (loopsIn c) := by
  have : bodyOf fn = c := by unfold bodyOf; rw [hc]
  rw [← this, h]
  exact H
theorem hL_in {P : Program} {Λ : Loops} {c : Code} {cs : List Code} (h : loopsIn c = cs) (H : LoopsOk P Λ cs) : LoopsOk P Λ (loopsIn c) := by rw [h]; exact H
end Go.Proofs.Ytkifojmjcpdnoaa.En

/- The typed evaluator, part 25: arguments that read as data are typed data. -/
namespace Go.Proofs.Ytkifojmjcpdnoaa.En
open Go

inductive Kc where | i (k : IntKind) | b | s | ls (t : Ty)
  deriving DecidableEq
def kcOf : List (Option Ty) → List Value → List Kc
  | some t :: l, _ :: m => .ls t :: kcOf l m
  | none :: l, .int k _ :: m => .i k :: kcOf l m
  | none :: l, .bool _ :: m => .b :: kcOf l m
  | none :: l, _ :: m => .s :: kcOf l m
  | _, _ => []
def Ty.kc (t : Ty) : List Kc := kcOf t.csh t.zvs
def fitK : List Kc → List C → Prop
  | [], [] => True
  | .i k :: l, c :: m => (∃ n, c = .sc (.int k n)) ∧ fitK l m
  | .b :: l, c :: m => (∃ v, c = .sc (.bool v)) ∧ fitK l m
  | .s :: l, c :: m => (∃ v, c = .sc (.string v)) ∧ fitK l m
  | .ls t :: l, c :: m => (∃ v, c = .ls t v) ∧ fitK l m
  | _, _ => False
theorem fit_nil {cs : List C} (h : fitK [] cs) : cs = [] := by cases cs with | nil => rfl | cons => exact h.elim
theorem fit_i {k : IntKind} {l : List Kc} {cs : List C} (h : fitK (.i k :: l) cs) : ∃ n r, cs = .sc (.int k n) :: r ∧ fitK l r := by
  cases cs with
  | nil => exact h.elim
  | cons c r => obtain ⟨⟨n, rfl⟩, h⟩ := h; exact ⟨n, r, rfl, h⟩
theorem fit_b {l : List Kc} {cs : List C} (h : fitK (.b :: l) cs) : ∃ n r, cs = .sc (.bool n) :: r ∧ fitK l r := by
  cases cs with
  | nil => exact h.elim
  | cons c r => obtain ⟨⟨n, rfl⟩, h⟩ := h; exact ⟨n, r, rfl, h⟩
theorem fit_s {l : List Kc} {cs : List C} (h : fitK (.s :: l) cs) : ∃ n r, cs = .sc (.string n) :: r ∧ fitK l r := by
  cases cs with
  | nil => exact h.elim
  | cons c r => obtain ⟨⟨n, rfl⟩, h⟩ := h; exact ⟨n, r, rfl, h⟩
theorem fit_l {t : Ty} {l : List Kc} {cs : List C} (h : fitK (.ls t :: l) cs) : ∃ n r, cs = .ls t n :: r ∧ fitK l r := by
  cases cs with
  | nil => exact h.elim
  | cons c r => obtain ⟨⟨n, rfl⟩, h⟩ := h; exact ⟨n, r, rfl, h⟩
theorem unflat_kc (t : Ty) {cs : List C} (h : fitK t.kc cs) : ∃ x, t.flat x = cs := by
  have : (t.unflat cs).isSome = true := by
    cases t with
    | st n =>
      cases n
      all_goals
        repeat ((first | replace h := fit_i h | replace h := fit_b h | replace h := fit_l h | replace h := fit_s h); obtain ⟨_, _, rfl, h⟩ := h)
        cases fit_nil h
        rfl
    | i k => replace h := fit_i h; obtain ⟨_, _, rfl, h⟩ := h; cases fit_nil h; simp [Ty.unflat, gI, gN]
    | b => replace h := fit_b h; obtain ⟨_, _, rfl, h⟩ := h; cases fit_nil h; rfl
    | s => replace h := fit_s h; obtain ⟨_, _, rfl, h⟩ := h; cases fit_nil h; rfl
    | ls u => replace h := fit_l h; obtain ⟨_, _, rfl, h⟩ := h; cases fit_nil h; simp [Ty.unflat, gL, gN]
  obtain ⟨x, hx⟩ := Option.isSome_iff_exists.1 this
  exact ⟨x, t.unflat_some _ _ hx⟩

/-- Data that a machine can hold. -/
inductive T.bd : T → Prop where
  | int {k : IntKind} {n : Int} (h : k.min ≤ n ∧ n ≤ k.max) : T.bd (.sc (.int k n))
  | bool (v : Bool) : T.bd (.sc (.bool v))
  | str (v : ByteArray) : T.bd (.sc (.string v))
  | sl {sz : Nat} {rows : List (List T)} (hl : rows.length ≤ maxLen) (h : ∀ r ∈ rows, ∀ x ∈ r, T.bd x) : T.bd (.sl sz rows)
def bdT (t : Ty) (x : t.D) : Prop := ∀ y ∈ t.row x, T.bd y

def trodFs (P : Program) (e : TypeId → List Kc → Bool) : List Field → Nat → List Kc → Bool
  | [], _, [] => true
  | [], _, _ :: _ => false
  | f :: fs, off, ks => Nat.beq f.offset off && Nat.ble (P.cellsOf f.type) ks.length && e f.type (ks.take (P.cellsOf f.type)) && trodFs P e fs (off + P.cellsOf f.type) (ks.drop (P.cellsOf f.type))
def trodB (P : Program) (Θ : Tys) : Nat → TypeId → List Kc → Bool
  | 0, _, _ => false
  | d + 1, t, ks => match P.underlying t with
    | some (.int k) => decide (ks = [.i k])
    | some .bool => decide (ks = [.b])
    | some (.slice e) => (match getT Θ e with
      | some ti => decide (ks = [.ls ti.ty]) && trodB P Θ d e ti.ty.kc && Nat.beq (P.cellsOf e) ti.ty.width && Nat.blt 0 ti.ty.width
      | none => false)
    | some (.struct fs) => trodFs P (trodB P Θ d) fs.toList 0 ks && Nat.beq (P.cellsOf t) ks.length
    | _ => false
theorem fitK_app : ∀ {k l : List Kc} {cs ds : List C}, fitK k cs → fitK l ds → fitK (k ++ l) (cs ++ ds)
  | [], l, [], ds, _, h => h
  | [], _, _ :: _, _, h, _ => h.elim
  | a :: k, _, [], _, h, _ => by cases a <;> exact h.elim
  | a :: k, l, c :: cs, ds, h, h2 => by cases a <;> exact ⟨h.1, fitK_app h.2 h2⟩
theorem fitK_length : ∀ {k : List Kc} {cs : List C}, fitK k cs → cs.length = k.length
  | [], [], _ => rfl
  | [], _ :: _, h => h.elim
  | a :: k, [], h => by cases a <;> exact h.elim
  | a :: k, c :: cs, h => by cases a <;> simp [fitK_length h.2]

section
variable {H : Type} {enc : TypeId × Value → H} {P : Program} {w : World} {base : Nat} {sp : Nat → Bool} {held : Bool} {Θ : Tys}
/-- Cells that hold typed data. -/
structure Cs (w : World) (cs : List Value) (Xs : List C) : Prop where
  len : Xs.length = cs.length
  one : ∀ u ∈ cs, u.oneCell' = true
  ro : ∀ (k : Nat) (c : C) (u : Value), Xs[k]? = some c → cs[k]? = some u → RO w (fun b => b < w.heap.size) c.tree u
  bd : ∀ c ∈ Xs, T.bd c.tree
theorem Cs.nil : Cs w [] [] := ⟨rfl, fun _ h => (by cases h), fun _ _ _ h => (by cases h), fun _ h => (by cases h)⟩
theorem Cs.one_mk {u : Value} {c : C} (h1 : u.oneCell' = true) (h2 : RO w (fun b => b < w.heap.size) c.tree u) (h3 : T.bd c.tree) : Cs w [u] [c] := by
  refine ⟨rfl, fun v hv => ?_, fun k c' u' hk hu => ?_, fun c' hc => ?_⟩
  · rw [List.mem_singleton.1 hv]; exact h1
  · cases k with
    | zero => cases hk; cases hu; exact h2
    | succ k => simp at hk
  · rw [List.mem_singleton.1 hc]; exact h3
theorem Cs.app {cs ds : List Value} {Xs Ys : List C} (h : Cs w cs Xs) (k : Cs w ds Ys) : Cs w (cs ++ ds) (Xs ++ Ys) := by
  refine ⟨by rw [List.length_append, List.length_append, h.len, k.len], fun u hu => ?_, fun j c u hj hu => ?_, fun c hc => ?_⟩
  · rcases List.mem_append.1 hu with hu | hu
    · exact h.one u hu
    · exact k.one u hu
  · by_cases hlt : j < Xs.length
    · rw [List.getElem?_append_left hlt] at hj
      rw [List.getElem?_append_left (by rw [← h.len]; exact hlt)] at hu
      exact h.ro j c u hj hu
    · rw [List.getElem?_append_right (by omega)] at hj
      rw [List.getElem?_append_right (by rw [← h.len]; omega), ← h.len] at hu
      exact k.ro _ c u hj hu
  · rcases List.mem_append.1 hc with hc | hc
    · exact h.bd c hc
    · exact k.bd c hc
theorem trod_cs (hΘ : TysOk P Θ) : ∀ (d : Nat) {t : TypeId} {ks : List Kc} {n : Nat} {cs : List Value} {y : DataW H × List MemPlace}, trodB P Θ d t ks = true → DataW.trod enc P w base sp held n t cs = some y → ∃ Xs : List C, fitK ks Xs ∧ Cs w cs Xs
  | 0, t, ks, n, cs, y, hb, _ => by cases hb
  | d + 1, t, ks, n, cs, y, hb, h => by
    unfold trodB at hb
    split at hb
    · rename_i k hu
      have := of_decide_eq_true hb
      subst this
      obtain ⟨v, rfl, _, hw⟩ := DataW.trod_int hu h
      simp only [Lit.wf, Bool.and_eq_true, decide_eq_true_eq] at hw
      exact ⟨[.sc (.int k v)], ⟨⟨v, rfl⟩, trivial⟩, Cs.one_mk rfl (.sc rfl) (.int hw)⟩
    · rename_i hu
      have := of_decide_eq_true hb
      subst this
      obtain ⟨v, rfl, _⟩ := DataW.trod_bool hu h
      exact ⟨[.sc (.bool v)], ⟨⟨v, rfl⟩, trivial⟩, Cs.one_mk rfl (.sc rfl) (.bool v)⟩
    · rename_i e hu
      split at hb
      · rename_i ti hti
        simp only [Bool.and_eq_true, decide_eq_true_eq] at hb
        obtain ⟨⟨⟨rfl, hb⟩, hw⟩, hpos⟩ := hb
        have hw := Nat.eq_of_beq_eq_true hw
        have hpos : 0 < ti.ty.width := Nat.le_of_ble_eq_true hpos
        rcases Go.Deep.open_slice hu h with ⟨rfl, _⟩ | ⟨ad, len, cap, m, n', D, Pl, rfl, _, hl, hm, hmm, _, hx⟩
        · exact ⟨[.ls ti.ty []], ⟨⟨[], rfl⟩, trivial⟩, Cs.one_mk rfl (.em _ _ _) (.sl (Nat.zero_le _) fun r hr => by cases hr)⟩
        · have hlm : len ≤ m := by rw [hmm]; split <;> omega
          have each : ∀ i : Fin len, ∃ z : ti.ty.D, ∃ cs', w.cells? base (ad.add (i.1 * P.cellsOf e)) (P.cellsOf e) = some cs' ∧ Cs w cs' (ti.ty.flat z) := by
            intro i
            obtain ⟨cs', h1, h2⟩ := hx i.1 (by have := i.2; omega)
            obtain ⟨Xs, h3, h4⟩ := trod_cs hΘ d hb h2
            obtain ⟨z, rfl⟩ := unflat_kc _ h3
            exact ⟨z, cs', h1, h4⟩
          let l : List ti.ty.D := List.ofFn fun i => (each i).choose
          have hll : l.length = len := by simp [l]
          have row : ∀ (i : Nat) (r : List T), (l.map ti.ty.row)[i]? = some r → ∃ hi : i < len, ∃ cs', w.cells? base (ad.add (i * P.cellsOf e)) (P.cellsOf e) = some cs' ∧ ∃ z, r = (ti.ty.flat z).map C.tree ∧ Cs w cs' (ti.ty.flat z) := by
            intro i r hr
            rw [List.getElem?_map, Option.map_eq_some_iff] at hr
            obtain ⟨z, hz, rfl⟩ := hr
            obtain ⟨h1, h2⟩ := List.getElem?_eq_some_iff.1 hz
            have hi : i < len := by rw [hll] at h1; exact h1
            refine ⟨hi, (each ⟨i, hi⟩).choose_spec.choose, (each ⟨i, hi⟩).choose_spec.choose_spec.1, z, ti.ty.row_flat z, ?_⟩
            have e1 : z = (each ⟨i, hi⟩).choose := by rw [← h2]; simp [l]
            rw [e1]
            exact (each ⟨i, hi⟩).choose_spec.choose_spec.2
          refine ⟨[.ls ti.ty l], ⟨⟨l, rfl⟩, trivial⟩, Cs.one_mk rfl ?_ ?_⟩
          · show RO w _ (.sl ti.ty.width (l.map ti.ty.row)) _
            by_cases h0 : len = 0
            · have : l = [] := List.length_eq_zero_iff.1 (by rw [hll, h0])
              rw [this, h0]
              exact .em _ _ _
            · have hlr : (l.map ti.ty.row).length = len := by rw [List.length_map, hll]
              have hlen : ∀ (i : Nat) (r : List T), (l.map ti.ty.row)[i]? = some r → r.length = ti.ty.width := by
                intro i r hr
                obtain ⟨hi, cs', h1, z, rfl, h2⟩ := row i r hr
                obtain ⟨_, h3, _⟩ := World.cells?_some h1
                rw [List.length_map, h2.len, h3, hw]
              have hcell : ∀ (i : Nat) (r : List T) (j : Nat) (x : T), (l.map ti.ty.row)[i]? = some r → r[j]? = some x → ∃ u, w.cell? (ad.add (i * ti.ty.width + j)) = some u ∧ RO w (fun b => b < w.heap.size) x u := by
                intro i r j x hr hx
                obtain ⟨hi, cs', h1, z, rfl, h2⟩ := row i r hr
                obtain ⟨_, h3, h4⟩ := World.cells?_some h1
                rw [List.getElem?_map, Option.map_eq_some_iff] at hx
                obtain ⟨c, hc, rfl⟩ := hx
                have hj : j < cs'.length := by rw [← h2.len]; exact (List.getElem?_eq_some_iff.1 hc).1
                refine ⟨cs'[j], ?_, h2.ro j c _ hc (List.getElem?_eq_getElem hj)⟩
                rw [← Go.Deep.add_add, ← hw, h4 j (by omega), List.getElem?_eq_getElem hj]
              have hne : ∃ u, w.cell? ad = some u := by
                obtain ⟨r, hr⟩ : ∃ r, (l.map ti.ty.row)[0]? = some r := ⟨_, List.getElem?_eq_getElem (by omega)⟩
                have h5 := hlen 0 r hr
                obtain ⟨x, hx⟩ : ∃ x, r[0]? = some x := ⟨_, List.getElem?_eq_getElem (by omega)⟩
                obtain ⟨u, hu', _⟩ := hcell 0 r 0 x hr hx
                simp only [Nat.zero_mul, Nat.zero_add, Addr.add, if_true] at hu'
                exact ⟨u, hu'⟩
              obtain ⟨u0, hu0⟩ := hne
              rw [← hlr]
              refine .sl (fun i j => ((w.cell? (ad.add (i * ti.ty.width + j))).getD undef)) (by omega) ?_ (World.block_lt_of_cell? w _ hu0) hlen ?_ ?_
              · cases hsp : ad.spot with
                | none => rfl
                | some s =>
                  unfold World.cell? at hu0
                  rw [hsp] at hu0
                  split at hu0
                  · simp at hu0
                  · cases hu0
              · intro i r j x hr hx
                obtain ⟨u, h1, _⟩ := hcell i r j x hr hx
                rw [h1]
                rfl
              · intro i r j x hr hx
                obtain ⟨u, h1, h2⟩ := hcell i r j x hr hx
                rw [h1]
                exact h2
          · refine .sl (by rw [List.length_map, hll]; unfold maxLen at hm ⊢; omega) fun r hr x hx => ?_
            obtain ⟨i, hi⟩ := List.getElem?_of_mem hr
            obtain ⟨_, cs', _, z, rfl, h2⟩ := row i r hi
            obtain ⟨c, hc, rfl⟩ := List.mem_map.1 hx
            exact h2.bd c hc
      · cases hb
    · rename_i fs hu
      simp only [Bool.and_eq_true] at hb
      obtain ⟨hb, hkl0⟩ := hb
      have hkl0 := Nat.eq_of_beq_eq_true hkl0
      obtain ⟨xs, m, _, _, hl, hlen, hf⟩ := DataW.trod_struct hu h
      have key : ∀ (gs : List Field) (off i0 : Nat) (ks : List Kc), trodFs P (trodB P Θ d) gs off ks = true → (∀ (i : Nat) (f : Field), gs[i]? = some f → fs[i0 + i]? = some f) → ∃ Xs : List C, fitK ks Xs ∧ Cs w ((cs.drop off).take ks.length) Xs ∧ off + ks.length ≤ max off cs.length := by
        intro gs
        induction gs with
        | nil =>
          intro off i0 ks hk _
          cases ks with
          | nil => exact ⟨[], trivial, by simpa using Cs.nil, by simp; omega⟩
          | cons => cases hk
        | cons f gs ih =>
          intro off i0 ks hk hg
          simp only [trodFs, Bool.and_eq_true] at hk
          obtain ⟨⟨⟨ho, hle⟩, h1⟩, h2⟩ := hk
          have ho := Nat.eq_of_beq_eq_true ho
          have hle : P.cellsOf f.type ≤ ks.length := Nat.le_of_ble_eq_true hle
          have hfi : fs[i0]? = some f := by have := hg 0 f rfl; simpa using this
          have hi0 : i0 < xs.length := by rw [hlen]; exact (Array.getElem?_eq_some_iff.1 hfi).1
          have h3 := hf i0 f hfi
          rw [List.getElem?_eq_getElem hi0, ho] at h3
          obtain ⟨Xs, k1, k2⟩ := trod_cs hΘ d h1 h3
          obtain ⟨Ys, k3, k4, k5⟩ := ih (off + P.cellsOf f.type) (i0 + 1) _ h2 (fun i g hgi => by have := hg (i + 1) g hgi; rw [show i0 + 1 + i = i0 + (i + 1) by omega]; exact this)
          have hkl := fitK_length k1
          have hcl := k2.len
          rw [List.length_take, List.length_drop, hkl, List.length_take] at hcl
          have hq : P.cellsOf f.type ≤ cs.length - off := by omega
          refine ⟨Xs ++ Ys, ?_, ?_, ?_⟩
          · have := fitK_app k1 k3
            rwa [List.take_append_drop] at this
          · have hsplit : (cs.drop off).take ks.length = ((cs.drop off).take (P.cellsOf f.type)) ++ ((cs.drop (off + P.cellsOf f.type)).take (ks.drop (P.cellsOf f.type)).length) := by
              rw [List.length_drop, ← List.drop_drop]
              have : ks.length = P.cellsOf f.type + (ks.length - P.cellsOf f.type) := by omega
              conv => lhs; rw [this]
              exact List.take_add
            rw [hsplit]
            exact k2.app k4
          · rw [List.length_drop] at k5
            omega
      obtain ⟨Xs, k1, k2, k3⟩ := key fs.toList 0 0 ks hb (fun i f hi => by rw [Array.getElem?_toList] at hi; simpa using hi)
      refine ⟨Xs, k1, ?_⟩
      have hfull : (cs.drop 0).take ks.length = cs := by
        rw [List.drop_zero]
        exact List.take_of_length_le (by omega)
      rwa [hfull] at k2
    · cases hb
end
end Go.Proofs.Ytkifojmjcpdnoaa.En

/- The typed evaluator, part 26: a law's row. -/
namespace Go.Proofs.Ytkifojmjcpdnoaa.En
open Go Go.ChangeShapes Go.WideShapes Go.RowKit

theorem unflat_flat (t : Ty) (x : t.D) : t.unflat (t.flat x) = some x := by
  cases t with
  | st n => cases n <;> rfl
  | i k => simp [Ty.unflat, Ty.flat, gI, gN]
  | b => rfl
  | s => rfl
  | ls u => simp [Ty.unflat, Ty.flat, gL, gN]
theorem unCs_map (l : List C) : unCs (l.map Cl.c) = some l := by
  induction l with
  | nil => rfl
  | cons a l ih => simp [unCs, ih]
theorem un_arg {ρ : Type} (t : Ty) (x : t.D) (κ : t.D → Option ρ) : un t (arg t x) κ = κ x := by
  unfold arg
  cases hag : t.ag with
  | true => simp only [cond_true, un, hag, unCs_map, unflat_flat]
  | false =>
    simp only [cond_false]
    have h1 : ∃ c, t.flat x = [c] := by cases t <;> first | exact ⟨_, rfl⟩ | (simp [Ty.ag] at hag)
    obtain ⟨c, hc⟩ := h1
    rw [hc]
    have := unflat_flat t x
    rw [hc] at this
    simp only [List.map_cons, List.map_nil, un, hag, cond_false, this]
theorem unPs_ty {ρ : Type} : ∀ (l : List Ty) (x : Pars.D (l.map .ty)) (κ : Pars.D (l.map .ty) → Option ρ), unPs (l.map .ty) (parsOf (l.map .ty) x) κ = κ x
  | [], x, κ => rfl
  | t :: l, x, κ => by
    show (unP (.ty t) (arg t x.1) fun a => unPs (l.map .ty) (parsOf (l.map .ty) x.2) fun b => κ (a, b)) = κ x
    show (un t (arg t x.1) fun a => unPs (l.map .ty) (parsOf (l.map .ty) x.2) fun b => κ (a, b)) = κ x
    rw [un_arg, unPs_ty l x.2]
    rfl
def bdP : (l : List Ty) → Pars.D (l.map .ty) → Prop
  | [], _ => True
  | t :: l, x => bdT t x.1 ∧ bdP l x.2
def parB (P : Program) (Θ : Tys) (t : TypeId) (τ : Ty) : Bool := trodB P Θ 9 t τ.kc && (match getT Θ t with | some ti => decide (ti.ty = τ) | none => false) && P.readableRec t && Nat.blt t P.types.size
def parsB (P : Program) (Θ : Tys) : List TypeId → List Ty → Bool
  | [], [] => true
  | t :: ts, τ :: τs => parB P Θ t τ && parsB P Θ ts τs
  | _, _ => false
section
variable {H : Type} {enc : TypeId × Value → H} {P : Program} {W : World} {Θ : Tys} {base : Nat}
theorem C.VR {c : C} {u : Value} {bt : Bt} (hA : bt.A = fun b => b < W.heap.size) (h : RO W (fun b => b < W.heap.size) c.tree u) (hg : c.good = true) : En.VR W bt c.av u := by
  cases c with
  | sc v =>
    cases h with
    | sc h => exact .sc h
  | ls t l => exact .ro (by rw [hA]; exact h)
theorem arg_of (hΘ : TysOk P Θ) {bt : Bt} (hA : bt.A = fun b => b < W.heap.size) {t : TypeId} {τ : Ty} {v : Value} {d : DataW H} {p : List MemPlace} (hp : parB P Θ t τ = true) (hv : Value.okWide P W .any base t v) (h : DataW.Trod enc P W 0 (fun _ => true) true t v d p) :
    ∃ x : τ.D, VR W bt (arg τ x).av v ∧ bdT τ x := by
  unfold parB at hp
  simp only [Bool.and_eq_true] at hp
  obtain ⟨⟨⟨h1, h2⟩, h3⟩, h4⟩ := hp
  split at h2
  case h_2 => cases h2
  rename_i ti hti
  have h2 := of_decide_eq_true h2
  subst h2
  have hok := hΘ t ti hti
  obtain ⟨n, hn⟩ := h
  obtain ⟨Xs, k1, k2⟩ := trod_cs hΘ 9 h1 hn
  obtain ⟨x, rfl⟩ := unflat_kc _ k1
  have bd : bdT ti.ty x := by
    intro y hy
    rw [Ty.row_flat] at hy
    obtain ⟨c, hc, rfl⟩ := List.mem_map.1 hy
    exact k2.bd c hc
  have good : ∀ c ∈ ti.ty.flat x, c.good = true := by
    intro c hc
    have := k2.bd c hc
    cases c with
    | sc v => cases this <;> rfl
    | ls t l => rfl
  refine ⟨x, ?_, bd⟩
  have hag := hok.ag
  unfold arg
  cases ha : ti.ty.ag with
  | true =>
    rw [ha] at hag
    have hst : ∃ fs, P.underlying t = some (.struct fs) := by
      have hpl := hok.pl ha
      unfold trodB at h1
      split at h1
      · rename_i hu; simp [agT, hu] at hag
      · rename_i hu; simp [agT, hu] at hag
      · rename_i hu; simp [agT, hu] at hag
      · rename_i fs hu; exact ⟨fs, hu⟩
      · cases h1
    obtain ⟨fs, hu⟩ := hst
    obtain ⟨us, rfl, _⟩ := okWide_struct hu hv
    simp only [cond_true, V1.av]
    have : (Value.agg us) = .agg us.toList.toArray := by simp
    rw [this]
    have hus : (Value.agg us).cells.toList = us.toList := rfl
    rw [hus] at k2
    refine .agg (by simp [k2.len]) k2.one fun k c u hk hu => ?_
    simp only [List.map_map, List.getElem?_map, Option.map_eq_some_iff] at hk
    obtain ⟨c', hc, rfl⟩ := hk
    exact C.VR hA (k2.ro k c' u hc hu) (good c' (List.mem_of_getElem? hc))
  | false =>
    rw [ha] at hag
    have hcells : v.cells.toList = [v] := by
      unfold trodB at h1
      split at h1
      · rename_i hu; obtain ⟨_, rfl⟩ := okWide_int hu hv; rfl
      · rename_i hu; obtain ⟨_, rfl⟩ := okWide_bool hu hv; rfl
      · rename_i hu; obtain ⟨_, _, _, rfl⟩ := okWide_slice hu hv; rfl
      · rename_i fs hu; simp [agT, hu] at hag
      · cases h1
    rw [hcells] at k2
    have hl := k2.len
    obtain ⟨c, hc⟩ := List.length_eq_one_iff.1 hl
    simp only [cond_false, hc, List.map_cons, List.map_nil, V1.av]
    exact C.VR hA (k2.ro 0 c v (by rw [hc]; rfl) rfl) (good c (by rw [hc]; exact List.mem_singleton.2 rfl))
theorem args_of (hΘ : TysOk P Θ) {bt : Bt} (hA : bt.A = fun b => b < W.heap.size) : ∀ {ts : List TypeId} {τs : List Ty} {vs : List Value} {ds : List (DataW H)} {p : List MemPlace}, parsB P Θ ts τs = true → (∀ (j : Nat) t v, ts[j]? = some t → vs[j]? = some v → Value.okWide P W .any base t v) → DataW.TrodAll enc P W 0 (fun _ => true) true ts vs ds p →
    ∃ x : Pars.D (τs.map .ty), vs.length = τs.length ∧ (∀ (k : Nat) (v : AV) (u : Value), ((parsOf (τs.map .ty) x).map V1.av)[k]? = some v → vs[k]? = some u → VR W bt v u) ∧ bdP τs x
  | [], [], vs, ds, p, _, _, h => by
    obtain ⟨rfl, _, _⟩ := trodAll_nil h
    exact ⟨(), rfl, fun k v u hk hu => (by cases hu), trivial⟩
  | t :: ts, τ :: τs, vs, ds, p, hb, hv, h => by
    obtain ⟨v, vs', d, ds', q, q', rfl, rfl, rfl, h1, h2⟩ := trodAll_cons h
    unfold parsB at hb
    simp only [Bool.and_eq_true] at hb
    obtain ⟨x, k1, k2⟩ := arg_of hΘ hA hb.1 (hv 0 t v rfl rfl) h1
    obtain ⟨y, k3, k4, k5⟩ := args_of hΘ hA hb.2 (fun j t' v' ht hv' => hv (j + 1) t' v' ht hv') h2
    refine ⟨(x, y), by simp [k3], fun k v' u hk hu => ?_, k2, k5⟩
    cases k with
    | zero =>
      have hk : some (arg τ x).av = some v' := hk
      cases hk
      cases hu
      exact k1
    | succ k => exact k4 k v' u hk hu
  | [], _ :: _, _, _, _, hb, _, _ => by cases hb
  | _ :: _, [], _, _, _, hb, _, _ => by cases hb
theorem trodAll_below {W' : World} (hl : laidOutB P = true) (hb : Below W.heap.size W W') : ∀ {ts : List TypeId} {τs : List Ty} {vs : List Value} {ds : List (DataW H)} {p : List MemPlace}, parsB P Θ ts τs = true → DataW.TrodAll enc P W 0 (fun _ => true) true ts vs ds p → DataW.TrodAll enc P W' 0 (fun b => decide (b < W.heap.size)) true ts vs ds p
  | [], [], vs, ds, p, _, h => by
    obtain ⟨rfl, rfl, rfl⟩ := trodAll_nil h
    exact rfl
  | t :: ts, τ :: τs, vs, ds, p, hp, h => by
    obtain ⟨v, vs', d, ds', q, q', rfl, rfl, rfl, h1, h2⟩ := trodAll_cons h
    unfold parsB parB at hp
    simp only [Bool.and_eq_true] at hp
    obtain ⟨⟨⟨_, hr⟩, hs⟩, hrest⟩ := hp
    refine trodAll_cons_mk (Below.trod hl hr (Nat.le_of_ble_eq_true hs) h1 hb ?_) (trodAll_below hl hb hrest h2)
    intro x hx
    obtain ⟨m, hm⟩ := h1
    exact DataW.trod_lt m _ _ _ hm x hx
  | [], _ :: _, _, _, _, hb, _ => by cases hb
  | _ :: _, [], _, _, _, hb, _ => by cases hb
/-- What a law's call does: it returns true. -/
theorem law_calls (hΘ : TysOk P Θ) {f : FuncId} {τs : List Ty} {G : Pars.D (τs.map .ty) → Option (Args.D [.b])} (he : EntOk P f (entP (τs.map .ty) [.b] G)) (hG : ∀ x, bdP τs x → G x = some (true, ()))
    {ts : List TypeId} {vs : List Value} {ds : List (DataW H)} {p : List MemPlace} (hp : parsB P Θ ts τs = true) (hv : ∀ (j : Nat) t v, ts[j]? = some t → vs[j]? = some v → Value.okWide P W .any base t v) (h : DataW.TrodAll enc P W 0 (fun _ => true) true ts vs ds p) (hk : Nat.blt f 1048576 = true := by rfl) :
    Calls P f vs.toArray W fun e W' => e = .returned (.bool true) ∧ Below W.heap.size W W' := by
  let bt : Bt := ⟨fun _ => 0, fun _ => 0, fun _ => 0, 0, 0, fun b => b < W.heap.size⟩
  obtain ⟨x, h1, h2, h3⟩ := args_of (bt := bt) hΘ rfl hp hv h
  have hg := hG x h3
  obtain ⟨res, out, k1, k2, k3⟩ := he (parsOf (τs.map .ty) x) (V × List Tre) (fun v g => some (v, g)) (.v (.cl (.c (.sc (.bool true)))), []) (by
    unfold entP
    rw [unPs_ty, hg]
    rfl)
  cases k3
  have := k1.fn (Nat.le_of_ble_eq_true hk) W (fun _ => False) bt vs (inv_nil W bt fun b hb => hb) (by
    rw [h1, List.length_map]
    clear h1 h2 h3 hg k1 hG he
    have : ∀ (l : List Ty) (x : Pars.D (l.map .ty)), l.length = (parsOf (l.map .ty) x).length := by
      intro l
      induction l with
      | nil => intro x; rfl
      | cons t l ih => intro x; show l.length + 1 = (parsOf (l.map .ty) x.2).length + 1; rw [ih x.2]
    exact this τs x) h2
  refine this.2.mono fun e W' hx => ?_
  obtain ⟨v, btn, rfl, hI, _, _, hvr⟩ := hx
  refine ⟨?_, below_of_inv hI⟩
  cases hvr with
  | sc => rfl
end
end Go.Proofs.Ytkifojmjcpdnoaa.En

/- The typed evaluator, part 27: plain lemmas for the walks' trees and loops. -/
namespace Go.Proofs.Ytkifojmjcpdnoaa.En
open Go

section
variable {α β σ ε : Type}
/-- A loop over a list, from its k-th element on. -/
theorem lim_fold {B : σ → Option (σ ⊕ ε)} (l : List α) (mk : Nat → β → σ) (J : Nat → β → Prop) (g : Nat → List α → β → ε)
    (hn : ∀ b, J l.length b → B (mk l.length b) = some (.inr (g l.length [] b)))
    (hc : ∀ k b x, l[k]? = some x → J k b → (∃ b', B (mk k b) = some (.inl (mk (k + 1) b')) ∧ J (k + 1) b' ∧ g k (x :: l.drop (k + 1)) b = g (k + 1) (l.drop (k + 1)) b') ∨ B (mk k b) = some (.inr (g k (x :: l.drop (k + 1)) b))) :
    ∀ k b, k ≤ l.length → J k b → lim B (mk k b) = some (g k (l.drop k) b) := by
  intro k b hk hJ
  generalize hn0 : l.length - k = n
  induction n generalizing k b with
  | zero =>
    obtain rfl : k = l.length := by omega
    rw [lim_eq, hn b hJ, List.drop_length]
    rfl
  | succ n ih =>
    have hlt : k < l.length := by omega
    rw [List.drop_eq_getElem_cons hlt]
    rcases hc k b l[k] (List.getElem?_eq_getElem hlt) hJ with ⟨b', h1, h2, h3⟩ | h1
    · rw [lim_eq, h1, h3]
      exact ih (k + 1) b' (by omega) h2 (by omega)
    · rw [lim_eq, h1]
      rfl
/-- A loop that counts down a measure. -/
theorem lim_ind {B : σ → Option (σ ⊕ ε)} (I : σ → Prop) (μ : σ → Nat) (E : ε → Prop)
    (h : ∀ s, I s → (∃ s', B s = some (.inl s') ∧ I s' ∧ μ s' < μ s) ∨ ∃ e, B s = some (.inr e) ∧ E e) {s : σ} (hs : I s) : ∃ e, lim B s = some e ∧ E e := by
  generalize hn : μ s = n
  induction n using Nat.strongRecOn generalizing s with
  | _ n ih =>
    rcases h s hs with ⟨s', h1, h2, h3⟩ | ⟨e, h1, h2⟩
    · rw [lim_eq, h1]
      exact ih (μ s') (by omega) h2 rfl
    · exact ⟨e, by rw [lim_eq, h1]; rfl, h2⟩
theorem br_true (x y : α) : br true x y = x := rfl
theorem br_false (x y : α) : br false x y = y := rfl
theorem br_ite (b : Bool) (x y : α) : br b x y = if b = true then x else y := by cases b <;> rfl
theorem br_dec (p : Prop) [Decidable p] (x y : α) : br (decide p) x y = if p then x else y := by unfold br; by_cases h : p <;> simp [h]
theorem br_pos {b : Bool} (h : b = true) (x y : α) : br b x y = x := by rw [h]; rfl
theorem br_neg {b : Bool} (h : b = false) (x y : α) : br b x y = y := by rw [h]; rfl
theorem iteP_pos {p : Prop} [Decidable p] (h : p) (x y : α) : iteP p x y = x := if_pos h
theorem iteP_neg {p : Prop} [Decidable p] (h : ¬ p) (x y : α) : iteP p x y = y := if_neg h
theorem iteP_ite (p : Prop) [Decidable p] (x y : α) : iteP p x y = if p then x else y := rfl
end
theorem wrap_id {n : Int} (h1 : -9223372036854775808 ≤ n) (h2 : n < 9223372036854775808) : IntKind.wrap .i64 n = n := by
  simp only [IntKind.wrap, IntKind.bits, IntKind.signed, Bool.true_and]
  split
  · rename_i h
    have h := of_decide_eq_true h
    omega
  · rename_i h
    have h : ¬ (n % 2 ^ 64 ≥ 2 ^ (64 - 1)) := fun hh => h (decide_eq_true hh)
    omega
theorem wrap_succ {α : Type} {l : List α} {k : Nat} (hl : l.length ≤ maxLen) (hk : k < l.length) : IntKind.wrap .i64 ((k : Int) + 1) = ((k + 1 : Nat) : Int) := by
  unfold maxLen at hl
  rw [wrap_id (by omega) (by omega)]
  omega
theorem lt_len {α : Type} {l : List α} {k : Nat} {x : α} (h : l[k]? = some x) : k < l.length := (List.getElem?_eq_some_iff.1 h).1
theorem bd_len {t : Ty} {l : List t.D} (h : bdT (.ls t) l) : l.length ≤ maxLen := by
  have := h (.sl t.width (l.map t.row)) (List.mem_singleton.2 rfl)
  cases this with
  | sl hl _ => simpa using hl
theorem bd_mem {t : Ty} {l : List t.D} (h : bdT (.ls t) l) {x : t.D} (hx : x ∈ l) : bdT t x := by
  have := h (.sl t.width (l.map t.row)) (List.mem_singleton.2 rfl)
  cases this with
  | sl _ h => exact h (t.row x) (List.mem_map.2 ⟨x, hx, rfl⟩)
theorem take_set_succ {α : Type} {l : List α} {k : Nat} (y : α) (h : k < l.length) : (l.set k y).take (k + 1) = l.take k ++ [y] := by
  rw [List.take_add_one, List.getElem?_set_self h]
  simp [List.take_set_of_le]
/-- slices.Clone. -/
theorem clone_k {α ρ : Type} (l : List α) (n : Nat) (κ : List α × Unit → Option ρ) : nilE l (amb (κ ([], ())) (iteP ((([] : List α) ++ l).length * n ≤ 2 ^ 40) (κ (([] : List α) ++ l, ())) none) none) (iteP ((([] : List α) ++ l).length * n ≤ 2 ^ 40) (κ (([] : List α) ++ l, ())) none) = (iteP (l.length * n ≤ 2 ^ 40) (some (l, ())) none).bind κ := by
  cases l with
  | nil =>
    have : iteP ((([] : List α) ++ []).length * n ≤ 2 ^ 40) (κ (([] : List α) ++ [], ())) none = κ ([], ()) := by
      unfold iteP
      rw [if_pos (by simp)]
      rfl
    rw [this]
    show amb _ _ _ = _
    rw [amb_same]
    unfold iteP
    rw [if_pos (by simp)]
    rfl
  | cons x l =>
    show iteP _ _ _ = _
    simp only [List.nil_append]
    unfold iteP
    split <;> rfl
end Go.Proofs.Ytkifojmjcpdnoaa.En

/- The typed evaluator, part 28: laws of frequent loops. -/
namespace Go.Proofs.Ytkifojmjcpdnoaa.En
open Go

section
variable {σ ε σ1 ε1 σ2 ε2 α β : Type}
theorem lim_exit {B : σ → Option (σ ⊕ ε)} {s : σ} {e : ε} (h : B s = some (.inr e)) : lim B s = some e := by rw [lim_eq, h]; rfl
theorem lim_step {B : σ → Option (σ ⊕ ε)} {s s' : σ} (h : B s = some (.inl s')) : lim B s = lim B s' := by rw [lim_eq, h]; rfl
/-- Two loops that run side by side. -/
theorem lim_two {B1 : σ1 → Option (σ1 ⊕ ε1)} {B2 : σ2 → Option (σ2 ⊕ ε2)} (n : Nat) (m1 : Nat → σ1) (m2 : Nat → σ2) (t1 : ε1) (t2 : ε2) (f1 : Nat → ε1) (f2 : Nat → ε2) (P Q : Nat → Prop)
    (h1 : B1 (m1 n) = some (.inr t1)) (h2 : B2 (m2 n) = some (.inr t2))
    (h : ∀ k, k < n → (B1 (m1 k) = some (.inl (m1 (k + 1))) ∧ B2 (m2 k) = some (.inl (m2 (k + 1))) ∧ P k) ∨ (B1 (m1 k) = some (.inr (f1 k)) ∧ B2 (m2 k) = some (.inr (f2 k)) ∧ Q k)) :
    (lim B1 (m1 0) = some t1 ∧ lim B2 (m2 0) = some t2 ∧ ∀ k, k < n → P k) ∨ ∃ k, k < n ∧ lim B1 (m1 0) = some (f1 k) ∧ lim B2 (m2 0) = some (f2 k) ∧ Q k := by
  have key : ∀ d j, j + d = n → (lim B1 (m1 j) = some t1 ∧ lim B2 (m2 j) = some t2 ∧ ∀ k, j ≤ k → k < n → P k) ∨ ∃ k, k < n ∧ lim B1 (m1 j) = some (f1 k) ∧ lim B2 (m2 j) = some (f2 k) ∧ Q k := by
    intro d
    induction d with
    | zero =>
      intro j hj
      have : j = n := by omega
      subst this
      exact .inl ⟨lim_exit h1, lim_exit h2, fun k a b => by omega⟩
    | succ d ih =>
      intro j hj
      rcases h j (by omega) with ⟨g1, g2, g3⟩ | ⟨g1, g2, g3⟩
      · rw [lim_step g1, lim_step g2]
        rcases ih (j + 1) (by omega) with ⟨k1, k2, k3⟩ | k
        · refine .inl ⟨k1, k2, fun k a b => ?_⟩
          rcases Nat.eq_or_lt_of_le a with rfl | a
          · exact g3
          · exact k3 k a b
        · exact .inr k
      · exact .inr ⟨j, by omega, lim_exit g1, lim_exit g2, g3⟩
  rcases key n 0 (by omega) with ⟨a, b, c⟩ | h
  · exact .inl ⟨a, b, fun k hk => c k (Nat.zero_le _) hk⟩
  · exact .inr h
/-- Both tell the same. -/
def Agree (x y : Option (β × Unit)) : Prop := ∃ b, x = some (b, ()) ∧ y = some (b, ())
theorem succ_wrap {n k : Nat} (hn : n ≤ maxLen) (hk : k < n) : IntKind.wrap .i64 ((k : Int) + 1) = ((k + 1 : Nat) : Int) := by
  unfold maxLen at hn
  rw [wrap_id (by omega) (by omega)]
  rfl
theorem pred_wrap {k : Nat} (hk : 0 < k) (h : k ≤ maxLen) : IntKind.wrap .i64 ((k : Int) - 1) = ((k - 1 : Nat) : Int) := by
  unfold maxLen at h
  rw [wrap_id (by omega) (by omega)]
  omega

/-- Copies. -/
theorem to_eq {α : Type} {F : List α → Option (List α × Unit)} {B : (List α × Unit × Int × Unit) × Unit × (List α × Unit) → Option (((List α × Unit × Int × Unit) × Unit × (List α × Unit)) ⊕ ((Unit × Unit) × Unit × (List α × Unit)))} (f : α → Option (α × Unit)) (z : α) (n : Nat)
    (hF : ∀ l, F l = iteP (0 ≤ (l.length : Int) ∧ (l.length : Int) = (l.length : Int) ∧ (l.length : Int) * ((n : Nat) : Int) ≤ 2 ^ 40) ((lim B ((l, (), 0, ()), (), (List.replicate (l.length : Int).toNat z, ()))).bind fun e => some (e.2.2.1, ())) none)
    (hB : ∀ (l v : List α) (k : Int), B ((l, (), k, ()), (), (v, ())) = br (decide (k < (l.length : Int))) (iteP (0 ≤ k) ((l[k.toNat]?).bind fun x => (f x).bind fun y => iteP (0 ≤ k ∧ k < (v.length : Int)) ((v[k.toNat]?).bind fun _ => some (.inl ((l, (), IntKind.wrap .i64 (k + 1), ()), (), (v.set k.toNat y.1, ())))) none) none) (some (.inr (((), ()), (), (v, ())))))
    (hn : n ≤ 1048576) (l : List α) (hl : l.length ≤ 1048576) (h : ∀ x ∈ l, f x = some (x, ())) : F l = some (l, ()) := by
  have key := lim_fold (B := B) l (fun k (b : List α) => ((l, (), (k : Int), ()), (), (b, ()))) (fun _ b => b.length = l.length) (fun k r b => (((), ()), (), (b.take k ++ r, ())))
    (fun b hb => by
      rw [hB, br_dec, if_neg (by omega), List.append_nil, List.take_of_length_le (by omega)])
    (fun k b x hx hb => by
      have hk := lt_len hx
      refine .inl ⟨b.set k x, ?_, by simp [hb], ?_⟩
      · rw [hB, br_dec, if_pos (by omega), iteP_pos (by omega), Int.toNat_natCast, hx, Option.bind_some, h x (List.mem_of_getElem? hx), Option.bind_some, iteP_pos (by omega), List.getElem?_eq_getElem (by omega), Option.bind_some, succ_wrap (n := l.length) (by unfold maxLen; omega) hk]
      · rw [take_set_succ _ (by omega)]
        simp)
    0 (List.replicate l.length z) (Nat.zero_le _) (List.length_replicate)
  have hm : (l.length : Int) * ((n : Nat) : Int) ≤ 2 ^ 40 := by
    have h1 : l.length * n ≤ 1048576 * 1048576 := Nat.mul_le_mul hl hn
    have h2 : ((l.length * n : Nat) : Int) ≤ ((1048576 * 1048576 : Nat) : Int) := by exact_mod_cast h1
    have h3 : ((l.length * n : Nat) : Int) = (l.length : Int) * (n : Int) := Int.natCast_mul _ _
    have h4 : ((1048576 * 1048576 : Nat) : Int) = 2 ^ 40 := by decide
    omega
  rw [hF, iteP_pos ⟨by omega, rfl, hm⟩, Int.toNat_natCast]
  have key : lim B ((l, (), 0, ()), (), (List.replicate l.length z, ())) = some (((), ()), (), (l, ())) := by simpa using key
  rw [key]
  rfl

/-- A list is equal to itself. -/
theorem eqS_self {α : Type} {F : List α → List α → Option (Bool × Unit)} {B : (List α × List α × Int × Unit) × Unit × Unit → Option (((List α × List α × Int × Unit) × Unit × Unit) ⊕ (((Bool × Unit) × Unit × Unit) ⊕ ((Unit × Unit) × Unit × Unit)))} (f : α → α → Option (Bool × Unit))
    (hF : ∀ a b, F a b = br (!((a.length : Int) == (b.length : Int))) (some (false, ())) ((lim B ((a, b, 0, ()), (), ())).bind fun e => Sum.elim (fun e => some (e.1.1, ())) (fun _ => some (true, ())) e))
    (hB : ∀ (a b : List α) (k : Int), B ((a, b, k, ()), (), ()) = br (decide (k < (a.length : Int))) (iteP (0 ≤ k) ((a[k.toNat]?).bind fun x => iteP (0 ≤ k) ((b[k.toNat]?).bind fun y => (f x y).bind fun r => br (!r.1) (some (.inr (.inl ((false, ()), (), ())))) (some (.inl ((a, b, IntKind.wrap .i64 (k + 1), ()), (), ())))) none) none) (some (.inr (.inr (((), ()), (), ())))))
    (l : List α) (hl : l.length ≤ maxLen) (h : ∀ x ∈ l, f x x = some (true, ())) : F l l = some (true, ()) := by
  have key := lim_fold (B := B) l (fun k (b : Unit) => ((l, l, (k : Int), ()), (), ())) (fun _ _ => True) (fun k r b => .inr (((), ()), (), ()))
    (fun b hb => by rw [hB, br_dec, if_neg (by omega)])
    (fun k b x hx hb => by
      have hk := lt_len hx
      refine .inl ⟨(), ?_, trivial, rfl⟩
      rw [hB, br_dec, if_pos (by omega), iteP_pos (by omega), Int.toNat_natCast, hx, Option.bind_some, iteP_pos (by omega), Option.bind_some, h x (List.mem_of_getElem? hx), Option.bind_some, succ_wrap hl hk]
      rfl)
    0 () (Nat.zero_le _) trivial
  rw [hF, br_ite, if_neg (by simp), show lim B ((l, l, 0, ()), (), ()) = _ from key]
  rfl

/-- Sizes: what is left, and that all is small if something is. -/
def SzOk (F : α → Int → Option (Int × Unit)) (bd sm : α → Prop) : Prop := ∀ x left, bd x → 0 ≤ left → left ≤ 1048576 → ∃ n, F x left = some (n, ()) ∧ n ≤ left ∧ (0 ≤ n → sm x)
theorem sz_flat {F : List α → Int → Option (Int × Unit)} (hF : ∀ l left, F l left = br (decide (IntKind.wrap .i64 (left - (l.length : Int)) < 0)) (some (-1, ())) (some (IntKind.wrap .i64 (left - (l.length : Int)), ()))) : SzOk F (fun l => l.length ≤ maxLen) (fun l => l.length ≤ 1048576) := by
  intro l left hl h0 h1
  unfold maxLen at hl
  rw [hF, wrap_id (by omega) (by omega), br_dec]
  split
  · exact ⟨_, rfl, by omega, fun h => by omega⟩
  · exact ⟨_, rfl, by omega, fun h => by omega⟩
theorem sz_loop {F : List α → Int → Option (Int × Unit)} {B : (List α × Int × Int × Unit) × Unit × Unit → Option (((List α × Int × Int × Unit) × Unit × Unit) ⊕ (((Int × Int × Unit) × Unit × Unit) ⊕ ((Int × Unit × Unit) × Unit × Unit)))} (f : α → Int → Option (Int × Unit)) {bd sm : α → Prop} (hf : SzOk f bd sm)
    (hF : ∀ l left, F l left = br (decide (IntKind.wrap .i64 (left - (l.length : Int)) < 0)) (some (-1, ())) ((lim B ((l, IntKind.wrap .i64 (left - (l.length : Int)), 0, ()), (), ())).bind fun e => Sum.elim (fun e => some (e.1.2.1, ())) (fun e => some (e.1.1, ())) e))
    (hB : ∀ (l : List α) (v k : Int), B ((l, v, k, ()), (), ()) = br (decide (k < (l.length : Int))) (iteP (0 ≤ k) ((l[k.toNat]?).bind fun x => (f x v).bind fun y => br (decide (y.1 < 0)) (some (.inr (.inl ((y.1, -1, ()), (), ())))) (some (.inl ((l, y.1, IntKind.wrap .i64 (k + 1), ()), (), ())))) none) (some (.inr (.inr ((v, (), ()), (), ()))))) :
    SzOk F (fun l => l.length ≤ maxLen ∧ ∀ x ∈ l, bd x) (fun l => l.length ≤ 1048576 ∧ ∀ x ∈ l, sm x) := by
  intro l left hl h0 h1
  obtain ⟨hl, hbd⟩ := hl
  have hl' := hl
  unfold maxLen at hl'
  rw [hF, wrap_id (by omega) (by omega), br_dec]
  split
  · exact ⟨_, rfl, by omega, fun h => by omega⟩
  · rename_i hge
    have key := lim_ind (B := B) (fun s => ∃ (k : Nat) (v : Int), s = ((l, v, (k : Int), ()), (), ()) ∧ k ≤ l.length ∧ 0 ≤ v ∧ v ≤ left - (l.length : Int) ∧ ∀ (j : Nat) x, j < k → l[j]? = some x → sm x) (fun s => l.length - s.1.2.2.1.toNat)
      (fun e => (∃ y, e = .inl ((y, -1, ()), (), ())) ∨ ∃ v, e = .inr ((v, (), ()), (), ()) ∧ v ≤ left - (l.length : Int) ∧ ∀ x ∈ l, sm x)
      (fun s hs => by
        obtain ⟨k, v, rfl, hk, hv0, hv1, hsm⟩ := hs
        rw [hB, br_dec]
        by_cases hlt : k < l.length
        · rw [if_pos (by omega), iteP_pos (by omega), Int.toNat_natCast, List.getElem?_eq_getElem hlt, Option.bind_some]
          obtain ⟨n, g1, g2, g3⟩ := hf l[k] v (hbd _ (List.getElem_mem _)) hv0 (by omega)
          rw [g1, Option.bind_some, br_dec]
          split
          · exact .inr ⟨_, rfl, .inl ⟨_, rfl⟩⟩
          · refine .inl ⟨_, rfl, ⟨k + 1, n, by rw [succ_wrap hl hlt], by omega, by omega, by omega, fun j x hj hx => ?_⟩, ?_⟩
            · rcases Nat.lt_succ_iff_lt_or_eq.1 hj with h | rfl
              · exact hsm j x h hx
              · rw [List.getElem?_eq_getElem hlt] at hx
                cases hx
                exact g3 (by omega)
            · simp only [succ_wrap hl hlt, Int.toNat_natCast]
              omega
        · rw [if_neg (by omega)]
          refine .inr ⟨_, rfl, .inr ⟨v, rfl, hv1, fun x hx => ?_⟩⟩
          obtain ⟨j, hj, he⟩ := List.getElem_of_mem hx
          exact hsm j x (by omega) (by rw [List.getElem?_eq_getElem hj, he]))
      (s := ((l, left - (l.length : Int), 0, ()), (), ())) ⟨0, _, rfl, Nat.zero_le _, by omega, by omega, fun j x hj => by omega⟩
    obtain ⟨e, h2, h3⟩ := key
    rw [h2]
    rcases h3 with ⟨y, rfl⟩ | ⟨v, rfl, hv, hsm⟩
    · exact ⟨-1, rfl, by omega, fun h => by omega⟩
    · exact ⟨v, rfl, by omega, fun h => ⟨by omega, hsm⟩⟩
end
end Go.Proofs.Ytkifojmjcpdnoaa.En
