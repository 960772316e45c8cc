import Derived.Test.YtkifojmjcpdnoaaX3
/- The engine, part 23: regions that draw their order, whatever order is drawn. -/
namespace Go.Proofs.Ytkifojmjcpdnoaa.En
open Go Go.RowKit
section
variable {P : Program} {w0 w w' : World} {W : Nat → Prop} {btI bt bt' : Bt} {SI S S' SV : St} {a a' : Act} {D : Den} {Q : Exit → Act → World → Prop} {ops : Array Oper} {ms : List Made}

/-- The state when the operations of L are done. -/
def stL (ops : Array Oper) (S SV : St) (ms : List Made) (L : Array Bool) : St := { S with env := envL ops S SV L, gh := ghL S ms L, ng := SV.ng }
/-- Where a drawn order stands. -/
def Sim (w0 : World) (W : Nat → Prop) (btI : Bt) (SI : St) (D : Den) (P : Program) (ops : Array Oper) (S SV S' : St) (ms : List Made) (L : Array Bool) (a : Act) (w : World) : Prop :=
  (∃ bt, (∀ i o, ops[i]? = some o → isStore o = true → L.getD i false = false) ∧ Lv w0 W btI SI bt (stL ops S SV ms L) a w ∧ ∀ (p : Pos) (c : Nat), S.ng ≤ p.r → maker ms p.r = some c → L.getD c false = false → bt.κ p = 0) ∨
  (∃ bt k Sm, (∀ i o, ops[i]? = some o → isStore o = false → isNew o = true → L.getD i false = true) ∧ (∀ i o, ops[i]? = some o → isStore o = true → (L.getD i false = true ↔ i < k)) ∧ evS D P ops (ops.toList.drop k) Sm = some S' ∧ Sm.env = SV.env ∧ Sm.nt = S.nt ∧
    (∀ i o t x n, ops[i]? = some o → o.op = .load t x → L.getD i false = false → cellsAt Sm n (opdAt ops.toList (befs ops.toList) S SV i x) = cellsAt SV n (opdAt ops.toList (befs ops.toList) S SV i x)) ∧ Lv w0 W btI SI bt { Sm with env := envL ops S SV L } a w) ∨
  (∃ bt k Sm, (∀ i o, ops[i]? = some o → isStore o = false → L.getD i false = true) ∧ (∀ i o, ops[i]? = some o → isStore o = true → (L.getD i false = true ↔ i < k)) ∧ evS D P ops (ops.toList.drop k) Sm = some S' ∧ Lv w0 W btI SI bt Sm a w)

theorem evS_skip {all : Array Oper} : ∀ (n k : Nat) (S : St), (∀ i o, k ≤ i → i < k + n → ops.toList[i]? = some o → isStore o = false) → evS D P all (ops.toList.drop k) S = evS D P all (ops.toList.drop (k + n)) S := by
  intro n
  induction n with
  | zero => intro k S _; rfl
  | succ n ih =>
    intro k S h
    cases hk : ops.toList[k]? with
    | none =>
      have h1 : ops.toList.length ≤ k := by simpa using hk
      rw [List.drop_eq_nil_of_le h1, List.drop_eq_nil_of_le (by omega)]
    | some o =>
      have hlt := (List.getElem?_eq_some_iff.1 hk).1
      have ho := (List.getElem?_eq_some_iff.1 hk).2
      rw [List.drop_eq_getElem_cons hlt, ho]
      simp only [evS, h k o (Nat.le_refl _) (by omega) hk, Bool.false_eq_true, if_false]
      rw [ih (k + 1) S (fun i o h1 h2 => h i o (by omega) (by omega)), show k + 1 + n = k + (n + 1) by omega]

theorem draw_sound (hD : Sound P D) (hm : P.follows .mixedOrders = true) (hok : drawOk P ops = true) {id : Nat} (h : Lv w0 W btI SI bt S a w) (hV : evD D P ops ops.toList S = some (SV, ms)) (hev : evOk (flatP P) ops.toList (befs ops.toList) S ms SV = true) (hS : evS D P ops ops.toList SV = some S')
    (hK : ∀ bt' a' w', Lv w0 W btI SI bt' S' a' w' → Q .normal a' w') : (Code.region id ops true).wp P Q a w := by
  have ok := drawOk_spec hok
  have tl : ∀ {i : Nat} {o : Oper}, ops.toList[i]? = some o ↔ ops[i]? = some o := by
    intro i o
    rw [Array.getElem?_toList]
  have hpw : ops.toList.Pairwise (fun x y => ∀ d, x.dst = some d → y.dst ≠ some d) := by
    rw [List.pairwise_iff_getElem]
    intro i j hi hj hij d h1 h2
    have := ok.dst i j _ _ d (tl.1 (List.getElem?_eq_getElem hi)) (tl.1 (List.getElem?_eq_getElem hj)) h1 h2
    omega
  obtain ⟨f0, f1, fN, f2, f5, f6, f3⟩ := evD_facts ops.toList S SV ms hpw hV
  have hb : ∀ (k : Nat) (m : Made), ms[k]? = some m → S.ng ≤ m.b := fun k m hk => (f5 k m hk).1
  have hbN : ∀ (k : Nat) (m : Made), ms[k]? = some m → m.b + m.adds.length ≤ SV.ng := fun k m hk => (f5 k m hk).2.1
  have hd : ∀ (k j : Nat) (m m' : Made), ms[k]? = some m → j < k → ms[j]? = some m' → m'.b + m'.adds.length ≤ m.b := fun k j m m' hk hj hm => (f5 k m hk).2.2 j m' hj hm
  have hlen : ms.length = ops.size := by simpa using f0
  unfold evOk at hev
  simp only [Bool.and_eq_true] at hev
  obtain ⟨⟨hev1, hev2⟩, hev3⟩ := hev
  have hc : ∀ (k : Nat) (m : Made) (r : Nat), ms[k]? = some m → r ∈ m.cons → r < S.ng → S.fz ≤ r ∧ ∀ b cs, S.bx b = some cs → ∀ c ∈ cs, r ∉ says c := by
    intro k m r hk hr hlt
    have := List.all_eq_true.1 (List.all_eq_true.1 hev1 m (List.mem_of_getElem? hk)) r hr
    simp only [Bool.or_eq_true, Bool.and_eq_true, decide_eq_true_eq] at this
    rcases this with h' | ⟨h1, h2⟩
    · omega
    · refine ⟨h1, fun b cs hb c hcm hrc => ?_⟩
      have h3 := List.all_eq_true.1 h2 b (List.mem_range.2 (h.inv.bx b cs hb).1)
      simp only [hb] at h3
      have h4 := List.all_eq_true.1 h3 c hcm
      simp [hrc] at h4
  have hsay : ∀ (i : Nat) (o : Oper) (x : Operand) (r : Nat), ops[i]? = some o → isStore o = false → x ∈ o.op.operands → r ∈ says (opdAt ops.toList (befs ops.toList) S SV i x) → (∀ j ∈ takers ms r, j = i ∨ i ∈ (befs ops.toList).getD j []) ∧ (r < S.ng ∨ ∃ c, maker ms r = some c ∧ c ∈ (befs ops.toList).getD i []) := by
    intro i o x r hi hs hx hr
    have hin := (Array.getElem?_eq_some_iff.1 hi).1
    have := List.all_eq_true.1 hev2 i (List.mem_range.2 (by simpa using hin))
    simp only [tl.2 hi, hs, Bool.false_or] at this
    have := List.all_eq_true.1 this r (List.mem_flatMap.2 ⟨x, by simpa using hx, hr⟩)
    simp only [Bool.and_eq_true, Bool.or_eq_true, decide_eq_true_eq, List.all_eq_true, beq_iff_eq, List.contains_iff_mem] at this
    refine ⟨this.1, ?_⟩
    rcases this.2 with h | h
    · exact .inl h
    · right
      split at h
      · rename_i c hcm
        exact ⟨c, hcm, List.contains_iff_mem.1 h⟩
      · cases h
  have hloose : ∀ (i j : Nat) (oi oj : Oper), ops[i]? = some oi → ops[j]? = some oj → isStore oj = true → isStore oi = false → i ∉ (befs ops.toList).getD j [] → looseB (flatP P) ops.toList (befs ops.toList) S SV i j oi oj = true := by
    intro i j oi oj hi hj hsj hsi hnb
    have h1 := List.all_eq_true.1 hev3 j (List.mem_range.2 (by simpa using (Array.getElem?_eq_some_iff.1 hj).1))
    simp only [tl.2 hj, hsj, Bool.not_true, Bool.false_or] at h1
    have h2 := List.all_eq_true.1 h1 i (List.mem_range.2 (by simpa using (Array.getElem?_eq_some_iff.1 hi).1))
    simp only [tl.2 hi, hsi, Bool.false_or, Bool.or_eq_true, List.contains_iff_mem] at h2
    exact h2.resolve_left hnb
  have told := mks_told (S := S) (ms := ms) h.inv.gh hb hd
  -- the textual operands
  have agreeV : ∀ (i : Nat) (o : Oper) (env : Nat → AV), ops[i]? = some o → (∀ (t : Nat) (j : Nat) (oj : Oper), j < i → ops.toList[j]? = some oj → isStore oj = false → oj.dst = some t → env t = SV.env t) → (∀ t, (∀ (j : Nat) (oj : Oper), j < i → ops.toList[j]? = some oj → isStore oj = false → oj.dst ≠ some t) → env t = S.env t) →
      ∀ t ∈ o.looksAt ops, env t = envAt ops.toList ((befs ops.toList).getD i []) S SV t := by
    intro i o env ho g1 g2 t ht
    have hin := (Array.getElem?_eq_some_iff.1 ho).1
    unfold envAt
    split
    · rename_i hany
      obtain ⟨j, hj, hjd⟩ := List.any_eq_true.1 hany
      cases hoj : ops.toList[j]? with
      | none => rw [hoj] at hjd; simp at hjd
      | some oj =>
        rw [hoj] at hjd
        have hdj : oj.dst = some t := by simpa using hjd
        have hsj : isStore oj = false := by
          cases hx : isStore oj with
          | false => rfl
          | true => rw [(ok.st j oj (tl.1 hoj) hx).1] at hdj; cases hdj
        exact g1 t j oj (ok.lt i j hin hj) hoj hsj hdj
    · rename_i hany
      refine g2 t (fun j oj hj hoj _ hdj => ?_)
      rcases ok.look j i oj o t (tl.1 hoj) ho hdj ht with h | ⟨_, h | h⟩
      · exact hany (List.any_eq_true.2 ⟨j, h, by rw [hoj]; simp [hdj]⟩)
      · omega
      · have := ok.lt j i (Array.getElem?_eq_some_iff.1 (tl.1 hoj)).1 h
        omega
  have opdV : ∀ (i : Nat) (o : Oper) (X : St), ops[i]? = some o → (∀ t ∈ o.looksAt ops, X.env t = envAt ops.toList ((befs ops.toList).getD i []) S SV t) → ∀ x ∈ o.op.operands, opd X x = opdAt ops.toList (befs ops.toList) S SV i x := by
    intro i o X ho hX x hx
    cases x with
    | tmp t => exact hX t (List.mem_append_left _ (List.mem_filterMap.2 ⟨.tmp t, by simpa using hx, rfl⟩))
    | _ => rfl
  -- what is taken away
  have hcons0 : ∀ (j : Nat) (m : Made) (r : Nat), ms[j]? = some m → r ∈ m.cons → (∀ j' ∈ takers ms r, j' = j ∨ j ∈ (befs ops.toList).getD j' []) ∧ (r < S.ng ∨ ∃ c, maker ms r = some c ∧ c ∈ (befs ops.toList).getD j []) := by
    intro j m r hj hr
    have hjn : j < ops.size := by rw [← hlen]; exact (List.getElem?_eq_some_iff.1 hj).1
    have hoj : ops[j]? = some ops[j] := Array.getElem?_eq_getElem hjn
    cases hso : isStore ops[j] with
    | true =>
      have := (f6 j _ m (tl.2 hoj) hj hso).2
      rw [this] at hr
      cases hr
    | false =>
      obtain ⟨env, b, m', g0, g1, g2, g3, g4, g5, g6, g7⟩ := f3 j _ (tl.2 hoj) hso
      rw [hj] at g0
      simp only [Option.some.injEq] at g0
      subst g0
      cases hbb : b with
      | false => rw [(g7 hbb).2.1] at hr; cases hr
      | true =>
        cases hnn : isNew ops[j] with
        | false =>
          obtain ⟨_, _, _, hcn, _⟩ := g6 hbb hnn
          rw [hcn] at hr
          cases hr
        | true =>
          obtain ⟨v, hst, _⟩ := g5 hbb hnn
          obtain ⟨x, hx, hrx⟩ := stepN_cons hst r hr
          have hagr := agreeV j _ env hoj g1 g2
          rw [opdV j _ { S with env := env, gh := mks S.gh (ms.take j), ng := m.b } hoj hagr x hx] at hrx
          exact hsay j _ x r hoj hso hx hrx
  have hcons : ∀ (j : Nat) (m : Made) (r : Nat), ms[j]? = some m → r ∈ m.cons → (r < S.ng ∨ ∃ c, maker ms r = some c ∧ c ∈ (befs ops.toList).getD j []) ∧ ∀ j' ∈ takers ms r, j' = j := by
    intro j m r hj hr
    obtain ⟨q1, q2⟩ := hcons0 j m r hj hr
    refine ⟨q2, fun j' hj' => ?_⟩
    obtain ⟨m', p1, p2⟩ := of_takers hj'
    have l1 : j < ops.size := by rw [← hlen]; exact (List.getElem?_eq_some_iff.1 hj).1
    have l2 : j' < ops.size := by rw [← hlen]; exact (List.getElem?_eq_some_iff.1 p1).1
    rcases q1 j' hj' with e | e
    · exact e
    · rcases (hcons0 j' m' r p1 p2).1 j (mem_takers hj hr) with e' | e'
      · exact e'.symm
      · have := ok.lt _ _ l1 e'
        have := ok.lt _ _ l2 e
        omega
  have heavy : ∀ (c : Nat) (m : Made) (o : Oper), ms[c]? = some m → ops[c]? = some o → (0 < m.adds.length ∨ ∃ r, r ∈ m.cons) → isStore o = false ∧ isNew o = true := by
    intro c m o hm ho hor
    cases hs : isStore o with
    | true =>
      obtain ⟨e1, e2⟩ := f6 c o m (tl.2 ho) hm hs
      rw [e1, e2] at hor
      rcases hor with h | ⟨r, h⟩
      · simp at h
      · cases h
    | false =>
      refine ⟨rfl, ?_⟩
      obtain ⟨env, b, m', g0, g1, g2, g3, g4, g5, g6, g7⟩ := f3 c o (tl.2 ho) hs
      rw [hm] at g0
      simp only [Option.some.injEq] at g0
      subst g0
      cases hn : isNew o with
      | true => rfl
      | false =>
        exfalso
        have : m.adds = [] ∧ m.cons = [] := by
          cases hb : b with
          | true => obtain ⟨_, _, e1, e2, _⟩ := g6 hb hn; exact ⟨e1, e2⟩
          | false => obtain ⟨e1, e2, _⟩ := g7 hb; exact ⟨e1, e2⟩
        rw [this.1, this.2] at hor
        rcases hor with h | ⟨r, h⟩
        · simp at h
        · cases h
  have ghFull : ∀ L : Array Bool, (∀ i o, ops[i]? = some o → isStore o = false → isNew o = true → L.getD i false = true) → ghL S ms L = SV.gh := by
    intro L hL
    rw [f1]
    simp only
    funext r
    have tk := told ms.length (Nat.le_refl _) r
    rw [List.take_length] at tk
    unfold ghL
    by_cases hr : r < S.ng
    · rw [if_pos hr]
      by_cases htk : takenBy ms L r = true
      · rw [if_pos htk]
        obtain ⟨j, m', p1, p2, p3⟩ := takenBy_iff.1 htk
        exact ((tk.1 hr).2 j m' p1 (List.getElem?_eq_some_iff.1 p1).1 p3).symm
      · rw [if_neg htk]
        refine ((tk.1 hr).1 (fun j m' p1 hjl p3 => htk (takenBy_iff.2 ⟨j, m', p1, ?_, p3⟩))).symm
        have hjo : ops[j]? = some (ops[j]'(by omega)) := Array.getElem?_eq_getElem _
        obtain ⟨hns', hnw'⟩ := heavy j m' _ p1 hjo (.inr ⟨r, p3⟩)
        exact hL j _ hjo hns' hnw'
    · rw [if_neg hr]
      cases hmk : maker ms r with
      | none => simp only; rw [tk.2.1 (by omega) hmk]
      | some c =>
        simp only
        obtain ⟨m, q1, q2, q3⟩ := (maker_iff hd).1 hmk
        have hcl : c < ms.length := (List.getElem?_eq_some_iff.1 q1).1
        have hco : ops[c]? = some (ops[c]'(by omega)) := Array.getElem?_eq_getElem _
        obtain ⟨hns, hnw⟩ := heavy c m _ q1 hco (.inl (by omega))
        rw [hL c _ hco hns hnw]
        have t3 := tk.2.2 c (by omega) hmk
        by_cases htk : takenBy ms L r = true
        · rw [htk]
          obtain ⟨j, m', p1, p2, p3⟩ := takenBy_iff.1 htk
          obtain ⟨c', p4, p5⟩ := (hcons j m' r p1 p3).1.resolve_left (by omega)
          rw [hmk] at p4
          simp only [Option.some.injEq] at p4
          subst p4
          have hjl := (List.getElem?_eq_some_iff.1 p1).1
          rw [t3.2.2 j m' p1 (ok.lt j c (by omega) p5) hjl p3]
          rfl
        · have : takenBy ms L r = false := by simpa using htk
          rw [this]
          simp only [Bool.not_false, Bool.and_true, if_true]
          refine (t3.2.1 hcl (fun j m' p1 _ hjl p3 => htk (takenBy_iff.2 ⟨j, m', p1, ?_, p3⟩))).symm
          have hjo : ops[j]? = some (ops[j]'(by omega)) := Array.getElem?_eq_getElem _
          obtain ⟨hns', hnw'⟩ := heavy j m' _ p1 hjo (.inr ⟨r, p3⟩)
          exact hL j _ hjo hns' hnw'
  -- with all new slices told, the textual state
  have hSV : ∀ E : Nat → AV, ({ SV with env := E } : St) = { S with env := E, gh := SV.gh, ng := SV.ng } := by
    intro E
    have b1 : SV.bx = S.bx := by rw [f1]
    have b2 : SV.nb = S.nb := by rw [f1]
    have b3 : SV.fz = S.fz := by rw [f1]
    have b4 : SV.orc = S.orc := by rw [f1]
    have b5 : SV.nt = S.nt := by rw [f1]
    show (⟨E, SV.bx, SV.gh, SV.nb, SV.ng, SV.fz, SV.orc, SV.nt⟩ : St) = ⟨E, S.bx, SV.gh, S.nb, SV.ng, S.fz, S.orc, S.nt⟩
    rw [b1, b2, b3, b4, b5]
  have full : ∀ L : Array Bool, (∀ i o, ops[i]? = some o → isStore o = false → isNew o = true → L.getD i false = true) → stL ops S SV ms L = { SV with env := envL ops S SV L } := by
    intro L hL
    rw [hSV]
    unfold stL
    rw [ghFull L hL]
  have envFull : ∀ L : Array Bool, (∀ i o, ops[i]? = some o → isStore o = false → L.getD i false = true) → envL ops S SV L = SV.env := by
    intro L hL
    funext t
    unfold envL
    split
    · rfl
    · rename_i hn
      refine (f2 t (fun o ho hs hdo => hn ?_)).symm
      obtain ⟨i, hi, hio⟩ := List.getElem_of_mem ho
      have hi' : ops[i]? = some o := tl.1 (by rw [← hio]; exact List.getElem?_eq_getElem hi)
      exact done_iff.2 ⟨i, o, hi', hL i o hi' hs, hdo⟩
  have none_left : ∀ (k : Nat) (Sm : St), (∀ i o, k ≤ i → ops[i]? = some o → isStore o = false) → evS D P ops (ops.toList.drop k) Sm = some S' → Sm = S' := by
    intro k Sm hk he
    rw [evS_skip ops.toList.length k Sm (fun i o h1 _ h2 => hk i o h1 (tl.1 h2)), List.drop_eq_nil_of_le (by omega)] at he
    simpa [evS] using he
  have fin : ∀ L a w, (∀ i, i < ops.size → L.getD i false = true) → Sim w0 W btI SI D P ops S SV S' ms L a w → Q .normal a w := by
    intro L a w hL hsim
    have hall : ∀ i o, ops[i]? = some o → isStore o = false → L.getD i false = true := fun i o hi _ => hL i (Array.getElem?_eq_some_iff.1 hi).1
    have leftS : ∀ (bt : Bt) (k : Nat) (Sm : St), (∀ i o, ops[i]? = some o → isStore o = true → (L.getD i false = true ↔ i < k)) → evS D P ops (ops.toList.drop k) Sm = some S' → Lv w0 W btI SI bt Sm a w → Q .normal a w := by
      intro bt k Sm h2 h3 h4
      have := none_left k Sm (fun i o hk hi => by
        cases hx : isStore o with
        | false => rfl
        | true =>
          have := (h2 i o hi hx).1 (hL i (Array.getElem?_eq_some_iff.1 hi).1)
          omega) h3
      exact hK _ _ _ (this ▸ h4)
    rcases hsim with ⟨bt, h1, h2, _⟩ | ⟨bt, k, Sm, _, h2, h3, e1, _, _, h4⟩ | ⟨bt, k, Sm, h1, h2, h3, h4⟩
    · rw [full L (fun i o hi hs _ => hall i o hi hs), envFull L hall] at h2
      have := none_left 0 SV (fun i o _ hi => by
        cases hx : isStore o with
        | false => rfl
        | true =>
          have := h1 i o hi hx
          rw [hL i (Array.getElem?_eq_some_iff.1 hi).1] at this
          cases this) hS
      exact hK _ _ _ (this ▸ h2)
    · rw [envFull L hall, ← e1] at h4
      exact leftS bt k Sm h2 h3 h4
    · exact leftS bt k Sm h2 h3 h4
  have hbx : ∀ k cs, S.bx k = some cs → ∀ c ∈ cs, ∀ r ∈ says c, r < S.ng := by
    intro k cs hk c hcm r hr
    obtain ⟨_, _, arr, e, _, hsz, hcell⟩ := h.inv.bx k cs hk
    obtain ⟨j, hj, hjc⟩ := List.getElem_of_mem hcm
    obtain ⟨u, _, hu, _⟩ := hcell j c (by rw [← hjc]; exact List.getElem?_eq_getElem hj)
    have := says_lt hu r hr
    rwa [h.inv.ng] at this
  have main : ∀ (fuel : Nat) (L : Array Bool) (rem : List Nat) (a : Act) (w : World), rem.length = fuel → rem.Nodup → (∀ i, i ∈ rem ↔ i < ops.size ∧ L.getD i false = false) → L.size = ops.size →
      (∀ j, j < ops.size → L.getD j false = true → ∀ i ∈ (befs ops.toList).getD j [], L.getD i false = true) → Sim w0 W btI SI D P ops S SV S' ms L a w → wpAny P .any ops Q fuel L a w := by
    have flip : ∀ (L : Array Bool) (i : Nat), L.size = ops.size → i < ops.size → (L.getD i true = L.getD i false) := by
      intro L i h1 h2
      simp only [Array.getD_eq_getD_getElem?]
      rw [Array.getElem?_eq_getElem (by omega)]
      rfl
    have nor : ∀ (L : Array Bool), L.size = ops.size → Region.ready .any ops L = [] → ∀ i, i < ops.size → L.getD i false = true := by
      intro L hsz hr i
      induction i using Nat.strongRecOn with
      | _ i ih =>
        intro hi
        cases hx : L.getD i false with
        | true => rfl
        | false =>
          have hm : i ∈ Region.ready .any ops L := by
            rw [mem_ready]
            refine ⟨by rw [flip L i hsz hi]; exact hx, ops[i], Array.getElem?_eq_getElem hi, fun e he hb => ?_⟩
            have := ok.on i _ e (Array.getElem?_eq_getElem hi) he hb
            exact ih _ this (by omega)
          rw [hr] at hm
          cases hm
    intro fuel
    induction fuel with
    | zero =>
      intro L rem a w hl _ hrem hsz hcl hsim
      have hall : ∀ i, i < ops.size → L.getD i false = true := by
        intro i hi
        cases hx : L.getD i false with
        | true => rfl
        | false =>
          have := (hrem i).2 ⟨hi, hx⟩
          rw [List.eq_nil_of_length_eq_zero hl] at this
          cases this
      refine ⟨?_, fin L a w hall hsim⟩
      cases hr : Region.ready .any ops L with
      | nil => rfl
      | cons i rs =>
        have hm : i ∈ Region.ready .any ops L := by rw [hr]; exact List.mem_cons_self
        obtain ⟨h1, o, h2, _⟩ := mem_ready.1 hm
        have hi := (Array.getElem?_eq_some_iff.1 h2).1
        rw [flip L i hsz hi, hall i hi] at h1
        cases h1
    | succ fuel ih =>
      intro L rem a w hl hnd hrem hsz hcl hsim
      refine ⟨fun hr => fin L a w (nor L hsz hr) hsim, fun i hi => ?_⟩
      obtain ⟨hun, o, ho, hpre⟩ := mem_ready.1 hi
      have hin := (Array.getElem?_eq_some_iff.1 ho).1
      rw [flip L i hsz hin] at hun
      have hB : ∀ j ∈ (befs ops.toList).getD i [], L.getD j false = true := by
        intro j hj
        obtain ⟨e, he, hb, hor⟩ := ok.edge i j o ho hj
        have hl := hpre e he hb
        rcases hor with rfl | hor
        · exact hl
        · exact hcl e.on (Nat.lt_trans (ok.on i o e ho he hb) hin) hl j hor
      have hiL : i < L.size := by omega
      have hset : ∀ j, (L.setIfInBounds i true).getD j false = if j = i then true else L.getD j false := fun j => getD_set hiL
      have next : ∀ a' w', Sim w0 W btI SI D P ops S SV S' ms (L.setIfInBounds i true) a' w' → wpAny P .any ops Q fuel (L.setIfInBounds i true) a' w' := by
        intro a' w' hs'
        refine ih (L.setIfInBounds i true) (rem.erase i) a' w' ?_ (hnd.erase i) (fun j => ?_) (by simpa using hsz) (fun j hj hjt k hk => ?_) hs'
        · rw [List.length_erase_of_mem ((hrem i).2 ⟨hin, hun⟩), hl]
          rfl
        · rw [hnd.mem_erase_iff, hrem j, hset j]
          by_cases hji : j = i
          · subst hji
            simp
          · simp [hji]
        · rw [hset] at hjt ⊢
          split at hjt
          · rename_i hji
            subst hji
            split
            · rfl
            · exact hB k hk
          · split
            · rfl
            · exact hcl j hj hjt k hk
      unfold wpOp
      rw [ho]
      simp only
      cases hst : isStore o with
      | true =>
        obtain ⟨hdn, hgn⟩ := ok.st i o ho hst
        have hheavy : ∀ j oj, ops[j]? = some oj → isStore oj = false → isNew oj = true → L.getD j false = true := by
          intro j oj hj hs hn
          have hji : j ≠ i := by
            intro hji
            subst hji
            rw [ho] at hj
            simp only [Option.some.injEq] at hj
            rw [← hj, hst] at hs
            cases hs
          rcases ok.late j i oj o hj ho hji hst (.inl hs) with h | h
          · exact hB j h
          · rw [hn] at h
            cases h.2
        have hls : ∀ j oj, ops[j]? = some oj → isStore oj = true → j < i → L.getD j false = true := fun j oj hj hs hlt => by
          rcases ok.late j i oj o hj ho (by omega) hst (.inr hlt) with h | h
          · exact hB j h
          · rw [hs] at h
            cases h.1
        have hw : Region.wanted o (yielded ops a.tmps) = true := by simp [Region.wanted, hgn]
        have stepS : ∀ (k : Nat) (Sm : St), (∀ i o, ops[i]? = some o → isStore o = true → (L.getD i false = true ↔ i < k)) → evS D P ops (ops.toList.drop k) Sm = some S' → ∃ S1, one D P Sm o = some S1 ∧ evS D P ops (ops.toList.drop (i + 1)) S1 = some S' := by
          intro k Sm h2 h3
          have hki : k ≤ i := by
            cases Nat.lt_or_ge i k with
            | inl hlt =>
              have := (h2 i o ho hst).2 hlt
              rw [hun] at this
              cases this
            | inr h => exact h
          have hskip := evS_skip (D := D) (P := P) (all := ops) (ops := ops) (i - k) k Sm (fun j oj h1 h2' h3' => by
            cases hx : isStore oj with
            | false => rfl
            | true =>
              have := (h2 j oj (tl.1 h3') hx).1 (hls j oj (tl.1 h3') hx (by omega))
              omega)
          rw [hskip, show k + (i - k) = i by omega, List.drop_eq_getElem_cons (by simpa using hin)] at h3
          have hoi : ops.toList[i]'(by simpa using hin) = o := by
            have := (Array.getElem?_eq_some_iff.1 ho).2
            simpa using this
          rw [hoi] at h3
          simp only [evS, hst, if_true] at h3
          split at h3
          · simp only [Option.bind_eq_some_iff] at h3
            exact h3
          · cases h3
        have iff' : ∀ k, (∀ i o, ops[i]? = some o → isStore o = true → (L.getD i false = true ↔ i < k)) → ∀ j oj, ops[j]? = some oj → isStore oj = true → ((L.setIfInBounds i true).getD j false = true ↔ j < i + 1) := by
          intro k h2 j oj hj hs
          have hki : k ≤ i := by
            cases Nat.lt_or_ge i k with
            | inl hlt =>
              have := (h2 i o ho hst).2 hlt
              rw [hun] at this
              cases this
            | inr h => exact h
          rw [hset]
          split
          · rename_i hji
            simp [hji]
          · rename_i hji
            constructor
            · intro hx
              have := (h2 j oj hj hs).1 hx
              omega
            · intro hx
              exact hls j oj hj hs (by omega)
        by_cases hns : ∀ j oj, ops[j]? = some oj → isStore oj = false → L.getD j false = true
        · obtain ⟨bt, k, Sm, h2, h3, h4⟩ : ∃ bt k Sm, (∀ i o, ops[i]? = some o → isStore o = true → (L.getD i false = true ↔ i < k)) ∧ evS D P ops (ops.toList.drop k) Sm = some S' ∧ Lv w0 W btI SI bt Sm a w := by
            rcases hsim with ⟨bt, h1, h2, _⟩ | ⟨bt, k, Sm, _, h2, h3, e1, _, _, h4⟩ | ⟨bt, k, Sm, _, h2, h3, h4⟩
            · rw [full L hheavy, envFull L hns] at h2
              exact ⟨bt, 0, SV, fun i o hi hs => by rw [h1 i o hi hs]; simp, hS, h2⟩
            · rw [envFull L hns, ← e1] at h4
              exact ⟨bt, k, Sm, h2, h3, h4⟩
            · exact ⟨bt, k, Sm, h2, h3, h4⟩
          obtain ⟨S1, g1, g2⟩ := stepS k Sm h2 h3
          rw [if_pos hw]
          refine .inl (op_sound hD h4 (ok.ok i o ho) g1 (fun bt' a' w' h' => next a' w' (.inr (.inr ⟨bt', i + 1, S1, fun j oj hj hs => ?_, iff' k h2, g2, h'⟩))))
          rw [hset]
          split
          · rfl
          · exact hns j oj hj hs
        · obtain ⟨jp, ojp, hjp, hsp, hup⟩ : ∃ j oj, ops[j]? = some oj ∧ isStore oj = false ∧ L.getD j false = false := by
            apply Classical.byContradiction
            intro hno
            refine hns (fun j oj hj hs => ?_)
            cases hx : L.getD j false with
            | true => rfl
            | false => exact absurd ⟨j, oj, hj, hs, hx⟩ hno
          obtain ⟨bt, k, Sm, h2, h3, e1, e2, hmem, h4⟩ : ∃ bt k Sm, (∀ i o, ops[i]? = some o → isStore o = true → (L.getD i false = true ↔ i < k)) ∧ evS D P ops (ops.toList.drop k) Sm = some S' ∧ Sm.env = SV.env ∧ Sm.nt = S.nt ∧
              (∀ i o t x n, ops[i]? = some o → o.op = .load t x → L.getD i false = false → cellsAt Sm n (opdAt ops.toList (befs ops.toList) S SV i x) = cellsAt SV n (opdAt ops.toList (befs ops.toList) S SV i x)) ∧ Lv w0 W btI SI bt { Sm with env := envL ops S SV L } a w := by
            rcases hsim with ⟨bt, h1, h2, _⟩ | ⟨bt, k, Sm, _, h2, h3, e1, e2, hmem, h4⟩ | ⟨bt, k, Sm, h1, _⟩
            · rw [full L hheavy] at h2
              exact ⟨bt, 0, SV, fun i o hi hs => by rw [h1 i o hi hs]; simp, hS, rfl, by rw [f1], fun _ _ _ _ _ _ _ _ => rfl, h2⟩
            · exact ⟨bt, k, Sm, h2, h3, e1, e2, hmem, h4⟩
            · have := h1 jp ojp hjp hsp
              rw [hup] at this
              cases this
          obtain ⟨S1, g1, g2⟩ := stepS k Sm h2 h3
          -- the operands
          have hlook : ∀ t ∈ o.looksAt ops, envL ops S SV L t = SV.env t ∧ envAt ops.toList ((befs ops.toList).getD i []) S SV t = SV.env t := by
            intro t ht
            by_cases hex : ∃ (j : Nat) (oj : Oper), ops[j]? = some oj ∧ oj.dst = some t
            · obtain ⟨j, oj, hj, hdj⟩ := hex
              have hbj : j ∈ (befs ops.toList).getD i [] := by
                rcases ok.look j i oj o t hj ho hdj ht with h | ⟨h, _⟩
                · exact h
                · rw [hst] at h
                  cases h
              refine ⟨?_, ?_⟩
              · unfold envL
                rw [if_pos (done_iff.2 ⟨j, oj, hj, hB j hbj, hdj⟩)]
              · unfold envAt
                rw [if_pos (List.any_eq_true.2 ⟨j, hbj, by rw [tl.2 hj]; simp [hdj]⟩)]
            · have hno : ∀ o ∈ ops.toList, isStore o = false → o.dst ≠ some t := fun o' ho' _ hdo => by
                obtain ⟨j, hj, hjo⟩ := List.getElem_of_mem ho'
                exact hex ⟨j, o', tl.1 (by rw [← hjo]; exact List.getElem?_eq_getElem hj), hdo⟩
              have := f2 t hno
              refine ⟨?_, ?_⟩
              · unfold envL
                split
                · rfl
                · exact this.symm
              · unfold envAt
                split
                · rfl
                · exact this.symm
          have hopL : ∀ x ∈ o.op.operands, opd { Sm with env := envL ops S SV L } x = opd Sm x := by
            intro x hx
            cases x with
            | tmp t =>
              show envL ops S SV L t = Sm.env t
              rw [e1]
              exact (hlook t (List.mem_append_left _ (List.mem_filterMap.2 ⟨.tmp t, by simpa using hx, rfl⟩))).1
            | _ => rfl
          have hopA : ∀ x ∈ o.op.operands, opdAt ops.toList (befs ops.toList) S SV i x = opd Sm x := by
            intro x hx
            cases x with
            | tmp t =>
              show envAt ops.toList ((befs ops.toList).getD i []) S SV t = Sm.env t
              rw [e1]
              exact (hlook t (List.mem_append_left _ (List.mem_filterMap.2 ⟨.tmp t, by simpa using hx, rfl⟩))).2
            | _ => rfl
          have pendB : ∀ j oj, ops[j]? = some oj → isStore oj = false → L.getD j false = false → looseB (flatP P) ops.toList (befs ops.toList) S SV j i oj o = true := by
            intro j oj hj hs hu
            refine hloose j i oj o hj ho hst hs (fun hb => ?_)
            rw [hB j hb] at hu
            cases hu
          obtain ⟨t, xa, xv, hop⟩ : ∃ t xa xv, o.op = .store t xa xv := by
            unfold isStore at hst
            split at hst
            · rename_i t xa xv hop
              exact ⟨t, xa, xv, hop⟩
            · cases hst
          have hma : xa ∈ o.op.operands := by rw [hop]; simp [Op.operands]
          have hmv : xv ∈ o.op.operands := by rw [hop]; simp [Op.operands]
          have hstore : store P Sm t (opd Sm xa) (opd Sm xv) = some S1 := by
            unfold one at g1
            rw [hdn] at g1
            simp only [step, hop, Option.bind_eq_some_iff, Option.map_eq_some_iff] at g1
            obtain ⟨⟨v, S2⟩, ⟨S3, g3, g4⟩, g5⟩ := g1
            simp only [Prod.mk.injEq] at g4
            simp only [St.put, Option.some.injEq] at g5
            rw [g3, g4.2, g5]
          have hsimp : simpB (flatP P) t (opd Sm xa) = true := by
            have := pendB jp ojp hjp hsp hup
            unfold looseB at this
            rw [hop] at this
            simp only [Bool.and_eq_true] at this
            rw [← hopA xa hma]
            exact this.1
          obtain ⟨q1, q2, q3, q4⟩ := store_simple hsimp hstore
          have g1' : one D P { Sm with env := envL ops S SV L } o = some { S1 with env := envL ops S SV L } := by
            unfold one
            rw [hdn]
            simp only [step, hop]
            rw [hopL xa hma, hopL xv hmv, q3]
            rfl
          have henv : envL ops S SV (L.setIfInBounds i true) = envL ops S SV L := by
            funext t
            rw [envL_set hiL ho, hdn]
            simp
          rw [if_pos hw]
          refine .inl (op_sound hD h4 (ok.ok i o ho) g1' (fun bt' a' w' h' => next a' w' (.inr (.inl ⟨bt', i + 1, S1, fun j oj hj hs hn => ?_, iff' k h2, g2, q1.trans e1, q2.trans e2, fun j oj t' x n hj hl hu => ?_, by rw [henv]; exact h'⟩))))
          · rw [hset]
            split
            · rfl
            · exact hheavy j oj hj hs hn
          · rw [hset] at hu
            split at hu
            · cases hu
            · have hsj : isStore oj = false := by unfold isStore; rw [hl]
              have hlb := pendB j oj hj hsj hu
              unfold looseB at hlb
              rw [hop, hl] at hlb
              simp only [Bool.and_eq_true] at hlb
              rw [hopA xa hma] at hlb
              rw [q4 _ n hlb.2]
              exact hmem j oj t' x n hj hl hu
      | false =>
        obtain ⟨env, b, m, g0, g1, g2, g3, g4, g5, g6, g7⟩ := f3 i o (tl.2 ho) hst
        have him : i < ms.length := by rw [hlen]; exact hin
        have hagr := agreeV i o env ho g1 g2
        have agree : ∀ t, t ∈ o.looksAt ops → envL ops S SV L t = env t := by
          intro t ht
          rw [hagr t ht]
          unfold envAt
          split
          · rename_i hany
            obtain ⟨j, hj, hjd⟩ := List.any_eq_true.1 hany
            cases hoj : ops.toList[j]? with
            | none => rw [hoj] at hjd; simp at hjd
            | some oj =>
              rw [hoj] at hjd
              have hdj : oj.dst = some t := by simpa using hjd
              unfold envL
              rw [if_pos (done_iff.2 ⟨j, oj, tl.1 hoj, hB j hj, hdj⟩)]
          · rename_i hany
            unfold envL
            split
            · rename_i hdn
              exfalso
              obtain ⟨j, oj, hj, hlj, hdj⟩ := done_iff.1 hdn
              rcases ok.look j i oj o t hj ho hdj ht with h | ⟨_, h | h⟩
              · exact hany (List.any_eq_true.2 ⟨j, h, by rw [tl.2 hj]; simp [hdj]⟩)
              · rw [h, hun] at hlj
                cases hlj
              · have := hcl j (Array.getElem?_eq_some_iff.1 hj).1 hlj i h
                rw [hun] at this
                cases this
            · rfl
        have hopX : ∀ x ∈ o.op.operands, opd { S with env := env, gh := mks S.gh (ms.take i), ng := m.b } x = opdAt ops.toList (befs ops.toList) S SV i x := opdV i o _ ho hagr
        have hwantsX : ∀ X : St, X.env = envL ops S SV L → wants X ops o = some b := by
          intro X hX
          rw [← g3]
          unfold wants
          cases hg : o.guard with
          | none => rfl
          | some gw =>
            obtain ⟨j, want⟩ := gw
            simp only
            cases hdj : (ops[j]?).bind (·.dst) with
            | none => rfl
            | some d =>
              simp only
              rw [hX, agree d (List.mem_append_right _ (by simp [hg, hdj]))]
        -- trees that the operands speak of
        have htree : ∀ r, (∀ j ∈ takers ms r, j = i ∨ i ∈ (befs ops.toList).getD j []) ∧ (r < S.ng ∨ ∃ c, maker ms r = some c ∧ c ∈ (befs ops.toList).getD i []) → ghL S ms L r = mks S.gh (ms.take i) r := by
          intro r hr
          obtain ⟨htk, hr⟩ := hr
          have tk := told i (by omega) r
          have hnt : takenBy ms L r = false := by
            cases hx : takenBy ms L r with
            | false => rfl
            | true =>
              obtain ⟨j, m', p1, p2, p3⟩ := takenBy_iff.1 hx
              rcases htk j (mem_takers p1 p3) with e | e
              · rw [e, hun] at p2
                cases p2
              · have := hcl j (by rw [← hlen]; exact (List.getElem?_eq_some_iff.1 p1).1) p2 i e
                rw [hun] at this
                cases this
          have hnot : ∀ (j : Nat) (m' : Made), ms[j]? = some m' → j < i → r ∉ m'.cons := by
            intro j m' p1 hji p3
            rcases htk j (mem_takers p1 p3) with e | e
            · omega
            · have := ok.lt j i (by rw [← hlen]; exact (List.getElem?_eq_some_iff.1 p1).1) e
              omega
          unfold ghL
          by_cases hlt : r < S.ng
          · rw [if_pos hlt, hnt]
            exact ((tk.1 hlt).1 hnot).symm
          · rw [if_neg hlt]
            rcases hr with hr | ⟨c, hmk, hcb⟩
            · omega
            · rw [hmk]
              simp only
              have hci := ok.lt i c hin hcb
              rw [hB c hcb, hnt]
              simp only [Bool.not_false, Bool.and_true, if_true]
              exact ((tk.2.2 c (by omega) hmk).2.1 hci (fun j m' p1 _ hji p3 => hnot j m' p1 hji p3)).symm
        have envNext : ∀ v, (∀ d, o.dst = some d → SV.env d = v) → ∀ (X : St), X.env = envL ops S SV L → X.nt = S.nt → X.put o.dst v = some { X with env := envL ops S SV (L.setIfInBounds i true) } := by
          intro v hv X hX hXn
          cases hdo : o.dst with
          | none =>
            simp only [St.put, Option.some.injEq]
            have : envL ops S SV (L.setIfInBounds i true) = X.env := by
              funext t
              rw [envL_set hiL ho, hdo, hX]
              simp
            rw [this]
          | some d =>
            simp only [St.put]
            rw [if_pos (by rw [hXn]; exact g4 d hdo)]
            congr 2
            funext t
            rw [envL_set hiL ho, hdo, hX]
            unfold upd
            by_cases ht : t = d
            · subst ht
              simp [hv t hdo]
            · have : ¬ (some d = some t) := by simpa using fun e => ht e.symm
              rw [if_neg ht, if_neg this]
        by_cases hph : ∃ bt k Sm, (∀ i o, ops[i]? = some o → isStore o = false → isNew o = true → L.getD i false = true) ∧ (∀ i o, ops[i]? = some o → isStore o = true → (L.getD i false = true ↔ i < k)) ∧ evS D P ops (ops.toList.drop k) Sm = some S' ∧ Sm.env = SV.env ∧ Sm.nt = S.nt ∧
            (∀ i o t x n, ops[i]? = some o → o.op = .load t x → L.getD i false = false → cellsAt Sm n (opdAt ops.toList (befs ops.toList) S SV i x) = cellsAt SV n (opdAt ops.toList (befs ops.toList) S SV i x)) ∧ Lv w0 W btI SI bt { Sm with env := envL ops S SV L } a w
        · obtain ⟨bt, k, Sm, hv, h2s, h3, e1, e2, hmem, h4⟩ := hph
          have hnn : isNew o = false := by
            cases hx : isNew o with
            | false => rfl
            | true =>
              have := hv i o ho hst hx
              rw [hun] at this
              cases this
          have hw := wants_sound h4.er (hwantsX { Sm with env := envL ops S SV L } rfl)
          have next2 : ∀ a' , Lv w0 W btI SI bt { Sm with env := envL ops S SV (L.setIfInBounds i true) } a' w → wpAny P .any ops Q fuel (L.setIfInBounds i true) a' w := by
            intro a' h'
            refine next a' w (.inr (.inl ⟨bt, k, Sm, fun j oj hj hs hn => ?_, fun j oj hj hs => ?_, h3, e1, e2, fun j oj t' x n hj hl hu => ?_, h'⟩))
            · rw [hset]
              split
              · rfl
              · exact hv j oj hj hs hn
            · rw [hset]
              split
              · rename_i hji
                subst hji
                rw [ho] at hj
                simp only [Option.some.injEq] at hj
                rw [← hj, hst] at hs
                cases hs
              · exact h2s j oj hj hs
            · rw [hset] at hu
              split at hu
              · cases hu
              · exact hmem j oj t' x n hj hl hu
          cases hbb : b with
          | true =>
            rw [hw, hbb, if_pos rfl]
            obtain ⟨v, k1, k2, k3, k4⟩ := g6 hbb hnn
            have k1' : stepV D P { Sm with env := envL ops S SV L } o = some v := by
              rw [← k1]
              refine stepV_free (ok.ok i o ho) hnn (fun x hx => ?_) (fun t xa hta => ?_)
              · cases x with
                | tmp t => exact agree t (List.mem_append_left _ (List.mem_filterMap.2 ⟨.tmp t, by simpa using hx, rfl⟩))
                | _ => rfl
              · have hxa : xa ∈ o.op.operands := by rw [hta]; simp [Op.operands]
                rw [hopX xa hxa, cellsAt_env, hmem i o t xa _ ho hta hun]
                have hal : Alike { S with env := env, gh := mks S.gh (ms.take i), ng := m.b } { ({ S with env := env, gh := mks S.gh (ms.take i), ng := m.b } : St) with gh := SV.gh, ng := SV.ng } (opdAt ops.toList (befs ops.toList) S SV i xa) := by
                  intro r hr
                  have := htree r (hsay i o xa r ho hst hxa hr)
                  rw [ghFull L hv] at this
                  exact this
                rw [← cellsAt_alike hal]
                have hS' := hSV env
                rw [← cellsAt_env (S := SV) env, hS']
            have hnf : isFn o = false := by
              cases hx : isFn o with
              | false => rfl
              | true =>
                unfold isFn at hx
                split at hx
                · rename_i hop
                  simp [isNew, hop] at hnn
                · cases hx
            obtain ⟨u, g8, g9⟩ := stepV_val h4.inv h4.er (ok.ok i o ho) hnf k1'
            left
            unfold Oper.wp
            rw [g8, Oper.upon_value]
            exact next2 _ (h4.put g9 (envNext v k4 { Sm with env := envL ops S SV L } rfl e2))
          | false =>
            obtain ⟨k2, k3, k4⟩ := g7 hbb
            rw [hw, hbb, if_neg (by simp)]
            exact next2 _ (h4.put VR_undef (envNext (.tup []) k4 { Sm with env := envL ops S SV L } rfl e2))
        obtain ⟨bt, h1, h2, hκ⟩ : ∃ bt, (∀ i o, ops[i]? = some o → isStore o = true → L.getD i false = false) ∧ Lv w0 W btI SI bt (stL ops S SV ms L) a w ∧ ∀ (p : Pos) (c : Nat), S.ng ≤ p.r → maker ms p.r = some c → L.getD c false = false → bt.κ p = 0 := by
          rcases hsim with hsim | hsim | ⟨bt, k, Sm, h1, _⟩
          · exact hsim
          · exact absurd hsim hph
          · have := h1 i o ho hst
            rw [hun] at this
            cases this
        have hw := wants_sound h2.er (hwantsX (stL ops S SV ms L) rfl)
        have halike : ∀ x ∈ o.op.operands, Alike { S with env := env, gh := mks S.gh (ms.take i), ng := m.b } { ({ S with env := env, gh := mks S.gh (ms.take i), ng := m.b } : St) with gh := ghL S ms L, ng := SV.ng } (opd { S with env := env, gh := mks S.gh (ms.take i), ng := m.b } x) := by
          intro x hx r hr
          rw [hopX x hx] at hr
          exact htree r (hsay i o x r ho hst hx hr)
        have hbxA : ∀ k cs, ({ S with env := env, gh := mks S.gh (ms.take i), ng := m.b } : St).bx k = some cs → ∀ c ∈ cs, Alike { S with env := env, gh := mks S.gh (ms.take i), ng := m.b } { ({ S with env := env, gh := mks S.gh (ms.take i), ng := m.b } : St) with gh := ghL S ms L, ng := SV.ng } c := by
          intro k cs hk c hcm r hr
          exact htree r ⟨fun j hj => absurd hr (by
            obtain ⟨m', p1, p2⟩ := of_takers hj
            exact (hc j m' r p1 p2 (hbx k cs hk c hcm r hr)).2 k cs hk c hcm), .inl (hbx k cs hk c hcm r hr)⟩
        have hops : ∀ x ∈ o.op.operands, opd (stL ops S SV ms L) x = opd { ({ S with env := env, gh := mks S.gh (ms.take i), ng := m.b } : St) with gh := ghL S ms L, ng := SV.ng } x := by
          intro x hx
          cases x with
          | tmp t => exact agree t (List.mem_append_left _ (List.mem_filterMap.2 ⟨.tmp t, by simpa using hx, rfl⟩))
          | _ => rfl
        have nostore : ∀ j oj, ops[j]? = some oj → isStore oj = true → (L.setIfInBounds i true).getD j false = false := by
          intro j oj hj hs
          rw [hset]
          split
          · rename_i hji
            subst hji
            rw [ho] at hj
            simp only [Option.some.injEq] at hj
            rw [← hj, hst] at hs
            cases hs
          · exact h1 j oj hj hs
        -- the state behind it
        have ghNext : ∀ r, ghL S ms (L.setIfInBounds i true) r = if m.b ≤ r ∧ r < m.b + m.adds.length then m.adds[r - m.b]? else if m.cons.contains r then none else ghL S ms L r := by
          intro r
          by_cases hin' : m.b ≤ r ∧ r < m.b + m.adds.length
          · rw [if_pos hin']
            have hmk : maker ms r = some i := (maker_iff hd).2 ⟨m, g0, hin'⟩
            unfold ghL
            rw [if_neg (by have := hb i m g0; omega), hmk]
            simp only [hset, if_true]
            have hnt : takenBy ms (L.setIfInBounds i true) r = false := by
              cases hx : takenBy ms (L.setIfInBounds i true) r with
              | false => rfl
              | true =>
                obtain ⟨j, m', p1, p2, p3⟩ := takenBy_iff.1 hx
                obtain ⟨c, q1, q2⟩ := (hcons j m' r p1 p3).1.resolve_left (by have := hb i m g0; omega)
                rw [hmk] at q1
                simp only [Option.some.injEq] at q1
                subst q1
                have hjn : j < ops.size := by rw [← hlen]; exact (List.getElem?_eq_some_iff.1 p1).1
                rw [hset] at p2
                split at p2
                · rename_i hji
                  subst hji
                  have := ok.lt j j hjn q2
                  omega
                · have := hcl j hjn p2 i q2
                  rw [hun] at this
                  cases this
            rw [hnt, g0]
            rfl
          · rw [if_neg hin']
            have htk : takenBy ms (L.setIfInBounds i true) r = (takenBy ms L r || m.cons.contains r) := by
              rw [Bool.eq_iff_iff, Bool.or_eq_true, takenBy_iff, takenBy_iff]
              constructor
              · rintro ⟨j, m', p1, p2, p3⟩
                rw [hset] at p2
                split at p2
                · rename_i hji
                  subst hji
                  rw [g0] at p1
                  simp only [Option.some.injEq] at p1
                  subst p1
                  exact .inr (by simpa using p3)
                · exact .inl ⟨j, m', p1, p2, p3⟩
              · rintro (⟨j, m', p1, p2, p3⟩ | hcon)
                · exact ⟨j, m', p1, by rw [hset]; split <;> first | rfl | exact p2, p3⟩
                · exact ⟨i, m, g0, by rw [hset, if_pos rfl], by simpa using hcon⟩
            unfold ghL
            by_cases hlt : r < S.ng
            · rw [if_pos hlt, if_pos hlt, htk]
              cases m.cons.contains r <;> cases takenBy ms L r <;> rfl
            · rw [if_neg hlt, if_neg hlt]
              cases hmk : maker ms r with
              | none => simp
              | some c =>
                have hci : c ≠ i := by
                  intro he
                  subst he
                  obtain ⟨m', q1, q2⟩ := (maker_iff hd).1 hmk
                  rw [g0] at q1
                  simp only [Option.some.injEq] at q1
                  subst q1
                  exact hin' q2
                simp only
                rw [hset, if_neg hci]
                rw [htk]
                cases hcon : m.cons.contains r <;> simp
        have plain : m.adds = [] → m.cons = [] → ghL S ms (L.setIfInBounds i true) = ghL S ms L := by
          intro e1 e2
          funext r
          rw [ghNext r, e1, e2]
          simp
          intro h1 h2
          omega
        have κNext : ∀ (bt2 : Bt), (∀ p : Pos, S.ng ≤ p.r → p.r < SV.ng → ¬ (m.b ≤ p.r ∧ p.r < m.b + m.adds.length) → bt2.κ p = bt.κ p) → ∀ (p : Pos) (c : Nat), S.ng ≤ p.r → maker ms p.r = some c → (L.setIfInBounds i true).getD c false = false → bt2.κ p = 0 := by
          intro bt2 hbt p c hp hmk hun'
          rw [hset] at hun'
          split at hun'
          · cases hun'
          · rename_i hci
            obtain ⟨m', q1, q2⟩ := (maker_iff hd).1 hmk
            have := hbN c m' q1
            rw [hbt p hp (by omega) (fun hr => hci (by
              have := (maker_iff hd).2 ⟨m, g0, hr⟩
              rw [hmk] at this
              simpa using this))]
            exact hκ p c hp hmk hun'
        cases hbb : b with
        | true =>
          rw [hw, hbb, if_pos rfl]
          cases hnn : isNew o with
          | false =>
            obtain ⟨v, k1, k2, k3, k4⟩ := g6 hbb hnn
            have k1' : stepV D P (stL ops S SV ms L) o = some v := by
              rw [← k1, ← stepV_alike hnn halike]
              exact stepV_congr (S := { ({ S with env := env, gh := mks S.gh (ms.take i), ng := m.b } : St) with gh := ghL S ms L, ng := SV.ng }) (env := envL ops S SV L) (ok.ok i o ho) hops
            have hnf : isFn o = false := by
              cases hx : isFn o with
              | false => rfl
              | true =>
                unfold isFn at hx
                split at hx
                · rename_i hop
                  simp [isNew, hop] at hnn
                · cases hx
            obtain ⟨u, g8, g9⟩ := stepV_val h2.inv h2.er (ok.ok i o ho) hnf k1'
            left
            unfold Oper.wp
            rw [g8, Oper.upon_value]
            refine next _ _ (.inl ⟨bt, nostore, ?_, κNext bt (fun _ _ _ _ => rfl)⟩)
            have := h2.put g9 (envNext v k4 (stL ops S SV ms L) rfl rfl)
            unfold stL at this ⊢
            rw [plain k2 k3]
            exact this
          | true =>
            obtain ⟨v, k1, k4⟩ := g5 hbb hnn
            have k1' : stepN D P (stL ops S SV ms L) o = some (v, m.adds, m.cons) := by
              rw [← k1, ← stepN_alike halike hbxA]
              exact stepN_congr (S := { ({ S with env := env, gh := mks S.gh (ms.take i), ng := m.b } : St) with gh := ghL S ms L, ng := SV.ng }) (env := envL ops S SV L) hops
            left
            refine stepN_sound hD h2.inv h2.er h2.fzng (ok.ok i o ho) k1' (fun bt1 u w' l1 l2 l3 => ?_)
            have hbase := hb i m g0
            have htop := hbN i m g0
            obtain ⟨mI, mV⟩ := Inv.moved (N := SV.ng) (b := m.b) (k := m.adds.length) h2.inv l2 l1.inv rfl rfl rfl htop (fun p hp1 hp2 => hκ p i (by omega) ((maker_iff hd).2 ⟨m, g0, hp1, hp2⟩) hun)
            have hst2 : ((stL ops S SV ms L).make ⟨(stL ops S SV ms L).ng, m.adds, m.cons⟩).moved SV.ng m.b m.adds.length = { stL ops S SV ms L with gh := ghL S ms (L.setIfInBounds i true) } := by
              unfold St.moved St.make stL
              simp only
              congr 1
              funext r
              rw [ghNext r]
              by_cases hr : m.b ≤ r ∧ r < m.b + m.adds.length
              · rw [if_pos hr, if_pos hr, if_pos (by omega)]
                congr 1
                omega
              · rw [if_neg hr, if_neg hr]
                by_cases hrN : r < SV.ng
                · rw [if_pos hrN, if_neg (by omega)]
                · rw [if_neg hrN]
                  have : ghL S ms L r = none := by
                    unfold ghL
                    rw [if_neg (by omega)]
                    cases hmk : maker ms r with
                    | none => rfl
                    | some c =>
                      obtain ⟨m', q1, q2⟩ := (maker_iff hd).1 hmk
                      have := hbN c m' q1
                      omega
                  rw [this]
                  simp
            rw [hst2] at mI
            have hfzn : SI.fz ≤ S.ng := by
              have e1 := h.fz
              have e2 := h.fzng
              omega
            have lv : Lv w0 W btI SI (bt1.moved SV.ng m.b m.adds.length) { stL ops S SV ms L with gh := ghL S ms (L.setIfInBounds i true) } a w' := by
              refine ⟨mI, ⟨h2.er.1, fun t => mV (h2.er.2 t) (l1.er.2 t)⟩, h2.defers, h2.fz, h2.fzng, fun p hp => ?_, fun r hr hnone => ?_⟩
              · have hnr : ¬ (m.b ≤ p.r ∧ p.r < m.b + m.adds.length) := by omega
                have hk := h2.keep p hp
                have hlt : p.r < bt.ng := by
                  have := h2.inv.ng
                  have e : (stL ops S SV ms L).ng = SV.ng := rfl
                  omega
                simp only [Bt.moved]
                rw [if_neg hnr, if_neg hnr, l2.β p hlt, l2.κ p hlt]
                exact hk
              · refine h2.gone r hr ?_
                have hn' : ghL S ms (L.setIfInBounds i true) r = none := hnone
                rw [ghNext r, if_neg (by omega)] at hn'
                split at hn'
                · rename_i hcon
                  have := (hc i m r g0 (by simpa using hcon) (by omega)).1
                  have := h.fz
                  omega
                · exact hn'
            -- the value under its labels
            have hv : VR w' (bt1.moved SV.ng m.b m.adds.length) (shift m.b v) u := by
              have hng1 : bt1.ng = SV.ng + m.adds.length := l1.inv.ng
              have one : ∀ {x : AV} {y : Value}, VR w' bt1 (shift0 SV.ng x) y → VR w' (bt1.moved SV.ng m.b m.adds.length) (shift0 m.b x) y := by
                intro x y hxy
                cases x with
                | own p sz lo len =>
                  simp only [shift0] at hxy ⊢
                  cases hxy with
                  | own hp hcp hk ha =>
                    have hp' : p.r + SV.ng < bt1.ng := hp
                    have hr : m.b ≤ p.r + m.b ∧ p.r + m.b < m.b + m.adds.length := by omega
                    have e1 : (bt1.moved SV.ng m.b m.adds.length).κ ⟨p.r + m.b, p.l⟩ = bt1.κ ⟨p.r + SV.ng, p.l⟩ := by
                      simp only [Bt.moved]
                      rw [if_pos hr, Nat.add_sub_cancel, Nat.add_comm]
                    have e2 : (bt1.moved SV.ng m.b m.adds.length).β ⟨p.r + m.b, p.l⟩ = bt1.β ⟨p.r + SV.ng, p.l⟩ := by
                      simp only [Bt.moved]
                      rw [if_pos hr, Nat.add_sub_cancel, Nat.add_comm]
                    exact .own (by show p.r + m.b < SV.ng; omega) hcp (by rw [e1]; exact hk) (by rw [e2]; exact ha)
                | sc x => simp only [shift0] at hxy ⊢; cases hxy with | sc h => exact .sc h
                | _ => exact .dead _
              have two : ∀ {x : AV} {y : Value}, VR w' bt1 (shift1 SV.ng x) y → VR w' (bt1.moved SV.ng m.b m.adds.length) (shift1 m.b x) y := by
                intro x y hxy
                cases x with
                | agg cs =>
                  simp only [shift1] at hxy ⊢
                  cases hxy with
                  | agg hl' ho' hr =>
                    refine .agg (by simpa using hl') ho' (fun k c u h1 h2 => ?_)
                    rw [List.getElem?_map] at h1
                    simp only [Option.map_eq_some_iff] at h1
                    obtain ⟨c', e1, rfl⟩ := h1
                    exact one (hr k (shift0 SV.ng c') u (by rw [List.getElem?_map, e1]; rfl) h2)
                | _ =>
                  simp only [shift1] at hxy ⊢
                  exact one hxy
              cases v with
              | tup vs =>
                simp only [shift] at l3 ⊢
                have l3' : VR w' bt1 (.tup (vs.map (shift1 SV.ng))) u := l3
                cases l3' with
                | tup hl' hr =>
                  refine .tup (by simpa using hl') (fun k c u h1 h2 => ?_)
                  rw [List.getElem?_map] at h1
                  simp only [Option.map_eq_some_iff] at h1
                  obtain ⟨c', e1, rfl⟩ := h1
                  exact two (hr k (shift1 SV.ng c') u (by rw [List.getElem?_map, e1]; rfl) h2)
              | _ =>
                simp only [shift] at l3 ⊢
                exact two l3
            refine next _ _ (.inl ⟨bt1.moved SV.ng m.b m.adds.length, nostore, ?_, κNext _ (fun p hp1 hp2 hp3 => ?_)⟩)
            · have := lv.put hv (envNext _ k4 { stL ops S SV ms L with gh := ghL S ms (L.setIfInBounds i true) } rfl rfl)
              exact this
            · simp only [Bt.moved]
              rw [if_neg hp3]
              exact l2.κ p (by
                have := h2.inv.ng
                have e : (stL ops S SV ms L).ng = SV.ng := rfl
                omega)
        | false =>
          obtain ⟨k2, k3, k4⟩ := g7 hbb
          rw [hw, hbb, if_neg (by simp)]
          refine next _ _ (.inl ⟨bt, nostore, ?_, κNext bt (fun _ _ _ _ => rfl)⟩)
          have := h2.put VR_undef (envNext (.tup []) k4 (stL ops S SV ms L) rfl rfl)
          unfold stL at this ⊢
          rw [plain k2 k3]
          exact this
  have start : Sim w0 W btI SI D P ops S SV S' ms (Array.replicate ops.size false) a { w with drawn := w.drawn + 1 } := by
    have hno : ∀ i, (Array.replicate ops.size false).getD i false = false := by
      intro i
      rw [Array.getD_eq_getD_getElem?, Array.getElem?_replicate]
      split <;> rfl
    refine .inl ⟨bt.widen S.ng SV.ng, fun i o _ _ => hno i, ?_, fun p c hp _ _ => ?_⟩
    · have e1 : envL ops S SV (Array.replicate ops.size false) = S.env := by
        funext t
        unfold envL
        rw [if_neg]
        intro hdn
        obtain ⟨i, o, hi, hl, _⟩ := done_iff.1 hdn
        rw [hno] at hl
        cases hl
      have e2 : ghL S ms (Array.replicate ops.size false) = S.gh := by
        funext r
        have hnt : takenBy ms (Array.replicate ops.size false) r = false := by
          cases hx : takenBy ms (Array.replicate ops.size false) r with
          | false => rfl
          | true =>
            obtain ⟨j, m', p1, p2, p3⟩ := takenBy_iff.1 hx
            rw [hno] at p2
            cases p2
        unfold ghL
        rw [hnt]
        split
        · rfl
        · rename_i hr
          have : S.gh r = none := by
            cases hx : S.gh r with
            | none => rfl
            | some t => exact absurd (h.inv.gh r t hx) hr
          rw [this]
          split
          · rw [hno]; rfl
          · rfl
      unfold stL
      rw [e1, e2]
      exact (h.widen fN).drawn _
    · simp only [Bt.widen]
      rw [if_neg (by omega)]
  refine wp_region_any hm (main ops.size _ (List.range ops.size) a _ (by simp) List.nodup_range (fun i => ?_) (by simp) (fun j hj hjt => ?_) start)
  · simp only [List.mem_range]
    constructor
    · intro hi
      exact ⟨hi, by simp [Array.getD_eq_getD_getElem?, hi]⟩
    · exact fun h => h.1
  · simp [Array.getD_eq_getD_getElem?, hj] at hjt
end
end Go.Proofs.Ytkifojmjcpdnoaa.En

/- The engine, part 24: code. -/
namespace Go.Proofs.Ytkifojmjcpdnoaa.En
open Go Go.RowKit
section
variable {P : Program} {w0 w w' : World} {W : Nat → Prop} {btI bt bt' : Bt} {SI S S' : St} {a a' : Act} {D : Den}

def codeOk (P : Program) : Code → Bool
  | .skip => true
  | .region _ ops false => ops.toList.all (opOk P)
  | .region _ ops true => drawOk P ops
  | .seq a b => codeOk P a && codeOk P b
  | .cond _ a b => codeOk P a && codeOk P b
  | .block _ c => codeOk P c
  | .loop c => codeOk P c
  | .exit _ => true
  | .ret => true
  | _ => false
def X.out : X → Exit
  | .nor => .normal
  | .ret => .ret
  | .ext i => .exit i

theorem least {J : Nat → Prop} (h : ∃ n, J n) : ∃ n, J n ∧ ∀ m, J m → n ≤ m := by
  obtain ⟨n, hn⟩ := h
  induction n using Nat.strongRecOn with
  | _ n ih =>
    by_cases hx : ∃ m, m < n ∧ J m
    · obtain ⟨m, h1, h2⟩ := hx
      exact ih m h1 h2
    · exact ⟨n, hn, fun m hm => by
        cases Nat.lt_or_ge m n with
        | inl h => exact absurd ⟨m, h, hm⟩ hx
        | inr h => exact h⟩

theorem evC_sound (hD : Sound P D) (hm : P.follows .mixedOrders = true) : ∀ (k : Nat) (c : Code) (bt : Bt) (S S' : St) (a : Act) (w : World) (x : X) (Q : Exit → Act → World → Prop), codeOk P c = true → Lv w0 W btI SI bt S a w → evC D P k c S = some (x, S') →
    (∀ bt' a' w', Lv w0 W btI SI bt' S' a' w' → Q x.out a' w') → c.wp P Q a w := by
  intro k
  induction k using Nat.strongRecOn with
  | _ k ih =>
    intro c bt S S' a w x Q hok h he hK
    cases k with
    | zero => simp [evC] at he
    | succ k =>
      cases c with
      | skip =>
        simp only [evC, Option.some.injEq, Prod.mk.injEq] at he
        obtain ⟨rfl, rfl⟩ := he
        exact wp_skip (hK _ _ _ h)
      | exit i =>
        simp only [evC, Option.some.injEq, Prod.mk.injEq] at he
        obtain ⟨rfl, rfl⟩ := he
        exact wp_exit (hK _ _ _ h)
      | ret =>
        simp only [evC, Option.some.injEq, Prod.mk.injEq] at he
        obtain ⟨rfl, rfl⟩ := he
        exact wp_ret (hK _ _ _ h)
      | region i ops dr =>
        cases dr with
        | false =>
          simp only [evC, Option.map_eq_some_iff, Prod.mk.injEq] at he
          obtain ⟨S1, h1, rfl, rfl⟩ := he
          exact region_sound hD (fun o ho => List.all_eq_true.1 hok o ho) h h1 hK
        | true =>
          simp only [evC, Option.bind_eq_some_iff, Prod.exists] at he
          obtain ⟨S1, ms, h1, he⟩ := he
          split at he
          · rename_i hev
            simp only [Option.map_eq_some_iff, Prod.mk.injEq] at he
            obtain ⟨S2, h2, rfl, rfl⟩ := he
            exact draw_sound hD hm hok h h1 hev h2 hK
          · cases he
      | seq c1 c2 =>
        simp only [codeOk, Bool.and_eq_true] at hok
        simp only [evC, Option.bind_eq_some_iff] at he
        obtain ⟨⟨x1, S1⟩, h1, h2⟩ := he
        refine wp_seq (ih k (by omega) c1 bt S S1 a w x1 _ hok.1 h h1 (fun bt' a' w' h' => ?_))
        cases x1 with
        | nor => exact ih k (by omega) c2 bt' S1 S' a' w' x Q hok.2 h' h2 hK
        | ret =>
          simp only [Option.some.injEq, Prod.mk.injEq] at h2
          obtain ⟨rfl, rfl⟩ := h2
          exact hK _ _ _ h'
        | ext i =>
          simp only [Option.some.injEq, Prod.mk.injEq] at h2
          obtain ⟨rfl, rfl⟩ := h2
          exact hK _ _ _ h'
      | cond t c1 c2 =>
        simp only [codeOk, Bool.and_eq_true] at hok
        simp only [evC] at he
        split at he
        · rename_i b hb
          have hv := opd_VR h.er t
          rw [hb] at hv
          refine wp_cond hv.inv_sc ?_
          cases b with
          | true => exact ih k (by omega) c1 bt S S' a w x Q hok.1 h he hK
          | false => exact ih k (by omega) c2 bt S S' a w x Q hok.2 h he hK
        · cases he
      | block i c =>
        simp only [evC, Option.map_eq_some_iff, Prod.exists] at he
        obtain ⟨x1, S1, h1, h2⟩ := he
        refine wp_block (ih k (by omega) c bt S S1 a w x1 _ hok h h1 (fun bt' a' w' h' => ?_))
        cases x1 with
        | nor =>
          simp only [Prod.mk.injEq] at h2
          obtain ⟨rfl, rfl⟩ := h2
          exact hK _ _ _ h'
        | ret =>
          simp only [Prod.mk.injEq] at h2
          obtain ⟨rfl, rfl⟩ := h2
          exact hK _ _ _ h'
        | ext j =>
          simp only [Prod.mk.injEq] at h2
          obtain ⟨h2, rfl⟩ := h2
          show Exit.inBlock i Q (.exit j) a' w'
          unfold Exit.inBlock
          simp only
          split
          · rename_i hj
            rw [if_pos hj] at h2
            subst h2
            exact hK _ _ _ h'
          · rename_i hj
            rw [if_neg hj] at h2
            subst h2
            exact hK _ _ _ h'
      | loop c =>
        let J : Nat → Act → World → Prop := fun n a w => n ≤ k + 1 ∧ ∃ bt S, Lv w0 W btI SI bt S a w ∧ evC D P n (.loop c) S = some (x, S')
        classical
        refine wp_loop (fun a w => ∃ n, J n a w) (fun a w => if hx : ∃ n, J n a w then Classical.choose (least hx) else 0) ⟨k + 1, Nat.le_refl _, bt, S, h, he⟩ (fun a w hx => ?_)
        obtain ⟨⟨hn, bt, S, h, he⟩, hmin⟩ := Classical.choose_spec (least hx)
        generalize hnn : Classical.choose (least hx) = n at *
        simp only [dif_pos hx, hnn]
        cases n with
        | zero => simp [evC] at he
        | succ n =>
          simp only [evC, Option.bind_eq_some_iff] at he
          obtain ⟨⟨x1, S1⟩, h1, h2⟩ := he
          refine ih n (by omega) c bt S S1 a w x1 _ hok h h1 (fun bt' a' w' h' => ?_)
          cases x1 with
          | nor =>
            have hj : J n a' w' := ⟨by omega, bt', S1, h', h2⟩
            have hex : ∃ n, J n a' w' := ⟨n, hj⟩
            refine ⟨hex, ?_⟩
            rw [dif_pos hex]
            exact Nat.lt_succ_of_le ((Classical.choose_spec (least hex)).2 n hj)
          | ret =>
            simp only [Option.some.injEq, Prod.mk.injEq] at h2
            obtain ⟨rfl, rfl⟩ := h2
            exact hK _ _ _ h'
          | ext i =>
            simp only [Option.some.injEq, Prod.mk.injEq] at h2
            obtain ⟨rfl, rfl⟩ := h2
            exact hK _ _ _ h'
      | _ => simp [evC] at he
end
end Go.Proofs.Ytkifojmjcpdnoaa.En

/- The engine, part 25: results. -/
namespace Go.Proofs.Ytkifojmjcpdnoaa.En
open Go Go.RowKit
section
variable {P : Program} {w0 w w' : World} {W : Nat → Prop} {bt bt' : Bt} {S0 S S' : St} {a a' : Act} {D : Den}

def outB (bt : Bt) (σ : List (Option Nat)) : Bt where
  β := fun p => match σ[p.r]? with | some (some r) => bt.β ⟨r, p.l⟩ | _ => 0
  κ := fun p => match σ[p.r]? with | some (some r) => bt.κ ⟨r, p.l⟩ | _ => 0
  bb := fun _ => 0
  nb := 0
  ng := σ.length
  A := bt.A
theorem outB_le (bt : Bt) (σ τ : List (Option Nat)) : (outB bt σ).le (outB bt (σ ++ τ)) := by
  refine ⟨Nat.le_refl _, by simp [outB], fun _ h => h, fun p hp => ?_, fun p hp => ?_, fun _ _ => rfl⟩
  · have : (σ ++ τ)[p.r]? = σ[p.r]? := List.getElem?_append_left hp
    simp only [outB, this]
  · have : (σ ++ τ)[p.r]? = σ[p.r]? := List.getElem?_append_left hp
    simp only [outB, this]

/-- A tree is what a root holds, or its first rows. -/
def Tr (S0 : St) (r : Nat) (t : T) : Prop := ∀ m s rs, t.go m = .sl s rs → ∃ rs0, S0.look ⟨r, m⟩ = .sl s rs0 ∧ rs.length ≤ rs0.length ∧ ∀ (i : Nat) (row : List T), rs[i]? = some row → rs0[i]? = some row
structure Ex (S0 S : St) (gs : List T) (σ : List (Option Nat)) : Prop where
  len : σ.length = gs.length
  sub : ∀ r t, S.gh r = some t → S0.gh r = some t
  fz : S.fz = S0.fz
  src : ∀ (k : Nat) (t : T), gs[k]? = some t → (∃ r, σ[k]? = some (some r) ∧ Tr S0 r t) ∨ (σ[k]? = some none ∧ ∃ sz, t = .sl sz [])
  inj : ∀ (j k r : Nat), σ[j]? = some (some r) → σ[k]? = some (some r) → j = k
  used : ∀ (k r : Nat), σ[k]? = some (some r) → r < S0.fz ∨ S.gh r = none

theorem exp0_sound {gs gs' : List T} {σ : List (Option Nat)} (hx : Ex S0 S gs σ) {sz : Nat} {v v' : AV} {u : Value} (hv : VR w bt v u) (h : exp0 S gs sz v = some (v', gs', S')) :
    ∃ τ, Ex S0 S' gs' (σ ++ τ) ∧ VR w (outB bt (σ ++ τ)) v' u := by
  cases hv with
  | sc hs =>
    simp only [exp0, Option.some.injEq, Prod.mk.injEq] at h
    obtain ⟨rfl, rfl, rfl⟩ := h
    exact ⟨[], by rw [List.append_nil]; exact hx, .sc hs⟩
  | em ad =>
    simp only [exp0, Option.some.injEq, Prod.mk.injEq] at h
    obtain ⟨rfl, rfl, rfl⟩ := h
    have hnew : (σ ++ [none])[gs.length]? = some none := by rw [← hx.len]; simp
    refine ⟨[none], ⟨by simp [hx.len], hx.sub, hx.fz, fun k t hk => ?_, fun j k r hj hk => ?_, fun k r hk => ?_⟩, .own (by simp [outB, hx.len]) (Nat.le_refl _) (by simp [outB, hnew]) (fun h => absurd h (by omega))⟩
    · rcases Nat.lt_or_ge k gs.length with hl | hl
      · rw [List.getElem?_append_left hl] at hk
        rw [List.getElem?_append_left (by rw [hx.len]; exact hl)]
        exact hx.src k t hk
      · rw [List.getElem?_append_right hl] at hk
        have : k = gs.length := by
          have := (List.getElem?_eq_some_iff.1 hk).1
          simp at this
          omega
        subst this
        simp at hk
        exact .inr ⟨hnew, sz, hk.symm⟩
    · have low : ∀ k : Nat, (σ ++ [none])[k]? = some (some r) → σ[k]? = some (some r) := by
        intro k hk
        rw [List.getElem?_append] at hk
        split at hk
        · exact hk
        · have := List.mem_of_getElem? hk
          simp at this
      exact hx.inj j k r (low j hj) (low k hk)
    · rw [List.getElem?_append] at hk
      split at hk
      · exact hx.used k r hk
      · have := List.mem_of_getElem? hk
        simp at this
  | own hp hc hkap ha =>
    rename_i p s lo len ad cap
    simp only [exp0] at h
    split at h
    · rename_i hcond
      obtain ⟨hl, rfl, rfl, hfz⟩ := hcond
      simp only [Option.bind_eq_some_iff] at h
      obtain ⟨rows, hrows, h⟩ := h
      split at h
      · rename_i hlen
        simp only [Option.some.injEq, Prod.mk.injEq] at h
        obtain ⟨rfl, rfl, rfl⟩ := h
        obtain ⟨pr, pl⟩ := p
        simp only at hl hfz
        subst hl
        have hgh : S.gh pr = some (.sl s rows) := by
          have := rows_some hrows
          unfold St.look at this
          split at this
          · rename_i t ht
            simp only [T.go] at this
            rw [ht, this]
          · cases this
        have hnew : (σ ++ [some pr])[gs.length]? = some (some pr) := by rw [← hx.len]; simp
        have notin : ∀ k : Nat, σ[k]? ≠ some (some pr) := by
          intro k hk
          rcases hx.used k pr hk with h | h
          · rw [hx.fz] at hfz; omega
          · rw [hgh] at h; cases h
        refine ⟨[some pr], ⟨by simp [hx.len], fun r t ht => ?_, hx.fz, fun k t hk => ?_, fun j k r hj hk => ?_, fun k r hk => ?_⟩, .own (by simp [outB, hx.len]) hc ?_ (fun h => ?_)⟩
        · simp only [upd] at ht
          split at ht
          · cases ht
          · exact hx.sub r t ht
        · rcases Nat.lt_or_ge k gs.length with hl | hl
          · rw [List.getElem?_append_left hl] at hk
            rw [List.getElem?_append_left (by rw [hx.len]; exact hl)]
            exact hx.src k t hk
          · rw [List.getElem?_append_right hl] at hk
            have : k = gs.length := by
              have := (List.getElem?_eq_some_iff.1 hk).1
              simp at this
              omega
            subst this
            simp at hk
            subst hk
            refine .inl ⟨pr, hnew, fun m s' rs hg => ?_⟩
            have hlk : ∀ m, S0.look ⟨pr, m⟩ = (T.sl s rows).go m := by
              intro m
              unfold St.look
              rw [hx.sub pr _ hgh]
            rcases T.go_take hg with ⟨rfl, rfl, rfl⟩ | ⟨hm, hg'⟩
            · exact ⟨rows, hlk [], by simp; omega, fun i row hi => by
                rw [List.getElem?_take] at hi
                split at hi
                · exact hi
                · cases hi⟩
            · exact ⟨rs, by rw [hlk]; exact hg', Nat.le_refl _, fun i row hi => hi⟩
        · rw [List.getElem?_append] at hj hk
          split at hj <;> split at hk
          · exact hx.inj j k r hj hk
          · have := List.mem_of_getElem? hk
            simp at this
            subst this
            exact absurd hj (notin j)
          · have := List.mem_of_getElem? hj
            simp at this
            subst this
            exact absurd hk (notin k)
          · have h1 := (List.getElem?_eq_some_iff.1 hj).1
            have h2 := (List.getElem?_eq_some_iff.1 hk).1
            simp at h1 h2
            omega
        · rw [List.getElem?_append] at hk
          split at hk
          · rcases hx.used k r hk with h | h
            · exact .inl h
            · right
              simp only [upd]
              split
              · rfl
              · exact h
          · have := List.mem_of_getElem? hk
            simp at this
            subst this
            right
            simp [upd]
        · show 0 + cap ≤ (outB bt (σ ++ [some pr])).κ ⟨gs.length, []⟩
          simp only [outB, hnew]
          exact hkap
        · show ad = some (⟨(outB bt (σ ++ [some pr])).β ⟨gs.length, []⟩, 0 * s, none⟩ : Addr)
          simp only [outB, hnew]
          exact ha h
      · cases h
    · cases h
  | _ => simp [exp0] at h

theorem expAll_sound : ∀ (szs : List Nat) (vs : List AV) (us : List Value) (gs gs' : List T) (σ : List (Option Nat)) (S S' : St) (vs' : List AV), Ex S0 S gs σ → us.length = vs.length → (∀ (k : Nat) (v : AV) (u : Value), vs[k]? = some v → us[k]? = some u → VR w bt v u) →
    expAll S gs szs vs = some (vs', gs', S') → ∃ τ, Ex S0 S' gs' (σ ++ τ) ∧ us.length = vs'.length ∧ ∀ (k : Nat) (v : AV) (u : Value), vs'[k]? = some v → us[k]? = some u → VR w (outB bt (σ ++ τ)) v u := by
  intro szs
  induction szs with
  | nil =>
    intro vs us gs gs' σ S S' vs' hx hl hv h
    cases vs with
    | nil =>
      simp only [expAll, Option.some.injEq, Prod.mk.injEq] at h
      obtain ⟨rfl, rfl, rfl⟩ := h
      exact ⟨[], by rw [List.append_nil]; exact hx, hl, fun k v u hk => by simp at hk⟩
    | cons v vs => simp [expAll] at h
  | cons sz szs ih =>
    intro vs us gs gs' σ S S' vs' hx hl hv h
    cases vs with
    | nil => simp [expAll] at h
    | cons v vs =>
      cases us with
      | nil => simp at hl
      | cons u us =>
        simp only [expAll, Option.bind_eq_some_iff, Option.map_eq_some_iff, Prod.exists, Prod.mk.injEq] at h
        obtain ⟨v1, gs1, S1, h1, vs2, gs2, S2, h2, rfl, rfl, rfl⟩ := h
        obtain ⟨τ1, e1, e2⟩ := exp0_sound hx (hv 0 v u rfl rfl) h1
        obtain ⟨τ2, e3, e4, e5⟩ := ih vs us gs1 gs2 (σ ++ τ1) S1 S2 vs2 e1 (by simpa using hl) (fun k v u hk hu => hv (k + 1) v u (by simpa using hk) (by simpa using hu)) h2
        refine ⟨τ1 ++ τ2, by rw [← List.append_assoc]; exact e3, by simp [e4], fun k v u hk hu => ?_⟩
        rw [← List.append_assoc]
        cases k with
        | zero =>
          simp only [List.getElem?_cons_zero, Option.some.injEq] at hk hu
          subst hk hu
          exact e2.mono (outB_le _ _ _) (fun _ _ => rfl)
        | succ k => exact e5 k v u (by simpa using hk) (by simpa using hu)

theorem exp1_sound {gs gs' : List T} {σ : List (Option Nat)} (hx : Ex S0 S gs σ) {t : TypeId} {v v' : AV} {u : Value} (hv : VR w bt v u) (h : exp1 P S gs t v = some (v', gs', S')) :
    ∃ τ, Ex S0 S' gs' (σ ++ τ) ∧ VR w (outB bt (σ ++ τ)) v' u := by
  cases v with
  | agg cs =>
    simp only [exp1, Option.map_eq_some_iff, Prod.exists, Prod.mk.injEq] at h
    obtain ⟨vs, gs1, S1, h1, rfl, rfl, rfl⟩ := h
    cases hv with
    | agg hl ho hr =>
      obtain ⟨τ, e1, e2, e3⟩ := expAll_sound _ _ _ _ _ _ _ _ _ hx hl hr h1
      exact ⟨τ, e1, .agg e2 ho e3⟩
  | _ => exact exp0_sound (sz := (shT P 9 t).headD 0) hx hv h

theorem exps_sound : ∀ (ts : List (TypeId × AV)) (us : List Value) (gs gs' : List T) (σ : List (Option Nat)) (S : St) (vs' : List AV), Ex S0 S gs σ → us.length = ts.length → (∀ (k : Nat) (v : TypeId × AV) (u : Value), ts[k]? = some v → us[k]? = some u → VR w bt v.2 u) →
    exps P S gs ts = some (vs', gs') → ∃ τ S', Ex S0 S' gs' (σ ++ τ) ∧ us.length = vs'.length ∧ ∀ (k : Nat) (v : AV) (u : Value), vs'[k]? = some v → us[k]? = some u → VR w (outB bt (σ ++ τ)) v u := by
  intro ts
  induction ts with
  | nil =>
    intro us gs gs' σ S vs' hx hl hv h
    simp only [exps, Option.some.injEq, Prod.mk.injEq] at h
    obtain ⟨rfl, rfl⟩ := h
    exact ⟨[], S, by rw [List.append_nil]; exact hx, hl, fun k v u hk => by simp at hk⟩
  | cons tv ts ih =>
    intro us gs gs' σ S vs' hx hl hv h
    obtain ⟨t, v⟩ := tv
    cases us with
    | nil => simp at hl
    | cons u us =>
      simp only [exps, Option.bind_eq_some_iff, Option.map_eq_some_iff, Prod.exists, Prod.mk.injEq] at h
      obtain ⟨v1, gs1, S1, h1, vs2, gs2, h2, rfl, rfl⟩ := h
      obtain ⟨τ1, e1, e2⟩ := exp1_sound hx (hv 0 (t, v) u rfl rfl) h1
      obtain ⟨τ2, S2, e3, e4, e5⟩ := ih us gs1 gs2 (σ ++ τ1) S1 vs2 e1 (by simpa using hl) (fun k v u hk hu => hv (k + 1) v u (by simpa using hk) (by simpa using hu)) h2
      refine ⟨τ1 ++ τ2, S2, by rw [← List.append_assoc]; exact e3, by simp [e4], fun k v u hk hu => ?_⟩
      rw [← List.append_assoc]
      cases k with
      | zero =>
        simp only [List.getElem?_cons_zero, Option.some.injEq] at hk hu
        subst hk hu
        exact e2.mono (outB_le _ _ _) (fun _ _ => rfl)
      | succ k => exact e5 k v u (by simpa using hk) (by simpa using hu)

/-- What is left when a function returns. -/
theorem Inv.out (hI : Inv w0 W bt S0 w) {gs : List T} {σ : List (Option Nat)} (hx : Ex S0 S gs σ) : Inv w0 W (outB bt σ) (mkS gs) w := by
  have look : ∀ p s rs, (mkS gs).look p = .sl s rs → (∃ r rs0, σ[p.r]? = some (some r) ∧ S0.look ⟨r, p.l⟩ = .sl s rs0 ∧ rs.length ≤ rs0.length ∧ ∀ (i : Nat) (row : List T), rs[i]? = some row → rs0[i]? = some row) ∨ (σ[p.r]? = some none ∧ rs = []) := by
    intro p s rs h
    unfold St.look mkS at h
    simp only at h
    split at h
    · rename_i t ht
      rcases hx.src _ t ht with ⟨r, h1, h2⟩ | ⟨h1, sz, rfl⟩
      · obtain ⟨rs0, h3, h4, h5⟩ := h2 _ _ _ h
        exact .inl ⟨r, rs0, h1, h3, h4, h5⟩
      · right
        refine ⟨h1, ?_⟩
        cases hl : p.l with
        | nil => rw [hl] at h; simp only [T.go, T.sl.injEq] at h; exact h.2.symm
        | cons y l =>
          rw [hl] at h
          obtain ⟨i, j⟩ := y
          simp [T.go, T.cell, T.dd_go] at h
    · cases h
  have eκ : ∀ (p : Pos) (r : Nat), σ[p.r]? = some (some r) → (outB bt σ).κ p = bt.κ ⟨r, p.l⟩ ∧ (outB bt σ).β p = bt.β ⟨r, p.l⟩ := by
    intro p r h
    simp [outB, h]
  have e0 : ∀ (p : Pos), σ[p.r]? = some none → (outB bt σ).κ p = 0 := by
    intro p h
    simp [outB, h]
  exact { os := hI.os, tape := hI.tape, output := hI.output, size := hI.size, keep := hI.keep, nb := rfl, ng := by simp [outB, mkS, hx.len]
          bx := fun n cells h => by cases h
          gh := fun r t h => (List.getElem?_eq_some_iff.1 h).1
          tr := fun p s rs h => by
            rcases look p s rs h with ⟨r, rs0, h1, h2, h3, h4⟩ | ⟨h1, rfl⟩
            · rw [(eκ p r h1).1, (eκ p r h1).2]
              obtain ⟨k1, k2⟩ := hI.tr _ _ _ h2
              refine ⟨by omega, fun hk => ⟨(k2 hk).1, ?_⟩⟩
              obtain ⟨_, cs, e, g1, g2, g3, g4⟩ := k2 hk
              refine ⟨cs, e, by rw [(eκ p r h1).2]; exact g1, by rw [(eκ p r h1).1]; exact g2, g3, fun i row hi => ?_⟩
              obtain ⟨m1, m2⟩ := g4 i row (h4 i row hi)
              refine ⟨m1, fun j x hj => ?_⟩
              obtain ⟨c, m3, m4⟩ := m2 j x hj
              have := eκ (p.sub i j) r h1
              refine ⟨c, m3, ?_⟩
              cases m4 with
              | sc h => exact .sc h
              | dd u => exact .dd _
              | sl q1 q2 q3 => exact .sl q1 (by rw [this.1]; exact q2) (by rw [this.2]; exact q3)
            · rw [e0 p h1]
              exact ⟨Nat.le_refl _, fun h => absurd h (by omega)⟩
          inj := fun p q s rs s' rs' h h' hk hk' he => by
            rcases look p s rs h with ⟨r, rs0, h1, h2, _⟩ | ⟨h1, _⟩
            · rcases look q s' rs' h' with ⟨r', rs0', h1', h2', _⟩ | ⟨h1', _⟩
              · rw [(eκ p r h1).1] at hk
                rw [(eκ q r' h1').1] at hk'
                rw [(eκ p r h1).2, (eκ q r' h1').2] at he
                have := hI.inj _ _ _ _ _ _ h2 h2' hk hk' he
                simp only [Pos.mk.injEq] at this
                obtain ⟨rfl, hl⟩ := this
                obtain ⟨pr, pl⟩ := p
                obtain ⟨qr, ql⟩ := q
                simp only at *
                rw [hl, hx.inj pr qr r h1 h1']
              · rw [e0 q h1'] at hk'; omega
            · rw [e0 p h1] at hk; omega
          bbinj := fun n m c c' h => by cases h
          bbtr := fun n c p s rs h => by cases h
          alt := hI.alt
          atr := fun p s rs h hk => by
            rcases look p s rs h with ⟨r, rs0, h1, h2, _⟩ | ⟨h1, _⟩
            · rw [(eκ p r h1).1] at hk
              rw [(eκ p r h1).2]
              exact hI.atr _ _ _ h2 hk
            · rw [e0 p h1] at hk; omega
          abb := fun n c h => by cases h }
end
end Go.Proofs.Ytkifojmjcpdnoaa.En

/- The engine, part 26: a whole function. -/
namespace Go.Proofs.Ytkifojmjcpdnoaa.En
open Go Go.RowKit

/-- A function of which the engine can tell: its body is fit. -/
def fnT (P : Program) (f : FuncId) : Option Func := (P.funcs[f]?).bind fun fn => match fn.body with
  | none => none
  | some c => if fn.name == "runtime.NumGoroutine" || !codeOk P c then none else some fn
def resAV (P : Program) (S : St) : ResultVar → Option AV
  | .tmp t => some (S.env t)
  | .cell a t => if 0 < P.cellsOf t then load P S t (S.env a) else none
def begS (n : Nat) (args : List AV) (gs : List T) : St := { env := fun t => args.getD t .dead, bx := fun _ => none, gh := fun n => gs[n]?, nb := 0, ng := gs.length, fz := gs.length, orc := none, nt := args.length + (n - args.length) }
def one1 : List AV → AV
  | [v] => v
  | vs => .tup vs
def endS (P : Program) (rs : List ResultVar) (ts : List TypeId) (n : Nat) (S : St) : Option (AV × List T) :=
  (rs.mapM (resAV P S)).bind fun vs => if vs.length = ts.length then (exps P S ((List.range n).map fun r => (S.gh r).getD .dd) (ts.zip vs)).map fun (vs, out) => (one1 vs, out) else none
def evBody (D : Den) (P : Program) (k : Nat) (f : FuncId) (args : List AV) (gs : List T) : Option (AV × List T) :=
  (fnT P f).bind fun fn => fn.body.bind fun c => (evC D P k c (begS fn.ntmps args gs)).bind fun (x, S) => match x with | .ext _ => none | _ => endS P fn.results.toList fn.resultTypes.toList gs.length S

def resVal (tmps : Array Value) : ResultVar → Sem Value
  | .tmp t => pure (tmps.getD t undef)
  | .cell b t => do loadVar t (← asAddr (tmps.getD b undef))

section
variable {P : Program} {w0 w w' : World} {W : Nat → Prop} {bt bt' : Bt} {S0 S S' : St} {a a' : Act} {D : Den}

theorem results_run (hI : Inv w0 W bt S w) (hE : ER w bt S a) {fn : Func} {vs : List AV} (h : fn.results.toList.mapM (resAV P S) = some vs) :
    ∃ us : List Value, us.length = vs.length ∧ (∀ (k : Nat) (v : AV) (u : Value), vs[k]? = some v → us[k]? = some u → VR w bt v u) ∧ (results fn a.tmps).run P w = .ok (match us with | [u] => u | us => .tuple us.toArray) w := by
  have key : ∀ (rs : List ResultVar) (vs : List AV), rs.mapM (resAV P S) = some vs → ∃ us : List Value, us.length = vs.length ∧ (∀ (k : Nat) (v : AV) (u : Value), vs[k]? = some v → us[k]? = some u → VR w bt v u) ∧
      (rs.mapM (resVal a.tmps)).run P w = .ok us w := by
    intro rs
    induction rs with
    | nil =>
      intro vs h
      simp only [List.mapM_nil, Option.pure_def, Option.some.injEq] at h
      subst h
      exact ⟨[], rfl, fun k v u hk => by simp at hk, rfl⟩
    | cons r rs ih =>
      intro vs h
      simp only [List.mapM_cons, Option.bind_eq_bind, Option.bind_eq_some_iff, Option.pure_def, Option.some.injEq] at h
      obtain ⟨v, h1, vs', h2, rfl⟩ := h
      obtain ⟨us, g1, g2, g3⟩ := ih vs' h2
      have one : ∃ u, (resVal a.tmps r).run P w = .ok u w ∧ VR w bt v u := by
        cases r with
        | tmp t =>
          simp only [resAV, Option.some.injEq] at h1
          subst h1
          exact ⟨_, rfl, hE.2 t⟩
        | cell b t =>
          simp only [resAV] at h1
          split at h1
          · rename_i hpos
            simp only [load, Option.bind_eq_some_iff] at h1
            obtain ⟨ag, hag, cs, hcs, hm⟩ := h1
            obtain ⟨ad, us, he, hul, hcl, hc, ho, hr⟩ := cellsAt_sound hI (hE.2 b) hcs hpos
            obtain ⟨u', k1, k2⟩ := run_loadVar_any hag hul hc (by omega) ho hr hm
            exact ⟨u', by simp [resVal, he, asAddr, k1], k2⟩
          · cases h1
      obtain ⟨u, k1, k2⟩ := one
      refine ⟨u :: us, by simp [g1], fun k v' u' hk hu => ?_, ?_⟩
      · cases k with
        | zero =>
          simp only [List.getElem?_cons_zero, Option.some.injEq] at hk hu
          subst hk hu
          exact k2
        | succ k => exact g2 k v' u' (by simpa using hk) (by simpa using hu)
      · rw [List.mapM_cons]
        simp only [Sem.run_bind, k1, Result.andThen_ok, g3, Sem.run_pure]
  obtain ⟨us, g1, g2, g3⟩ := key _ _ h
  refine ⟨us, g1, g2, ?_⟩
  have hres : results fn a.tmps = (do
      let vs ← fn.results.mapM (resVal a.tmps)
      pure (if h : vs.size = 1 then vs[0] else .tuple vs)) := rfl
  rw [hres, Array.mapM_eq_mapM_toList]
  simp only [Sem.run_bind, map_eq_pure_bind, g3, Result.andThen_ok, Sem.run_pure]
  congr 1
  match us with
  | [] => rfl
  | [u] => rfl
  | u :: u' :: us => simp

theorem body_sound (hD : Sound P D) (hm : P.follows .mixedOrders = true) {k : Nat} {f : FuncId} {args : List AV} {gs : List T} {res : AV} {out : List T}
    (h : evBody D P k f args gs = some (res, out)) : SoundC P f args gs res out := by
  intro w W bt0 vals hI hl hv
  unfold evBody at h
  simp only [Option.bind_eq_some_iff] at h
  obtain ⟨fn, hfn, c, hc, ⟨x, S1⟩, h1, h2⟩ := h
  obtain ⟨hf, hname, hcok⟩ : P.funcs[f]? = some fn ∧ (fn.name == "runtime.NumGoroutine") = false ∧ codeOk P c = true := by
    unfold fnT at hfn
    simp only [Option.bind_eq_some_iff] at hfn
    obtain ⟨fn', g1, g2⟩ := hfn
    split at g2
    · cases g2
    · rename_i c' hc'
      split at g2
      · cases g2
      · rename_i hn
        simp only [Option.some.injEq] at g2
        subst g2
        rw [hc] at hc'
        simp only [Option.some.injEq] at hc'
        subst hc'
        simp only [Bool.or_eq_true, not_or, Bool.not_eq_true, Bool.not_eq_false'] at hn
        exact ⟨g1, hn.1, hn.2⟩
  have hname' : ¬ fn.name = "runtime.NumGoroutine" := by simpa using hname
  refine ⟨by simp [callFunc, hf, hname', hc], calls_of_wp hf hc ?_⟩
  have h0 : Lv w W bt0 (begS fn.ntmps args gs) bt0 (begS fn.ntmps args gs) { tmps := vals.toArray ++ Array.replicate (fn.ntmps - vals.toArray.size) undef, defers := [] } w := by
    refine ⟨{ os := hI.os, tape := hI.tape, output := hI.output, size := hI.size, keep := hI.keep, nb := hI.nb, ng := hI.ng, bx := hI.bx, gh := hI.gh, tr := hI.tr, inj := hI.inj, bbinj := hI.bbinj, bbtr := hI.bbtr, alt := hI.alt, atr := hI.atr, abb := hI.abb },
      ⟨by simp [begS, hl], fun t => ?_⟩, rfl, rfl, Nat.le_refl _, fun _ _ => ⟨rfl, rfl⟩, fun _ _ h => h⟩
    show VR w bt0 (args.getD t .dead) _
    cases ha : args[t]? with
    | none =>
      simp only [List.getD_eq_getElem?_getD, ha, Option.getD_none]
      exact .dead _
    | some v =>
      have ht := (List.getElem?_eq_some_iff.1 ha).1
      have hvt : vals[t]? = some (vals[t]'(by omega)) := List.getElem?_eq_getElem _
      have : (vals.toArray ++ Array.replicate (fn.ntmps - vals.toArray.size) undef).getD t undef = vals[t]'(by omega) := by
        rw [Array.getD_eq_getD_getElem?, Array.getElem?_append_left (by simp; omega)]
        simp [hvt]
      rw [this]
      simp only [List.getD_eq_getElem?_getD, ha, Option.getD_some]
      exact hv t v _ ha hvt
  refine evC_sound hD hm k c bt0 _ S1 _ w x _ hcok h0 h1 (fun bt' a' w' h' => ?_)
  have fin : endS P fn.results.toList fn.resultTypes.toList gs.length S1 = some (res, out) → ∃ v, (results fn a'.tmps).run P w' = .ok v w' ∧ ∃ v' btn, Ending.returned v = .returned v' ∧ Inv w W btn (mkS out) w' ∧ gs.length ≤ out.length ∧ (∀ p : Pos, p.r < gs.length → btn.β p = bt0.β p ∧ btn.κ p = bt0.κ p) ∧ VR w' btn res v' := by
    intro h2
    unfold endS at h2
    simp only [Option.bind_eq_some_iff] at h2
    obtain ⟨vs, h3, h4⟩ := h2
    split at h4
    · rename_i hlen
      simp only [Option.map_eq_some_iff, Prod.exists, Prod.mk.injEq] at h4
      obtain ⟨vs', out', h5, rfl, rfl⟩ := h4
      obtain ⟨us, g1, g2, g3⟩ := results_run h'.inv h'.er h3
      have hfz : S1.fz = gs.length := h'.fz
      have hx0 : Ex S1 S1 ((List.range gs.length).map fun r => (S1.gh r).getD .dd) ((List.range gs.length).map some) := by
        refine ⟨by simp, fun _ _ h => h, rfl, fun k t hk => ?_, fun j k r hj hk => ?_, fun k r hk => ?_⟩
        · simp only [List.getElem?_map, Option.map_eq_some_iff] at hk
          obtain ⟨r, hr, rfl⟩ := hk
          have : r = k ∧ k < gs.length := by
            rw [List.getElem?_eq_some_iff] at hr
            obtain ⟨q1, q2⟩ := hr
            simp at q1 q2
            exact ⟨q2.symm, q1⟩
          obtain ⟨rfl, hk⟩ := this
          refine .inl ⟨r, by simp [hk], fun m s rs hg => ⟨rs, ?_, Nat.le_refl _, fun _ _ h => h⟩⟩
          cases hgh : S1.gh r with
          | none =>
            have := h'.gone r hk hgh
            simp [begS] at this
            omega
          | some t =>
            rw [hgh] at hg
            unfold St.look
            rw [hgh]
            exact hg
        · simp only [List.getElem?_map, Option.map_eq_some_iff, Option.some.injEq] at hj hk
          obtain ⟨r1, h1, rfl⟩ := hj
          obtain ⟨r2, h2, rfl⟩ := hk
          rw [List.getElem?_eq_some_iff] at h1 h2
          obtain ⟨_, h1⟩ := h1
          obtain ⟨_, h2⟩ := h2
          simp at h1 h2
          omega
        · simp only [List.getElem?_map, Option.map_eq_some_iff, Option.some.injEq] at hk
          obtain ⟨r1, h1, rfl⟩ := hk
          left
          rw [List.getElem?_eq_some_iff] at h1
          obtain ⟨h0, h1⟩ := h1
          simp at h0 h1
          omega
      obtain ⟨τ, S2, e1, e2, e3⟩ := exps_sound (bt := bt') (w := w') _ us _ _ _ _ _ hx0 (by simp [g1, hlen]) (fun k tv u hk hu => by
        rw [List.getElem?_zip_eq_some] at hk
        exact g2 k tv.2 u hk.2 hu) h5
      have hout := h'.inv.out e1
      have hlo : gs.length ≤ out'.length := by
        rw [← e1.len]
        simp
      refine ⟨_, g3, _, _, rfl, hout, hlo, fun p hp => ?_, ?_⟩
      · have hσ : ((List.range gs.length).map some ++ τ)[p.r]? = some (some p.r) := by
          rw [List.getElem?_append_left (by simpa using hp)]
          simp [hp]
        have := h'.keep p hp
        simp only [outB, hσ]
        exact this
      · match vs', us, e2, e3 with
        | [v], [u], _, e3 => exact e3 0 v u rfl rfl
        | [], [], _, e3 => exact .tup rfl (fun k c u hk => by simp at hk)
        | v :: v' :: vs', u :: u' :: us, e2, e3 => exact .tup e2 e3
    · cases h4
  simp only at h2
  cases x with
  | ext i => simp at h2
  | nor => exact ⟨h'.defers, fin h2⟩
  | ret => exact ⟨h'.defers, fin h2⟩
end
end Go.Proofs.Ytkifojmjcpdnoaa.En

/- The engine, part 34: code, by what holds at its end. -/
namespace Go.Proofs.Ytkifojmjcpdnoaa.En
open Go Go.RowKit
section
variable {P : Program} {w0 w w' : World} {W : Nat → Prop} {btI bt bt' bt0 : Bt} {SI S S' S1 : St} {a a' : Act} {D : Den}

/-- The code comes to an end, and there Post holds. -/
def WpM (P : Program) (c : Code) (S : St) (Post : X → St → Prop) : Prop :=
  ∀ ⦃w0 : World⦄ ⦃W : Nat → Prop⦄ ⦃btI : Bt⦄ ⦃SI : St⦄ ⦃bt : Bt⦄ ⦃a : Act⦄ ⦃w : World⦄ ⦃Q : Exit → Act → World → Prop⦄, Lv w0 W btI SI bt S a w →
    (∀ x S' bt' a' w', Post x S' → Lv w0 W btI SI bt' S' a' w' → Q x.out a' w') → c.wp P Q a w
/-- The same of the operations from number k on. -/
def WpL (P : Program) (ops : Array Oper) (l : List Oper) (S : St) (Post : St → Prop) : Prop :=
  ∀ (k : Nat) ⦃w0 : World⦄ ⦃W : Nat → Prop⦄ ⦃btI : Bt⦄ ⦃SI : St⦄ ⦃bt : Bt⦄ ⦃a : Act⦄ ⦃w : World⦄ ⦃Q : Exit → Act → World → Prop⦄, ops.toList.drop k = l → Lv w0 W btI SI bt S a w →
    (∀ S' bt' a' w', Post S' → Lv w0 W btI SI bt' S' a' w' → Q .normal a' w') → wpOps P ops Q (List.range' k l.length) a w
/-- A state that says less. -/
def Weak (S S1 : St) : Prop := ∀ ⦃w0 : World⦄ ⦃W : Nat → Prop⦄ ⦃btI : Bt⦄ ⦃SI : St⦄ ⦃bt : Bt⦄ ⦃a : Act⦄ ⦃w : World⦄, Lv w0 W btI SI bt S a w → ∃ bt1, Lv w0 W btI SI bt1 S1 a w
theorem Weak.refl : Weak S S := by intro w0 W btI SI bt a w h; exact ⟨_, h⟩
theorem Weak.trans {S2 : St} (h : Weak S S1) (k : Weak S1 S2) : Weak S S2 := by
  intro w0 W btI SI bt a w hl
  obtain ⟨bt1, h1⟩ := h hl
  exact k h1

theorem WpM.mono {c : Code} {Post Post' : X → St → Prop} (h : WpM P c S Post) (hp : ∀ x S, Post x S → ∃ S', Weak S S' ∧ Post' x S') : WpM P c S Post' := by
  intro w0 W btI SI bt a w Q hl hK
  refine h hl (fun x S' bt' a' w' hP hl' => ?_)
  obtain ⟨S2, h1, h2⟩ := hp x S' hP
  obtain ⟨bt2, h3⟩ := h1 hl'
  exact hK x S2 bt2 a' w' h2 h3
theorem WpM.weak {c : Code} {Post : X → St → Prop} (hw : Weak S S1) (h : WpM P c S1 Post) : WpM P c S Post := by
  intro w0 W btI SI bt a w Q hl hK
  obtain ⟨bt1, h1⟩ := hw hl
  exact h h1 hK
theorem WpM.skip {Post : X → St → Prop} (h : Post .nor S) : WpM P .skip S Post := by
  intro w0 W btI SI bt a w Q hl hK
  exact wp_skip (hK _ _ _ _ _ h hl)
theorem WpM.exit {Post : X → St → Prop} {i : Nat} (h : Post (.ext i) S) : WpM P (.exit i) S Post := by
  intro w0 W btI SI bt a w Q hl hK
  exact wp_exit (hK _ _ _ _ _ h hl)
theorem WpM.ret {Post : X → St → Prop} (h : Post .ret S) : WpM P .ret S Post := by
  intro w0 W btI SI bt a w Q hl hK
  exact wp_ret (hK _ _ _ _ _ h hl)
theorem WpM.region {Post : X → St → Prop} {id : Nat} {ops : Array Oper} (h : WpL P ops ops.toList S (Post .nor)) : WpM P (.region id ops false) S Post := by
  intro w0 W btI SI bt a w Q hl hK
  refine wp_region ?_
  have := h 0 (Q := Q) rfl hl (fun S' bt' a' w' hP hl' => hK .nor S' bt' a' w' hP hl')
  rw [List.range_eq_range']
  simpa using this
theorem WpM.draw {Post : X → St → Prop} {id : Nat} {ops : Array Oper} (hD : Sound P D) (hm : P.follows .mixedOrders = true) (hok : drawOk P ops = true) {SV : St} {ms : List Made} (hV : evD D P ops ops.toList S = some (SV, ms)) (hev : evOk (flatP P) ops.toList (befs ops.toList) S ms SV = true) (hS : evS D P ops ops.toList SV = some S')
    (h : Post .nor S') : WpM P (.region id ops true) S Post := by
  intro w0 W btI SI bt a w Q hl hK
  exact draw_sound hD hm hok hl hV hev hS (fun bt' a' w' h' => hK .nor S' bt' a' w' h h')
theorem WpM.seq {Post : X → St → Prop} {c d : Code} (h : WpM P c S (fun x S1 => match x with | .nor => WpM P d S1 Post | x => Post x S1)) : WpM P (.seq c d) S Post := by
  intro w0 W btI SI bt a w Q hl hK
  refine wp_seq (h hl (fun x S1 bt' a' w' hP hl' => ?_))
  cases x with
  | nor => exact hP hl' hK
  | ret => exact hK _ _ _ _ _ hP hl'
  | ext i => exact hK _ _ _ _ _ hP hl'
theorem WpM.cond {Post : X → St → Prop} {t : Operand} {c d : Code} {b : Bool} (hb : opd S t = .sc (.bool b)) (h : WpM P (if b then c else d) S Post) : WpM P (.cond t c d) S Post := by
  intro w0 W btI SI bt a w Q hl hK
  have hv := opd_VR hl.er t
  rw [hb] at hv
  refine wp_cond hv.inv_sc ?_
  cases b with
  | true => exact h hl hK
  | false => exact h hl hK
theorem WpM.block {Post : X → St → Prop} {i : Nat} {c : Code} (h : WpM P c S (fun x S1 => match x with | .ext j => if j = i then Post .nor S1 else Post (.ext j) S1 | x => Post x S1)) : WpM P (.block i c) S Post := by
  intro w0 W btI SI bt a w Q hl hK
  refine wp_block (h hl (fun x S1 bt' a' w' hP hl' => ?_))
  cases x with
  | nor => exact hK _ _ _ _ _ hP hl'
  | ret => exact hK _ _ _ _ _ hP hl'
  | ext j =>
    show Exit.inBlock i Q (.exit j) a' w'
    unfold Exit.inBlock
    simp only
    simp only at hP
    split
    · rename_i hj
      rw [if_pos hj] at hP
      exact hK _ _ _ _ _ hP hl'
    · rename_i hj
      rw [if_neg hj] at hP
      exact hK _ _ _ _ _ hP hl'
/-- A loop, by a count that goes down. -/
theorem WpM.loop {Post : X → St → Prop} {c : Code} (I : Nat → St → Prop) (h : ∀ n S, I n S → WpM P c S (fun x S1 => match x with | .nor => ∃ m, m < n ∧ I m S1 | x => Post x S1)) {n : Nat} (h0 : I n S) : WpM P (.loop c) S Post := by
  intro w0 W btI SI bt a w Q hl hK
  let J : Nat → Act → World → Prop := fun n a w => ∃ bt S, Lv w0 W btI SI bt S a w ∧ I n S
  classical
  refine wp_loop (fun a w => ∃ n, J n a w) (fun a w => if hx : ∃ n, J n a w then Classical.choose (least hx) else 0) ⟨n, bt, S, hl, h0⟩ (fun a w hx => ?_)
  obtain ⟨hj, hmin⟩ := Classical.choose_spec (least hx)
  generalize hnn : Classical.choose (least hx) = n at *
  simp only [dif_pos hx, hnn]
  obtain ⟨bt, S, hl, hI⟩ := hj
  refine h n S hI hl (fun x S1 bt' a' w' hP hl' => ?_)
  cases x with
  | nor =>
    obtain ⟨m, hm, hI'⟩ := hP
    have hex : ∃ n, J n a' w' := ⟨m, bt', S1, hl', hI'⟩
    refine ⟨hex, ?_⟩
    rw [dif_pos hex]
    exact Nat.lt_of_le_of_lt ((Classical.choose_spec (least hex)).2 m ⟨bt', S1, hl', hI'⟩) hm
  | ret => exact hK _ _ _ _ _ hP hl'
  | ext i => exact hK _ _ _ _ _ hP hl'

theorem WpL.nil {Post : St → Prop} {ops : Array Oper} (h : Post S) : WpL P ops [] S Post := by
  intro k w0 W btI SI bt a w Q _ hl hK
  exact hK _ _ _ _ h hl
theorem WpL.weak {Post : St → Prop} {ops : Array Oper} {l : List Oper} (hw : Weak S S1) (h : WpL P ops l S1 Post) : WpL P ops l S Post := by
  intro k w0 W btI SI bt a w Q hd hl hK
  obtain ⟨bt1, h1⟩ := hw hl
  exact h k hd h1 hK
/-- A slice beside nil: an empty one may be nil or not. -/
theorem WpL.eqnil {Post : St → Prop} {ops : Array Oper} {o : Oper} {l : List Oper} {t t' el : TypeId} {x : Operand} {sz : Nat} {rows : List (List T)} (hel : elT P t = some el) (ho : o.op = .binOp .eql t x (.const (.slice none 0 0)) t') (hg : o.guard = none) (hx : opd S x = .ro sz rows)
    (h1 : rows = [] → ∃ S1, S.put o.dst (.sc (.bool true)) = some S1 ∧ WpL P ops l S1 Post) (h2 : ∃ S1, S.put o.dst (.sc (.bool false)) = some S1 ∧ WpL P ops l S1 Post) : WpL P ops (o :: l) S Post := by
  intro k w0 W btI SI bt a w Q hd hl hK
  have hko : ops.toList[k]? = some o := by
    have := congrArg (fun x : List Oper => x[0]?) hd
    simpa [List.getElem?_drop] using this
  have hko' : ops[k]? = some o := by simpa using hko
  have hd' : ops.toList.drop (k + 1) = l := by
    rw [← List.drop_drop, hd]
    rfl
  have hw := wants_sound (ops := ops) (o := o) (b := true) hl.er (by unfold wants; rw [hg])
  have hv := opd_VR hl.er x
  rw [hx] at hv
  obtain ⟨b, hb, hrun⟩ : ∃ b, (b = true → rows = []) ∧ (execOp a.eval o).run P w = .ok (.value (.bool b)) w := by
    obtain ⟨dst, op, type, pos, after, guard⟩ := o
    simp only at ho
    subst ho
    have hc : a.eval (.const (.slice none 0 0)) = .slice none 0 0 := rfl
    have run : ∀ (ad : Option Addr) (n c : Nat), a.eval x = .slice ad n c → (execOp a.eval ⟨dst, .binOp .eql t x (.const (.slice none 0 0)) t', type, pos, after, guard⟩).run P w = .ok (.value (.bool ad.isNone)) w := by
      intro ad n c hu
      have e : execOp a.eval ⟨dst, .binOp .eql t x (.const (.slice none 0 0)) t', type, pos, after, guard⟩ = (do pure (Next.value (← (do eqGuard .eql t x (.const (.slice none 0 0)) (a.eval x) (a.eval (.const (.slice none 0 0))); binOp .eql t (a.eval x) (a.eval (.const (.slice none 0 0))))))) := rfl
      rw [e, hu, hc]
      have g : (eqGuard .eql t x (.const (.slice none 0 0)) (.slice ad n c) (.slice none 0 0)).run P w = .ok () w := by
        simp [eqGuard]
      have q : (binOp .eql t (.slice ad n c) (.slice none 0 0)).run P w = .ok (.bool ad.isNone) w := by
        show (do pure (.bool (← Op.equal t (.slice ad n c) (.slice none 0 0))) : Sem Value).run P w = _
        have : (Op.equal t (.slice ad n c) (.slice none 0 0)).run P w = .ok ad.isNone w := by
          show (Op.equalIn (9999 + 1) t (.slice ad n c) (.slice none 0 0)).run P w = _
          rw [Op.equalIn]
          simp only [Sem.run_bind, run_underlying (elT_some hel), Result.andThen_ok]
          cases ad <;> rfl
        simp only [Sem.run_bind, this, Result.andThen_ok, Sem.run_pure]
      simp only [Sem.run_bind, g, q, Result.andThen_ok, Sem.run_pure]
    generalize hu : a.eval x = u at *
    cases hv with
    | ro hro =>
      cases hro with
      | em sz ad cap => exact ⟨ad.isNone, fun _ => rfl, run ad 0 cap rfl⟩
      | sl cs hc' hs hA hl' hr ht => exact ⟨false, nofun, run _ _ _ rfl⟩
  simp only [List.length_cons, List.range'_succ]
  unfold wpOps
  rw [hko']
  simp only
  rw [hw, if_pos rfl]
  left
  unfold Oper.wp
  rw [hrun, Oper.upon_value]
  cases b with
  | true =>
    obtain ⟨S1, g1, g2⟩ := h1 (hb rfl)
    exact g2 (k + 1) hd' (hl.put (.sc rfl) g1) hK
  | false =>
    obtain ⟨S1, g1, g2⟩ := h2
    exact g2 (k + 1) hd' (hl.put (.sc rfl) g1) hK
theorem WpL.cons {Post : St → Prop} {ops : Array Oper} {o : Oper} {l : List Oper} {b : Bool} (hok : opOk P o = true) (hb : wants S ops o = some b)
    (h : if b then ∃ D S1, Sound P D ∧ one D P S o = some S1 ∧ WpL P ops l S1 Post else ∃ S1, S.put o.dst (.tup []) = some S1 ∧ WpL P ops l S1 Post) : WpL P ops (o :: l) S Post := by
  intro k w0 W btI SI bt a w Q hd hl hK
  have hko : ops.toList[k]? = some o := by
    have := congrArg (fun x : List Oper => x[0]?) hd
    simpa [List.getElem?_drop] using this
  have hko' : ops[k]? = some o := by simpa using hko
  have hd' : ops.toList.drop (k + 1) = l := by
    rw [← List.drop_drop, hd]
    rfl
  have hw := wants_sound hl.er hb
  simp only [List.length_cons, List.range'_succ]
  unfold wpOps
  rw [hko']
  simp only
  cases b with
  | true =>
    simp only [if_true] at h
    obtain ⟨D, S1, hD, h1, h2⟩ := h
    rw [hw, if_pos rfl]
    exact .inl (op_sound hD hl hok h1 (fun bt' a' w' h' => h2 (k + 1) hd' h' hK))
  | false =>
    simp only [Bool.false_eq_true, if_false] at h
    obtain ⟨S1, h1, h2⟩ := h
    rw [hw, if_neg (by simp)]
    exact h2 (k + 1) hd' (hl.put VR_undef h1) hK

theorem body_soundM {f : FuncId} {fn : Func} {c : Code} (hfn : fnT P f = some fn) (hc : fn.body = some c) {args : List AV} {gs : List T} {res : AV} {out : List T}
    (h : WpM P c (begS fn.ntmps args gs) (fun x S => match x with | .ext _ => False | _ => endS P fn.results.toList fn.resultTypes.toList gs.length S = some (res, out))) : SoundC P f args gs res out := by
  intro w W bt0 vals hI hl hv
  obtain ⟨hf, hname, hcok⟩ : P.funcs[f]? = some fn ∧ (fn.name == "runtime.NumGoroutine") = false ∧ codeOk P c = true := by
    unfold fnT at hfn
    simp only [Option.bind_eq_some_iff] at hfn
    obtain ⟨fn', g1, g2⟩ := hfn
    split at g2
    · cases g2
    · rename_i c' hc'
      split at g2
      · cases g2
      · rename_i hn
        simp only [Option.some.injEq] at g2
        subst g2
        rw [hc] at hc'
        simp only [Option.some.injEq] at hc'
        subst hc'
        simp only [Bool.or_eq_true, not_or, Bool.not_eq_true, Bool.not_eq_false'] at hn
        exact ⟨g1, hn.1, hn.2⟩
  have hname' : ¬ fn.name = "runtime.NumGoroutine" := by simpa using hname
  refine ⟨by simp [callFunc, hf, hname', hc], calls_of_wp hf hc ?_⟩
  have h0 : Lv w W bt0 (begS fn.ntmps args gs) bt0 (begS fn.ntmps args gs) { tmps := vals.toArray ++ Array.replicate (fn.ntmps - vals.toArray.size) undef, defers := [] } w := by
    refine ⟨{ os := hI.os, tape := hI.tape, output := hI.output, size := hI.size, keep := hI.keep, nb := hI.nb, ng := hI.ng, bx := hI.bx, gh := hI.gh, tr := hI.tr, inj := hI.inj, bbinj := hI.bbinj, bbtr := hI.bbtr, alt := hI.alt, atr := hI.atr, abb := hI.abb },
      ⟨by simp [begS, hl], fun t => ?_⟩, rfl, rfl, Nat.le_refl _, fun _ _ => ⟨rfl, rfl⟩, fun _ _ h => h⟩
    show VR w bt0 (args.getD t .dead) _
    cases ha : args[t]? with
    | none =>
      simp only [List.getD_eq_getElem?_getD, ha, Option.getD_none]
      exact .dead _
    | some v =>
      have ht := (List.getElem?_eq_some_iff.1 ha).1
      have hvt : vals[t]? = some (vals[t]'(by omega)) := List.getElem?_eq_getElem _
      have : (vals.toArray ++ Array.replicate (fn.ntmps - vals.toArray.size) undef).getD t undef = vals[t]'(by omega) := by
        rw [Array.getD_eq_getD_getElem?, Array.getElem?_append_left (by simp; omega)]
        simp [hvt]
      rw [this]
      simp only [List.getD_eq_getElem?_getD, ha, Option.getD_some]
      exact hv t v _ ha hvt
  refine h h0 (fun x S1 bt' a' w' h2 h' => ?_)
  have fin : endS P fn.results.toList fn.resultTypes.toList gs.length S1 = some (res, out) → ∃ v, (results fn a'.tmps).run P w' = .ok v w' ∧ ∃ v' btn, Ending.returned v = .returned v' ∧ Inv w W btn (mkS out) w' ∧ gs.length ≤ out.length ∧ (∀ p : Pos, p.r < gs.length → btn.β p = bt0.β p ∧ btn.κ p = bt0.κ p) ∧ VR w' btn res v' := by
    intro h2
    unfold endS at h2
    simp only [Option.bind_eq_some_iff] at h2
    obtain ⟨vs, h3, h4⟩ := h2
    split at h4
    · rename_i hlen
      simp only [Option.map_eq_some_iff, Prod.exists, Prod.mk.injEq] at h4
      obtain ⟨vs', out', h5, rfl, rfl⟩ := h4
      obtain ⟨us, g1, g2, g3⟩ := results_run h'.inv h'.er h3
      have hfz : S1.fz = gs.length := h'.fz
      have hx0 : Ex S1 S1 ((List.range gs.length).map fun r => (S1.gh r).getD .dd) ((List.range gs.length).map some) := by
        refine ⟨by simp, fun _ _ h => h, rfl, fun k t hk => ?_, fun j k r hj hk => ?_, fun k r hk => ?_⟩
        · simp only [List.getElem?_map, Option.map_eq_some_iff] at hk
          obtain ⟨r, hr, rfl⟩ := hk
          have : r = k ∧ k < gs.length := by
            rw [List.getElem?_eq_some_iff] at hr
            obtain ⟨q1, q2⟩ := hr
            simp at q1 q2
            exact ⟨q2.symm, q1⟩
          obtain ⟨rfl, hk⟩ := this
          refine .inl ⟨r, by simp [hk], fun m s rs hg => ⟨rs, ?_, Nat.le_refl _, fun _ _ h => h⟩⟩
          cases hgh : S1.gh r with
          | none =>
            have := h'.gone r hk hgh
            simp [begS] at this
            omega
          | some t =>
            rw [hgh] at hg
            unfold St.look
            rw [hgh]
            exact hg
        · simp only [List.getElem?_map, Option.map_eq_some_iff, Option.some.injEq] at hj hk
          obtain ⟨r1, h1, rfl⟩ := hj
          obtain ⟨r2, h2, rfl⟩ := hk
          rw [List.getElem?_eq_some_iff] at h1 h2
          obtain ⟨_, h1⟩ := h1
          obtain ⟨_, h2⟩ := h2
          simp at h1 h2
          omega
        · simp only [List.getElem?_map, Option.map_eq_some_iff, Option.some.injEq] at hk
          obtain ⟨r1, h1, rfl⟩ := hk
          left
          rw [List.getElem?_eq_some_iff] at h1
          obtain ⟨h0, h1⟩ := h1
          simp at h0 h1
          omega
      obtain ⟨τ, S2, e1, e2, e3⟩ := exps_sound (bt := bt') (w := w') _ us _ _ _ _ _ hx0 (by simp [g1, hlen]) (fun k tv u hk hu => by
        rw [List.getElem?_zip_eq_some] at hk
        exact g2 k tv.2 u hk.2 hu) h5
      have hout := h'.inv.out e1
      have hlo : gs.length ≤ out'.length := by
        rw [← e1.len]
        simp
      refine ⟨_, g3, _, _, rfl, hout, hlo, fun p hp => ?_, ?_⟩
      · have hσ : ((List.range gs.length).map some ++ τ)[p.r]? = some (some p.r) := by
          rw [List.getElem?_append_left (by simpa using hp)]
          simp [hp]
        have := h'.keep p hp
        simp only [outB, hσ]
        exact this
      · match vs', us, e2, e3 with
        | [v], [u], _, e3 => exact e3 0 v u rfl rfl
        | [], [], _, e3 => exact .tup rfl (fun k c u hk => by simp at hk)
        | v :: v' :: vs', u :: u' :: us, e2, e3 => exact .tup e2 e3
    · cases h4
  simp only at h2
  cases x with
  | ext i => simp at h2
  | nor => exact ⟨h'.defers, fin h2⟩
  | ret => exact ⟨h'.defers, fin h2⟩
end
end Go.Proofs.Ytkifojmjcpdnoaa.En
