/- Valid clusters: spec and impl tell the same. -/
import Derived.Test.YtjenncacoddgmaaGreatPV3
namespace Go.Proofs.YtjenncacoddgmaaGreat.En
open Go

theorem areSides (l : List Int) (hl : l.length ≤ maxLen) : Agree (fsAreSides l) (fiAreSides l) := by
  have key := lim_two (B1 := bsAreSides_2) (B2 := bslIndexFunc_int_iAreSides_c1_2) l.length (fun k => ((l, (k : Int), ()), (), ())) (fun k => ((l, (), (l.length : Int), (k : Int), ()), (), ())) (.inr ((l, (), ()), (), ())) (.inr (((), ()), (), ())) (fun _ => .inl ((l, false, ()), (), ())) (fun k => .inl (((k : Int), ()), (), ()))
    (fun _ => True) (fun _ => True)
    (by simp only [bsAreSides_2, bsAreSides_2C]; rw [br_dec, if_neg (by omega)])
    (by simp only [bslIndexFunc_int_iAreSides_c1_2, bslIndexFunc_int_iAreSides_c1_2C]; rw [br_dec, if_neg (by omega)])
    (fun k hk => by
      have c1 : (k : Int) < (l.length : Int) := by omega
      have c2 : (0 : Int) ≤ (k : Int) := by omega
      simp only [bsAreSides_2, bsAreSides_2C, bslIndexFunc_int_iAreSides_c1_2, bslIndexFunc_int_iAreSides_c1_2C, br_dec, iteP_ite, if_pos c1, if_pos c2, Int.toNat_natCast, List.getElem?_eq_getElem hk, Option.bind_some, fiAreSides_c1, fiAreSides_c1C, swin, iwin, succ_wrap hl hk]
      cases win l[k] 0 3 with
      | false => exact .inr ⟨rfl, rfl, trivial⟩
      | true => exact .inl ⟨rfl, rfl, trivial⟩)
  unfold fsAreSides fsAreSidesC fiAreSides fiAreSidesC fslContainsFunc_int_iAreSides_c1 fslContainsFunc_int_iAreSides_c1C fslIndexFunc_int_iAreSides_c1 fslIndexFunc_int_iAreSides_c1C
  rcases key with ⟨k1, k2, _⟩ | ⟨k, _, k1, k2, _⟩
  · rw [show lsAreSides_2 ((l, 0, ()), (), ()) = _ from k1, show lslIndexFunc_int_iAreSides_c1_2 ((l, (), (l.length : Int), 0, ()), (), ()) = _ from k2]
    simp only [Option.bind_some, Sum.elim_inr]
    cases ((l.length : Int) == 5) <;> exact ⟨_, rfl, rfl⟩
  · rw [show lsAreSides_2 ((l, 0, ()), (), ()) = _ from k1, show lslIndexFunc_int_iAreSides_c1_2 ((l, (), (l.length : Int), 0, ()), (), ()) = _ from k2]
    simp only [Option.bind_some, Sum.elim_inl]
    rw [decide_eq_true (by omega)]
    cases ((l.length : Int) == 5) <;> exact ⟨_, rfl, rfl⟩

theorem masterLog (m : MasterLog) (h : okMl maxLen m) : ∃ b, fsIsMasterLog m = some (b, ()) ∧ fiIsMasterLog m = some (b, ()) := by
  obtain ⟨hl, hc⟩ := h
  have key := lim_two (B1 := bsIsMasterLog_2) (B2 := biIsMasterLog_2) m.configs.length (fun k => (((), (k : Int), ()), ((m.configs, m.activated, ()), ()), ())) (fun k => (((), m.configs, (m.configs.length : Int), (k : Int), ()), ((m.configs, m.activated, ()), ()), ())) (.inr (((), (), ()), ((m.configs, m.activated, ()), ()), ())) (.inr (((), (), ()), ((m.configs, m.activated, ()), ()), ())) (fun _ => .inl (((), false, ()), ((m.configs, m.activated, ()), ()), ())) (fun _ => .inl (((), false, ()), ((m.configs, m.activated, ()), ()), ()))
    (fun _ => True) (fun _ => True)
    (by simp only [bsIsMasterLog_2, bsIsMasterLog_2C]; rw [br_dec, if_neg (by omega)])
    (by simp only [biIsMasterLog_2, biIsMasterLog_2C]; rw [br_dec, if_neg (by omega)])
    (fun k hk => by
      have c1 : (k : Int) < (m.configs.length : Int) := by omega
      have c2 : (0 : Int) ≤ (k : Int) := by omega
      obtain ⟨b, v1, v2⟩ := validConfig m.configs[k] (hc _ (List.getElem_mem hk))
      simp only [bsIsMasterLog_2, bsIsMasterLog_2C, biIsMasterLog_2, biIsMasterLog_2C, br_dec, iteP_ite, if_pos c1, if_pos c2, Int.toNat_natCast, List.getElem?_eq_getElem hk, Option.bind_some, v1, v2, succ_wrap hl hk, br_not]
      cases b with
      | false => exact .inr ⟨rfl, rfl, trivial⟩
      | true =>
        cases (m.configs[k].epoch == ((k + 1 : Nat) : Int)) with
        | false => exact .inr ⟨rfl, rfl, trivial⟩
        | true => exact .inl ⟨rfl, rfl, trivial⟩)
  unfold fsIsMasterLog fsIsMasterLogC fiIsMasterLog fiIsMasterLogC
  rcases key with ⟨k1, k2, _⟩ | ⟨k, _, k1, k2, _⟩
  · rw [show lsIsMasterLog_2 (((), 0, ()), ((m.configs, m.activated, ()), ()), ()) = _ from k1, show liIsMasterLog_2 (((), m.configs, (m.configs.length : Int), 0, ()), ((m.configs, m.activated, ()), ()), ()) = _ from k2]
    simp only [Option.bind_some, Sum.elim_inr, swin, iwin]
    exact ⟨_, rfl, rfl⟩
  · rw [show lsIsMasterLog_2 (((), 0, ()), ((m.configs, m.activated, ()), ()), ()) = _ from k1, show liIsMasterLog_2 (((), m.configs, (m.configs.length : Int), 0, ()), ((m.configs, m.activated, ()), ()), ()) = _ from k2]
    exact ⟨_, rfl, rfl⟩

theorem isLease (x : Lease) : Agree (fsIsLease x) (fiIsLease x) := by
  unfold fsIsLease fsIsLeaseC fiIsLease fiIsLeaseC
  simp only [swin, iwin, Option.bind_some]
  cases ((x.epoch == 0) && ((x.holder == 0) && ((x.ends == 0) && true))) <;> cases win x.epoch 1 20 <;> cases win x.holder 0 4 <;> exact ⟨_, rfl, rfl⟩

theorem arePlaces (l : List Place) (hl : l.length ≤ maxLen) : Agree (fsArePlaces l) (fiArePlaces l) := by
  have key := lim_two (B1 := bsArePlaces_2) (B2 := bslIndexFunc_Place_iArePlaces_c1_2) l.length (fun k => ((l, (k : Int), ()), (), ())) (fun k => ((l, (), (l.length : Int), (k : Int), ()), (), ())) (.inr ((l, (), ()), (), ())) (.inr (((), ()), (), ())) (fun _ => .inl ((l, false, ()), (), ())) (fun k => .inl (((k : Int), ()), (), ()))
    (fun _ => True) (fun _ => True)
    (by simp only [bsArePlaces_2, bsArePlaces_2C]; rw [br_dec, if_neg (by omega)])
    (by simp only [bslIndexFunc_Place_iArePlaces_c1_2, bslIndexFunc_Place_iArePlaces_c1_2C]; rw [br_dec, if_neg (by omega)])
    (fun k hk => by
      have c1 : (k : Int) < (l.length : Int) := by omega
      have c2 : (0 : Int) ≤ (k : Int) := by omega
      simp only [bsArePlaces_2, bsArePlaces_2C, bslIndexFunc_Place_iArePlaces_c1_2, bslIndexFunc_Place_iArePlaces_c1_2C, br_dec, iteP_ite, if_pos c1, if_pos c2, Int.toNat_natCast, List.getElem?_eq_getElem hk, Option.bind_some, fiArePlaces_c1, fiArePlaces_c1C, swin, iwin, succ_wrap hl hk]
      cases win l[k].rack 0 9 with
      | false => exact .inr ⟨rfl, rfl, trivial⟩
      | true =>
        cases win l[k].capacity 0 9 with
        | false => exact .inr ⟨rfl, rfl, trivial⟩
        | true =>
          cases win l[k].load 0 99 with
          | false => exact .inr ⟨rfl, rfl, trivial⟩
          | true => exact .inl ⟨rfl, rfl, trivial⟩)
  unfold fsArePlaces fsArePlacesC fiArePlaces fiArePlacesC fslContainsFunc_Place_iArePlaces_c1 fslContainsFunc_Place_iArePlaces_c1C fslIndexFunc_Place_iArePlaces_c1 fslIndexFunc_Place_iArePlaces_c1C
  rcases key with ⟨k1, k2, _⟩ | ⟨k, _, k1, k2, _⟩
  · rw [show lsArePlaces_2 ((l, 0, ()), (), ()) = _ from k1, show lslIndexFunc_Place_iArePlaces_c1_2 ((l, (), (l.length : Int), 0, ()), (), ()) = _ from k2]
    simp only [Option.bind_some, Sum.elim_inr]
    cases ((l.length : Int) == 5) <;> exact ⟨_, rfl, rfl⟩
  · rw [show lsArePlaces_2 ((l, 0, ()), (), ()) = _ from k1, show lslIndexFunc_Place_iArePlaces_c1_2 ((l, (), (l.length : Int), 0, ()), (), ()) = _ from k2]
    simp only [Option.bind_some, Sum.elim_inl]
    rw [decide_eq_true (by omega)]
    cases ((l.length : Int) == 5) <;> exact ⟨_, rfl, rfl⟩

theorem validOp (x : Op) : Agree (fsIsValidOp x) (fiIsValidOp x) := by
  unfold fsIsValidOp fsIsValidOpC fiIsValidOp fiIsValidOpC
  simp only [swin, iwin, Option.bind_some]
  cases win x.client 0 2 <;> cases win x.seq 1 99 <;> cases win x.object 0 2 <;> cases win x.value 0 9 <;> cases (x.kind == 1) <;> cases (x.kind == 2) <;> cases (x.old == 0) <;> exact ⟨_, rfl, rfl⟩

/-- Two logs: also that a valid one is short. -/
theorem isLog (l : List Entry) (hl : l.length ≤ maxLen) : (fsIsLog l = some (true, ()) ∧ fiIsLog l = some (true, ()) ∧ l.length ≤ 16) ∨ (fsIsLog l = some (false, ()) ∧ fiIsLog l = some (false, ())) := by
  have key := lim_two (B1 := bsIsLog_2) (B2 := biIsLog_2) l.length (fun k => ((l, (k : Int), ()), (), ())) (fun k => ((l, l, (l.length : Int), (k : Int), ()), (), ())) (.inr ((l, (), ()), (), ())) (.inr ((l, (), ()), (), ())) (fun _ => .inl ((l, false, ()), (), ())) (fun _ => .inl ((l, false, ()), (), ()))
    (fun _ => True) (fun _ => True)
    (by simp only [bsIsLog_2, bsIsLog_2C]; rw [br_dec, if_neg (by omega)])
    (by simp only [biIsLog_2, biIsLog_2C]; rw [br_dec, if_neg (by omega)])
    (fun k hk => by
      have c1 : (k : Int) < (l.length : Int) := by omega
      have c2 : (0 : Int) ≤ (k : Int) := by omega
      obtain ⟨b, v1, v2⟩ := validOp l[k].op
      simp only [bsIsLog_2, bsIsLog_2C, biIsLog_2, biIsLog_2C, br_dec, iteP_ite, if_pos c1, if_pos c2, Int.toNat_natCast, List.getElem?_eq_getElem hk, Option.bind_some, v1, v2, swin, iwin, succ_wrap hl hk, br_not]
      cases win l[k].epoch 1 20 with
      | false => exact .inr ⟨rfl, rfl, trivial⟩
      | true =>
        simp only [br_true]
        by_cases h0 : 0 < k
        · have c3 : (k : Int) > 0 := by omega
          have c4 : (0 : Int) ≤ ((k - 1 : Nat) : Int) := by omega
          have e2 : l[k - 1]? = some l[k - 1] := List.getElem?_eq_getElem (by omega)
          simp only [if_pos c3, pred_wrap h0 (by omega), if_pos c4, Int.toNat_natCast, e2, Option.bind_some]
          by_cases hlt : l[k].epoch < l[k - 1].epoch
          · rw [if_pos hlt, if_pos (show l[k - 1].epoch > l[k].epoch from hlt)]
            cases b <;> exact .inr ⟨rfl, rfl, trivial⟩
          · rw [if_neg hlt, if_neg (show ¬ l[k - 1].epoch > l[k].epoch from hlt)]
            cases b with
            | false => exact .inr ⟨rfl, rfl, trivial⟩
            | true => exact .inl ⟨rfl, rfl, trivial⟩
        · have c3 : ¬ (k : Int) > 0 := by omega
          simp only [if_neg c3]
          cases b with
          | false => exact .inr ⟨rfl, rfl, trivial⟩
          | true => exact .inl ⟨rfl, rfl, trivial⟩)
  unfold fsIsLog fsIsLogC fiIsLog fiIsLogC
  rcases key with ⟨k1, k2, _⟩ | ⟨k, _, k1, k2, _⟩
  · rw [show lsIsLog_2 ((l, 0, ()), (), ()) = _ from k1, show liIsLog_2 ((l, l, (l.length : Int), 0, ()), (), ()) = _ from k2]
    simp only [Option.bind_some, Sum.elim_inr]
    by_cases h : (l.length : Int) ≤ 16
    · rw [decide_eq_true h]
      exact .inl ⟨rfl, rfl, by omega⟩
    · rw [decide_eq_false h]
      exact .inr ⟨rfl, rfl⟩
  · rw [show lsIsLog_2 ((l, 0, ()), (), ()) = _ from k1, show liIsLog_2 ((l, l, (l.length : Int), 0, ()), (), ()) = _ from k2]
    exact .inr ⟨rfl, rfl⟩

theorem equalServers (a b : List Int) (ha : a.length ≤ maxLen) : fsEqualServers a b = some (decide (a = b), ()) ∧ fiEqualServers a b = some (decide (a = b), ()) := by
  unfold fsEqualServers fsEqualServersC fiEqualServers fiEqualServersC fslEqual_int fslEqual_intC
  by_cases hlen : a.length = b.length
  · have hbe : (!((a.length : Int) == (b.length : Int))) = false := by simp [hlen]
    have key := lim_two (B1 := bsEqualServers_4) (B2 := bslEqual_int_4) a.length (fun k => ((a, b, (k : Int), ()), (), ())) (fun k => ((a, b, (a.length : Int), (k : Int), ()), (), ())) (.inr (((), ()), (), ())) (.inr (((), ()), (), ())) (fun _ => .inl ((false, ()), (), ())) (fun _ => .inl ((false, ()), (), ()))
      (fun k => a[k]? = b[k]?) (fun k => a[k]? ≠ b[k]?)
      (by simp only [bsEqualServers_4, bsEqualServers_4C]; rw [br_dec, if_neg (by omega)])
      (by simp only [bslEqual_int_4, bslEqual_int_4C]; rw [br_dec, if_neg (by omega)])
      (fun k hk => by
        have c1 : (k : Int) < (a.length : Int) := by omega
        have c2 : (0 : Int) ≤ (k : Int) := by omega
        simp only [bsEqualServers_4, bsEqualServers_4C, bslEqual_int_4, bslEqual_int_4C, br_dec, iteP_ite, if_pos c1, if_pos c2, Int.toNat_natCast, List.getElem?_eq_getElem hk, List.getElem?_eq_getElem (show k < b.length by omega), Option.bind_some, succ_wrap ha hk, br_not, br_beq]
        by_cases he : a[k] = b[k]'(by omega)
        · simp only [if_pos he]
          exact .inl ⟨trivial, trivial, by rw [he]⟩
        · simp only [if_neg he]
          exact .inr ⟨trivial, trivial, fun h => he (Option.some.inj h)⟩)
    rw [hbe, br_false, br_false]
    rcases key with ⟨k1, k2, k3⟩ | ⟨k, hk, k1, k2, k3⟩
    · rw [show lsEqualServers_4 ((a, b, 0, ()), (), ()) = _ from k1, show lslEqual_int_4 ((a, b, (a.length : Int), 0, ()), (), ()) = _ from k2]
      have : a = b := List.ext_getElem? fun k => by
        rcases Nat.lt_or_ge k a.length with h | h
        · exact k3 k h
        · rw [List.getElem?_eq_none h, List.getElem?_eq_none (by omega)]
      rw [decide_eq_true this]
      exact ⟨rfl, rfl⟩
    · rw [show lsEqualServers_4 ((a, b, 0, ()), (), ()) = _ from k1, show lslEqual_int_4 ((a, b, (a.length : Int), 0, ()), (), ()) = _ from k2]
      have : a ≠ b := fun h => k3 (by rw [h])
      rw [decide_eq_false this]
      exact ⟨rfl, rfl⟩
  · have hbe : (!((a.length : Int) == (b.length : Int))) = true := by
      simp only [Bool.not_eq_true', beq_eq_false_iff_ne, ne_eq]
      omega
    rw [hbe, br_true, br_true, decide_eq_false (fun h => hlen (by rw [h]))]
    exact ⟨rfl, rfl⟩
theorem equalConfigs (a b : Config) (ha : okCfg maxLen a) : fsEqualConfigs a b = some (decide (a = b), ()) ∧ fiEqualConfigs a b = some (decide (a = b), ()) := by
  unfold fsEqualConfigs fsEqualConfigsC fiEqualConfigs fiEqualConfigsC
  simp only [(equalServers a.replicas b.replicas ha.1).1, (equalServers a.replicas b.replicas ha.1).2, (equalServers a.witnesses b.witnesses ha.2).1, (equalServers a.witnesses b.witnesses ha.2).2, Option.bind_some, br_beq, br_dec]
  obtain ⟨a1, a2, a3, a4⟩ := a
  obtain ⟨b1, b2, b3, b4⟩ := b
  simp only [Config.mk.injEq]
  by_cases h1 : a1 = b1 <;> by_cases h2 : a2 = b2 <;> by_cases h3 : a3 = b3 <;> by_cases h4 : a4 = b4 <;> simp [h1, h2, h3, h4]
theorem lastEpoch (l : List Entry) (hl : l.length ≤ maxLen) : ∃ n, fsl14Last l = some (n, ()) ∧ filastEpoch l = some (n, ()) := by
  unfold fsl14Last fsl14LastC filastEpoch filastEpochC
  rcases Nat.eq_zero_or_pos l.length with h | h
  · have : ((l.length : Int) == 0) = true := by simp [h]
    rw [this]
    exact ⟨_, rfl, rfl⟩
  · have : ((l.length : Int) == 0) = false := by
      simp only [beq_eq_false_iff_ne, ne_eq]
      omega
    rw [this, br_false, pred_wrap h hl, iteP_pos (by omega), Int.toNat_natCast, List.getElem?_eq_getElem (show l.length - 1 < l.length by omega)]
    exact ⟨_, rfl, rfl⟩
theorem roleOf (c : Config) (x : Int) (h : okCfg maxLen c) : ∃ n, fsRoleOf c x = some (n, ()) ∧ fiRoleOf c x = some (n, ()) ∧ (n = 0 ∨ n = 1 ∨ n = 2 ∨ n = 3) := by
  unfold fsRoleOf fsRoleOfC fiRoleOf fiRoleOfC
  obtain ⟨b, v1, v2⟩ := validConfig c h
  simp only [v1, v2, Option.bind_some, (hasServer c.replicas x h.1).1, (hasServer c.replicas x h.1).2, (hasServer c.witnesses x h.2).1, (hasServer c.witnesses x h.2).2]
  cases b <;> cases (x == c.primary) <;> cases decide (x ∈ c.replicas) <;> cases decide (x ∈ c.witnesses) <;> exact ⟨_, rfl, rfl, by decide⟩
end Go.Proofs.YtjenncacoddgmaaGreat.En
