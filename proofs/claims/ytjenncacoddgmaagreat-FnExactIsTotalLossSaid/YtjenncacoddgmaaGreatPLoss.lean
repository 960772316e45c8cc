/- IsTotalLoss: the plain law. -/
import Derived.Test.YtjenncacoddgmaaGreatPV6
namespace Go.Proofs.YtjenncacoddgmaaGreat.En
open Go

/-- The configuration in force, once the masters' log is valid. -/
theorem configAt_valid (m : MasterLog) (e : Int) (h : okMl 1048576 m) (hv : fsIsMasterLog m = some (true, ())) : ∃ c b, fsConfigAt m e = some (c, b, ()) ∧ fiConfigAt m e = some (c, b, ()) ∧ okCfg maxLen c ∧ (b = win e 1 (m.configs.length : Int)) ∧ (b = true → fsIsValidConfig c = some (true, ()) ∧ c.epoch = e) ∧ (b = false → c = ⟨0, 0, [], []⟩) := by
  obtain ⟨b, m1, m2⟩ := masterLog m (ok_max_ml h)
  rw [hv] at m1
  simp only [Option.some.injEq, Prod.mk.injEq, and_true] at m1
  subst m1
  obtain ⟨f1, _, _⟩ := mlFacts (ok_max_ml h) hv
  have zero : okCfg maxLen ⟨0, 0, [], []⟩ := ⟨Nat.zero_le _, Nat.zero_le _⟩
  have hl := h.1
  unfold fsConfigAt fsConfigAtC fiConfigAt fiConfigAtC
  simp only [hv, m2, swin, iwin, Option.bind_some, br_not, br_true]
  cases hw : win e 1 (m.configs.length : Int) with
  | false => exact ⟨_, _, rfl, rfl, zero, rfl, nofun, fun _ => rfl⟩
  | true =>
    have hw := win_iff.1 hw
    simp only [br_true]
    rw [wrap_id (n := e - 1) (by omega) (by omega)]
    have hlt : (e - 1).toNat < m.configs.length := by omega
    have hk := h.2 _ (List.getElem_mem hlt)
    have copy : ∀ c : Config, okCfg 1048576 c → fsl8Copy c = some (c, ()) ∧ ficonfigCopy c = some (c, ()) := by
      intro c hc
      unfold fsl8Copy fsl8CopyC ficonfigCopy ficonfigCopyC
      simp only [List.nil_append]
      rw [iteP_pos (small40 hc.1), iteP_pos (small40 hc.2)]
      exact ⟨rfl, rfl⟩
    rw [iteP_pos (by omega), iteP_pos (by omega), List.getElem?_eq_getElem hlt]
    simp only [Option.bind_some, (copy _ hk).1, (copy _ hk).2]
    refine ⟨_, _, rfl, rfl, ok_max_cfg hk, rfl, fun _ => ⟨(f1 _ hlt).1, ?_⟩, nofun⟩
    rw [(f1 _ hlt).2]
    omega
theorem activated_valid (x : Cluster) (ok : okCl 1048576 x) (hv : fsIsValidCluster x = some (true, ())) : ∃ c b, fsLastActivated x.master = some (c, b, ()) ∧ fiLastActivated x.master = some (c, b, ()) ∧ okCfg maxLen c ∧ (b = decide (x.master.activated > 0)) ∧ (b = true → fsIsValidConfig c = some (true, ()) ∧ c.epoch = x.master.activated) ∧ (b = false → c = ⟨0, 0, [], []⟩) := by
  have vc := vcFacts ok hv
  obtain ⟨_, f2, f3⟩ := mlFacts (ok_max_ml ok.2.2.1) vc.ml
  obtain ⟨c, b, c1, c2, c3, c4, c5, c6⟩ := configAt_valid x.master x.master.activated ok.2.2.1 vc.ml
  unfold fsLastActivated fsLastActivatedC fiLastActivated fiLastActivatedC
  rw [c1, c2]
  refine ⟨c, b, rfl, rfl, c3, ?_, c5, c6⟩
  rw [c4]
  unfold win
  rw [decide_eq_true f3, Bool.and_true]
  by_cases h : x.master.activated > 0
  · rw [decide_eq_true h, decide_eq_true (by omega)]
  · rw [decide_eq_false h, decide_eq_false (by omega)]
theorem hasIntact (x : Cluster) (ok : okCl 1048576 x) (hv : fsIsValidCluster x = some (true, ())) : Agree (fsHasIntactReplica x) (fiHasIntactReplica x) := by
  obtain ⟨b, v1, v2⟩ := validCluster x ok
  rw [hv] at v1
  simp only [Option.some.injEq, Prod.mk.injEq, and_true] at v1
  subst v1
  have vc := vcFacts ok hv
  obtain ⟨c, d, c1, c2, c3, c4, c5, c6⟩ := activated_valid x ok hv
  unfold fsHasIntactReplica fsHasIntactReplicaC fiHasIntactReplica fiHasIntactReplicaC
  simp only [c1, c2, hv, v2, Option.bind_some, br_not, br_true]
  cases d with
  | false =>
    have hz := c6 rfl
    subst hz
    simp only [br_false]
    have h1 : lsHasIntactReplica_5 (((), (), false, 0, ()), ((x.now, x.servers, x.sides, x.master.configs, x.master.activated, x.masterUp, x.lease.epoch, x.lease.holder, x.lease.ends, x.places, ()), (0, 0, (), (), ()), ()), ([], [], ())) = some (.inr (((), false, ()), (), ())) := by
      refine lim_exit ?_
      simp only [bsHasIntactReplica_5, bsHasIntactReplica_5C]
      rfl
    rw [h1]
    exact ⟨_, rfl, rfl⟩
  | true =>
    simp only [br_true]
    obtain ⟨asc, _, _, _, _, _⟩ := cfgFacts c3 (c5 rfl).1
    have hl := asc.len
    have hm : c.replicas.length ≤ maxLen := by unfold maxLen; omega
    have key := lim_two (B1 := bsHasIntactReplica_5) (B2 := bslIndexFunc_int_iHasIntactReplica_c1_2) c.replicas.length (fun k => (((), (), true, (k : Int), ()), ((x.now, x.servers, x.sides, x.master.configs, x.master.activated, x.masterUp, x.lease.epoch, x.lease.holder, x.lease.ends, x.places, ()), (c.epoch, c.primary, (), (), ()), ()), (c.replicas, c.witnesses, ()))) (fun k => ((c.replicas, (x, c, ()), (c.replicas.length : Int), (k : Int), ()), (), ()))
      (.inr (((), true, ()), (), ())) (.inr (((), ()), (), ())) (fun _ => .inl ((true, true, ()), (), ())) (fun k => .inl (((k : Int), ()), (), ()))
      (fun _ => True) (fun _ => True)
      (by simp only [bsHasIntactReplica_5, bsHasIntactReplica_5C]; rw [br_dec, if_neg (by omega)])
      (by simp only [bslIndexFunc_int_iHasIntactReplica_c1_2, bslIndexFunc_int_iHasIntactReplica_c1_2C]; rw [br_dec, if_neg (by omega)])
      (fun k hk => by
        have c1 : (k : Int) < (c.replicas.length : Int) := by omega
        have c2 : (0 : Int) ≤ (k : Int) := by omega
        have c3 : (0 : Int) ≤ (k : Int) ∧ (k : Int) < (c.replicas.length : Int) := ⟨c2, c1⟩
        have hid := (asc k hk).1
        have c4 : (0 : Int) ≤ c.replicas[k] := hid.1
        have hlt : c.replicas[k].toNat < x.servers.length := by rw [vc.len]; omega
        simp only [bsHasIntactReplica_5, bsHasIntactReplica_5C, bslIndexFunc_int_iHasIntactReplica_c1_2, bslIndexFunc_int_iHasIntactReplica_c1_2C, fiHasIntactReplica_c1, fiHasIntactReplica_c1C, br_dec, iteP_ite, if_pos c1, if_pos c2, if_pos c3, Int.toNat_natCast, List.getElem?_eq_getElem hk, Option.bind_some, if_pos c4, List.getElem?_eq_getElem hlt, br_true, succ_wrap hm hk]
        cases (x.servers[c.replicas[k].toNat].config.epoch == c.epoch) with
        | false => exact .inl ⟨rfl, rfl, trivial⟩
        | true => exact .inr ⟨rfl, rfl, trivial⟩)
    unfold fslContainsFunc_int_iHasIntactReplica_c1 fslContainsFunc_int_iHasIntactReplica_c1C fslIndexFunc_int_iHasIntactReplica_c1 fslIndexFunc_int_iHasIntactReplica_c1C
    rcases key with ⟨k1, k2, _⟩ | ⟨k, _, k1, k2, _⟩
    · rw [show lsHasIntactReplica_5 (((), (), true, 0, ()), ((x.now, x.servers, x.sides, x.master.configs, x.master.activated, x.masterUp, x.lease.epoch, x.lease.holder, x.lease.ends, x.places, ()), (c.epoch, c.primary, (), (), ()), ()), (c.replicas, c.witnesses, ())) = _ from k1, show lslIndexFunc_int_iHasIntactReplica_c1_2 ((c.replicas, (x, c, ()), (c.replicas.length : Int), 0, ()), (), ()) = _ from k2]
      exact ⟨_, rfl, rfl⟩
    · rw [show lsHasIntactReplica_5 (((), (), true, 0, ()), ((x.now, x.servers, x.sides, x.master.configs, x.master.activated, x.masterUp, x.lease.epoch, x.lease.holder, x.lease.ends, x.places, ()), (c.epoch, c.primary, (), (), ()), ()), (c.replicas, c.witnesses, ())) = _ from k1, show lslIndexFunc_int_iHasIntactReplica_c1_2 ((c.replicas, (x, c, ()), (c.replicas.length : Int), 0, ()), (), ()) = _ from k2]
      simp only [Option.bind_some, Sum.elim_inl]
      rw [decide_eq_true (by omega)]
      exact ⟨_, rfl, rfl⟩
theorem isTotalLoss (x : Cluster) (ok : okCl 1048576 x) : Agree (fsIsTotalLoss x) (fiIsTotalLoss x) := by
  obtain ⟨b, v1, v2⟩ := validCluster x ok
  unfold fsIsTotalLoss fsIsTotalLossC fiIsTotalLoss fiIsTotalLossC
  cases b with
  | false =>
    obtain ⟨c, d, d1, _, _⟩ := configAt x.master x.master.activated ok.2.2.1
    unfold fsLastActivated fsLastActivatedC
    simp only [d1, v1, v2, Option.bind_some, br_false]
    exact ⟨_, rfl, rfl⟩
  | true =>
    obtain ⟨c, d, c1, c2, c3, c4, c5, c6⟩ := activated_valid x ok v1
    obtain ⟨e, e1, e2⟩ := hasIntact x ok v1
    simp only [c1, v1, v2, e1, e2, Option.bind_some, br_true]
    rw [← c4]
    cases d <;> exact ⟨_, rfl, rfl⟩
theorem loss_law (x : Cluster) (h : okCl maxLen x) : fwFnExactIsTotalLoss x = some (true, ()) := by
  unfold fwFnExactIsTotalLoss fwFnExactIsTotalLossC
  obtain ⟨n, g1, g2, g3⟩ := szCluster x 1048576 h (by decide) (Int.le_refl _)
  simp only [g1, Option.bind_some, br_dec]
  split
  · rfl
  · have ok := g3 (by omega)
    obtain ⟨b, v1, v2⟩ := isTotalLoss x ok
    simp only [toCluster x ok, v1, v2, Option.bind_some, eqCluster_self x ok, Bool.not_true, br_false, beq_self_eq_true]
end Go.Proofs.YtjenncacoddgmaaGreat.En
