/- Valid clusters, on: servers, configurations in force, the whole. -/
import Derived.Test.YtjenncacoddgmaaGreatPV4
namespace Go.Proofs.YtjenncacoddgmaaGreat.En
open Go

theorem ok_max_cfg {c : Config} (h : okCfg 1048576 c) : okCfg maxLen c := ⟨le_max h.1, le_max h.2⟩
theorem ok_max_ml {m : MasterLog} (h : okMl 1048576 m) : okMl maxLen m := ⟨le_max h.1, fun c hc => ok_max_cfg (h.2 c hc)⟩
theorem l14None (c : Config) (h : okCfg maxLen c) : fsl14None c = some (decide (c = ⟨0, 0, [], []⟩), ()) := by
  unfold fsl14None fsl14NoneC
  rw [(equalConfigs c _ h).1]
  rfl
theorem validServer (s : Server) (id : Int) (h : okSrv 1048576 s) : Agree (fsIsValidServer s id) (fiIsValidServer s id) := by
  have hc := ok_max_cfg h.1
  unfold fsIsValidServer fsIsValidServerC fiIsValidServer fiIsValidServerC
  simp only [swin, iwin, Option.bind_some, br_not]
  cases win s.version 1 2 with
  | false => exact ⟨_, rfl, rfl⟩
  | true =>
  cases win s.epoch 0 20 with
  | false => exact ⟨_, rfl, rfl⟩
  | true =>
  rcases isLog s.log (le_max h.2.1) with ⟨a1, a2, a3⟩ | ⟨a1, a2⟩
  case inr => simp only [a1, a2, Option.bind_some, br_true, br_false]; exact ⟨_, rfl, rfl⟩
  rcases isLog s.learned (le_max h.2.2) with ⟨b1, b2, b3⟩ | ⟨b1, b2⟩
  case inr => simp only [a1, a2, b1, b2, Option.bind_some, br_true, br_false]; exact ⟨_, rfl, rfl⟩
  simp only [a1, a2, b1, b2, Option.bind_some, br_true]
  cases hw : win s.first 0 16 with
  | false => exact ⟨_, rfl, rfl⟩
  | true =>
  have hf := win_iff.1 hw
  rw [wrap_id (n := s.first + (s.log.length : Int)) (by omega) (by omega)]
  by_cases h16 : s.first + (s.log.length : Int) ≤ 16
  case neg =>
    have e1 : win (s.first + (s.log.length : Int)) 0 16 = false := by unfold win; simp; omega
    simp only [e1, br_true, br_false, br_dec, if_pos (show s.first + (s.log.length : Int) > 16 by omega)]
    exact ⟨_, rfl, rfl⟩
  have e1 : win (s.first + (s.log.length : Int)) 0 16 = true := win_iff.2 ⟨by omega, h16⟩
  simp only [e1, br_true, br_dec, if_neg (show ¬ s.first + (s.log.length : Int) > 16 by omega), l14None s.config hc, (equalConfigs s.config ⟨0, 0, [], []⟩ hc).2, Option.bind_some]
  cases win s.commit 0 (s.first + (s.log.length : Int)) with
  | false => exact ⟨_, rfl, rfl⟩
  | true =>
  simp only [br_true]
  by_cases hz : s.config = ⟨0, 0, [], []⟩
  · simp only [if_pos hz]
    cases (s.first == 0) <;> cases (s.commit == 0) <;> cases ((s.log.length : Int) == 0) <;> exact ⟨_, rfl, rfl⟩
  · simp only [if_neg hz]
    cases s.intact with
    | false => exact ⟨_, rfl, rfl⟩
    | true =>
    simp only [br_true]
    by_cases he : s.epoch < s.config.epoch
    · simp only [if_pos he]
      exact ⟨_, rfl, rfl⟩
    · simp only [if_neg he]
      obtain ⟨n, n1, n2⟩ := lastEpoch s.log (le_max h.2.1)
      simp only [n1, n2, Option.bind_some]
      by_cases hn : n > s.config.epoch
      · simp only [if_pos hn]
        exact ⟨_, rfl, rfl⟩
      · simp only [if_neg hn]
        obtain ⟨r, r1, r2, r3⟩ := roleOf s.config id hc
        simp only [r1, r2, Option.bind_some]
        rcases r3 with rfl | rfl | rfl | rfl
        · exact ⟨_, rfl, rfl⟩
        · exact ⟨_, rfl, rfl⟩
        · exact ⟨_, rfl, rfl⟩
        · have ht : fiisTail s.first s.log = some (decide ((s.log.length : Int) ≤ 3) && ((s.first == 0) || ((s.log.length : Int) == 3)), ()) := by
            unfold fiisTail fiisTailC
            simp only [a2, iwin, Option.bind_some, br_true, br_dec]
            rw [wrap_id (by omega) (by omega), show win s.first 0 (16 - (s.log.length : Int)) = true from win_iff.2 ⟨by omega, by omega⟩]
            by_cases h3 : (s.log.length : Int) ≤ 3
            · rw [if_pos h3, decide_eq_true h3]
              cases (s.first == 0) <;> cases ((s.log.length : Int) == 3) <;> rfl
            · rw [if_neg h3, decide_eq_false h3]
              rfl
          rw [ht]
          by_cases h3 : (s.log.length : Int) ≤ 3
          · rw [if_pos h3, decide_eq_true h3]
            cases (s.first == 0) <;> cases ((s.log.length : Int) == 3) <;> exact ⟨_, rfl, rfl⟩
          · rw [if_neg h3, decide_eq_false h3]
            exact ⟨_, rfl, rfl⟩

theorem configAt (m : MasterLog) (e : Int) (h : okMl 1048576 m) : ∃ c b, fsConfigAt m e = some (c, b, ()) ∧ fiConfigAt m e = some (c, b, ()) ∧ okCfg maxLen c := by
  obtain ⟨b, m1, m2⟩ := masterLog m (ok_max_ml h)
  have zero : okCfg maxLen ⟨0, 0, [], []⟩ := ⟨Nat.zero_le _, Nat.zero_le _⟩
  have hl := h.1
  unfold fsConfigAt fsConfigAtC fiConfigAt fiConfigAtC
  simp only [m1, m2, swin, iwin, Option.bind_some, br_not]
  cases b with
  | false => exact ⟨_, _, rfl, rfl, zero⟩
  | true =>
    cases hw : win e 1 (m.configs.length : Int) with
    | false => exact ⟨_, _, rfl, rfl, zero⟩
    | true =>
      have hw := win_iff.1 hw
      simp only [br_true]
      rw [wrap_id (n := e - 1) (by omega) (by omega)]
      have hlt : (e - 1).toNat < m.configs.length := by omega
      have hk := h.2 _ (List.getElem_mem hlt)
      have copy : ∀ c : Config, okCfg 1048576 c → fsl8Copy c = some (c, ()) ∧ ficonfigCopy c = some (c, ()) := by
        intro c hc
        unfold fsl8Copy fsl8CopyC ficonfigCopy ficonfigCopyC
        simp only [List.nil_append]
        rw [iteP_pos (small40 hc.1), iteP_pos (small40 hc.2)]
        exact ⟨rfl, rfl⟩
      rw [iteP_pos (by omega), iteP_pos (by omega), List.getElem?_eq_getElem hlt]
      simp only [Option.bind_some, (copy _ hk).1, (copy _ hk).2]
      exact ⟨_, _, rfl, rfl, ok_max_cfg hk⟩

theorem validCluster (x : Cluster) (h : okCl 1048576 x) : Agree (fsIsValidCluster x) (fiIsValidCluster x) := by
  obtain ⟨⟨hs1, hs2⟩, hsd, hml, hpl⟩ := h
  have hm := le_max hs1
  have key := lim_two (B1 := bsIsValidCluster_4) (B2 := biIsValidCluster_4) x.servers.length (fun k => (((), (k : Int), ()), ((x.now, x.servers, x.sides, x.master.configs, x.master.activated, x.masterUp, x.lease.epoch, x.lease.holder, x.lease.ends, x.places, ()), ()), ())) (fun k => (((), x.servers, (x.servers.length : Int), (k : Int), ()), ((x.now, x.servers, x.sides, x.master.configs, x.master.activated, x.masterUp, x.lease.epoch, x.lease.holder, x.lease.ends, x.places, ()), ()), ())) (.inr (((), ()), (), ())) (.inr (((), ()), (), ())) (fun _ => .inl ((false, ()), (), ())) (fun _ => .inl ((false, ()), (), ()))
    (fun _ => True) (fun _ => True)
    (by simp only [bsIsValidCluster_4, bsIsValidCluster_4C]; rw [br_dec, if_neg (by omega)])
    (by simp only [biIsValidCluster_4, biIsValidCluster_4C]; rw [br_dec, if_neg (by omega)])
    (fun k hk => by
      have c1 : (k : Int) < (x.servers.length : Int) := by omega
      have c2 : (0 : Int) ≤ (k : Int) := by omega
      have hsk := hs2 _ (List.getElem_mem hk)
      obtain ⟨b, v1, v2⟩ := validServer x.servers[k] (k : Int) hsk
      obtain ⟨n, n1, n2⟩ := lastEpoch x.servers[k].learned (le_max hsk.2.2)
      obtain ⟨c, d, d1, d2, d3⟩ := configAt x.master x.servers[k].config.epoch hml
      have hcfg := ok_max_cfg hsk.1
      simp only [bsIsValidCluster_4, bsIsValidCluster_4C, biIsValidCluster_4, biIsValidCluster_4C, br_dec, iteP_ite, if_pos c1, if_pos c2, Int.toNat_natCast, List.getElem?_eq_getElem hk, Option.bind_some, v1, v2, n1, n2, succ_wrap hm hk, br_not,
        show (⟨x.master.configs, x.master.activated⟩ : MasterLog) = x.master from rfl, d1, d2, l14None _ hcfg, (equalConfigs _ (⟨0, 0, [], []⟩ : Config) hcfg).2, (equalConfigs c x.servers[k].config d3).1, (equalConfigs c x.servers[k].config d3).2]
      cases b with
      | false => exact .inr ⟨rfl, rfl, trivial⟩
      | true =>
        simp only [br_true]
        by_cases h1 : x.servers[k].epoch > (x.master.configs.length : Int)
        · simp only [if_pos h1]
          exact .inr ⟨trivial, trivial, trivial⟩
        · simp only [if_neg h1]
          by_cases h2 : n > x.master.activated
          · simp only [if_pos h2]
            exact .inr ⟨trivial, trivial, trivial⟩
          · simp only [if_neg h2]
            by_cases h3 : x.servers[k].config = ⟨0, 0, [], []⟩
            · simp only [if_pos h3]
              exact .inl ⟨trivial, trivial, trivial⟩
            · simp only [if_neg h3]
              cases d with
              | false => exact .inr ⟨rfl, rfl, trivial⟩
              | true =>
                simp only [br_true]
                by_cases h4 : c = x.servers[k].config
                · simp only [if_pos h4]
                  by_cases h5 : x.servers[k].config.epoch > x.master.activated
                  · simp only [if_pos h5]
                    exact .inr ⟨trivial, trivial, trivial⟩
                  · simp only [if_neg h5]
                    exact .inl ⟨trivial, trivial, trivial⟩
                · simp only [if_neg h4]
                  exact .inr ⟨trivial, trivial, trivial⟩)
  unfold fsIsValidCluster fsIsValidClusterC fiIsValidCluster fiIsValidClusterC
  obtain ⟨b1, a1, a2⟩ := areSides x.sides (le_max hsd)
  obtain ⟨b2, m1, m2⟩ := masterLog x.master (ok_max_ml hml)
  obtain ⟨b3, l1, l2⟩ := isLease x.lease
  obtain ⟨b4, p1, p2⟩ := arePlaces x.places (le_max hpl)
  simp only [swin, iwin, a1, a2, m1, m2, l1, l2, p1, p2, Option.bind_some, br_not, br_dec]
  cases win x.now 0 999 with
  | false => exact ⟨_, rfl, rfl⟩
  | true =>
  cases ((x.servers.length : Int) == 5) with
  | false => exact ⟨_, rfl, rfl⟩
  | true =>
  cases b1 with
  | false => exact ⟨_, rfl, rfl⟩
  | true =>
  cases b2 with
  | false => exact ⟨_, rfl, rfl⟩
  | true =>
  cases win x.masterUp 0 3 with
  | false => cases b3 <;> cases b4 <;> exact ⟨_, rfl, rfl⟩
  | true =>
  cases b3 with
  | false => exact ⟨_, rfl, rfl⟩
  | true =>
  cases b4 with
  | false => exact ⟨_, rfl, rfl⟩
  | true =>
  simp only [br_true]
  by_cases h1 : x.lease.epoch > x.master.activated
  · simp only [if_pos h1]
    exact ⟨_, rfl, rfl⟩
  · simp only [if_neg h1]
    rcases key with ⟨k1, k2, _⟩ | ⟨k, _, k1, k2, _⟩
    · rw [show lsIsValidCluster_4 (((), 0, ()), ((x.now, x.servers, x.sides, x.master.configs, x.master.activated, x.masterUp, x.lease.epoch, x.lease.holder, x.lease.ends, x.places, ()), ()), ()) = _ from k1, show liIsValidCluster_4 (((), x.servers, (x.servers.length : Int), 0, ()), ((x.now, x.servers, x.sides, x.master.configs, x.master.activated, x.masterUp, x.lease.epoch, x.lease.holder, x.lease.ends, x.places, ()), ()), ()) = _ from k2]
      exact ⟨_, rfl, rfl⟩
    · rw [show lsIsValidCluster_4 (((), 0, ()), ((x.now, x.servers, x.sides, x.master.configs, x.master.activated, x.masterUp, x.lease.epoch, x.lease.holder, x.lease.ends, x.places, ()), ()), ()) = _ from k1, show liIsValidCluster_4 (((), x.servers, (x.servers.length : Int), 0, ()), ((x.now, x.servers, x.sides, x.master.configs, x.master.activated, x.masterUp, x.lease.epoch, x.lease.holder, x.lease.ends, x.places, ()), ()), ()) = _ from k2]
      exact ⟨_, rfl, rfl⟩
end Go.Proofs.YtjenncacoddgmaaGreat.En
