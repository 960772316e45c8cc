/- What a valid cluster is known to have. -/
import Derived.Test.YtjenncacoddgmaaGreatPV5
namespace Go.Proofs.YtjenncacoddgmaaGreat.En
open Go

theorem cfgFacts {c : Config} (h : okCfg maxLen c) (hv : fsIsValidConfig c = some (true, ())) : Asc c.replicas ∧ Asc c.witnesses ∧ c.primary ∈ c.replicas ∧ 1 ≤ c.epoch ∧ c.epoch ≤ 20 ∧ ∀ x ∈ c.replicas, x ∉ c.witnesses := by
  unfold fsIsValidConfig fsIsValidConfigC at hv
  simp only [swin, Option.bind_some] at hv
  cases hw : win c.epoch 1 20 with
  | false => rw [hw] at hv; cases hv
  | true =>
    rw [hw] at hv
    rcases areServers c.replicas h.1 with ⟨a1, a2, a3⟩ | ⟨a1, a2⟩
    · rcases areServers c.witnesses h.2 with ⟨b1, b2, b3⟩ | ⟨b1, b2⟩
      · simp only [a1, b1, Option.bind_some, br_true, (hasServer c.replicas c.primary h.1).1, sCommon _ _ a3 h.2, br_dec] at hv
        by_cases hp : c.primary ∈ c.replicas
        · rw [if_pos hp] at hv
          refine ⟨a3, b3, hp, (win_iff.1 hw).1, (win_iff.1 hw).2, fun x hx hxw => ?_⟩
          have hz : ((((c.replicas.filter fun x => decide (x ∈ c.witnesses)).length : Nat) : Int) == 0) = true := by
            simpa using hv
          have hz : (c.replicas.filter fun x => decide (x ∈ c.witnesses)).length = 0 := by
            simp only [beq_iff_eq] at hz
            omega
          have := List.eq_nil_of_length_eq_zero hz
          have hm : x ∈ c.replicas.filter fun x => decide (x ∈ c.witnesses) := by simp [List.mem_filter, hx, hxw]
          rw [this] at hm
          cases hm
        · rw [if_neg hp] at hv; cases hv
      · simp only [a1, b1, Option.bind_some, br_true, br_false] at hv; cases hv
    · simp only [a1, Option.bind_some, br_true, br_false] at hv; cases hv

theorem mlFacts {m : MasterLog} (h : okMl maxLen m) (hv : fsIsMasterLog m = some (true, ())) : (∀ k (hk : k < m.configs.length), fsIsValidConfig m.configs[k] = some (true, ()) ∧ m.configs[k].epoch = (k : Int) + 1) ∧ 0 ≤ m.activated ∧ m.activated ≤ (m.configs.length : Int) := by
  obtain ⟨hl, hc⟩ := h
  have key := lim_two (B1 := bsIsMasterLog_2) (B2 := bsIsMasterLog_2) m.configs.length (fun k => (((), (k : Int), ()), ((m.configs, m.activated, ()), ()), ())) (fun k => (((), (k : Int), ()), ((m.configs, m.activated, ()), ()), ())) (.inr (((), (), ()), ((m.configs, m.activated, ()), ()), ())) (.inr (((), (), ()), ((m.configs, m.activated, ()), ()), ())) (fun _ => .inl (((), false, ()), ((m.configs, m.activated, ()), ()), ())) (fun _ => .inl (((), false, ()), ((m.configs, m.activated, ()), ()), ()))
    (fun k => ∀ hk : k < m.configs.length, fsIsValidConfig m.configs[k] = some (true, ()) ∧ m.configs[k].epoch = (k : Int) + 1) (fun _ => True)
    (by simp only [bsIsMasterLog_2, bsIsMasterLog_2C]; rw [br_dec, if_neg (by omega)])
    (by simp only [bsIsMasterLog_2, bsIsMasterLog_2C]; rw [br_dec, if_neg (by omega)])
    (fun k hk => by
      have c1 : (k : Int) < (m.configs.length : Int) := by omega
      have c2 : (0 : Int) ≤ (k : Int) := by omega
      obtain ⟨b, v1, v2⟩ := validConfig m.configs[k] (hc _ (List.getElem_mem hk))
      have step : bsIsMasterLog_2 (((), (k : Int), ()), ((m.configs, m.activated, ()), ()), ()) = br b (br (m.configs[k].epoch == ((k + 1 : Nat) : Int)) (some (.inl (((), ((k + 1 : Nat) : Int), ()), ((m.configs, m.activated, ()), ()), ()))) (some (.inr (.inl (((), false, ()), ((m.configs, m.activated, ()), ()), ()))))) (some (.inr (.inl (((), false, ()), ((m.configs, m.activated, ()), ()), ())))) := by
        simp only [bsIsMasterLog_2, bsIsMasterLog_2C, br_dec, iteP_ite, if_pos c1, if_pos c2, Int.toNat_natCast, List.getElem?_eq_getElem hk, Option.bind_some, v1, succ_wrap hl hk, br_not]
      rw [step]
      cases b with
      | false => exact .inr ⟨rfl, rfl, trivial⟩
      | true =>
        rw [br_true, br_beq]
        by_cases he : m.configs[k].epoch = ((k + 1 : Nat) : Int)
        · rw [if_pos he]
          exact .inl ⟨rfl, rfl, fun _ => ⟨v1, by omega⟩⟩
        · rw [if_neg he]
          exact .inr ⟨rfl, rfl, trivial⟩)
  unfold fsIsMasterLog fsIsMasterLogC at hv
  rcases key with ⟨k1, _, k3⟩ | ⟨k, _, k1, _, _⟩
  · rw [show lsIsMasterLog_2 (((), 0, ()), ((m.configs, m.activated, ()), ()), ()) = _ from k1] at hv
    simp only [Option.bind_some, Sum.elim_inr, swin, Option.some.injEq, Prod.mk.injEq, and_true] at hv
    exact ⟨fun k hk => k3 k hk hk, (win_iff.1 hv).1, (win_iff.1 hv).2⟩
  · rw [show lsIsMasterLog_2 (((), 0, ()), ((m.configs, m.activated, ()), ()), ()) = _ from k1] at hv
    cases hv

theorem srvFacts {s : Server} {id : Int} (h : okSrv 1048576 s) (hv : fsIsValidServer s id = some (true, ())) : 0 ≤ s.first ∧ s.first ≤ 16 ∧ s.log.length ≤ 16 ∧ 0 ≤ s.commit ∧ s.commit ≤ s.first + (s.log.length : Int) ∧ fsIsLog s.log = some (true, ()) ∧ fsIsLog s.learned = some (true, ()) ∧ 0 ≤ s.epoch ∧ s.epoch ≤ 20 := by
  unfold fsIsValidServer fsIsValidServerC at hv
  simp only [swin, Option.bind_some, br_not] at hv
  cases h1 : win s.version 1 2 with
  | false => rw [h1] at hv; cases hv
  | true =>
  cases h2 : win s.epoch 0 20 with
  | false => rw [h1, h2] at hv; cases hv
  | true =>
  rw [h1, h2] at hv
  rcases isLog s.log (le_max h.2.1) with ⟨a1, a2, a3⟩ | ⟨a1, a2⟩
  case inr => simp only [a1, Option.bind_some, br_true, br_false] at hv; cases hv
  rcases isLog s.learned (le_max h.2.2) with ⟨b1, b2, b3⟩ | ⟨b1, b2⟩
  case inr => simp only [a1, b1, Option.bind_some, br_true, br_false] at hv; cases hv
  simp only [a1, b1, Option.bind_some, br_true] at hv
  cases hw : win s.first 0 16 with
  | false => rw [hw] at hv; cases hv
  | true =>
  have hf := win_iff.1 hw
  rw [hw, wrap_id (n := s.first + (s.log.length : Int)) (by omega) (by omega)] at hv
  simp only [br_true] at hv
  cases h3 : win (s.first + (s.log.length : Int)) 0 16 with
  | false => rw [h3] at hv; cases hv
  | true =>
  cases h4 : win s.commit 0 (s.first + (s.log.length : Int)) with
  | false => rw [h3, h4] at hv; cases hv
  | true =>
  exact ⟨hf.1, hf.2, a3, (win_iff.1 h4).1, (win_iff.1 h4).2, a1, b1, (win_iff.1 h2).1, (win_iff.1 h2).2⟩

structure VC (x : Cluster) : Prop where
  len : x.servers.length = 5
  ml : fsIsMasterLog x.master = some (true, ())
  sides : fsAreSides x.sides = some (true, ())
  places : fsArePlaces x.places = some (true, ())
  lease : fsIsLease x.lease = some (true, ())
  now : 0 ≤ x.now ∧ x.now ≤ 999
  up : 0 ≤ x.masterUp ∧ x.masterUp ≤ 3
  srv : ∀ k (hk : k < x.servers.length), fsIsValidServer x.servers[k] (k : Int) = some (true, ())
theorem vcFacts {x : Cluster} (h : okCl 1048576 x) (hv : fsIsValidCluster x = some (true, ())) : VC x := by
  obtain ⟨⟨hs1, hs2⟩, hsd, hml, hpl⟩ := h
  have hm := le_max hs1
  have key := lim_two (B1 := bsIsValidCluster_4) (B2 := bsIsValidCluster_4) x.servers.length (fun k => (((), (k : Int), ()), ((x.now, x.servers, x.sides, x.master.configs, x.master.activated, x.masterUp, x.lease.epoch, x.lease.holder, x.lease.ends, x.places, ()), ()), ())) (fun k => (((), (k : Int), ()), ((x.now, x.servers, x.sides, x.master.configs, x.master.activated, x.masterUp, x.lease.epoch, x.lease.holder, x.lease.ends, x.places, ()), ()), ())) (.inr (((), ()), (), ())) (.inr (((), ()), (), ())) (fun _ => .inl ((false, ()), (), ())) (fun _ => .inl ((false, ()), (), ()))
    (fun k => ∀ hk : k < x.servers.length, fsIsValidServer x.servers[k] (k : Int) = some (true, ())) (fun _ => True)
    (by simp only [bsIsValidCluster_4, bsIsValidCluster_4C]; rw [br_dec, if_neg (by omega)])
    (by simp only [bsIsValidCluster_4, bsIsValidCluster_4C]; rw [br_dec, if_neg (by omega)])
    (fun k hk => by
      have c1 : (k : Int) < (x.servers.length : Int) := by omega
      have c2 : (0 : Int) ≤ (k : Int) := by omega
      have hsk := hs2 _ (List.getElem_mem hk)
      obtain ⟨b, v1, v2⟩ := validServer x.servers[k] (k : Int) hsk
      obtain ⟨n, n1, n2⟩ := lastEpoch x.servers[k].learned (le_max hsk.2.2)
      obtain ⟨c, d, d1, d2, d3⟩ := configAt x.master x.servers[k].config.epoch hml
      have hcfg := ok_max_cfg hsk.1
      have step : bsIsValidCluster_4 (((), (k : Int), ()), ((x.now, x.servers, x.sides, x.master.configs, x.master.activated, x.masterUp, x.lease.epoch, x.lease.holder, x.lease.ends, x.places, ()), ()), ()) = some (.inr (.inl ((false, ()), (), ()))) ∨ (b = true ∧ bsIsValidCluster_4 (((), (k : Int), ()), ((x.now, x.servers, x.sides, x.master.configs, x.master.activated, x.masterUp, x.lease.epoch, x.lease.holder, x.lease.ends, x.places, ()), ()), ()) = some (.inl (((), ((k + 1 : Nat) : Int), ()), ((x.now, x.servers, x.sides, x.master.configs, x.master.activated, x.masterUp, x.lease.epoch, x.lease.holder, x.lease.ends, x.places, ()), ()), ()))) := by
        simp only [bsIsValidCluster_4, bsIsValidCluster_4C, br_dec, iteP_ite, if_pos c1, if_pos c2, Int.toNat_natCast, List.getElem?_eq_getElem hk, Option.bind_some, v1, n1, succ_wrap hm hk, br_not,
          show (⟨x.master.configs, x.master.activated⟩ : MasterLog) = x.master from rfl, d1, l14None _ hcfg, (equalConfigs c x.servers[k].config d3).1]
        cases b with
        | false => exact .inl rfl
        | true =>
          simp only [br_true]
          repeat' split
          all_goals first | exact .inl trivial | exact .inr ⟨trivial, trivial⟩ | (cases d <;> first | exact .inl rfl | (simp only [br_true]; repeat' split) <;> first | exact .inl trivial | exact .inr ⟨trivial, trivial⟩)
      rcases step with h1 | ⟨rfl, h1⟩
      · rw [h1]; exact .inr ⟨rfl, rfl, trivial⟩
      · rw [h1]; exact .inl ⟨rfl, rfl, fun _ => v1⟩)
  unfold fsIsValidCluster fsIsValidClusterC at hv
  obtain ⟨b1, a1, a2⟩ := areSides x.sides (le_max hsd)
  obtain ⟨b2, m1, m2⟩ := masterLog x.master (ok_max_ml hml)
  obtain ⟨b3, l1, l2⟩ := isLease x.lease
  obtain ⟨b4, p1, p2⟩ := arePlaces x.places (le_max hpl)
  simp only [swin, a1, m1, l1, p1, Option.bind_some, br_not, br_dec] at hv
  cases h1 : win x.now 0 999 with
  | false => rw [h1] at hv; cases hv
  | true =>
  cases h2 : ((x.servers.length : Int) == 5) with
  | false => rw [h1, h2] at hv; cases hv
  | true =>
  cases b1 with
  | false => rw [h1, h2] at hv; cases hv
  | true =>
  cases b2 with
  | false => rw [h1, h2] at hv; cases hv
  | true =>
  cases h3 : win x.masterUp 0 3 with
  | false => rw [h1, h2, h3] at hv; cases hv
  | true =>
  cases b3 with
  | false => rw [h1, h2, h3] at hv; cases hv
  | true =>
  cases b4 with
  | false => rw [h1, h2, h3] at hv; cases hv
  | true =>
  rw [h1, h2, h3] at hv
  simp only [br_true] at hv
  by_cases h4 : x.lease.epoch > x.master.activated
  · rw [if_pos h4] at hv; cases hv
  · rw [if_neg h4] at hv
    rcases key with ⟨k1, _, k3⟩ | ⟨k, _, k1, _, _⟩
    · refine ⟨?_, m1, a1, p1, l1, win_iff.1 h1, win_iff.1 h3, fun k hk => k3 k hk hk⟩
      simp only [beq_iff_eq] at h2
      omega
    · rw [show lsIsValidCluster_4 (((), 0, ()), ((x.now, x.servers, x.sides, x.master.configs, x.master.activated, x.masterUp, x.lease.epoch, x.lease.holder, x.lease.ends, x.places, ()), ()), ()) = _ from k1] at hv
      cases hv
end Go.Proofs.YtjenncacoddgmaaGreat.En
