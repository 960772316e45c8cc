/- LongestSurvivor: the plain law. -/
import Derived.Test.YtjenncacoddgmaaGreatPV6
namespace Go.Proofs.YtjenncacoddgmaaGreat.En
open Go

/-- What a server has committed. -/
def part (s : Server) : List Entry := if win s.commit s.first (s.first + (s.log.length : Int)) = true then s.log.take (s.commit - s.first).toNat else []
theorem committed (s : Server) (id : Int) (h : okSrv 1048576 s) (hv : fsIsValidServer s id = some (true, ())) : fsCommittedPart s = some (part s, ()) ∧ fiCommittedPart s = some (part s, ()) := by
  obtain ⟨f1, f2, f3, f4, f5, _⟩ := srvFacts h hv
  unfold fsCommittedPart fsCommittedPartC fiCommittedPart fiCommittedPartC part
  rw [wrap_id (n := s.first + (s.log.length : Int)) (by omega) (by omega)]
  simp only [swin, iwin, Option.bind_some, br_not, br_dec, if_neg (show ¬ s.first < 0 by omega)]
  cases hw : win s.commit s.first (s.first + (s.log.length : Int)) with
  | false => exact ⟨rfl, rfl⟩
  | true =>
    have hw := win_iff.1 hw
    have d1 : (0 : Int) ≤ 0 ∧ (0 : Int) ≤ s.commit - s.first ∧ s.commit - s.first ≤ (s.log.length : Int) := by omega
    have hs : (s.log.take (s.commit - s.first).toNat).length * 56 ≤ 2 ^ 40 := by
      have : (s.log.take (s.commit - s.first).toNat).length ≤ 16 := by simp; omega
      have e : (2 : Nat) ^ 40 = 1099511627776 := by decide
      omega
    simp only [br_true, if_true]
    rw [wrap_id (n := s.commit - s.first) (by omega) (by omega)]
    simp only [iteP_ite, if_pos d1, fsl5Copy, fsl5CopyC, fslClone_Entry, fslClone_EntryC, Int.toNat_zero, List.drop_zero, Nat.sub_zero, List.nil_append, if_pos hs, Option.bind_some]
    exact ⟨trivial, trivial⟩
theorem srvCfg {s : Server} {id : Int} (h : okSrv 1048576 s) (hv : fsIsValidServer s id = some (true, ())) : s.config = ⟨0, 0, [], []⟩ ∨ fsIsValidConfig s.config = some (true, ()) := by
  have hc := ok_max_cfg h.1
  by_cases hz : s.config = ⟨0, 0, [], []⟩
  · exact .inl hz
  · right
    obtain ⟨b, v1, _⟩ := validConfig s.config hc
    cases b with
    | true => exact v1
    | false =>
      exfalso
      have hr : fsRoleOf s.config id = some (0, ()) := by
        unfold fsRoleOf fsRoleOfC
        rw [v1]
        rfl
      unfold fsIsValidServer fsIsValidServerC at hv
      simp only [swin, Option.bind_some, br_not, l14None s.config hc, hr, br_dec, if_neg hz] at hv
      cases h1 : win s.version 1 2 with
      | false => rw [h1] at hv; cases hv
      | true =>
      cases h2 : win s.epoch 0 20 with
      | false => rw [h1, h2] at hv; cases hv
      | true =>
      rcases isLog s.log (le_max h.2.1) with ⟨a1, a2, a3⟩ | ⟨a1, a2⟩
      case inr => simp only [h1, h2, a1, Option.bind_some, br_true, br_false] at hv; cases hv
      rcases isLog s.learned (le_max h.2.2) with ⟨b1, b2, b3⟩ | ⟨b1, b2⟩
      case inr => simp only [h1, h2, a1, b1, Option.bind_some, br_true, br_false] at hv; cases hv
      obtain ⟨n, n1, n2⟩ := lastEpoch s.log (le_max h.2.1)
      simp only [h1, h2, a1, b1, n1, Option.bind_some, br_true] at hv
      cases h3 : win s.first 0 16 <;> rw [h3] at hv
      · cases hv
      · cases h4 : win (IntKind.wrap .i64 (s.first + (s.log.length : Int))) 0 16 <;> rw [h4] at hv
        · cases hv
        · cases h5 : win s.commit 0 (IntKind.wrap .i64 (s.first + (s.log.length : Int))) <;> rw [h5] at hv
          · cases hv
          · cases h6 : s.intact <;> rw [h6] at hv
            · cases hv
            · simp only [br_true] at hv
              repeat' split at hv
              all_goals cases hv
/-- What a server knows of the log. -/
def data (s : Server) (id : Int) : List Entry := if id ∈ s.config.replicas then (if (part s).length > s.learned.length then part s else s.learned) else s.learned
theorem data_eq (s : Server) (id : Int) (h : okSrv 1048576 s) (hv : fsIsValidServer s id = some (true, ())) : fsl22Base s id = some (data s id, ()) ∧ ficommittedData s id = some (data s id, ()) := by
  have hc := ok_max_cfg h.1
  obtain ⟨p1, p2⟩ := committed s id h hv
  have hs : s.learned.length * 56 ≤ 2 ^ 40 := by
    have e : (2 : Nat) ^ 40 = 1099511627776 := by decide
    have := h.2.2
    omega
  have cmp : ((part s).length : Int) > (s.learned.length : Int) ↔ (part s).length > s.learned.length := by omega
  have hrep : fiisReplica s id = some (decide (id ∈ s.config.replicas), ()) := by
    unfold fiisReplica fiisReplicaC
    rw [(hasServer s.config.replicas id hc.1).2]
    rfl
  have himpl : ficommittedData s id = some (data s id, ()) := by
    unfold ficommittedData ficommittedDataC fslClone_Entry fslClone_EntryC data
    simp only [p2, hrep, Option.bind_some, br_dec, iteP_ite, if_pos hs, cmp]
    split
    · split <;> rfl
    · rfl
  refine ⟨?_, himpl⟩
  have hrole : ∃ r, fsRoleOf s.config id = some (r, ()) ∧ ((r = 1 ∨ r = 2) ↔ id ∈ s.config.replicas) := by
    rcases srvCfg h hv with hz | hvc
    · refine ⟨0, ?_, ?_⟩
      · rw [hz]; rfl
      · rw [hz]; simp
    · obtain ⟨_, _, hpr, _⟩ := cfgFacts hc hvc
      unfold fsRoleOf fsRoleOfC
      simp only [hvc, Option.bind_some, br_not, br_true, br_beq, (hasServer s.config.replicas id hc.1).1, (hasServer s.config.witnesses id hc.2).1, br_dec]
      by_cases h1 : id = s.config.primary
      · rw [if_pos h1]
        exact ⟨1, rfl, by simp [h1, hpr]⟩
      · rw [if_neg h1]
        by_cases h2 : id ∈ s.config.replicas
        · rw [if_pos h2]
          exact ⟨2, rfl, by simp [h2]⟩
        · rw [if_neg h2]
          split
          · exact ⟨3, rfl, by simp [h2]⟩
          · exact ⟨0, rfl, by simp [h2]⟩
  obtain ⟨r, r1, r2⟩ := hrole
  unfold fsl22Base fsl22BaseC fsl5Copy fsl5CopyC data
  simp only [r1, p1, List.nil_append, iteP_ite, if_pos hs, Option.bind_some, br_beq, br_dec, cmp]
  by_cases h1 : r = 1
  · rw [if_pos h1, if_pos (r2.1 (.inl h1))]
    split <;> rfl
  · rw [if_neg h1]
    by_cases h2 : r = 2
    · rw [if_pos h2, if_pos (r2.1 (.inr h2))]
      split <;> rfl
    · rw [if_neg h2, if_neg (fun h => by rcases r2.2 h with h | h <;> contradiction)]

/-- Numbers of servers with a property. -/
def ids (p : Nat → Bool) (n : Nat) : List Int := ((List.range n).filter p).map fun (k : Nat) => (k : Int)
theorem ids_succ (p : Nat → Bool) (n : Nat) : ids p (n + 1) = ids p n ++ if p n = true then [(n : Int)] else [] := by
  unfold ids
  rw [List.range_succ, List.filter_append, List.map_append]
  congr 1
  cases h : p n <;> simp [h]
theorem ids_mem (p : Nat → Bool) (n : Nat) (x : Int) : x ∈ ids p n ↔ ∃ k : Nat, k < n ∧ p k = true ∧ x = (k : Int) := by
  unfold ids
  simp only [List.mem_map, List.mem_filter, List.mem_range]
  constructor
  · rintro ⟨k, ⟨h1, h2⟩, rfl⟩; exact ⟨k, h1, h2, rfl⟩
  · rintro ⟨k, h1, h2, rfl⟩; exact ⟨k, ⟨h1, h2⟩, rfl⟩
theorem ids_len (p : Nat → Bool) (n : Nat) : (ids p n).length ≤ n := by
  unfold ids
  rw [List.length_map]
  exact Nat.le_trans (List.length_filter_le _ _) (by simp)
theorem ids_asc (p : Nat → Bool) {n : Nat} (hn : n ≤ 5) : Asc (ids p n) := by
  have hp : (ids p n).Pairwise (· < ·) := by
    unfold ids
    rw [List.pairwise_map]
    exact (List.Pairwise.filter _ List.pairwise_lt_range).imp fun h => by omega
  intro k hk
  have hm : (ids p n)[k] ∈ ids p n := List.getElem_mem hk
  obtain ⟨j, h1, _, h2⟩ := (ids_mem p n _).1 hm
  exact ⟨⟨by omega, by omega⟩, fun h0 => List.pairwise_iff_getElem.1 hp (k - 1) k (by omega) hk (by omega)⟩
theorem ids_and (p q : Nat → Bool) (n : Nat) : (ids p n).filter (fun x => decide (x ∈ ids q n)) = ids (fun k => p k && q k) n := by
  unfold ids
  rw [List.filter_map, List.filter_filter]
  congr 1
  apply List.filter_congr
  intro k hk
  have hk := List.mem_range.1 hk
  have : (((fun x => decide (x ∈ ids q n)) ∘ fun (k : Nat) => (k : Int)) k) = q k := by
    show decide ((k : Int) ∈ ids q n) = q k
    cases hq : q k with
    | true => exact decide_eq_true ((ids_mem q n _).2 ⟨k, hk, hq, rfl⟩)
    | false =>
      refine decide_eq_false fun h => ?_
      obtain ⟨j, _, h1, h2⟩ := (ids_mem q n _).1 h
      have : j = k := by omega
      subst this
      rw [hq] at h1
      cases h1
  have e : decide ((k : Int) ∈ List.map (fun (k : Nat) => (k : Int)) (List.filter q (List.range n))) = q k := this
  simp only [Function.comp, e, Bool.and_comm]

def upAt (x : Cluster) (k : Nat) : Bool := match x.servers[k]? with | some s => s.up | none => false
def sideAt (l : List Int) (k : Nat) : Bool := match l[k]? with | some s => s == 0 | none => false
theorem app40 {p : Nat → Bool} {k : Nat} (h : k ≤ 1000) (y : Int) : (ids p k ++ [y]).length * 8 ≤ 2 ^ 40 := by
  have := ids_len p k
  refine small40 ?_
  rw [List.length_append, List.length_singleton]
  omega
theorem upServers (x : Cluster) (hl : x.servers.length = 5) (hv : fsIsValidCluster x = some (true, ())) : fsUpServers x = some (ids (upAt x) 5, ()) := by
  have ex : (⟨x.now, x.servers, x.sides, ⟨x.master.configs, x.master.activated⟩, x.masterUp, ⟨x.lease.epoch, x.lease.holder, x.lease.ends⟩, x.places⟩ : Cluster) = x := rfl
  have key := lim_fold (B := bsUpServers_3) x.servers (fun k (b : List Int) => (((), (), (k : Int), ()), ((x.now, x.servers, x.sides, x.master.configs, x.master.activated, x.masterUp, x.lease.epoch, x.lease.holder, x.lease.ends, x.places, ()), ()), (b, ()))) (fun k b => b = ids (upAt x) k) (fun _ _ _ => (((), ()), (), (ids (upAt x) 5, ())))
    (fun b hb => by
      simp only [bsUpServers_3, bsUpServers_3C]
      rw [br_dec, if_neg (by omega), hb, hl])
    (fun k b s hs hb => by
      have hk := lt_len hs
      have c1 : (k : Int) < (x.servers.length : Int) := by omega
      have c2 : (0 : Int) ≤ (k : Int) := by omega
      have hup : upAt x k = s.up := by unfold upAt; rw [hs]
      subst hb
      simp only [bsUpServers_3, bsUpServers_3C, br_dec, iteP_ite, if_pos c1, if_pos c2, Int.toNat_natCast, hs, Option.bind_some, ex, hv, br_true, succ_wrap (n := 5) (by decide) (by omega : k < 5), if_pos (app40 (p := upAt x) (k := k) (by omega) (k : Int))]
      refine .inl ⟨ids (upAt x) (k + 1), ?_, rfl, trivial⟩
      rw [ids_succ, hup]
      cases s.up
      · simp
        rfl
      · rfl)
    0 [] (Nat.zero_le _) rfl
  unfold fsUpServers fsUpServersC
  rw [show lsUpServers_3 (((), (), 0, ()), ((x.now, x.servers, x.sides, x.master.configs, x.master.activated, x.masterUp, x.lease.epoch, x.lease.holder, x.lease.ends, x.places, ()), ()), ([], ())) = _ from key]
  rfl
theorem sidesLen {l : List Int} (hl : l.length ≤ maxLen) (hv : fsAreSides l = some (true, ())) : l.length = 5 := by
  obtain ⟨b, h1, h2⟩ := areSides l hl
  rw [hv] at h1
  simp only [Option.some.injEq, Prod.mk.injEq, and_true] at h1
  subst h1
  unfold fiAreSides fiAreSidesC at h2
  cases h : ((l.length : Int) == 5) with
  | false => rw [h] at h2; cases h2
  | true => simp only [beq_iff_eq] at h; omega
theorem masterSide (l : List Int) (hl : l.length = 5) (hv : fsAreSides l = some (true, ())) : fsMasterSide l = some (ids (sideAt l) 5, ()) := by
  have key := lim_fold (B := bsMasterSide_3) l (fun k (b : List Int) => ((l, (), (k : Int), ()), (), (b, ()))) (fun k b => b = ids (sideAt l) k) (fun _ _ _ => (((), ()), (), (ids (sideAt l) 5, ())))
    (fun b hb => by
      simp only [bsMasterSide_3, bsMasterSide_3C]
      rw [br_dec, if_neg (by omega), hb, hl])
    (fun k b s hs hb => by
      have hk := lt_len hs
      have c1 : (k : Int) < (l.length : Int) := by omega
      have c2 : (0 : Int) ≤ (k : Int) := by omega
      have hup : sideAt l k = (s == 0) := by unfold sideAt; rw [hs]
      subst hb
      simp only [bsMasterSide_3, bsMasterSide_3C, br_dec, iteP_ite, if_pos c1, if_pos c2, Int.toNat_natCast, hs, Option.bind_some, hv, br_true, succ_wrap (n := 5) (by decide) (by omega : k < 5), if_pos (app40 (p := sideAt l) (k := k) (by omega) (k : Int))]
      refine .inl ⟨ids (sideAt l) (k + 1), ?_, rfl, trivial⟩
      rw [ids_succ, hup]
      cases (s == 0)
      · simp
        rfl
      · rfl)
    0 [] (Nat.zero_le _) rfl
  unfold fsMasterSide fsMasterSideC
  rw [show lsMasterSide_3 ((l, (), 0, ()), (), ([], ())) = _ from key]
  rfl
def aliveAt (x : Cluster) (k : Nat) : Bool := upAt x k && sideAt x.sides k
theorem alive (x : Cluster) (ok : okCl 1048576 x) (hv : fsIsValidCluster x = some (true, ())) : fsl25Alive x = some (ids (aliveAt x) 5, ()) := by
  have vc := vcFacts ok hv
  have hsl := sidesLen (le_max ok.2.1) vc.sides
  unfold fsl25Alive fsl25AliveC
  rw [upServers x vc.len hv, masterSide x.sides hsl vc.sides]
  simp only [Option.bind_some]
  rw [sCommon _ _ (ids_asc _ (Nat.le_refl 5)) (Nat.le_trans (ids_len _ _) (by decide)), ids_and]
  rfl
end Go.Proofs.YtjenncacoddgmaaGreat.En
