/- LongestSurvivor, on. -/
import Derived.Test.YtjenncacoddgmaaGreatPLong
namespace Go.Proofs.YtjenncacoddgmaaGreat.En
open Go

def datOf (x : Cluster) (id : Int) : List Entry := match x.servers[id.toNat]? with | some s => data s id | none => []
theorem dat29 (x : Cluster) (ok : okCl 1048576 x) (hv : fsIsValidCluster x = some (true, ())) (id : Int) (h0 : 0 ≤ id) (h5 : id < 5) : fsl29Data x id = some (datOf x id, ()) := by
  have vc := vcFacts ok hv
  have hlt : id.toNat < x.servers.length := by rw [vc.len]; omega
  have hs := ok.1.2 _ (List.getElem_mem hlt)
  have hsv := vc.srv id.toNat hlt
  rw [show ((id.toNat : Nat) : Int) = id by omega] at hsv
  unfold fsl29Data fsl29DataC datOf
  rw [iteP_pos h0, List.getElem?_eq_getElem hlt]
  simp only [Option.bind_some, (data_eq _ id hs hsv).1]
def better (x : Cluster) (b id : Int) : Int := if b < 0 then id else if (datOf x id).length > (datOf x b).length then id else b
theorem better_in (x : Cluster) {b id : Int} (hb : b < 0 ∨ (0 ≤ b ∧ b < 5)) (h0 : 0 ≤ id) (h5 : id < 5) : 0 ≤ better x b id ∧ better x b id < 5 := by
  unfold better
  split
  · exact ⟨h0, h5⟩
  · split
    · exact ⟨h0, h5⟩
    · omega
theorem longSpec (x : Cluster) (ok : okCl 1048576 x) (hv : fsIsValidCluster x = some (true, ())) : fsLongestSurvivor x = some ((ids (aliveAt x) 5).foldl (better x) (-1), ()) := by
  have ex : (⟨x.now, x.servers, x.sides, ⟨x.master.configs, x.master.activated⟩, x.masterUp, ⟨x.lease.epoch, x.lease.holder, x.lease.ends⟩, x.places⟩ : Cluster) = x := rfl
  have hl := ids_len (aliveAt x) 5
  have hm : (ids (aliveAt x) 5).length ≤ maxLen := Nat.le_trans hl (by decide)
  have key := lim_fold (B := bsLongestSurvivor_4) (ids (aliveAt x) 5) (fun k (b : Int) => (((), b, (), (k : Int), ()), ((x.now, x.servers, x.sides, x.master.configs, x.master.activated, x.masterUp, x.lease.epoch, x.lease.holder, x.lease.ends, x.places, ()), ()), (ids (aliveAt x) 5, ()))) (fun _ b => b < 0 ∨ (0 ≤ b ∧ b < 5)) (fun _ r b => ((r.foldl (better x) b, ()), (), ()))
    (fun b hb => by
      simp only [bsLongestSurvivor_4, bsLongestSurvivor_4C]
      rw [br_dec, if_neg (by omega)]
      rfl)
    (fun k b id hid hb => by
      have hk := lt_len hid
      obtain ⟨j, j1, _, j2⟩ := (ids_mem _ _ _).1 (List.mem_of_getElem? hid)
      have h0 : 0 ≤ id := by omega
      have h5 : id < 5 := by omega
      have c1 : (k : Int) < ((ids (aliveAt x) 5).length : Int) := by omega
      have c2 : (0 : Int) ≤ (k : Int) ∧ (k : Int) < ((ids (aliveAt x) 5).length : Int) := by omega
      left
      simp only [bsLongestSurvivor_4, bsLongestSurvivor_4C, br_dec, iteP_ite, if_pos c1, if_pos c2, Int.toNat_natCast, hid, Option.bind_some, ex, hv, br_true, succ_wrap hm hk]
      refine ⟨better x b id, ?_, .inr (better_in x hb h0 h5), rfl⟩
      by_cases hneg : b < 0
      · rw [if_pos hneg]
        have : better x b id = id := if_pos hneg
        rw [this]
      · rw [if_neg hneg]
        have hb' : 0 ≤ b ∧ b < 5 := by omega
        simp only [dat29 x ok hv id h0 h5, dat29 x ok hv b hb'.1 hb'.2, Option.bind_some]
        by_cases hgt : (datOf x id).length > (datOf x b).length
        · rw [if_pos (by omega)]
          have : better x b id = id := by unfold better; rw [if_neg hneg, if_pos hgt]
          rw [this]
        · rw [if_neg (by omega)]
          have : better x b id = b := by unfold better; rw [if_neg hneg, if_neg hgt]
          rw [this])
    0 (-1) (Nat.zero_le _) (.inl (by decide))
  unfold fsLongestSurvivor fsLongestSurvivorC
  rw [alive x ok hv]
  simp only [Option.bind_some]
  rw [show lsLongestSurvivor_4 (((), -1, (), 0, ()), ((x.now, x.servers, x.sides, x.master.configs, x.master.activated, x.masterUp, x.lease.epoch, x.lease.holder, x.lease.ends, x.places, ()), ()), (ids (aliveAt x) 5, ())) = _ from key]
  rfl
theorem longImpl (x : Cluster) (ok : okCl 1048576 x) (hv : fsIsValidCluster x = some (true, ())) (hi : fiIsValidCluster x = some (true, ())) : fiLongestSurvivor x = some ((ids (aliveAt x) 5).foldl (better x) (-1), ()) := by
  have ex : (⟨x.now, x.servers, x.sides, ⟨x.master.configs, x.master.activated⟩, x.masterUp, ⟨x.lease.epoch, x.lease.holder, x.lease.ends⟩, x.places⟩ : Cluster) = x := rfl
  have vc := vcFacts ok hv
  have hl := vc.len
  have hsl := sidesLen (le_max ok.2.1) vc.sides
  have key := lim_fold (B := biLongestSurvivor_5) x.servers (fun k (b : Int × Int) => (((), b.1, b.2, x.servers, (x.servers.length : Int), (k : Int), ()), ((x.now, x.servers, x.sides, x.master.configs, x.master.activated, x.masterUp, x.lease.epoch, x.lease.holder, x.lease.ends, x.places, ()), ()), ())) (fun k b => b.1 = (ids (aliveAt x) k).foldl (better x) (-1) ∧ (b.1 < 0 ∨ (0 ≤ b.1 ∧ b.1 < 5 ∧ b.2 = ((datOf x b.1).length : Int)))) (fun _ _ _ => (((ids (aliveAt x) 5).foldl (better x) (-1), ()), (), ()))
    (fun b hb => by
      simp only [biLongestSurvivor_5, biLongestSurvivor_5C]
      rw [br_dec, if_neg (by omega), hb.1, hl])
    (fun k b s hs hb => by
      have hk := lt_len hs
      have hlt : k < x.sides.length := by omega
      have c1 : (k : Int) < (x.servers.length : Int) := by omega
      have c2 : (0 : Int) ≤ (k : Int) := by omega
      have hse : x.servers[k] = s := by rw [List.getElem?_eq_getElem hk] at hs; exact Option.some.inj hs
      have hsv := vc.srv k hk
      rw [hse] at hsv
      have hso : okSrv 1048576 s := ok.1.2 s (List.mem_of_getElem? hs)
      have hdat : datOf x (k : Int) = data s (k : Int) := by unfold datOf; rw [Int.toNat_natCast, hs]
      have hus : fiisUsable x (k : Int) = some (aliveAt x k, ()) := by
        unfold fiisUsable fiisUsableC aliveAt upAt sideAt
        simp only [iteP_ite, if_pos c2, Int.toNat_natCast, hs, List.getElem?_eq_getElem hlt, Option.bind_some]
        cases s.up <;> rfl
      left
      simp only [biLongestSurvivor_5, biLongestSurvivor_5C, br_dec, iteP_ite, if_pos c1, if_pos c2, Int.toNat_natCast, hs, Option.bind_some, ex, (data_eq s (k : Int) hso hsv).2, hus, succ_wrap (le_max ok.1.1) hk, ids_succ]
      obtain ⟨hb1, hb2⟩ := hb
      cases ha : aliveAt x k with
      | false =>
        simp only [br_false]
        exact ⟨b, rfl, ⟨by rw [hb1]; simp, hb2⟩, trivial⟩
      | true =>
        simp only [br_true, if_true, List.foldl_append, List.foldl_cons, List.foldl_nil, ← hb1]
        by_cases hneg : b.1 < 0
        · rw [if_pos hneg]
          exact ⟨((k : Int), ((data s (k : Int)).length : Int)), rfl, ⟨(if_pos hneg : better x b.1 (k : Int) = (k : Int)).symm, .inr ⟨by omega, by simp only; omega, by rw [hdat]⟩⟩, trivial⟩
        · rw [if_neg hneg]
          have hb' : 0 ≤ b.1 ∧ b.1 < 5 ∧ b.2 = ((datOf x b.1).length : Int) := by
            rcases hb2 with h | h
            · exact absurd h hneg
            · exact h
          by_cases hgt : (datOf x (k : Int)).length > (datOf x b.1).length
          · rw [if_pos (by rw [hb'.2.2, ← hdat]; omega)]
            exact ⟨((k : Int), ((data s (k : Int)).length : Int)), rfl, ⟨by unfold better; rw [if_neg hneg, if_pos hgt], .inr ⟨by omega, by simp only; omega, by rw [hdat]⟩⟩, trivial⟩
          · rw [if_neg (by rw [hb'.2.2, ← hdat]; omega)]
            exact ⟨b, rfl, ⟨by unfold better; rw [if_neg hneg, if_neg hgt], hb2⟩, trivial⟩)
    0 (-1, 0) (Nat.zero_le _) ⟨rfl, .inl (by decide)⟩
  unfold fiLongestSurvivor fiLongestSurvivorC
  rw [hi]
  simp only [Option.bind_some, Bool.not_true, br_false]
  rw [show liLongestSurvivor_5 (((), -1, 0, x.servers, (x.servers.length : Int), 0, ()), ((x.now, x.servers, x.sides, x.master.configs, x.master.activated, x.masterUp, x.lease.epoch, x.lease.holder, x.lease.ends, x.places, ()), ()), ()) = _ from key]
  rfl
theorem upServers_total (x : Cluster) (hl : x.servers.length ≤ 1048576) (hv : fsIsValidCluster x = some (false, ())) : fsUpServers x = some ([], ()) := by
  have ex : (⟨x.now, x.servers, x.sides, ⟨x.master.configs, x.master.activated⟩, x.masterUp, ⟨x.lease.epoch, x.lease.holder, x.lease.ends⟩, x.places⟩ : Cluster) = x := rfl
  unfold fsUpServers fsUpServersC
  have : lsUpServers_3 (((), (), 0, ()), ((x.now, x.servers, x.sides, x.master.configs, x.master.activated, x.masterUp, x.lease.epoch, x.lease.holder, x.lease.ends, x.places, ()), ()), ([], ())) = some (((), ()), (), ([], ())) := by
    refine lim_exit ?_
    simp only [bsUpServers_3, bsUpServers_3C, ex, hv, Option.bind_some, br_false, br_dec]
    split <;> rfl
  rw [this]
  rfl
theorem masterSide_total (l : List Int) (hl : l.length ≤ 1048576) : ∃ r, fsMasterSide l = some (r, ()) ∧ r.length ≤ maxLen := by
  obtain ⟨b, h1, h2⟩ := areSides l (le_max hl)
  cases b with
  | true =>
    have h5 := sidesLen (le_max hl) h1
    exact ⟨_, masterSide l h5 h1, Nat.le_trans (ids_len _ _) (by decide)⟩
  | false =>
    refine ⟨[], ?_, Nat.zero_le _⟩
    unfold fsMasterSide fsMasterSideC
    have : lsMasterSide_3 ((l, (), 0, ()), (), ([], ())) = some (((), ()), (), ([], ())) := by
      refine lim_exit ?_
      simp only [bsMasterSide_3, bsMasterSide_3C, h1, Option.bind_some, br_false, br_dec]
      split <;> rfl
    rw [this]
    rfl
theorem longest (x : Cluster) (ok : okCl 1048576 x) : Agree (fsLongestSurvivor x) (fiLongestSurvivor x) := by
  obtain ⟨b, v1, v2⟩ := validCluster x ok
  cases b with
  | true => exact ⟨_, longSpec x ok v1, longImpl x ok v1 v2⟩
  | false =>
    obtain ⟨r, r1, r2⟩ := masterSide_total x.sides ok.2.1
    have hc : fsCommonServers [] r = some ([], ()) := sCommon [] r (fun k hk => absurd hk (Nat.not_lt_zero k)) r2
    unfold fsLongestSurvivor fsLongestSurvivorC fiLongestSurvivor fiLongestSurvivorC fsl25Alive fsl25AliveC
    simp only [upServers_total x ok.1.1 v1, r1, hc, v2, Option.bind_some, Bool.not_false, br_true]
    have : lsLongestSurvivor_4 (((), -1, (), 0, ()), ((x.now, x.servers, x.sides, x.master.configs, x.master.activated, x.masterUp, x.lease.epoch, x.lease.holder, x.lease.ends, x.places, ()), ()), ([], ())) = some ((-1, ()), (), ()) := by
      refine lim_exit ?_
      simp only [bsLongestSurvivor_4, bsLongestSurvivor_4C]
      rw [br_dec, if_neg (by simp)]
    rw [this]
    exact ⟨_, rfl, rfl⟩
theorem long_law (x : Cluster) (h : okCl maxLen x) : fwFnExactLongestSurvivor x = some (true, ()) := by
  unfold fwFnExactLongestSurvivor fwFnExactLongestSurvivorC
  obtain ⟨n, g1, g2, g3⟩ := szCluster x 1048576 h (by decide) (Int.le_refl _)
  simp only [g1, Option.bind_some, br_dec]
  split
  · rfl
  · have ok := g3 (by omega)
    obtain ⟨b, v1, v2⟩ := longest x ok
    simp only [toCluster x ok, v1, v2, Option.bind_some, eqCluster_self x ok, Bool.not_true, br_false, beq_self_eq_true]
end Go.Proofs.YtjenncacoddgmaaGreat.En
