/- EntriesAcked: the plain law. -/
import Derived.Test.YtjenncacoddgmaaGreatPV6
namespace Go.Proofs.YtjenncacoddgmaaGreat.En
open Go

def most (v : Int) (s : Server) : Int := if s.commit > v then s.commit else v
theorem entriesAcked (x : Cluster) (ok : okCl 1048576 x) : Agree (fsEntriesAcked x) (fiEntriesAcked x) := by
  obtain ⟨b, v1, v2⟩ := validCluster x ok
  have hm := le_max ok.1.1
  unfold fsEntriesAcked fsEntriesAckedC fiEntriesAcked fiEntriesAckedC
  simp only [v2, Option.bind_some, br_not]
  cases b with
  | false =>
    have h1 : lsEntriesAcked_3 (((), 0, 0, ()), ((x.now, x.servers, x.sides, x.master.configs, x.master.activated, x.masterUp, x.lease.epoch, x.lease.holder, x.lease.ends, x.places, ()), ()), ()) = some ((0, ()), (), ()) := by
      refine lim_exit ?_
      simp only [bsEntriesAcked_3, bsEntriesAcked_3C, show (⟨x.now, x.servers, x.sides, ⟨x.master.configs, x.master.activated⟩, x.masterUp, ⟨x.lease.epoch, x.lease.holder, x.lease.ends⟩, x.places⟩ : Cluster) = x from rfl, v1, Option.bind_some, br_false, br_dec]
      split <;> rfl
    rw [h1]
    exact ⟨_, rfl, rfl⟩
  | true =>
    have acc : ∀ k (hk : k < x.servers.length), (x.servers.take (k + 1)).foldl most 0 = most ((x.servers.take k).foldl most 0) x.servers[k] := by
      intro k hk
      rw [List.take_add_one, List.getElem?_eq_getElem hk, List.foldl_append]
      rfl
    have key := lim_two (B1 := bsEntriesAcked_3) (B2 := biEntriesAcked_5) x.servers.length (fun k => (((), (x.servers.take k).foldl most 0, (k : Int), ()), ((x.now, x.servers, x.sides, x.master.configs, x.master.activated, x.masterUp, x.lease.epoch, x.lease.holder, x.lease.ends, x.places, ()), ()), ())) (fun k => (((x.servers.take k).foldl most 0, x.servers, (x.servers.length : Int), (k : Int), ()), (), ())) ((x.servers.foldl most 0, ()), (), ()) ((x.servers.foldl most 0, ()), (), ()) (fun _ => ((0, ()), (), ())) (fun _ => ((0, ()), (), ()))
      (fun _ => True) (fun _ => True)
      (by simp only [bsEntriesAcked_3, bsEntriesAcked_3C]; rw [br_dec, if_neg (by omega), List.take_length])
      (by simp only [biEntriesAcked_5, biEntriesAcked_5C]; rw [br_dec, if_neg (by omega), List.take_length])
      (fun k hk => by
        have c1 : (k : Int) < (x.servers.length : Int) := by omega
        have c2 : (0 : Int) ≤ (k : Int) := by omega
        rw [acc k hk]
        simp only [bsEntriesAcked_3, bsEntriesAcked_3C, biEntriesAcked_5, biEntriesAcked_5C, br_dec, iteP_ite, if_pos c1, if_pos c2, Int.toNat_natCast, List.getElem?_eq_getElem hk, Option.bind_some, show (⟨x.now, x.servers, x.sides, ⟨x.master.configs, x.master.activated⟩, x.masterUp, ⟨x.lease.epoch, x.lease.holder, x.lease.ends⟩, x.places⟩ : Cluster) = x from rfl, v1, br_true, succ_wrap hm hk]
        exact .inl ⟨rfl, rfl, trivial⟩)
    simp only [br_true]
    rcases key with ⟨k1, k2, _⟩ | ⟨k, _, k1, k2, _⟩
    · rw [show lsEntriesAcked_3 (((), 0, 0, ()), ((x.now, x.servers, x.sides, x.master.configs, x.master.activated, x.masterUp, x.lease.epoch, x.lease.holder, x.lease.ends, x.places, ()), ()), ()) = _ from k1, show liEntriesAcked_5 ((0, x.servers, (x.servers.length : Int), 0, ()), (), ()) = _ from k2]
      exact ⟨_, rfl, rfl⟩
    · rw [show lsEntriesAcked_3 (((), 0, 0, ()), ((x.now, x.servers, x.sides, x.master.configs, x.master.activated, x.masterUp, x.lease.epoch, x.lease.holder, x.lease.ends, x.places, ()), ()), ()) = _ from k1, show liEntriesAcked_5 ((0, x.servers, (x.servers.length : Int), 0, ()), (), ()) = _ from k2]
      exact ⟨_, rfl, rfl⟩
theorem entries_law (x : Cluster) (h : okCl maxLen x) : fwFnExactEntriesAcked x = some (true, ()) := by
  unfold fwFnExactEntriesAcked fwFnExactEntriesAckedC
  obtain ⟨n, g1, g2, g3⟩ := szCluster x 1048576 h (by decide) (Int.le_refl _)
  simp only [g1, Option.bind_some, br_dec]
  split
  · rfl
  · have ok := g3 (by omega)
    obtain ⟨b, v1, v2⟩ := entriesAcked x ok
    simp only [toCluster x ok, v1, v2, Option.bind_some, eqCluster_self x ok, Bool.not_true, br_false, beq_self_eq_true]
end Go.Proofs.YtjenncacoddgmaaGreat.En
