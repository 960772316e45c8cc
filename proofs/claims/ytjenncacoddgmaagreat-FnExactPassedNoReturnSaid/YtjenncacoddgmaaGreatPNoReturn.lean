/- PassedNoReturn: the plain law. -/
import Derived.Test.YtjenncacoddgmaaGreatPV6
namespace Go.Proofs.YtjenncacoddgmaaGreat.En
open Go

theorem newFormat (l : List Entry) (hl : l.length ≤ maxLen) : Agree (fsHasNewFormat l) (fiHasNewFormat l) := by
  have key := lim_two (B1 := bsl14NewFormat_2) (B2 := bslIndexFunc_Entry_ihasNewFormat_c1_2) l.length (fun k => ((l, (k : Int), ()), (), ())) (fun k => ((l, (), (l.length : Int), (k : Int), ()), (), ())) (.inr (((), ()), (), ())) (.inr (((), ()), (), ())) (fun _ => .inl ((true, ()), (), ())) (fun k => .inl (((k : Int), ()), (), ()))
    (fun _ => True) (fun _ => True)
    (by simp only [bsl14NewFormat_2, bsl14NewFormat_2C]; rw [br_dec, if_neg (by omega)])
    (by simp only [bslIndexFunc_Entry_ihasNewFormat_c1_2, bslIndexFunc_Entry_ihasNewFormat_c1_2C]; rw [br_dec, if_neg (by omega)])
    (fun k hk => by
      have c1 : (k : Int) < (l.length : Int) := by omega
      have c2 : (0 : Int) ≤ (k : Int) := by omega
      simp only [bsl14NewFormat_2, bsl14NewFormat_2C, bslIndexFunc_Entry_ihasNewFormat_c1_2, bslIndexFunc_Entry_ihasNewFormat_c1_2C, fihasNewFormat_c1, fihasNewFormat_c1C, fiIsNewFormat, fiIsNewFormatC, fsIsNewFormat, fsIsNewFormatC, br_dec, iteP_ite, if_pos c1, if_pos c2, Int.toNat_natCast, List.getElem?_eq_getElem hk, Option.bind_some, succ_wrap hl hk]
      cases (l[k].op.kind == 2) with
      | false => exact .inl ⟨rfl, rfl, trivial⟩
      | true => exact .inr ⟨rfl, rfl, trivial⟩)
  unfold fsHasNewFormat fsHasNewFormatC fsl14NewFormat fsl14NewFormatC fiHasNewFormat fiHasNewFormatC fihasNewFormat fihasNewFormatC fslContainsFunc_Entry_ihasNewFormat_c1 fslContainsFunc_Entry_ihasNewFormat_c1C fslIndexFunc_Entry_ihasNewFormat_c1 fslIndexFunc_Entry_ihasNewFormat_c1C
  rcases key with ⟨k1, k2, _⟩ | ⟨k, _, k1, k2, _⟩
  · rw [show lsl14NewFormat_2 ((l, 0, ()), (), ()) = _ from k1, show lslIndexFunc_Entry_ihasNewFormat_c1_2 ((l, (), (l.length : Int), 0, ()), (), ()) = _ from k2]
    exact ⟨_, rfl, rfl⟩
  · rw [show lsl14NewFormat_2 ((l, 0, ()), (), ()) = _ from k1, show lslIndexFunc_Entry_ihasNewFormat_c1_2 ((l, (), (l.length : Int), 0, ()), (), ()) = _ from k2]
    simp only [Option.bind_some, Sum.elim_inl]
    rw [decide_eq_true (by omega)]
    exact ⟨_, rfl, rfl⟩
/-- What a server has committed. -/
def part (s : Server) : List Entry := if win s.commit s.first (s.first + (s.log.length : Int)) = true then s.log.take (s.commit - s.first).toNat else []
theorem committed (s : Server) (id : Int) (h : okSrv 1048576 s) (hv : fsIsValidServer s id = some (true, ())) : fsCommittedPart s = some (part s, ()) ∧ fiCommittedPart s = some (part s, ()) := by
  obtain ⟨f1, f2, f3, f4, f5, _⟩ := srvFacts h hv
  unfold fsCommittedPart fsCommittedPartC fiCommittedPart fiCommittedPartC part
  rw [wrap_id (n := s.first + (s.log.length : Int)) (by omega) (by omega)]
  simp only [swin, iwin, Option.bind_some, br_not, br_dec, if_neg (show ¬ s.first < 0 by omega)]
  cases hw : win s.commit s.first (s.first + (s.log.length : Int)) with
  | false => exact ⟨rfl, rfl⟩
  | true =>
    have hw := win_iff.1 hw
    have d1 : (0 : Int) ≤ 0 ∧ (0 : Int) ≤ s.commit - s.first ∧ s.commit - s.first ≤ (s.log.length : Int) := by omega
    have hs : (s.log.take (s.commit - s.first).toNat).length * 56 ≤ 2 ^ 40 := by
      have : (s.log.take (s.commit - s.first).toNat).length ≤ 16 := by simp; omega
      have e : (2 : Nat) ^ 40 = 1099511627776 := by decide
      omega
    simp only [br_true, if_true]
    rw [wrap_id (n := s.commit - s.first) (by omega) (by omega)]
    simp only [iteP_ite, if_pos d1, fsl5Copy, fsl5CopyC, fslClone_Entry, fslClone_EntryC, Int.toNat_zero, List.drop_zero, Nat.sub_zero, List.nil_append, if_pos hs, Option.bind_some]
    exact ⟨trivial, trivial⟩
theorem passedNoReturn (x : Cluster) (ok : okCl 1048576 x) : Agree (fsPassedNoReturn x) (fiPassedNoReturn x) := by
  obtain ⟨b, v1, v2⟩ := validCluster x ok
  have hm := le_max ok.1.1
  have ex : (⟨x.now, x.servers, x.sides, ⟨x.master.configs, x.master.activated⟩, x.masterUp, ⟨x.lease.epoch, x.lease.holder, x.lease.ends⟩, x.places⟩ : Cluster) = x := rfl
  unfold fsPassedNoReturn fsPassedNoReturnC fiPassedNoReturn fiPassedNoReturnC
  simp only [v2, Option.bind_some]
  cases b with
  | false =>
    have h1 : lsPassedNoReturn_2 (((), 0, ()), ((x.now, x.servers, x.sides, x.master.configs, x.master.activated, x.masterUp, x.lease.epoch, x.lease.holder, x.lease.ends, x.places, ()), ()), ()) = some (.inr (((), ()), (), ())) := by
      refine lim_exit ?_
      simp only [bsPassedNoReturn_2, bsPassedNoReturn_2C, ex, v1, Option.bind_some, br_false, br_dec]
      split <;> rfl
    rw [h1]
    exact ⟨_, rfl, rfl⟩
  | true =>
    have vc := vcFacts ok v1
    have key := lim_two (B1 := bsPassedNoReturn_2) (B2 := bslIndexFunc_Server_iPassedNoReturn_c1_2) x.servers.length (fun k => (((), (k : Int), ()), ((x.now, x.servers, x.sides, x.master.configs, x.master.activated, x.masterUp, x.lease.epoch, x.lease.holder, x.lease.ends, x.places, ()), ()), ())) (fun k => ((x.servers, (), (x.servers.length : Int), (k : Int), ()), (), ())) (.inr (((), ()), (), ())) (.inr (((), ()), (), ())) (fun _ => .inl ((true, ()), (), ())) (fun k => .inl (((k : Int), ()), (), ()))
      (fun _ => True) (fun _ => True)
      (by simp only [bsPassedNoReturn_2, bsPassedNoReturn_2C]; rw [br_dec, if_neg (by omega)])
      (by simp only [bslIndexFunc_Server_iPassedNoReturn_c1_2, bslIndexFunc_Server_iPassedNoReturn_c1_2C]; rw [br_dec, if_neg (by omega)])
      (fun k hk => by
        have c1 : (k : Int) < (x.servers.length : Int) := by omega
        have c2 : (0 : Int) ≤ (k : Int) := by omega
        have hsk := ok.1.2 _ (List.getElem_mem hk)
        obtain ⟨p1, p2⟩ := committed x.servers[k] (k : Int) hsk (vc.srv k hk)
        have hpl : (part x.servers[k]).length ≤ maxLen := by
          have : (part x.servers[k]).length ≤ x.servers[k].log.length := by
            unfold part
            split
            · simp; omega
            · exact Nat.zero_le _
          exact Nat.le_trans this (le_max hsk.2.1)
        obtain ⟨q, q1, q2⟩ := newFormat (part x.servers[k]) hpl
        simp only [bsPassedNoReturn_2, bsPassedNoReturn_2C, bslIndexFunc_Server_iPassedNoReturn_c1_2, bslIndexFunc_Server_iPassedNoReturn_c1_2C, fiPassedNoReturn_c1, fiPassedNoReturn_c1C, br_dec, iteP_ite, if_pos c1, if_pos c2, Int.toNat_natCast, List.getElem?_eq_getElem hk, Option.bind_some, ex, v1, p1, p2, q1, q2, br_true, succ_wrap hm hk]
        cases q with
        | false => exact .inl ⟨rfl, rfl, trivial⟩
        | true => exact .inr ⟨rfl, rfl, trivial⟩)
    unfold fslContainsFunc_Server_iPassedNoReturn_c1 fslContainsFunc_Server_iPassedNoReturn_c1C fslIndexFunc_Server_iPassedNoReturn_c1 fslIndexFunc_Server_iPassedNoReturn_c1C
    simp only [br_true]
    rcases key with ⟨k1, k2, _⟩ | ⟨k, _, k1, k2, _⟩
    · rw [show lsPassedNoReturn_2 (((), 0, ()), ((x.now, x.servers, x.sides, x.master.configs, x.master.activated, x.masterUp, x.lease.epoch, x.lease.holder, x.lease.ends, x.places, ()), ()), ()) = _ from k1, show lslIndexFunc_Server_iPassedNoReturn_c1_2 ((x.servers, (), (x.servers.length : Int), 0, ()), (), ()) = _ from k2]
      exact ⟨_, rfl, rfl⟩
    · rw [show lsPassedNoReturn_2 (((), 0, ()), ((x.now, x.servers, x.sides, x.master.configs, x.master.activated, x.masterUp, x.lease.epoch, x.lease.holder, x.lease.ends, x.places, ()), ()), ()) = _ from k1, show lslIndexFunc_Server_iPassedNoReturn_c1_2 ((x.servers, (), (x.servers.length : Int), 0, ()), (), ()) = _ from k2]
      simp only [Option.bind_some, Sum.elim_inl]
      rw [decide_eq_true (by omega)]
      exact ⟨_, rfl, rfl⟩
theorem noReturn_law (x : Cluster) (h : okCl maxLen x) : fwFnExactPassedNoReturn x = some (true, ()) := by
  unfold fwFnExactPassedNoReturn fwFnExactPassedNoReturnC
  obtain ⟨n, g1, g2, g3⟩ := szCluster x 1048576 h (by decide) (Int.le_refl _)
  simp only [g1, Option.bind_some, br_dec]
  split
  · rfl
  · have ok := g3 (by omega)
    obtain ⟨b, v1, v2⟩ := passedNoReturn x ok
    simp only [toCluster x ok, v1, v2, Option.bind_some, eqCluster_self x ok, Bool.not_true, br_false, beq_self_eq_true]
end Go.Proofs.YtjenncacoddgmaaGreat.En
