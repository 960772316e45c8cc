/- What the laws' own helpers compute: sizes, copies, equality. -/
import Derived.Test.YtjenncacoddgmaaGreatB
namespace Go.Proofs.YtjenncacoddgmaaGreat.En
open Go

/-! lengths -/
def okCfg (M : Nat) (c : Config) : Prop := c.replicas.length ≤ M ∧ c.witnesses.length ≤ M
def okSrv (M : Nat) (s : Server) : Prop := okCfg M s.config ∧ s.log.length ≤ M ∧ s.learned.length ≤ M
def okMl (M : Nat) (m : MasterLog) : Prop := m.configs.length ≤ M ∧ ∀ c ∈ m.configs, okCfg M c
def okCl (M : Nat) (c : Cluster) : Prop := (c.servers.length ≤ M ∧ ∀ s ∈ c.servers, okSrv M s) ∧ c.sides.length ≤ M ∧ okMl M c.master ∧ c.places.length ≤ M

theorem szIntS : SzOk fwszIntS (fun l => l.length ≤ maxLen) (fun l => l.length ≤ 1048576) := sz_flat (fun _ _ => rfl)
theorem szEntryS : SzOk fwszEntryS (fun l => l.length ≤ maxLen) (fun l => l.length ≤ 1048576) := sz_flat (fun _ _ => rfl)
theorem szPlaceS : SzOk fwszPlaceS (fun l => l.length ≤ maxLen) (fun l => l.length ≤ 1048576) := sz_flat (fun _ _ => rfl)
theorem szConfig : SzOk fwszConfig (okCfg maxLen) (okCfg 1048576) := by
  intro x left hb h0 h1
  unfold fwszConfig fwszConfigC
  obtain ⟨n, g1, g2, g3⟩ := szIntS x.replicas left hb.1 h0 h1
  simp only [g1, Option.bind_some, br_dec]
  split
  · exact ⟨-1, rfl, by omega, fun h => by omega⟩
  · obtain ⟨m, k1, k2, k3⟩ := szIntS x.witnesses n hb.2 (by omega) (by omega)
    simp only [k1, Option.bind_some]
    split
    · exact ⟨-1, rfl, by omega, fun h => by omega⟩
    · exact ⟨m, rfl, by omega, fun h => ⟨g3 (by omega), k3 h⟩⟩
theorem szServer : SzOk fwszServer (okSrv maxLen) (okSrv 1048576) := by
  intro x left hb h0 h1
  unfold fwszServer fwszServerC
  obtain ⟨n, g1, g2, g3⟩ := szConfig x.config left hb.1 h0 h1
  simp only [g1, Option.bind_some, br_dec]
  split
  · exact ⟨-1, rfl, by omega, fun h => by omega⟩
  · obtain ⟨m, k1, k2, k3⟩ := szEntryS x.log n hb.2.1 (by omega) (by omega)
    simp only [k1, Option.bind_some]
    split
    · exact ⟨-1, rfl, by omega, fun h => by omega⟩
    · obtain ⟨q, j1, j2, j3⟩ := szEntryS x.learned m hb.2.2 (by omega) (by omega)
      simp only [j1, Option.bind_some]
      split
      · exact ⟨-1, rfl, by omega, fun h => by omega⟩
      · exact ⟨q, rfl, by omega, fun h => ⟨g3 (by omega), k3 (by omega), j3 h⟩⟩
theorem szServerS : SzOk fwszServerS (fun l => l.length ≤ maxLen ∧ ∀ s ∈ l, okSrv maxLen s) (fun l => l.length ≤ 1048576 ∧ ∀ s ∈ l, okSrv 1048576 s) :=
  sz_loop (B := bwszServerS_5) fwszServer szServer (fun _ _ => rfl) (fun _ _ _ => rfl)
theorem szConfigS : SzOk fwszConfigS (fun l => l.length ≤ maxLen ∧ ∀ s ∈ l, okCfg maxLen s) (fun l => l.length ≤ 1048576 ∧ ∀ s ∈ l, okCfg 1048576 s) :=
  sz_loop (B := bwszConfigS_5) fwszConfig szConfig (fun _ _ => rfl) (fun _ _ _ => rfl)
theorem szMasterLog : SzOk fwszMasterLog (okMl maxLen) (okMl 1048576) := by
  intro x left hb h0 h1
  unfold fwszMasterLog fwszMasterLogC
  obtain ⟨n, g1, g2, g3⟩ := szConfigS x.configs left hb h0 h1
  simp only [g1, Option.bind_some, br_dec]
  split
  · exact ⟨-1, rfl, by omega, fun h => by omega⟩
  · exact ⟨n, rfl, by omega, g3⟩
theorem szCluster : SzOk fwszCluster (okCl maxLen) (okCl 1048576) := by
  intro x left hb h0 h1
  unfold fwszCluster fwszClusterC
  obtain ⟨n, g1, g2, g3⟩ := szServerS x.servers left hb.1 h0 h1
  simp only [g1, Option.bind_some, br_dec]
  split
  · exact ⟨-1, rfl, by omega, fun h => by omega⟩
  · obtain ⟨m, k1, k2, k3⟩ := szIntS x.sides n hb.2.1 (by omega) (by omega)
    simp only [k1, Option.bind_some]
    split
    · exact ⟨-1, rfl, by omega, fun h => by omega⟩
    · obtain ⟨q, j1, j2, j3⟩ := szMasterLog x.master m hb.2.2.1 (by omega) (by omega)
      simp only [j1, Option.bind_some]
      split
      · exact ⟨-1, rfl, by omega, fun h => by omega⟩
      · obtain ⟨p, i1, i2, i3⟩ := szPlaceS x.places q hb.2.2.2 (by omega) (by omega)
        simp only [i1, Option.bind_some]
        split
        · exact ⟨-1, rfl, by omega, fun h => by omega⟩
        · exact ⟨p, rfl, by omega, fun h => ⟨g3 (by omega), k3 (by omega), j3 (by omega), i3 h⟩⟩

theorem toIntS (l : List Int) (h : l.length ≤ 1048576) : fwtoIntS l = some (l, ()) := to_eq (F := fwtoIntS) (B := bwtoIntS_3) (fun x => some (x, ())) 0 8 (fun _ => rfl) (fun _ _ _ => rfl) (by decide) l h (fun _ _ => rfl)
theorem toEntryS (l : List Entry) (h : l.length ≤ 1048576) : fwtoEntryS l = some (l, ()) := to_eq (F := fwtoEntryS) (B := bwtoEntryS_3) fwtoEntry ⟨0, ⟨0, 0, 0, 0, 0, 0⟩⟩ 56 (fun _ => rfl) (fun _ _ _ => rfl) (by decide) l h (fun _ _ => rfl)
theorem toPlaceS (l : List Place) (h : l.length ≤ 1048576) : fwtoPlaceS l = some (l, ()) := to_eq (F := fwtoPlaceS) (B := bwtoPlaceS_3) fwtoPlace ⟨0, 0, 0⟩ 24 (fun _ => rfl) (fun _ _ _ => rfl) (by decide) l h (fun _ _ => rfl)
theorem toConfig (x : Config) (h : okCfg 1048576 x) : fwtoConfig x = some (x, ()) := by
  unfold fwtoConfig fwtoConfigC
  simp only [toIntS _ h.1, toIntS _ h.2, Option.bind_some]
theorem toServer (x : Server) (h : okSrv 1048576 x) : fwtoServer x = some (x, ()) := by
  unfold fwtoServer fwtoServerC
  simp only [toConfig _ h.1, toEntryS _ h.2.1, toEntryS _ h.2.2, Option.bind_some]
theorem toServerS (l : List Server) (h : l.length ≤ 1048576 ∧ ∀ s ∈ l, okSrv 1048576 s) : fwtoServerS l = some (l, ()) := to_eq (F := fwtoServerS) (B := bwtoServerS_3) fwtoServer ⟨false, false, 0, 0, ⟨0, 0, [], []⟩, 0, [], 0, []⟩ 152 (fun _ => rfl) (fun _ _ _ => rfl) (by decide) l h.1 (fun x hx => toServer x (h.2 x hx))
theorem toConfigS (l : List Config) (h : l.length ≤ 1048576 ∧ ∀ s ∈ l, okCfg 1048576 s) : fwtoConfigS l = some (l, ()) := to_eq (F := fwtoConfigS) (B := bwtoConfigS_3) fwtoConfig ⟨0, 0, [], []⟩ 64 (fun _ => rfl) (fun _ _ _ => rfl) (by decide) l h.1 (fun x hx => toConfig x (h.2 x hx))
theorem toMasterLog (x : MasterLog) (h : okMl 1048576 x) : fwtoMasterLog x = some (x, ()) := by
  unfold fwtoMasterLog fwtoMasterLogC
  simp only [toConfigS _ h, Option.bind_some]
theorem toLease (x : Lease) : fwtoLease x = some (x, ()) := rfl
theorem toCluster (x : Cluster) (h : okCl 1048576 x) : fwtoCluster x = some (x, ()) := by
  unfold fwtoCluster fwtoClusterC
  simp only [toServerS _ h.1, toIntS _ h.2.1, toMasterLog _ h.2.2.1, toLease, toPlaceS _ h.2.2.2, Option.bind_some]

theorem le_max {n : Nat} (h : n ≤ 1048576) : n ≤ maxLen := by unfold maxLen; omega
theorem eqIntS_self (l : List Int) (h : l.length ≤ maxLen) : fweqIntS l l = some (true, ()) := eqS_self (F := fweqIntS) (B := bweqIntS_4) (fun x y => some (x == y, ())) (fun _ _ => rfl) (fun _ _ _ => rfl) l h (fun x _ => by simp)
theorem eqOp_self (x : Op) : fweqOp x x = some (true, ()) := by
  unfold fweqOp fweqOpC
  simp only [beq_self_eq_true, Bool.not_true, br_false]
theorem eqEntry_self (x : Entry) : fweqEntry x x = some (true, ()) := by
  unfold fweqEntry fweqEntryC
  simp only [beq_self_eq_true, Bool.not_true, br_false, eqOp_self, Option.bind_some]
theorem eqEntryS_self (l : List Entry) (h : l.length ≤ maxLen) : fweqEntryS l l = some (true, ()) := eqS_self (F := fweqEntryS) (B := bweqEntryS_4) fweqEntry (fun _ _ => rfl) (fun _ _ _ => rfl) l h (fun x _ => eqEntry_self x)
theorem eqPlace_self (x : Place) : fweqPlace x x = some (true, ()) := by
  unfold fweqPlace fweqPlaceC
  simp only [beq_self_eq_true, Bool.not_true, br_false]
theorem eqPlaceS_self (l : List Place) (h : l.length ≤ maxLen) : fweqPlaceS l l = some (true, ()) := eqS_self (F := fweqPlaceS) (B := bweqPlaceS_4) fweqPlace (fun _ _ => rfl) (fun _ _ _ => rfl) l h (fun x _ => eqPlace_self x)
theorem eqConfig_self (x : Config) (h : okCfg 1048576 x) : fweqConfig x x = some (true, ()) := by
  unfold fweqConfig fweqConfigC
  simp only [beq_self_eq_true, Bool.not_true, br_false, eqIntS_self _ (le_max h.1), eqIntS_self _ (le_max h.2), Option.bind_some]
theorem eqConfigS_self (l : List Config) (h : l.length ≤ 1048576 ∧ ∀ s ∈ l, okCfg 1048576 s) : fweqConfigS l l = some (true, ()) := eqS_self (F := fweqConfigS) (B := bweqConfigS_4) fweqConfig (fun _ _ => rfl) (fun _ _ _ => rfl) l (le_max h.1) (fun x hx => eqConfig_self x (h.2 x hx))
theorem eqServer_self (x : Server) (h : okSrv 1048576 x) : fweqServer x x = some (true, ()) := by
  unfold fweqServer fweqServerC
  simp only [beq_self_eq_true, Bool.not_true, br_false, eqConfig_self _ h.1, eqEntryS_self _ (le_max h.2.1), eqEntryS_self _ (le_max h.2.2), Option.bind_some]
theorem eqServerS_self (l : List Server) (h : l.length ≤ 1048576 ∧ ∀ s ∈ l, okSrv 1048576 s) : fweqServerS l l = some (true, ()) := eqS_self (F := fweqServerS) (B := bweqServerS_4) fweqServer (fun _ _ => rfl) (fun _ _ _ => rfl) l (le_max h.1) (fun x hx => eqServer_self x (h.2 x hx))
theorem eqMasterLog_self (x : MasterLog) (h : okMl 1048576 x) : fweqMasterLog x x = some (true, ()) := by
  unfold fweqMasterLog fweqMasterLogC
  simp only [beq_self_eq_true, Bool.not_true, br_false, eqConfigS_self _ h, Option.bind_some]
theorem eqLease_self (x : Lease) : fweqLease x x = some (true, ()) := by
  unfold fweqLease fweqLeaseC
  simp only [beq_self_eq_true, Bool.not_true, br_false]
theorem eqCluster_self (x : Cluster) (h : okCl 1048576 x) : fweqCluster x x = some (true, ()) := by
  unfold fweqCluster fweqClusterC
  simp only [beq_self_eq_true, Bool.not_true, br_false, eqServerS_self _ h.1, eqIntS_self _ (le_max h.2.1), eqMasterLog_self _ h.2.2.1, eqLease_self, eqPlaceS_self _ (le_max h.2.2.2), Option.bind_some]

/-! what an argument's data are bound by -/
theorem bd_sub {t : Ty} {x : t.D} {u : Ty} {y : u.D} (h : bdT t x) (hs : ∀ z ∈ u.row y, z ∈ t.row x) : bdT u y := fun z hz => h z (hs z hz)
theorem bd_cfg {c : Config} (h : bdT (.st .config) c) : okCfg maxLen c :=
  ⟨bd_len (t := .i .i64) (bd_sub (u := .ls (.i .i64)) h fun z hz => by rw [List.mem_singleton.1 hz]; exact List.mem_of_getElem? (i := 2) rfl), bd_len (t := .i .i64) (bd_sub (u := .ls (.i .i64)) h fun z hz => by rw [List.mem_singleton.1 hz]; exact List.mem_of_getElem? (i := 3) rfl)⟩
theorem bd_srv {s : Server} (h : bdT (.st .server) s) : okSrv maxLen s :=
  ⟨bd_cfg (bd_sub (u := .st .config) (y := s.config) h fun z hz => by
      have hz : z ∈ rowConfig s.config := hz
      unfold rowConfig at hz
      simp only [List.mem_cons, List.not_mem_nil, or_false] at hz
      rcases hz with rfl | rfl | rfl | rfl
      · exact List.mem_of_getElem? (i := 4) rfl
      · exact List.mem_of_getElem? (i := 5) rfl
      · exact List.mem_of_getElem? (i := 6) rfl
      · exact List.mem_of_getElem? (i := 7) rfl),
   bd_len (t := .st .entry) (bd_sub (u := .ls (.st .entry)) h fun z hz => by rw [List.mem_singleton.1 hz]; exact List.mem_of_getElem? (i := 9) rfl),
   bd_len (t := .st .entry) (bd_sub (u := .ls (.st .entry)) h fun z hz => by rw [List.mem_singleton.1 hz]; exact List.mem_of_getElem? (i := 11) rfl)⟩
theorem bd_cl {c : Cluster} (h : bdT (.st .cluster) c) : okCl maxLen c := by
  have h1 : bdT (.ls (.st .server)) c.servers := bd_sub (u := .ls (.st .server)) h fun z hz => by rw [List.mem_singleton.1 hz]; exact List.mem_of_getElem? (i := 1) rfl
  have h2 : bdT (.ls (.i .i64)) c.sides := bd_sub (u := .ls (.i .i64)) h fun z hz => by rw [List.mem_singleton.1 hz]; exact List.mem_of_getElem? (i := 2) rfl
  have h3 : bdT (.ls (.st .config)) c.master.configs := bd_sub (u := .ls (.st .config)) h fun z hz => by rw [List.mem_singleton.1 hz]; exact List.mem_of_getElem? (i := 3) rfl
  have h4 : bdT (.ls (.st .place)) c.places := bd_sub (u := .ls (.st .place)) h fun z hz => by rw [List.mem_singleton.1 hz]; exact List.mem_of_getElem? (i := 9) rfl
  exact ⟨⟨bd_len h1, fun s hs => bd_srv (bd_mem h1 hs)⟩, bd_len h2, ⟨bd_len h3, fun s hs => bd_cfg (bd_mem h3 hs)⟩, bd_len h4⟩
end Go.Proofs.YtjenncacoddgmaaGreat.En
