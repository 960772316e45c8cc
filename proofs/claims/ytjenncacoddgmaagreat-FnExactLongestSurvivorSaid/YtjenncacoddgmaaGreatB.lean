/- Printed by wip/tools/gen.py: the walk. -/
import Derived.Test.YtjenncacoddgmaaGreatTh
namespace Go.Proofs.YtjenncacoddgmaaGreat.En
open Go
noncomputable section
def sb0 : ByteArray := ⟨⟨[0, 1, 2, 2, 3, 3, 3, 3, 4, 4, 4, 4, 4, 4, 4, 4, 5, 5, 5, 5, 5, 5, 5, 5, 5, 5, 5, 5, 5, 5, 5, 5, 6, 6, 6, 6, 6, 6, 6, 6, 6, 6, 6, 6, 6, 6, 6, 6, 6, 6, 6, 6, 6, 6, 6, 6, 6, 6, 6, 6, 6, 6, 6, 6, 7, 7, 7, 7, 7, 7, 7, 7, 7, 7, 7, 7, 7, 7, 7, 7, 7, 7, 7, 7, 7, 7, 7, 7, 7, 7, 7, 7, 7, 7, 7, 7, 7, 7, 7, 7, 7, 7, 7, 7, 7, 7, 7, 7, 7, 7, 7, 7, 7, 7, 7, 7, 7, 7, 7, 7, 7, 7, 7, 7, 7, 7, 7, 7, 8, 8, 8, 8, 8, 8, 8, 8, 8, 8, 8, 8, 8, 8, 8, 8, 8, 8, 8, 8, 8, 8, 8, 8, 8, 8, 8, 8, 8, 8, 8, 8, 8, 8, 8, 8, 8, 8, 8, 8, 8, 8, 8, 8, 8, 8, 8, 8, 8, 8, 8, 8, 8, 8, 8, 8, 8, 8, 8, 8, 8, 8, 8, 8, 8, 8, 8, 8, 8, 8, 8, 8, 8, 8, 8, 8, 8, 8, 8, 8, 8, 8, 8, 8, 8, 8, 8, 8, 8, 8, 8, 8, 8, 8, 8, 8, 8, 8, 8, 8, 8, 8, 8, 8, 8, 8, 8, 8, 8, 8, 8, 8, 8, 8, 8, 8, 8, 8, 8, 8, 8, 8, 8, 8, 8, 8, 8, 8]⟩⟩
theorem mixed_ok : Tryz.prog.follows .mixedOrders = true := by kernel_rfl
/-! loop.example/g01926/laws.szIntS -/
abbrev YwszIntS : List (Nat × Ent) := []
theorem YwszIntS_ok : TabOk Tryz.prog (getY YwszIntS) := tab_nil _
def fwszIntSC {ρ : Type} (a0 : List Int) (a1 : Int) (k : Int × Unit → Option ρ) : Option ρ :=
  br (decide ((IntKind.wrap .i64 (a1 - (a0.length : Int))) < 0)) (k ((-1), ())) (k ((IntKind.wrap .i64 (a1 - (a0.length : Int))), ()))
def fwszIntS (a0 : List Int) (a1 : Int) : Option (Int × Unit) := fwszIntSC a0 a1 some
theorem fwszIntS_k {ρ : Type} (a0 : List Int) (a1 : Int) (k : Int × Unit → Option ρ) : fwszIntSC a0 a1 k = (fwszIntS a0 a1).bind k := by
  simp only [fwszIntS, fwszIntSC, br_bind, Option.bind_some]
abbrev EwszIntS : Ent := entP [.ty (.ls (.i .i64)), .ty (.i .i64)] [.i .i64] fun x => fwszIntS x.1 x.2.1
theorem ewszIntS : EntOk Tryz.prog 45 EwszIntS :=
  entP_of (Λ := getL []) (fn := Tryz.f45) Θ_ok YwszIntS_ok mixed_ok (by kernel_rfl) (hL_of (by kernel_rfl : _ = []) loops_nil) (by kernel_rfl) (fun x => fwszIntS x.1 x.2.1)
    (fun x => Eq.trans (by kernel_rfl : _ = fwszIntSC x.1 x.2.1 (fun y => ret (pairs [.i .i64] y) fun v g => some (v, g))) (fwszIntS_k x.1 x.2.1 _)) fun _ _ h => h
/-! loop.example/g01926/laws.szConfig -/
abbrev YwszConfig : List (Nat × Ent) := [(45, EwszIntS)]
theorem YwszConfig_ok : TabOk Tryz.prog (getY YwszConfig) := tab_cons ewszIntS <| tab_nil _
def fwszConfigC {ρ : Type} (a0 : Config) (a1 : Int) (k : Int × Unit → Option ρ) : Option ρ :=
  (fwszIntS a0.replicas a1).bind fun y1 => br (decide (y1.1 < 0)) (k ((-1), ())) ((fwszIntS a0.witnesses y1.1).bind fun y2 => br (decide (y2.1 < 0)) (k ((-1), ())) (k (y2.1, ())))
def fwszConfig (a0 : Config) (a1 : Int) : Option (Int × Unit) := fwszConfigC a0 a1 some
theorem fwszConfig_k {ρ : Type} (a0 : Config) (a1 : Int) (k : Int × Unit → Option ρ) : fwszConfigC a0 a1 k = (fwszConfig a0 a1).bind k := by
  simp only [fwszConfig, fwszConfigC, br_bind, Option.bind_assoc, Option.bind_some]
abbrev EwszConfig : Ent := entP [.ty (.st .config), .ty (.i .i64)] [.i .i64] fun x => fwszConfig x.1 x.2.1
theorem ewszConfig : EntOk Tryz.prog 157 EwszConfig :=
  entP_of (Λ := getL []) (fn := Tryz.f157) Θ_ok YwszConfig_ok mixed_ok (by kernel_rfl) (hL_of (by kernel_rfl : _ = []) loops_nil) (by kernel_rfl) (fun x => fwszConfig x.1 x.2.1)
    (fun x => Eq.trans (by kernel_rfl : _ = fwszConfigC x.1 x.2.1 (fun y => ret (pairs [.i .i64] y) fun v g => some (v, g))) (fwszConfig_k x.1 x.2.1 _)) fun _ _ h => h
/-! loop.example/g01926/laws.szEntryS -/
abbrev YwszEntryS : List (Nat × Ent) := []
theorem YwszEntryS_ok : TabOk Tryz.prog (getY YwszEntryS) := tab_nil _
def fwszEntrySC {ρ : Type} (a0 : List Entry) (a1 : Int) (k : Int × Unit → Option ρ) : Option ρ :=
  br (decide ((IntKind.wrap .i64 (a1 - (a0.length : Int))) < 0)) (k ((-1), ())) (k ((IntKind.wrap .i64 (a1 - (a0.length : Int))), ()))
def fwszEntryS (a0 : List Entry) (a1 : Int) : Option (Int × Unit) := fwszEntrySC a0 a1 some
theorem fwszEntryS_k {ρ : Type} (a0 : List Entry) (a1 : Int) (k : Int × Unit → Option ρ) : fwszEntrySC a0 a1 k = (fwszEntryS a0 a1).bind k := by
  simp only [fwszEntryS, fwszEntrySC, br_bind, Option.bind_some]
abbrev EwszEntryS : Ent := entP [.ty (.ls (.st .entry)), .ty (.i .i64)] [.i .i64] fun x => fwszEntryS x.1 x.2.1
theorem ewszEntryS : EntOk Tryz.prog 158 EwszEntryS :=
  entP_of (Λ := getL []) (fn := Tryz.f158) Θ_ok YwszEntryS_ok mixed_ok (by kernel_rfl) (hL_of (by kernel_rfl : _ = []) loops_nil) (by kernel_rfl) (fun x => fwszEntryS x.1 x.2.1)
    (fun x => Eq.trans (by kernel_rfl : _ = fwszEntrySC x.1 x.2.1 (fun y => ret (pairs [.i .i64] y) fun v g => some (v, g))) (fwszEntryS_k x.1 x.2.1 _)) fun _ _ h => h
/-! loop.example/g01926/laws.szServer -/
abbrev YwszServer : List (Nat × Ent) := [(157, EwszConfig), (158, EwszEntryS)]
theorem YwszServer_ok : TabOk Tryz.prog (getY YwszServer) := tab_cons ewszConfig <| tab_cons ewszEntryS <| tab_nil _
def fwszServerC {ρ : Type} (a0 : Server) (a1 : Int) (k : Int × Unit → Option ρ) : Option ρ :=
  (fwszConfig a0.config a1).bind fun y1 => br (decide (y1.1 < 0)) (k ((-1), ())) ((fwszEntryS a0.log y1.1).bind fun y2 => br (decide (y2.1 < 0)) (k ((-1), ())) ((fwszEntryS a0.learned y2.1).bind fun y3 => br (decide (y3.1 < 0)) (k ((-1), ())) (k (y3.1, ()))))
def fwszServer (a0 : Server) (a1 : Int) : Option (Int × Unit) := fwszServerC a0 a1 some
theorem fwszServer_k {ρ : Type} (a0 : Server) (a1 : Int) (k : Int × Unit → Option ρ) : fwszServerC a0 a1 k = (fwszServer a0 a1).bind k := by
  simp only [fwszServer, fwszServerC, br_bind, Option.bind_assoc, Option.bind_some]
abbrev EwszServer : Ent := entP [.ty (.st .server), .ty (.i .i64)] [.i .i64] fun x => fwszServer x.1 x.2.1
theorem ewszServer : EntOk Tryz.prog 105 EwszServer :=
  entP_of (Λ := getL []) (fn := Tryz.f105) Θ_ok YwszServer_ok mixed_ok (by kernel_rfl) (hL_of (by kernel_rfl : _ = []) loops_nil) (by kernel_rfl) (fun x => fwszServer x.1 x.2.1)
    (fun x => Eq.trans (by kernel_rfl : _ = fwszServerC x.1 x.2.1 (fun y => ret (pairs [.i .i64] y) fun v g => some (v, g))) (fwszServer_k x.1 x.2.1 _)) fun _ _ h => h
/-! loop.example/g01926/laws.szServerS -/
abbrev YwszServerS : List (Nat × Ent) := [(105, EwszServer)]
theorem YwszServerS_ok : TabOk Tryz.prog (getY YwszServerS) := tab_cons ewszServer <| tab_nil _
noncomputable abbrev cwszServerS_5 : Code := loopAt (bodyOf Tryz.f44) 0
abbrev LwszServerS_5 : LSh := ⟨[(0, .cl (.ro (.st .server))), (1, .cl (.int .i64)), (5, .cl (.int .i64))], [], [], 0, 27⟩
abbrev XwszServerS_5 : List (X × LSh) := [(.ret, ⟨[(1, .cl (.int .i64)), (4, .cl (.int .i64))], [], [], 0, 27⟩), (.ext 0, ⟨[(1, .cl (.int .i64)), (4, .cl (.dead))], [], [], 0, 27⟩)]
def bwszServerS_5C {ρ : Type} (v1 : List Server) (v2 : Int) (v3 : Int) (fn : (((List Server) × Int × Int × Unit) × (Unit) × (Unit)) → Option ρ) (fe : ((Int × Int × Unit) × (Unit) × (Unit)) ⊕ ((Int × Unit × Unit) × (Unit) × (Unit)) → Option ρ) : Option ρ :=
  br (decide (v3 < (v1.length : Int))) (iteP (0 ≤ v3) ((v1[v3.toNat]?).bind fun x4 => (fwszServer x4 v2).bind fun y5 => br (decide (y5.1 < 0)) (fe (.inl ((y5.1, (-1), ()), (()), (())))) (fn ((v1, y5.1, (IntKind.wrap .i64 (v3 + 1)), ()), (()), (())))) none) (fe (.inr ((v2, (), ()), (()), (()))))
def bwszServerS_5 (s : LwszServerS_5.D) : Option (LwszServerS_5.D ⊕ Exs.D XwszServerS_5) := bwszServerS_5C s.1.1 s.1.2.1 s.1.2.2.1 (fun s => some (.inl s)) (fun e => some (.inr e))
def lwszServerS_5 : LwszServerS_5.D → Option (Exs.D XwszServerS_5) := lim bwszServerS_5
theorem bwszServerS_5_k {ρ : Type} (s : LwszServerS_5.D) (fn : LwszServerS_5.D → Option ρ) (fe : Exs.D XwszServerS_5 → Option ρ) : bwszServerS_5C s.1.1 s.1.2.1 s.1.2.2.1 fn fe = (bwszServerS_5 s).bind (Sum.elim fn fe) := by
  simp only [bwszServerS_5, bwszServerS_5C, br_bind, iteP_bind, Option.bind_none, Option.bind_assoc, Option.bind_some, Sum.elim_inl, Sum.elim_inr]
abbrev EwszServerS_5 : LoopE := loopE [] [0, 1, 5] LwszServerS_5 XwszServerS_5 lwszServerS_5
theorem bwszServerS_5_ok (s : LwszServerS_5.D) : evCK Θ (getY YwszServerS) (getL []) cwszServerS_5 (LwszServerS_5.mk' s) (tellK [0, 1, 5] [1, 4] fun x S => some (x, S)) = (bwszServerS_5 s).bind (Sum.elim (fun s' => some (.nor, LwszServerS_5.mk' s')) fun e => some (Exs.e XwszServerS_5 e)) :=
  Eq.trans (by kernel_rfl : _ = bwszServerS_5C s.1.1 s.1.2.1 s.1.2.2.1 (fun s' => some (.nor, LwszServerS_5.mk' s')) (fun e => some (Exs.e XwszServerS_5 e))) (bwszServerS_5_k s _ _)
theorem lwszServerS_5_ok : LoopOk Tryz.prog cwszServerS_5 EwszServerS_5 := loopE_ok Θ_ok YwszServerS_ok mixed_ok (by kernel_rfl) (hL_in (by kernel_rfl : _ = []) loops_nil) [] [0, 1, 5] [1, 4] LwszServerS_5 XwszServerS_5 (by kernel_rfl) bwszServerS_5 bwszServerS_5_ok lwszServerS_5 (limN bwszServerS_5) (lim_round bwszServerS_5)
def fwszServerSC {ρ : Type} (a0 : List Server) (a1 : Int) (k : Int × Unit → Option ρ) : Option ρ :=
  br (decide ((IntKind.wrap .i64 (a1 - (a0.length : Int))) < 0)) (k ((-1), ())) ((lwszServerS_5 ((a0, (IntKind.wrap .i64 (a1 - (a0.length : Int))), 0, ()), (()), (()))).bind fun e6 => Sum.elim (fun e6_ => k (e6_.1.2.1, ())) (fun e6_ => k (e6_.1.1, ())) e6)
def fwszServerS (a0 : List Server) (a1 : Int) : Option (Int × Unit) := fwszServerSC a0 a1 some
theorem fwszServerS_k {ρ : Type} (a0 : List Server) (a1 : Int) (k : Int × Unit → Option ρ) : fwszServerSC a0 a1 k = (fwszServerS a0 a1).bind k := by
  simp only [fwszServerS, fwszServerSC, br_bind, elim_bind, Option.bind_assoc, Option.bind_some]
abbrev EwszServerS : Ent := entP [.ty (.ls (.st .server)), .ty (.i .i64)] [.i .i64] fun x => fwszServerS x.1 x.2.1
theorem ewszServerS : EntOk Tryz.prog 44 EwszServerS :=
  entP_of (Λ := getL [(key cwszServerS_5, EwszServerS_5)]) (fn := Tryz.f44) Θ_ok YwszServerS_ok mixed_ok (by kernel_rfl) (hL_of (by kernel_rfl : _ = [cwszServerS_5]) (loops_one (q := key cwszServerS_5) rfl lwszServerS_5_ok fun _ _ _ => by kernel_rfl)) (by kernel_rfl) (fun x => fwszServerS x.1 x.2.1)
    (fun x => Eq.trans (by kernel_rfl : _ = fwszServerSC x.1 x.2.1 (fun y => ret (pairs [.i .i64] y) fun v g => some (v, g))) (fwszServerS_k x.1 x.2.1 _)) fun _ _ h => h
/-! loop.example/g01926/laws.szConfigS -/
abbrev YwszConfigS : List (Nat × Ent) := [(157, EwszConfig)]
theorem YwszConfigS_ok : TabOk Tryz.prog (getY YwszConfigS) := tab_cons ewszConfig <| tab_nil _
noncomputable abbrev cwszConfigS_5 : Code := loopAt (bodyOf Tryz.f106) 0
abbrev LwszConfigS_5 : LSh := ⟨[(0, .cl (.ro (.st .config))), (1, .cl (.int .i64)), (5, .cl (.int .i64))], [], [], 0, 27⟩
abbrev XwszConfigS_5 : List (X × LSh) := [(.ret, ⟨[(1, .cl (.int .i64)), (4, .cl (.int .i64))], [], [], 0, 27⟩), (.ext 0, ⟨[(1, .cl (.int .i64)), (4, .cl (.dead))], [], [], 0, 27⟩)]
def bwszConfigS_5C {ρ : Type} (v1 : List Config) (v2 : Int) (v3 : Int) (fn : (((List Config) × Int × Int × Unit) × (Unit) × (Unit)) → Option ρ) (fe : ((Int × Int × Unit) × (Unit) × (Unit)) ⊕ ((Int × Unit × Unit) × (Unit) × (Unit)) → Option ρ) : Option ρ :=
  br (decide (v3 < (v1.length : Int))) (iteP (0 ≤ v3) ((v1[v3.toNat]?).bind fun x4 => (fwszConfig x4 v2).bind fun y5 => br (decide (y5.1 < 0)) (fe (.inl ((y5.1, (-1), ()), (()), (())))) (fn ((v1, y5.1, (IntKind.wrap .i64 (v3 + 1)), ()), (()), (())))) none) (fe (.inr ((v2, (), ()), (()), (()))))
def bwszConfigS_5 (s : LwszConfigS_5.D) : Option (LwszConfigS_5.D ⊕ Exs.D XwszConfigS_5) := bwszConfigS_5C s.1.1 s.1.2.1 s.1.2.2.1 (fun s => some (.inl s)) (fun e => some (.inr e))
def lwszConfigS_5 : LwszConfigS_5.D → Option (Exs.D XwszConfigS_5) := lim bwszConfigS_5
theorem bwszConfigS_5_k {ρ : Type} (s : LwszConfigS_5.D) (fn : LwszConfigS_5.D → Option ρ) (fe : Exs.D XwszConfigS_5 → Option ρ) : bwszConfigS_5C s.1.1 s.1.2.1 s.1.2.2.1 fn fe = (bwszConfigS_5 s).bind (Sum.elim fn fe) := by
  simp only [bwszConfigS_5, bwszConfigS_5C, br_bind, iteP_bind, Option.bind_none, Option.bind_assoc, Option.bind_some, Sum.elim_inl, Sum.elim_inr]
abbrev EwszConfigS_5 : LoopE := loopE [] [0, 1, 5] LwszConfigS_5 XwszConfigS_5 lwszConfigS_5
theorem bwszConfigS_5_ok (s : LwszConfigS_5.D) : evCK Θ (getY YwszConfigS) (getL []) cwszConfigS_5 (LwszConfigS_5.mk' s) (tellK [0, 1, 5] [1, 4] fun x S => some (x, S)) = (bwszConfigS_5 s).bind (Sum.elim (fun s' => some (.nor, LwszConfigS_5.mk' s')) fun e => some (Exs.e XwszConfigS_5 e)) :=
  Eq.trans (by kernel_rfl : _ = bwszConfigS_5C s.1.1 s.1.2.1 s.1.2.2.1 (fun s' => some (.nor, LwszConfigS_5.mk' s')) (fun e => some (Exs.e XwszConfigS_5 e))) (bwszConfigS_5_k s _ _)
theorem lwszConfigS_5_ok : LoopOk Tryz.prog cwszConfigS_5 EwszConfigS_5 := loopE_ok Θ_ok YwszConfigS_ok mixed_ok (by kernel_rfl) (hL_in (by kernel_rfl : _ = []) loops_nil) [] [0, 1, 5] [1, 4] LwszConfigS_5 XwszConfigS_5 (by kernel_rfl) bwszConfigS_5 bwszConfigS_5_ok lwszConfigS_5 (limN bwszConfigS_5) (lim_round bwszConfigS_5)
def fwszConfigSC {ρ : Type} (a0 : List Config) (a1 : Int) (k : Int × Unit → Option ρ) : Option ρ :=
  br (decide ((IntKind.wrap .i64 (a1 - (a0.length : Int))) < 0)) (k ((-1), ())) ((lwszConfigS_5 ((a0, (IntKind.wrap .i64 (a1 - (a0.length : Int))), 0, ()), (()), (()))).bind fun e6 => Sum.elim (fun e6_ => k (e6_.1.2.1, ())) (fun e6_ => k (e6_.1.1, ())) e6)
def fwszConfigS (a0 : List Config) (a1 : Int) : Option (Int × Unit) := fwszConfigSC a0 a1 some
theorem fwszConfigS_k {ρ : Type} (a0 : List Config) (a1 : Int) (k : Int × Unit → Option ρ) : fwszConfigSC a0 a1 k = (fwszConfigS a0 a1).bind k := by
  simp only [fwszConfigS, fwszConfigSC, br_bind, elim_bind, Option.bind_assoc, Option.bind_some]
abbrev EwszConfigS : Ent := entP [.ty (.ls (.st .config)), .ty (.i .i64)] [.i .i64] fun x => fwszConfigS x.1 x.2.1
theorem ewszConfigS : EntOk Tryz.prog 106 EwszConfigS :=
  entP_of (Λ := getL [(key cwszConfigS_5, EwszConfigS_5)]) (fn := Tryz.f106) Θ_ok YwszConfigS_ok mixed_ok (by kernel_rfl) (hL_of (by kernel_rfl : _ = [cwszConfigS_5]) (loops_one (q := key cwszConfigS_5) rfl lwszConfigS_5_ok fun _ _ _ => by kernel_rfl)) (by kernel_rfl) (fun x => fwszConfigS x.1 x.2.1)
    (fun x => Eq.trans (by kernel_rfl : _ = fwszConfigSC x.1 x.2.1 (fun y => ret (pairs [.i .i64] y) fun v g => some (v, g))) (fwszConfigS_k x.1 x.2.1 _)) fun _ _ h => h
/-! loop.example/g01926/laws.szMasterLog -/
abbrev YwszMasterLog : List (Nat × Ent) := [(106, EwszConfigS)]
theorem YwszMasterLog_ok : TabOk Tryz.prog (getY YwszMasterLog) := tab_cons ewszConfigS <| tab_nil _
def fwszMasterLogC {ρ : Type} (a0 : MasterLog) (a1 : Int) (k : Int × Unit → Option ρ) : Option ρ :=
  (fwszConfigS a0.configs a1).bind fun y1 => br (decide (y1.1 < 0)) (k ((-1), ())) (k (y1.1, ()))
def fwszMasterLog (a0 : MasterLog) (a1 : Int) : Option (Int × Unit) := fwszMasterLogC a0 a1 some
theorem fwszMasterLog_k {ρ : Type} (a0 : MasterLog) (a1 : Int) (k : Int × Unit → Option ρ) : fwszMasterLogC a0 a1 k = (fwszMasterLog a0 a1).bind k := by
  simp only [fwszMasterLog, fwszMasterLogC, br_bind, Option.bind_assoc, Option.bind_some]
abbrev EwszMasterLog : Ent := entP [.ty (.st .masterLog), .ty (.i .i64)] [.i .i64] fun x => fwszMasterLog x.1 x.2.1
theorem ewszMasterLog : EntOk Tryz.prog 46 EwszMasterLog :=
  entP_of (Λ := getL []) (fn := Tryz.f46) Θ_ok YwszMasterLog_ok mixed_ok (by kernel_rfl) (hL_of (by kernel_rfl : _ = []) loops_nil) (by kernel_rfl) (fun x => fwszMasterLog x.1 x.2.1)
    (fun x => Eq.trans (by kernel_rfl : _ = fwszMasterLogC x.1 x.2.1 (fun y => ret (pairs [.i .i64] y) fun v g => some (v, g))) (fwszMasterLog_k x.1 x.2.1 _)) fun _ _ h => h
/-! loop.example/g01926/laws.szPlaceS -/
abbrev YwszPlaceS : List (Nat × Ent) := []
theorem YwszPlaceS_ok : TabOk Tryz.prog (getY YwszPlaceS) := tab_nil _
def fwszPlaceSC {ρ : Type} (a0 : List Place) (a1 : Int) (k : Int × Unit → Option ρ) : Option ρ :=
  br (decide ((IntKind.wrap .i64 (a1 - (a0.length : Int))) < 0)) (k ((-1), ())) (k ((IntKind.wrap .i64 (a1 - (a0.length : Int))), ()))
def fwszPlaceS (a0 : List Place) (a1 : Int) : Option (Int × Unit) := fwszPlaceSC a0 a1 some
theorem fwszPlaceS_k {ρ : Type} (a0 : List Place) (a1 : Int) (k : Int × Unit → Option ρ) : fwszPlaceSC a0 a1 k = (fwszPlaceS a0 a1).bind k := by
  simp only [fwszPlaceS, fwszPlaceSC, br_bind, Option.bind_some]
abbrev EwszPlaceS : Ent := entP [.ty (.ls (.st .place)), .ty (.i .i64)] [.i .i64] fun x => fwszPlaceS x.1 x.2.1
theorem ewszPlaceS : EntOk Tryz.prog 47 EwszPlaceS :=
  entP_of (Λ := getL []) (fn := Tryz.f47) Θ_ok YwszPlaceS_ok mixed_ok (by kernel_rfl) (hL_of (by kernel_rfl : _ = []) loops_nil) (by kernel_rfl) (fun x => fwszPlaceS x.1 x.2.1)
    (fun x => Eq.trans (by kernel_rfl : _ = fwszPlaceSC x.1 x.2.1 (fun y => ret (pairs [.i .i64] y) fun v g => some (v, g))) (fwszPlaceS_k x.1 x.2.1 _)) fun _ _ h => h
/-! loop.example/g01926/laws.szCluster -/
abbrev YwszCluster : List (Nat × Ent) := [(44, EwszServerS), (45, EwszIntS), (46, EwszMasterLog), (47, EwszPlaceS)]
theorem YwszCluster_ok : TabOk Tryz.prog (getY YwszCluster) := tab_cons ewszServerS <| tab_cons ewszIntS <| tab_cons ewszMasterLog <| tab_cons ewszPlaceS <| tab_nil _
def fwszClusterC {ρ : Type} (a0 : Cluster) (a1 : Int) (k : Int × Unit → Option ρ) : Option ρ :=
  (fwszServerS a0.servers a1).bind fun y1 => br (decide (y1.1 < 0)) (k ((-1), ())) ((fwszIntS a0.sides y1.1).bind fun y2 => br (decide (y2.1 < 0)) (k ((-1), ())) ((fwszMasterLog a0.master y2.1).bind fun y3 => br (decide (y3.1 < 0)) (k ((-1), ())) ((fwszPlaceS a0.places y3.1).bind fun y4 => br (decide (y4.1 < 0)) (k ((-1), ())) (k (y4.1, ())))))
def fwszCluster (a0 : Cluster) (a1 : Int) : Option (Int × Unit) := fwszClusterC a0 a1 some
theorem fwszCluster_k {ρ : Type} (a0 : Cluster) (a1 : Int) (k : Int × Unit → Option ρ) : fwszClusterC a0 a1 k = (fwszCluster a0 a1).bind k := by
  simp only [fwszCluster, fwszClusterC, br_bind, Option.bind_assoc, Option.bind_some]
abbrev EwszCluster : Ent := entP [.ty (.st .cluster), .ty (.i .i64)] [.i .i64] fun x => fwszCluster x.1 x.2.1
theorem ewszCluster : EntOk Tryz.prog 13 EwszCluster :=
  entP_of (Λ := getL []) (fn := Tryz.f13) Θ_ok YwszCluster_ok mixed_ok (by kernel_rfl) (hL_of (by kernel_rfl : _ = []) loops_nil) (by kernel_rfl) (fun x => fwszCluster x.1 x.2.1)
    (fun x => Eq.trans (by kernel_rfl : _ = fwszClusterC x.1 x.2.1 (fun y => ret (pairs [.i .i64] y) fun v g => some (v, g))) (fwszCluster_k x.1 x.2.1 _)) fun _ _ h => h
/-! loop.example/g01926/laws.toIntS -/
abbrev YwtoIntS : List (Nat × Ent) := []
theorem YwtoIntS_ok : TabOk Tryz.prog (getY YwtoIntS) := tab_nil _
noncomputable abbrev cwtoIntS_3 : Code := loopAt (bodyOf Tryz.f50) 0
abbrev LwtoIntS_3 : LSh := ⟨[(0, .cl (.ro (.i .i64))), (3, .cl (.own 0 (.i .i64))), (4, .cl (.int .i64))], [], [.i .i64], 0, 22⟩
abbrev XwtoIntS_3 : List (X × LSh) := [(.ext 0, ⟨[(3, .cl (.own 0 (.i .i64)))], [], [.i .i64], 0, 22⟩)]
def bwtoIntS_3C {ρ : Type} (v1 : List Int) (v2 : List Int) (v3 : Int) (fn : (((List Int) × Unit × Int × Unit) × (Unit) × ((List Int) × Unit)) → Option ρ) (fe : ((Unit × Unit) × (Unit) × ((List Int) × Unit)) → Option ρ) : Option ρ :=
  br (decide (v3 < (v2.length : Int))) (iteP (0 ≤ v3) ((v2[v3.toNat]?).bind fun x4 => iteP (0 ≤ v3 ∧ v3 < (v1.length : Int)) ((v1[v3.toNat]?).bind fun _ => fn ((v2, (), (IntKind.wrap .i64 (v3 + 1)), ()), (()), ((v1.set v3.toNat x4), ()))) none) none) (fe (((), ()), (()), (v1, ())))
def bwtoIntS_3 (s : LwtoIntS_3.D) : Option (LwtoIntS_3.D ⊕ Exs.D XwtoIntS_3) := bwtoIntS_3C s.2.2.1 s.1.1 s.1.2.2.1 (fun s => some (.inl s)) (fun e => some (.inr e))
def lwtoIntS_3 : LwtoIntS_3.D → Option (Exs.D XwtoIntS_3) := lim bwtoIntS_3
theorem bwtoIntS_3_k {ρ : Type} (s : LwtoIntS_3.D) (fn : LwtoIntS_3.D → Option ρ) (fe : Exs.D XwtoIntS_3 → Option ρ) : bwtoIntS_3C s.2.2.1 s.1.1 s.1.2.2.1 fn fe = (bwtoIntS_3 s).bind (Sum.elim fn fe) := by
  simp only [bwtoIntS_3, bwtoIntS_3C, br_bind, iteP_bind, Option.bind_none, Option.bind_assoc, Option.bind_some, Sum.elim_inl, Sum.elim_inr]
abbrev EwtoIntS_3 : LoopE := loopE [] [0, 3, 4] LwtoIntS_3 XwtoIntS_3 lwtoIntS_3
theorem bwtoIntS_3_ok (s : LwtoIntS_3.D) : evCK Θ (getY YwtoIntS) (getL []) cwtoIntS_3 (LwtoIntS_3.mk' s) (tellK [0, 3, 4] [3] fun x S => some (x, S)) = (bwtoIntS_3 s).bind (Sum.elim (fun s' => some (.nor, LwtoIntS_3.mk' s')) fun e => some (Exs.e XwtoIntS_3 e)) :=
  Eq.trans (by kernel_rfl : _ = bwtoIntS_3C s.2.2.1 s.1.1 s.1.2.2.1 (fun s' => some (.nor, LwtoIntS_3.mk' s')) (fun e => some (Exs.e XwtoIntS_3 e))) (bwtoIntS_3_k s _ _)
theorem lwtoIntS_3_ok : LoopOk Tryz.prog cwtoIntS_3 EwtoIntS_3 := loopE_ok Θ_ok YwtoIntS_ok mixed_ok (by kernel_rfl) (hL_in (by kernel_rfl : _ = []) loops_nil) [] [0, 3, 4] [3] LwtoIntS_3 XwtoIntS_3 (by kernel_rfl) bwtoIntS_3 bwtoIntS_3_ok lwtoIntS_3 (limN bwtoIntS_3) (lim_round bwtoIntS_3)
def fwtoIntSC {ρ : Type} (a0 : List Int) (k : (List Int) × Unit → Option ρ) : Option ρ :=
  iteP (0 ≤ (a0.length : Int) ∧ (a0.length : Int) = (a0.length : Int) ∧ (a0.length : Int) * ((8 : Nat) : Int) ≤ 2 ^ 40) ((lwtoIntS_3 ((a0, (), 0, ()), (()), ((List.replicate (a0.length : Int).toNat (0 : Int)), ()))).bind fun e6 => k (e6.2.2.1, ())) none
def fwtoIntS (a0 : List Int) : Option ((List Int) × Unit) := fwtoIntSC a0 some
theorem fwtoIntS_k {ρ : Type} (a0 : List Int) (k : (List Int) × Unit → Option ρ) : fwtoIntSC a0 k = (fwtoIntS a0).bind k := by
  simp only [fwtoIntS, fwtoIntSC, iteP_bind, Option.bind_none, Option.bind_assoc, Option.bind_some]
abbrev EwtoIntS : Ent := entP [.ty (.ls (.i .i64))] [.ls (.i .i64)] fun x => fwtoIntS x.1
theorem ewtoIntS : EntOk Tryz.prog 50 EwtoIntS :=
  entP_of (Λ := getL [(key cwtoIntS_3, EwtoIntS_3)]) (fn := Tryz.f50) Θ_ok YwtoIntS_ok mixed_ok (by kernel_rfl) (hL_of (by kernel_rfl : _ = [cwtoIntS_3]) (loops_one (q := key cwtoIntS_3) rfl lwtoIntS_3_ok fun _ _ _ => by kernel_rfl)) (by kernel_rfl) (fun x => fwtoIntS x.1)
    (fun x => Eq.trans (by kernel_rfl : _ = fwtoIntSC x.1 (fun y => ret (pairs [.ls (.i .i64)] y) fun v g => some (v, g))) (fwtoIntS_k x.1 _)) fun _ _ h => h
/-! loop.example/g01926/laws.toConfig -/
abbrev YwtoConfig : List (Nat × Ent) := [(50, EwtoIntS)]
theorem YwtoConfig_ok : TabOk Tryz.prog (getY YwtoConfig) := tab_cons ewtoIntS <| tab_nil _
def fwtoConfigC {ρ : Type} (a0 : Config) (k : Config × Unit → Option ρ) : Option ρ :=
  (fwtoIntS a0.replicas).bind fun y1 => (fwtoIntS a0.witnesses).bind fun y2 => k ((⟨a0.epoch, a0.primary, y1.1, y2.1⟩ : Config), ())
def fwtoConfig (a0 : Config) : Option (Config × Unit) := fwtoConfigC a0 some
theorem fwtoConfig_k {ρ : Type} (a0 : Config) (k : Config × Unit → Option ρ) : fwtoConfigC a0 k = (fwtoConfig a0).bind k := by
  simp only [fwtoConfig, fwtoConfigC, Option.bind_assoc, Option.bind_some]
abbrev EwtoConfig : Ent := entP [.ty (.st .config)] [.st .config] fun x => fwtoConfig x.1
theorem ewtoConfig : EntOk Tryz.prog 163 EwtoConfig :=
  entP_of (Λ := getL []) (fn := Tryz.f163) Θ_ok YwtoConfig_ok mixed_ok (by kernel_rfl) (hL_of (by kernel_rfl : _ = []) loops_nil) (by kernel_rfl) (fun x => fwtoConfig x.1)
    (fun x => Eq.trans (by kernel_rfl : _ = fwtoConfigC x.1 (fun y => ret (pairs [.st .config] y) fun v g => some (v, g))) (fwtoConfig_k x.1 _)) fun _ _ h => h
/-! loop.example/g01926/laws.toOp -/
abbrev YwtoOp : List (Nat × Ent) := []
theorem YwtoOp_ok : TabOk Tryz.prog (getY YwtoOp) := tab_nil _
def fwtoOpC {ρ : Type} (a0 : Op) (k : Op × Unit → Option ρ) : Option ρ :=
  k (a0, ())
def fwtoOp (a0 : Op) : Option (Op × Unit) := fwtoOpC a0 some
theorem fwtoOp_k {ρ : Type} (a0 : Op) (k : Op × Unit → Option ρ) : fwtoOpC a0 k = (fwtoOp a0).bind k := by
  simp only [fwtoOp, fwtoOpC, Option.bind_some]
abbrev EwtoOp : Ent := entP [.ty (.st .op)] [.st .op] fun x => fwtoOp x.1
theorem ewtoOp : EntOk Tryz.prog 192 EwtoOp :=
  entP_of (Λ := getL []) (fn := Tryz.f192) Θ_ok YwtoOp_ok mixed_ok (by kernel_rfl) (hL_of (by kernel_rfl : _ = []) loops_nil) (by kernel_rfl) (fun x => fwtoOp x.1)
    (fun x => Eq.trans (by kernel_rfl : _ = fwtoOpC x.1 (fun y => ret (pairs [.st .op] y) fun v g => some (v, g))) (fwtoOp_k x.1 _)) fun _ _ h => h
/-! loop.example/g01926/laws.toEntry -/
abbrev YwtoEntry : List (Nat × Ent) := [(192, EwtoOp)]
theorem YwtoEntry_ok : TabOk Tryz.prog (getY YwtoEntry) := tab_cons ewtoOp <| tab_nil _
def fwtoEntryC {ρ : Type} (a0 : Entry) (k : Entry × Unit → Option ρ) : Option ρ :=
  (fwtoOp a0.op).bind fun y1 => k ((⟨a0.epoch, y1.1⟩ : Entry), ())
def fwtoEntry (a0 : Entry) : Option (Entry × Unit) := fwtoEntryC a0 some
theorem fwtoEntry_k {ρ : Type} (a0 : Entry) (k : Entry × Unit → Option ρ) : fwtoEntryC a0 k = (fwtoEntry a0).bind k := by
  simp only [fwtoEntry, fwtoEntryC, Option.bind_assoc, Option.bind_some]
abbrev EwtoEntry : Ent := entP [.ty (.st .entry)] [.st .entry] fun x => fwtoEntry x.1
theorem ewtoEntry : EntOk Tryz.prog 184 EwtoEntry :=
  entP_of (Λ := getL []) (fn := Tryz.f184) Θ_ok YwtoEntry_ok mixed_ok (by kernel_rfl) (hL_of (by kernel_rfl : _ = []) loops_nil) (by kernel_rfl) (fun x => fwtoEntry x.1)
    (fun x => Eq.trans (by kernel_rfl : _ = fwtoEntryC x.1 (fun y => ret (pairs [.st .entry] y) fun v g => some (v, g))) (fwtoEntry_k x.1 _)) fun _ _ h => h
/-! loop.example/g01926/laws.toEntryS -/
abbrev YwtoEntryS : List (Nat × Ent) := [(184, EwtoEntry)]
theorem YwtoEntryS_ok : TabOk Tryz.prog (getY YwtoEntryS) := tab_cons ewtoEntry <| tab_nil _
noncomputable abbrev cwtoEntryS_3 : Code := loopAt (bodyOf Tryz.f164) 0
abbrev LwtoEntryS_3 : LSh := ⟨[(0, .cl (.ro (.st .entry))), (3, .cl (.own 0 (.st .entry))), (4, .cl (.int .i64))], [], [.st .entry], 0, 23⟩
abbrev XwtoEntryS_3 : List (X × LSh) := [(.ext 0, ⟨[(3, .cl (.own 0 (.st .entry)))], [], [.st .entry], 0, 23⟩)]
def bwtoEntryS_3C {ρ : Type} (v1 : List Entry) (v2 : List Entry) (v3 : Int) (fn : (((List Entry) × Unit × Int × Unit) × (Unit) × ((List Entry) × Unit)) → Option ρ) (fe : ((Unit × Unit) × (Unit) × ((List Entry) × Unit)) → Option ρ) : Option ρ :=
  br (decide (v3 < (v2.length : Int))) (iteP (0 ≤ v3) ((v2[v3.toNat]?).bind fun x4 => (fwtoEntry x4).bind fun y5 => iteP (0 ≤ v3 ∧ v3 < (v1.length : Int)) ((v1[v3.toNat]?).bind fun _ => fn ((v2, (), (IntKind.wrap .i64 (v3 + 1)), ()), (()), ((v1.set v3.toNat y5.1), ()))) none) none) (fe (((), ()), (()), (v1, ())))
def bwtoEntryS_3 (s : LwtoEntryS_3.D) : Option (LwtoEntryS_3.D ⊕ Exs.D XwtoEntryS_3) := bwtoEntryS_3C s.2.2.1 s.1.1 s.1.2.2.1 (fun s => some (.inl s)) (fun e => some (.inr e))
def lwtoEntryS_3 : LwtoEntryS_3.D → Option (Exs.D XwtoEntryS_3) := lim bwtoEntryS_3
theorem bwtoEntryS_3_k {ρ : Type} (s : LwtoEntryS_3.D) (fn : LwtoEntryS_3.D → Option ρ) (fe : Exs.D XwtoEntryS_3 → Option ρ) : bwtoEntryS_3C s.2.2.1 s.1.1 s.1.2.2.1 fn fe = (bwtoEntryS_3 s).bind (Sum.elim fn fe) := by
  simp only [bwtoEntryS_3, bwtoEntryS_3C, br_bind, iteP_bind, Option.bind_none, Option.bind_assoc, Option.bind_some, Sum.elim_inl, Sum.elim_inr]
abbrev EwtoEntryS_3 : LoopE := loopE [] [0, 3, 4] LwtoEntryS_3 XwtoEntryS_3 lwtoEntryS_3
theorem bwtoEntryS_3_ok (s : LwtoEntryS_3.D) : evCK Θ (getY YwtoEntryS) (getL []) cwtoEntryS_3 (LwtoEntryS_3.mk' s) (tellK [0, 3, 4] [3] fun x S => some (x, S)) = (bwtoEntryS_3 s).bind (Sum.elim (fun s' => some (.nor, LwtoEntryS_3.mk' s')) fun e => some (Exs.e XwtoEntryS_3 e)) :=
  Eq.trans (by kernel_rfl : _ = bwtoEntryS_3C s.2.2.1 s.1.1 s.1.2.2.1 (fun s' => some (.nor, LwtoEntryS_3.mk' s')) (fun e => some (Exs.e XwtoEntryS_3 e))) (bwtoEntryS_3_k s _ _)
theorem lwtoEntryS_3_ok : LoopOk Tryz.prog cwtoEntryS_3 EwtoEntryS_3 := loopE_ok Θ_ok YwtoEntryS_ok mixed_ok (by kernel_rfl) (hL_in (by kernel_rfl : _ = []) loops_nil) [] [0, 3, 4] [3] LwtoEntryS_3 XwtoEntryS_3 (by kernel_rfl) bwtoEntryS_3 bwtoEntryS_3_ok lwtoEntryS_3 (limN bwtoEntryS_3) (lim_round bwtoEntryS_3)
def fwtoEntrySC {ρ : Type} (a0 : List Entry) (k : (List Entry) × Unit → Option ρ) : Option ρ :=
  iteP (0 ≤ (a0.length : Int) ∧ (a0.length : Int) = (a0.length : Int) ∧ (a0.length : Int) * ((56 : Nat) : Int) ≤ 2 ^ 40) ((lwtoEntryS_3 ((a0, (), 0, ()), (()), ((List.replicate (a0.length : Int).toNat (⟨0, (⟨0, 0, 0, 0, 0, 0⟩ : Op)⟩ : Entry)), ()))).bind fun e7 => k (e7.2.2.1, ())) none
def fwtoEntryS (a0 : List Entry) : Option ((List Entry) × Unit) := fwtoEntrySC a0 some
theorem fwtoEntryS_k {ρ : Type} (a0 : List Entry) (k : (List Entry) × Unit → Option ρ) : fwtoEntrySC a0 k = (fwtoEntryS a0).bind k := by
  simp only [fwtoEntryS, fwtoEntrySC, iteP_bind, Option.bind_none, Option.bind_assoc, Option.bind_some]
abbrev EwtoEntryS : Ent := entP [.ty (.ls (.st .entry))] [.ls (.st .entry)] fun x => fwtoEntryS x.1
theorem ewtoEntryS : EntOk Tryz.prog 164 EwtoEntryS :=
  entP_of (Λ := getL [(key cwtoEntryS_3, EwtoEntryS_3)]) (fn := Tryz.f164) Θ_ok YwtoEntryS_ok mixed_ok (by kernel_rfl) (hL_of (by kernel_rfl : _ = [cwtoEntryS_3]) (loops_one (q := key cwtoEntryS_3) rfl lwtoEntryS_3_ok fun _ _ _ => by kernel_rfl)) (by kernel_rfl) (fun x => fwtoEntryS x.1)
    (fun x => Eq.trans (by kernel_rfl : _ = fwtoEntrySC x.1 (fun y => ret (pairs [.ls (.st .entry)] y) fun v g => some (v, g))) (fwtoEntryS_k x.1 _)) fun _ _ h => h
/-! loop.example/g01926/laws.toServer -/
abbrev YwtoServer : List (Nat × Ent) := [(163, EwtoConfig), (164, EwtoEntryS)]
theorem YwtoServer_ok : TabOk Tryz.prog (getY YwtoServer) := tab_cons ewtoConfig <| tab_cons ewtoEntryS <| tab_nil _
def fwtoServerC {ρ : Type} (a0 : Server) (k : Server × Unit → Option ρ) : Option ρ :=
  (fwtoConfig a0.config).bind fun y1 => (fwtoEntryS a0.log).bind fun y2 => (fwtoEntryS a0.learned).bind fun y3 => k ((⟨a0.up, a0.intact, a0.version, a0.epoch, y1.1, a0.first, y2.1, a0.commit, y3.1⟩ : Server), ())
def fwtoServer (a0 : Server) : Option (Server × Unit) := fwtoServerC a0 some
theorem fwtoServer_k {ρ : Type} (a0 : Server) (k : Server × Unit → Option ρ) : fwtoServerC a0 k = (fwtoServer a0).bind k := by
  simp only [fwtoServer, fwtoServerC, Option.bind_assoc, Option.bind_some]
abbrev EwtoServer : Ent := entP [.ty (.st .server)] [.st .server] fun x => fwtoServer x.1
theorem ewtoServer : EntOk Tryz.prog 115 EwtoServer :=
  entP_of (Λ := getL []) (fn := Tryz.f115) Θ_ok YwtoServer_ok mixed_ok (by kernel_rfl) (hL_of (by kernel_rfl : _ = []) loops_nil) (by kernel_rfl) (fun x => fwtoServer x.1)
    (fun x => Eq.trans (by kernel_rfl : _ = fwtoServerC x.1 (fun y => ret (pairs [.st .server] y) fun v g => some (v, g))) (fwtoServer_k x.1 _)) fun _ _ h => h
/-! loop.example/g01926/laws.toServerS -/
abbrev YwtoServerS : List (Nat × Ent) := [(115, EwtoServer)]
theorem YwtoServerS_ok : TabOk Tryz.prog (getY YwtoServerS) := tab_cons ewtoServer <| tab_nil _
noncomputable abbrev cwtoServerS_3 : Code := loopAt (bodyOf Tryz.f49) 0
abbrev LwtoServerS_3 : LSh := ⟨[(0, .cl (.ro (.st .server))), (3, .cl (.own 0 (.st .server))), (4, .cl (.int .i64))], [], [.st .server], 0, 23⟩
abbrev XwtoServerS_3 : List (X × LSh) := [(.ext 0, ⟨[(3, .cl (.own 0 (.st .server)))], [], [.st .server], 0, 23⟩)]
def bwtoServerS_3C {ρ : Type} (v1 : List Server) (v2 : List Server) (v3 : Int) (fn : (((List Server) × Unit × Int × Unit) × (Unit) × ((List Server) × Unit)) → Option ρ) (fe : ((Unit × Unit) × (Unit) × ((List Server) × Unit)) → Option ρ) : Option ρ :=
  br (decide (v3 < (v2.length : Int))) (iteP (0 ≤ v3) ((v2[v3.toNat]?).bind fun x4 => (fwtoServer x4).bind fun y5 => iteP (0 ≤ v3 ∧ v3 < (v1.length : Int)) ((v1[v3.toNat]?).bind fun _ => fn ((v2, (), (IntKind.wrap .i64 (v3 + 1)), ()), (()), ((v1.set v3.toNat y5.1), ()))) none) none) (fe (((), ()), (()), (v1, ())))
def bwtoServerS_3 (s : LwtoServerS_3.D) : Option (LwtoServerS_3.D ⊕ Exs.D XwtoServerS_3) := bwtoServerS_3C s.2.2.1 s.1.1 s.1.2.2.1 (fun s => some (.inl s)) (fun e => some (.inr e))
def lwtoServerS_3 : LwtoServerS_3.D → Option (Exs.D XwtoServerS_3) := lim bwtoServerS_3
theorem bwtoServerS_3_k {ρ : Type} (s : LwtoServerS_3.D) (fn : LwtoServerS_3.D → Option ρ) (fe : Exs.D XwtoServerS_3 → Option ρ) : bwtoServerS_3C s.2.2.1 s.1.1 s.1.2.2.1 fn fe = (bwtoServerS_3 s).bind (Sum.elim fn fe) := by
  simp only [bwtoServerS_3, bwtoServerS_3C, br_bind, iteP_bind, Option.bind_none, Option.bind_assoc, Option.bind_some, Sum.elim_inl, Sum.elim_inr]
abbrev EwtoServerS_3 : LoopE := loopE [] [0, 3, 4] LwtoServerS_3 XwtoServerS_3 lwtoServerS_3
theorem bwtoServerS_3_ok (s : LwtoServerS_3.D) : evCK Θ (getY YwtoServerS) (getL []) cwtoServerS_3 (LwtoServerS_3.mk' s) (tellK [0, 3, 4] [3] fun x S => some (x, S)) = (bwtoServerS_3 s).bind (Sum.elim (fun s' => some (.nor, LwtoServerS_3.mk' s')) fun e => some (Exs.e XwtoServerS_3 e)) :=
  Eq.trans (by kernel_rfl : _ = bwtoServerS_3C s.2.2.1 s.1.1 s.1.2.2.1 (fun s' => some (.nor, LwtoServerS_3.mk' s')) (fun e => some (Exs.e XwtoServerS_3 e))) (bwtoServerS_3_k s _ _)
theorem lwtoServerS_3_ok : LoopOk Tryz.prog cwtoServerS_3 EwtoServerS_3 := loopE_ok Θ_ok YwtoServerS_ok mixed_ok (by kernel_rfl) (hL_in (by kernel_rfl : _ = []) loops_nil) [] [0, 3, 4] [3] LwtoServerS_3 XwtoServerS_3 (by kernel_rfl) bwtoServerS_3 bwtoServerS_3_ok lwtoServerS_3 (limN bwtoServerS_3) (lim_round bwtoServerS_3)
def fwtoServerSC {ρ : Type} (a0 : List Server) (k : (List Server) × Unit → Option ρ) : Option ρ :=
  iteP (0 ≤ (a0.length : Int) ∧ (a0.length : Int) = (a0.length : Int) ∧ (a0.length : Int) * ((152 : Nat) : Int) ≤ 2 ^ 40) ((lwtoServerS_3 ((a0, (), 0, ()), (()), ((List.replicate (a0.length : Int).toNat (⟨false, false, 0, 0, (⟨0, 0, ([] : List Int), ([] : List Int)⟩ : Config), 0, ([] : List Entry), 0, ([] : List Entry)⟩ : Server)), ()))).bind fun e7 => k (e7.2.2.1, ())) none
def fwtoServerS (a0 : List Server) : Option ((List Server) × Unit) := fwtoServerSC a0 some
theorem fwtoServerS_k {ρ : Type} (a0 : List Server) (k : (List Server) × Unit → Option ρ) : fwtoServerSC a0 k = (fwtoServerS a0).bind k := by
  simp only [fwtoServerS, fwtoServerSC, iteP_bind, Option.bind_none, Option.bind_assoc, Option.bind_some]
abbrev EwtoServerS : Ent := entP [.ty (.ls (.st .server))] [.ls (.st .server)] fun x => fwtoServerS x.1
theorem ewtoServerS : EntOk Tryz.prog 49 EwtoServerS :=
  entP_of (Λ := getL [(key cwtoServerS_3, EwtoServerS_3)]) (fn := Tryz.f49) Θ_ok YwtoServerS_ok mixed_ok (by kernel_rfl) (hL_of (by kernel_rfl : _ = [cwtoServerS_3]) (loops_one (q := key cwtoServerS_3) rfl lwtoServerS_3_ok fun _ _ _ => by kernel_rfl)) (by kernel_rfl) (fun x => fwtoServerS x.1)
    (fun x => Eq.trans (by kernel_rfl : _ = fwtoServerSC x.1 (fun y => ret (pairs [.ls (.st .server)] y) fun v g => some (v, g))) (fwtoServerS_k x.1 _)) fun _ _ h => h
/-! loop.example/g01926/laws.toConfigS -/
abbrev YwtoConfigS : List (Nat × Ent) := [(163, EwtoConfig)]
theorem YwtoConfigS_ok : TabOk Tryz.prog (getY YwtoConfigS) := tab_cons ewtoConfig <| tab_nil _
noncomputable abbrev cwtoConfigS_3 : Code := loopAt (bodyOf Tryz.f116) 0
abbrev LwtoConfigS_3 : LSh := ⟨[(0, .cl (.ro (.st .config))), (3, .cl (.own 0 (.st .config))), (4, .cl (.int .i64))], [], [.st .config], 0, 23⟩
abbrev XwtoConfigS_3 : List (X × LSh) := [(.ext 0, ⟨[(3, .cl (.own 0 (.st .config)))], [], [.st .config], 0, 23⟩)]
def bwtoConfigS_3C {ρ : Type} (v1 : List Config) (v2 : List Config) (v3 : Int) (fn : (((List Config) × Unit × Int × Unit) × (Unit) × ((List Config) × Unit)) → Option ρ) (fe : ((Unit × Unit) × (Unit) × ((List Config) × Unit)) → Option ρ) : Option ρ :=
  br (decide (v3 < (v2.length : Int))) (iteP (0 ≤ v3) ((v2[v3.toNat]?).bind fun x4 => (fwtoConfig x4).bind fun y5 => iteP (0 ≤ v3 ∧ v3 < (v1.length : Int)) ((v1[v3.toNat]?).bind fun _ => fn ((v2, (), (IntKind.wrap .i64 (v3 + 1)), ()), (()), ((v1.set v3.toNat y5.1), ()))) none) none) (fe (((), ()), (()), (v1, ())))
def bwtoConfigS_3 (s : LwtoConfigS_3.D) : Option (LwtoConfigS_3.D ⊕ Exs.D XwtoConfigS_3) := bwtoConfigS_3C s.2.2.1 s.1.1 s.1.2.2.1 (fun s => some (.inl s)) (fun e => some (.inr e))
def lwtoConfigS_3 : LwtoConfigS_3.D → Option (Exs.D XwtoConfigS_3) := lim bwtoConfigS_3
theorem bwtoConfigS_3_k {ρ : Type} (s : LwtoConfigS_3.D) (fn : LwtoConfigS_3.D → Option ρ) (fe : Exs.D XwtoConfigS_3 → Option ρ) : bwtoConfigS_3C s.2.2.1 s.1.1 s.1.2.2.1 fn fe = (bwtoConfigS_3 s).bind (Sum.elim fn fe) := by
  simp only [bwtoConfigS_3, bwtoConfigS_3C, br_bind, iteP_bind, Option.bind_none, Option.bind_assoc, Option.bind_some, Sum.elim_inl, Sum.elim_inr]
abbrev EwtoConfigS_3 : LoopE := loopE [] [0, 3, 4] LwtoConfigS_3 XwtoConfigS_3 lwtoConfigS_3
theorem bwtoConfigS_3_ok (s : LwtoConfigS_3.D) : evCK Θ (getY YwtoConfigS) (getL []) cwtoConfigS_3 (LwtoConfigS_3.mk' s) (tellK [0, 3, 4] [3] fun x S => some (x, S)) = (bwtoConfigS_3 s).bind (Sum.elim (fun s' => some (.nor, LwtoConfigS_3.mk' s')) fun e => some (Exs.e XwtoConfigS_3 e)) :=
  Eq.trans (by kernel_rfl : _ = bwtoConfigS_3C s.2.2.1 s.1.1 s.1.2.2.1 (fun s' => some (.nor, LwtoConfigS_3.mk' s')) (fun e => some (Exs.e XwtoConfigS_3 e))) (bwtoConfigS_3_k s _ _)
theorem lwtoConfigS_3_ok : LoopOk Tryz.prog cwtoConfigS_3 EwtoConfigS_3 := loopE_ok Θ_ok YwtoConfigS_ok mixed_ok (by kernel_rfl) (hL_in (by kernel_rfl : _ = []) loops_nil) [] [0, 3, 4] [3] LwtoConfigS_3 XwtoConfigS_3 (by kernel_rfl) bwtoConfigS_3 bwtoConfigS_3_ok lwtoConfigS_3 (limN bwtoConfigS_3) (lim_round bwtoConfigS_3)
def fwtoConfigSC {ρ : Type} (a0 : List Config) (k : (List Config) × Unit → Option ρ) : Option ρ :=
  iteP (0 ≤ (a0.length : Int) ∧ (a0.length : Int) = (a0.length : Int) ∧ (a0.length : Int) * ((64 : Nat) : Int) ≤ 2 ^ 40) ((lwtoConfigS_3 ((a0, (), 0, ()), (()), ((List.replicate (a0.length : Int).toNat (⟨0, 0, ([] : List Int), ([] : List Int)⟩ : Config)), ()))).bind fun e7 => k (e7.2.2.1, ())) none
def fwtoConfigS (a0 : List Config) : Option ((List Config) × Unit) := fwtoConfigSC a0 some
theorem fwtoConfigS_k {ρ : Type} (a0 : List Config) (k : (List Config) × Unit → Option ρ) : fwtoConfigSC a0 k = (fwtoConfigS a0).bind k := by
  simp only [fwtoConfigS, fwtoConfigSC, iteP_bind, Option.bind_none, Option.bind_assoc, Option.bind_some]
abbrev EwtoConfigS : Ent := entP [.ty (.ls (.st .config))] [.ls (.st .config)] fun x => fwtoConfigS x.1
theorem ewtoConfigS : EntOk Tryz.prog 116 EwtoConfigS :=
  entP_of (Λ := getL [(key cwtoConfigS_3, EwtoConfigS_3)]) (fn := Tryz.f116) Θ_ok YwtoConfigS_ok mixed_ok (by kernel_rfl) (hL_of (by kernel_rfl : _ = [cwtoConfigS_3]) (loops_one (q := key cwtoConfigS_3) rfl lwtoConfigS_3_ok fun _ _ _ => by kernel_rfl)) (by kernel_rfl) (fun x => fwtoConfigS x.1)
    (fun x => Eq.trans (by kernel_rfl : _ = fwtoConfigSC x.1 (fun y => ret (pairs [.ls (.st .config)] y) fun v g => some (v, g))) (fwtoConfigS_k x.1 _)) fun _ _ h => h
/-! loop.example/g01926/laws.toMasterLog -/
abbrev YwtoMasterLog : List (Nat × Ent) := [(116, EwtoConfigS)]
theorem YwtoMasterLog_ok : TabOk Tryz.prog (getY YwtoMasterLog) := tab_cons ewtoConfigS <| tab_nil _
def fwtoMasterLogC {ρ : Type} (a0 : MasterLog) (k : MasterLog × Unit → Option ρ) : Option ρ :=
  (fwtoConfigS a0.configs).bind fun y1 => k ((⟨y1.1, a0.activated⟩ : MasterLog), ())
def fwtoMasterLog (a0 : MasterLog) : Option (MasterLog × Unit) := fwtoMasterLogC a0 some
theorem fwtoMasterLog_k {ρ : Type} (a0 : MasterLog) (k : MasterLog × Unit → Option ρ) : fwtoMasterLogC a0 k = (fwtoMasterLog a0).bind k := by
  simp only [fwtoMasterLog, fwtoMasterLogC, Option.bind_assoc, Option.bind_some]
abbrev EwtoMasterLog : Ent := entP [.ty (.st .masterLog)] [.st .masterLog] fun x => fwtoMasterLog x.1
theorem ewtoMasterLog : EntOk Tryz.prog 51 EwtoMasterLog :=
  entP_of (Λ := getL []) (fn := Tryz.f51) Θ_ok YwtoMasterLog_ok mixed_ok (by kernel_rfl) (hL_of (by kernel_rfl : _ = []) loops_nil) (by kernel_rfl) (fun x => fwtoMasterLog x.1)
    (fun x => Eq.trans (by kernel_rfl : _ = fwtoMasterLogC x.1 (fun y => ret (pairs [.st .masterLog] y) fun v g => some (v, g))) (fwtoMasterLog_k x.1 _)) fun _ _ h => h
/-! loop.example/g01926/laws.toLease -/
abbrev YwtoLease : List (Nat × Ent) := []
theorem YwtoLease_ok : TabOk Tryz.prog (getY YwtoLease) := tab_nil _
def fwtoLeaseC {ρ : Type} (a0 : Lease) (k : Lease × Unit → Option ρ) : Option ρ :=
  k (a0, ())
def fwtoLease (a0 : Lease) : Option (Lease × Unit) := fwtoLeaseC a0 some
theorem fwtoLease_k {ρ : Type} (a0 : Lease) (k : Lease × Unit → Option ρ) : fwtoLeaseC a0 k = (fwtoLease a0).bind k := by
  simp only [fwtoLease, fwtoLeaseC, Option.bind_some]
abbrev EwtoLease : Ent := entP [.ty (.st .lease)] [.st .lease] fun x => fwtoLease x.1
theorem ewtoLease : EntOk Tryz.prog 52 EwtoLease :=
  entP_of (Λ := getL []) (fn := Tryz.f52) Θ_ok YwtoLease_ok mixed_ok (by kernel_rfl) (hL_of (by kernel_rfl : _ = []) loops_nil) (by kernel_rfl) (fun x => fwtoLease x.1)
    (fun x => Eq.trans (by kernel_rfl : _ = fwtoLeaseC x.1 (fun y => ret (pairs [.st .lease] y) fun v g => some (v, g))) (fwtoLease_k x.1 _)) fun _ _ h => h
/-! loop.example/g01926/laws.toPlace -/
abbrev YwtoPlace : List (Nat × Ent) := []
theorem YwtoPlace_ok : TabOk Tryz.prog (getY YwtoPlace) := tab_nil _
def fwtoPlaceC {ρ : Type} (a0 : Place) (k : Place × Unit → Option ρ) : Option ρ :=
  k (a0, ())
def fwtoPlace (a0 : Place) : Option (Place × Unit) := fwtoPlaceC a0 some
theorem fwtoPlace_k {ρ : Type} (a0 : Place) (k : Place × Unit → Option ρ) : fwtoPlaceC a0 k = (fwtoPlace a0).bind k := by
  simp only [fwtoPlace, fwtoPlaceC, Option.bind_some]
abbrev EwtoPlace : Ent := entP [.ty (.st .place)] [.st .place] fun x => fwtoPlace x.1
theorem ewtoPlace : EntOk Tryz.prog 117 EwtoPlace :=
  entP_of (Λ := getL []) (fn := Tryz.f117) Θ_ok YwtoPlace_ok mixed_ok (by kernel_rfl) (hL_of (by kernel_rfl : _ = []) loops_nil) (by kernel_rfl) (fun x => fwtoPlace x.1)
    (fun x => Eq.trans (by kernel_rfl : _ = fwtoPlaceC x.1 (fun y => ret (pairs [.st .place] y) fun v g => some (v, g))) (fwtoPlace_k x.1 _)) fun _ _ h => h
/-! loop.example/g01926/laws.toPlaceS -/
abbrev YwtoPlaceS : List (Nat × Ent) := [(117, EwtoPlace)]
theorem YwtoPlaceS_ok : TabOk Tryz.prog (getY YwtoPlaceS) := tab_cons ewtoPlace <| tab_nil _
noncomputable abbrev cwtoPlaceS_3 : Code := loopAt (bodyOf Tryz.f53) 0
abbrev LwtoPlaceS_3 : LSh := ⟨[(0, .cl (.ro (.st .place))), (3, .cl (.own 0 (.st .place))), (4, .cl (.int .i64))], [], [.st .place], 0, 23⟩
abbrev XwtoPlaceS_3 : List (X × LSh) := [(.ext 0, ⟨[(3, .cl (.own 0 (.st .place)))], [], [.st .place], 0, 23⟩)]
def bwtoPlaceS_3C {ρ : Type} (v1 : List Place) (v2 : List Place) (v3 : Int) (fn : (((List Place) × Unit × Int × Unit) × (Unit) × ((List Place) × Unit)) → Option ρ) (fe : ((Unit × Unit) × (Unit) × ((List Place) × Unit)) → Option ρ) : Option ρ :=
  br (decide (v3 < (v2.length : Int))) (iteP (0 ≤ v3) ((v2[v3.toNat]?).bind fun x4 => (fwtoPlace x4).bind fun y5 => iteP (0 ≤ v3 ∧ v3 < (v1.length : Int)) ((v1[v3.toNat]?).bind fun _ => fn ((v2, (), (IntKind.wrap .i64 (v3 + 1)), ()), (()), ((v1.set v3.toNat y5.1), ()))) none) none) (fe (((), ()), (()), (v1, ())))
def bwtoPlaceS_3 (s : LwtoPlaceS_3.D) : Option (LwtoPlaceS_3.D ⊕ Exs.D XwtoPlaceS_3) := bwtoPlaceS_3C s.2.2.1 s.1.1 s.1.2.2.1 (fun s => some (.inl s)) (fun e => some (.inr e))
def lwtoPlaceS_3 : LwtoPlaceS_3.D → Option (Exs.D XwtoPlaceS_3) := lim bwtoPlaceS_3
theorem bwtoPlaceS_3_k {ρ : Type} (s : LwtoPlaceS_3.D) (fn : LwtoPlaceS_3.D → Option ρ) (fe : Exs.D XwtoPlaceS_3 → Option ρ) : bwtoPlaceS_3C s.2.2.1 s.1.1 s.1.2.2.1 fn fe = (bwtoPlaceS_3 s).bind (Sum.elim fn fe) := by
  simp only [bwtoPlaceS_3, bwtoPlaceS_3C, br_bind, iteP_bind, Option.bind_none, Option.bind_assoc, Option.bind_some, Sum.elim_inl, Sum.elim_inr]
abbrev EwtoPlaceS_3 : LoopE := loopE [] [0, 3, 4] LwtoPlaceS_3 XwtoPlaceS_3 lwtoPlaceS_3
theorem bwtoPlaceS_3_ok (s : LwtoPlaceS_3.D) : evCK Θ (getY YwtoPlaceS) (getL []) cwtoPlaceS_3 (LwtoPlaceS_3.mk' s) (tellK [0, 3, 4] [3] fun x S => some (x, S)) = (bwtoPlaceS_3 s).bind (Sum.elim (fun s' => some (.nor, LwtoPlaceS_3.mk' s')) fun e => some (Exs.e XwtoPlaceS_3 e)) :=
  Eq.trans (by kernel_rfl : _ = bwtoPlaceS_3C s.2.2.1 s.1.1 s.1.2.2.1 (fun s' => some (.nor, LwtoPlaceS_3.mk' s')) (fun e => some (Exs.e XwtoPlaceS_3 e))) (bwtoPlaceS_3_k s _ _)
theorem lwtoPlaceS_3_ok : LoopOk Tryz.prog cwtoPlaceS_3 EwtoPlaceS_3 := loopE_ok Θ_ok YwtoPlaceS_ok mixed_ok (by kernel_rfl) (hL_in (by kernel_rfl : _ = []) loops_nil) [] [0, 3, 4] [3] LwtoPlaceS_3 XwtoPlaceS_3 (by kernel_rfl) bwtoPlaceS_3 bwtoPlaceS_3_ok lwtoPlaceS_3 (limN bwtoPlaceS_3) (lim_round bwtoPlaceS_3)
def fwtoPlaceSC {ρ : Type} (a0 : List Place) (k : (List Place) × Unit → Option ρ) : Option ρ :=
  iteP (0 ≤ (a0.length : Int) ∧ (a0.length : Int) = (a0.length : Int) ∧ (a0.length : Int) * ((24 : Nat) : Int) ≤ 2 ^ 40) ((lwtoPlaceS_3 ((a0, (), 0, ()), (()), ((List.replicate (a0.length : Int).toNat (⟨0, 0, 0⟩ : Place)), ()))).bind fun e7 => k (e7.2.2.1, ())) none
def fwtoPlaceS (a0 : List Place) : Option ((List Place) × Unit) := fwtoPlaceSC a0 some
theorem fwtoPlaceS_k {ρ : Type} (a0 : List Place) (k : (List Place) × Unit → Option ρ) : fwtoPlaceSC a0 k = (fwtoPlaceS a0).bind k := by
  simp only [fwtoPlaceS, fwtoPlaceSC, iteP_bind, Option.bind_none, Option.bind_assoc, Option.bind_some]
abbrev EwtoPlaceS : Ent := entP [.ty (.ls (.st .place))] [.ls (.st .place)] fun x => fwtoPlaceS x.1
theorem ewtoPlaceS : EntOk Tryz.prog 53 EwtoPlaceS :=
  entP_of (Λ := getL [(key cwtoPlaceS_3, EwtoPlaceS_3)]) (fn := Tryz.f53) Θ_ok YwtoPlaceS_ok mixed_ok (by kernel_rfl) (hL_of (by kernel_rfl : _ = [cwtoPlaceS_3]) (loops_one (q := key cwtoPlaceS_3) rfl lwtoPlaceS_3_ok fun _ _ _ => by kernel_rfl)) (by kernel_rfl) (fun x => fwtoPlaceS x.1)
    (fun x => Eq.trans (by kernel_rfl : _ = fwtoPlaceSC x.1 (fun y => ret (pairs [.ls (.st .place)] y) fun v g => some (v, g))) (fwtoPlaceS_k x.1 _)) fun _ _ h => h
/-! loop.example/g01926/laws.toCluster -/
abbrev YwtoCluster : List (Nat × Ent) := [(49, EwtoServerS), (50, EwtoIntS), (51, EwtoMasterLog), (52, EwtoLease), (53, EwtoPlaceS)]
theorem YwtoCluster_ok : TabOk Tryz.prog (getY YwtoCluster) := tab_cons ewtoServerS <| tab_cons ewtoIntS <| tab_cons ewtoMasterLog <| tab_cons ewtoLease <| tab_cons ewtoPlaceS <| tab_nil _
def fwtoClusterC {ρ : Type} (a0 : Cluster) (k : Cluster × Unit → Option ρ) : Option ρ :=
  (fwtoServerS a0.servers).bind fun y1 => (fwtoIntS a0.sides).bind fun y2 => (fwtoMasterLog a0.master).bind fun y3 => (fwtoLease a0.lease).bind fun y4 => (fwtoPlaceS a0.places).bind fun y5 => k ((⟨a0.now, y1.1, y2.1, y3.1, a0.masterUp, y4.1, y5.1⟩ : Cluster), ())
def fwtoCluster (a0 : Cluster) : Option (Cluster × Unit) := fwtoClusterC a0 some
theorem fwtoCluster_k {ρ : Type} (a0 : Cluster) (k : Cluster × Unit → Option ρ) : fwtoClusterC a0 k = (fwtoCluster a0).bind k := by
  simp only [fwtoCluster, fwtoClusterC, Option.bind_assoc, Option.bind_some]
abbrev EwtoCluster : Ent := entP [.ty (.st .cluster)] [.st .cluster] fun x => fwtoCluster x.1
theorem ewtoCluster : EntOk Tryz.prog 15 EwtoCluster :=
  entP_of (Λ := getL []) (fn := Tryz.f15) Θ_ok YwtoCluster_ok mixed_ok (by kernel_rfl) (hL_of (by kernel_rfl : _ = []) loops_nil) (by kernel_rfl) (fun x => fwtoCluster x.1)
    (fun x => Eq.trans (by kernel_rfl : _ = fwtoClusterC x.1 (fun y => ret (pairs [.st .cluster] y) fun v g => some (v, g))) (fwtoCluster_k x.1 _)) fun _ _ h => h
/-! loop.example/g01926/spec.l1In -/
abbrev Ysl1In : List (Nat × Ent) := []
theorem Ysl1In_ok : TabOk Tryz.prog (getY Ysl1In) := tab_nil _
def fsl1InC {ρ : Type} (a0 : Int) (a1 : Int) (a2 : Int) (k : Bool × Unit → Option ρ) : Option ρ :=
  br (decide (a0 ≥ a1)) (k ((decide (a0 ≤ a2)), ())) (k (false, ()))
def fsl1In (a0 : Int) (a1 : Int) (a2 : Int) : Option (Bool × Unit) := fsl1InC a0 a1 a2 some
theorem fsl1In_k {ρ : Type} (a0 : Int) (a1 : Int) (a2 : Int) (k : Bool × Unit → Option ρ) : fsl1InC a0 a1 a2 k = (fsl1In a0 a1 a2).bind k := by
  simp only [fsl1In, fsl1InC, br_bind, Option.bind_some]
abbrev Esl1In : Ent := entP [.ty (.i .i64), .ty (.i .i64), .ty (.i .i64)] [.b] fun x => fsl1In x.1 x.2.1 x.2.2.1
theorem esl1In : EntOk Tryz.prog 107 Esl1In :=
  entP_of (Λ := getL []) (fn := Tryz.f107) Θ_ok Ysl1In_ok mixed_ok (by kernel_rfl) (hL_of (by kernel_rfl : _ = []) loops_nil) (by kernel_rfl) (fun x => fsl1In x.1 x.2.1 x.2.2.1)
    (fun x => Eq.trans (by kernel_rfl : _ = fsl1InC x.1 x.2.1 x.2.2.1 (fun y => ret (pairs [.b] y) fun v g => some (v, g))) (fsl1In_k x.1 x.2.1 x.2.2.1 _)) fun _ _ h => h
/-! loop.example/g01926/spec.AreSides -/
abbrev YsAreSides : List (Nat × Ent) := [(107, Esl1In)]
theorem YsAreSides_ok : TabOk Tryz.prog (getY YsAreSides) := tab_cons esl1In <| tab_nil _
noncomputable abbrev csAreSides_2 : Code := loopAt (bodyOf Tryz.f108) 0
abbrev LsAreSides_2 : LSh := ⟨[(0, .cl (.ro (.i .i64))), (3, .cl (.int .i64))], [], [], 0, 19⟩
abbrev XsAreSides_2 : List (X × LSh) := [(.ret, ⟨[(0, .cl (.ro (.i .i64))), (2, .cl (.bl))], [], [], 0, 19⟩), (.ext 0, ⟨[(0, .cl (.ro (.i .i64))), (2, .cl (.dead))], [], [], 0, 19⟩)]
def bsAreSides_2C {ρ : Type} (v1 : List Int) (v2 : Int) (fn : (((List Int) × Int × Unit) × (Unit) × (Unit)) → Option ρ) (fe : (((List Int) × Bool × Unit) × (Unit) × (Unit)) ⊕ (((List Int) × Unit × Unit) × (Unit) × (Unit)) → Option ρ) : Option ρ :=
  br (decide (v2 < (v1.length : Int))) (iteP (0 ≤ v2) ((v1[v2.toNat]?).bind fun x3 => (fsl1In x3 0 3).bind fun y4 => br (!y4.1) (fe (.inl ((v1, false, ()), (()), (())))) (fn ((v1, (IntKind.wrap .i64 (v2 + 1)), ()), (()), (())))) none) (fe (.inr ((v1, (), ()), (()), (()))))
def bsAreSides_2 (s : LsAreSides_2.D) : Option (LsAreSides_2.D ⊕ Exs.D XsAreSides_2) := bsAreSides_2C s.1.1 s.1.2.1 (fun s => some (.inl s)) (fun e => some (.inr e))
def lsAreSides_2 : LsAreSides_2.D → Option (Exs.D XsAreSides_2) := lim bsAreSides_2
theorem bsAreSides_2_k {ρ : Type} (s : LsAreSides_2.D) (fn : LsAreSides_2.D → Option ρ) (fe : Exs.D XsAreSides_2 → Option ρ) : bsAreSides_2C s.1.1 s.1.2.1 fn fe = (bsAreSides_2 s).bind (Sum.elim fn fe) := by
  simp only [bsAreSides_2, bsAreSides_2C, br_bind, iteP_bind, Option.bind_none, Option.bind_assoc, Option.bind_some, Sum.elim_inl, Sum.elim_inr]
abbrev EsAreSides_2 : LoopE := loopE [] [0, 3] LsAreSides_2 XsAreSides_2 lsAreSides_2
theorem bsAreSides_2_ok (s : LsAreSides_2.D) : evCK Θ (getY YsAreSides) (getL []) csAreSides_2 (LsAreSides_2.mk' s) (tellK [0, 3] [0, 2] fun x S => some (x, S)) = (bsAreSides_2 s).bind (Sum.elim (fun s' => some (.nor, LsAreSides_2.mk' s')) fun e => some (Exs.e XsAreSides_2 e)) :=
  Eq.trans (by kernel_rfl : _ = bsAreSides_2C s.1.1 s.1.2.1 (fun s' => some (.nor, LsAreSides_2.mk' s')) (fun e => some (Exs.e XsAreSides_2 e))) (bsAreSides_2_k s _ _)
theorem lsAreSides_2_ok : LoopOk Tryz.prog csAreSides_2 EsAreSides_2 := loopE_ok Θ_ok YsAreSides_ok mixed_ok (by kernel_rfl) (hL_in (by kernel_rfl : _ = []) loops_nil) [] [0, 3] [0, 2] LsAreSides_2 XsAreSides_2 (by kernel_rfl) bsAreSides_2 bsAreSides_2_ok lsAreSides_2 (limN bsAreSides_2) (lim_round bsAreSides_2)
def fsAreSidesC {ρ : Type} (a0 : List Int) (k : Bool × Unit → Option ρ) : Option ρ :=
  (lsAreSides_2 ((a0, 0, ()), (()), (()))).bind fun e5 => Sum.elim (fun e5_ => k (e5_.1.2.1, ())) (fun e5_ => k (((e5_.1.1.length : Int) == 5), ())) e5
def fsAreSides (a0 : List Int) : Option (Bool × Unit) := fsAreSidesC a0 some
theorem fsAreSides_k {ρ : Type} (a0 : List Int) (k : Bool × Unit → Option ρ) : fsAreSidesC a0 k = (fsAreSides a0).bind k := by
  simp only [fsAreSides, fsAreSidesC, elim_bind, Option.bind_assoc, Option.bind_some]
abbrev EsAreSides : Ent := entP [.ty (.ls (.i .i64))] [.b] fun x => fsAreSides x.1
theorem esAreSides : EntOk Tryz.prog 108 EsAreSides :=
  entP_of (Λ := getL [(key csAreSides_2, EsAreSides_2)]) (fn := Tryz.f108) Θ_ok YsAreSides_ok mixed_ok (by kernel_rfl) (hL_of (by kernel_rfl : _ = [csAreSides_2]) (loops_one (q := key csAreSides_2) rfl lsAreSides_2_ok fun _ _ _ => by kernel_rfl)) (by kernel_rfl) (fun x => fsAreSides x.1)
    (fun x => Eq.trans (by kernel_rfl : _ = fsAreSidesC x.1 (fun y => ret (pairs [.b] y) fun v g => some (v, g))) (fsAreSides_k x.1 _)) fun _ _ h => h
/-! loop.example/g01926/spec.AreServers -/
abbrev YsAreServers : List (Nat × Ent) := [(107, Esl1In)]
theorem YsAreServers_ok : TabOk Tryz.prog (getY YsAreServers) := tab_cons esl1In <| tab_nil _
noncomputable abbrev csAreServers_2 : Code := loopAt (bodyOf Tryz.f182) 0
abbrev LsAreServers_2 : LSh := ⟨[(0, .cl (.ro (.i .i64))), (3, .cl (.int .i64))], [], [], 0, 32⟩
abbrev XsAreServers_2 : List (X × LSh) := [(.ret, ⟨[(2, .cl (.bl))], [], [], 0, 32⟩), (.ext 0, ⟨[(2, .cl (.dead))], [], [], 0, 32⟩)]
def bsAreServers_2C {ρ : Type} (v1 : List Int) (v2 : Int) (fn : (((List Int) × Int × Unit) × (Unit) × (Unit)) → Option ρ) (fe : ((Bool × Unit) × (Unit) × (Unit)) ⊕ ((Unit × Unit) × (Unit) × (Unit)) → Option ρ) : Option ρ :=
  br (decide (v2 < (v1.length : Int))) (iteP (0 ≤ v2) ((v1[v2.toNat]?).bind fun x3 => (fsl1In x3 0 4).bind fun y4 => br (!y4.1) (fe (.inl ((false, ()), (()), (())))) (br (decide (v2 > 0)) (iteP (0 ≤ (IntKind.wrap .i64 (v2 - 1))) ((v1[(IntKind.wrap .i64 (v2 - 1)).toNat]?).bind fun x5 => iteP (0 ≤ v2) ((v1[v2.toNat]?).bind fun x6 => br (decide (x5 ≥ x6)) (fe (.inl ((false, ()), (()), (())))) (fn ((v1, (IntKind.wrap .i64 (v2 + 1)), ()), (()), (())))) none) none) (fn ((v1, (IntKind.wrap .i64 (v2 + 1)), ()), (()), (()))))) none) (fe (.inr (((), ()), (()), (()))))
def bsAreServers_2 (s : LsAreServers_2.D) : Option (LsAreServers_2.D ⊕ Exs.D XsAreServers_2) := bsAreServers_2C s.1.1 s.1.2.1 (fun s => some (.inl s)) (fun e => some (.inr e))
def lsAreServers_2 : LsAreServers_2.D → Option (Exs.D XsAreServers_2) := lim bsAreServers_2
theorem bsAreServers_2_k {ρ : Type} (s : LsAreServers_2.D) (fn : LsAreServers_2.D → Option ρ) (fe : Exs.D XsAreServers_2 → Option ρ) : bsAreServers_2C s.1.1 s.1.2.1 fn fe = (bsAreServers_2 s).bind (Sum.elim fn fe) := by
  simp only [bsAreServers_2, bsAreServers_2C, br_bind, iteP_bind, Option.bind_none, Option.bind_assoc, Option.bind_some, Sum.elim_inl, Sum.elim_inr]
abbrev EsAreServers_2 : LoopE := loopE [] [0, 3] LsAreServers_2 XsAreServers_2 lsAreServers_2
theorem bsAreServers_2_ok (s : LsAreServers_2.D) : evCK Θ (getY YsAreServers) (getL []) csAreServers_2 (LsAreServers_2.mk' s) (tellK [0, 3] [2] fun x S => some (x, S)) = (bsAreServers_2 s).bind (Sum.elim (fun s' => some (.nor, LsAreServers_2.mk' s')) fun e => some (Exs.e XsAreServers_2 e)) :=
  Eq.trans (by kernel_rfl : _ = bsAreServers_2C s.1.1 s.1.2.1 (fun s' => some (.nor, LsAreServers_2.mk' s')) (fun e => some (Exs.e XsAreServers_2 e))) (bsAreServers_2_k s _ _)
theorem lsAreServers_2_ok : LoopOk Tryz.prog csAreServers_2 EsAreServers_2 := loopE_ok Θ_ok YsAreServers_ok mixed_ok (by kernel_rfl) (hL_in (by kernel_rfl : _ = []) loops_nil) [] [0, 3] [2] LsAreServers_2 XsAreServers_2 (by kernel_rfl) bsAreServers_2 bsAreServers_2_ok lsAreServers_2 (limN bsAreServers_2) (lim_round bsAreServers_2)
def fsAreServersC {ρ : Type} (a0 : List Int) (k : Bool × Unit → Option ρ) : Option ρ :=
  (lsAreServers_2 ((a0, 0, ()), (()), (()))).bind fun e7 => Sum.elim (fun e7_ => k (e7_.1.1, ())) (fun e7_ => k (true, ())) e7
def fsAreServers (a0 : List Int) : Option (Bool × Unit) := fsAreServersC a0 some
theorem fsAreServers_k {ρ : Type} (a0 : List Int) (k : Bool × Unit → Option ρ) : fsAreServersC a0 k = (fsAreServers a0).bind k := by
  simp only [fsAreServers, fsAreServersC, elim_bind, Option.bind_assoc, Option.bind_some]
abbrev EsAreServers : Ent := entP [.ty (.ls (.i .i64))] [.b] fun x => fsAreServers x.1
theorem esAreServers : EntOk Tryz.prog 182 EsAreServers :=
  entP_of (Λ := getL [(key csAreServers_2, EsAreServers_2)]) (fn := Tryz.f182) Θ_ok YsAreServers_ok mixed_ok (by kernel_rfl) (hL_of (by kernel_rfl : _ = [csAreServers_2]) (loops_one (q := key csAreServers_2) rfl lsAreServers_2_ok fun _ _ _ => by kernel_rfl)) (by kernel_rfl) (fun x => fsAreServers x.1)
    (fun x => Eq.trans (by kernel_rfl : _ = fsAreServersC x.1 (fun y => ret (pairs [.b] y) fun v g => some (v, g))) (fsAreServers_k x.1 _)) fun _ _ h => h
/-! loop.example/g01926/spec.HasServer -/
abbrev YsHasServer : List (Nat × Ent) := []
theorem YsHasServer_ok : TabOk Tryz.prog (getY YsHasServer) := tab_nil _
noncomputable abbrev csHasServer_2 : Code := loopAt (bodyOf Tryz.f74) 0
abbrev LsHasServer_2 : LSh := ⟨[(0, .cl (.ro (.i .i64))), (1, .cl (.int .i64)), (5, .cl (.int .i64))], [], [], 0, 18⟩
abbrev XsHasServer_2 : List (X × LSh) := [(.ret, ⟨[(4, .cl (.bl))], [], [], 0, 18⟩), (.ext 0, ⟨[(4, .cl (.dead))], [], [], 0, 18⟩)]
def bsHasServer_2C {ρ : Type} (v1 : List Int) (v2 : Int) (v3 : Int) (fn : (((List Int) × Int × Int × Unit) × (Unit) × (Unit)) → Option ρ) (fe : ((Bool × Unit) × (Unit) × (Unit)) ⊕ ((Unit × Unit) × (Unit) × (Unit)) → Option ρ) : Option ρ :=
  br (decide (v3 < (v1.length : Int))) (iteP (0 ≤ v3) ((v1[v3.toNat]?).bind fun x4 => br (x4 == v2) (fe (.inl ((true, ()), (()), (())))) (fn ((v1, v2, (IntKind.wrap .i64 (v3 + 1)), ()), (()), (())))) none) (fe (.inr (((), ()), (()), (()))))
def bsHasServer_2 (s : LsHasServer_2.D) : Option (LsHasServer_2.D ⊕ Exs.D XsHasServer_2) := bsHasServer_2C s.1.1 s.1.2.1 s.1.2.2.1 (fun s => some (.inl s)) (fun e => some (.inr e))
def lsHasServer_2 : LsHasServer_2.D → Option (Exs.D XsHasServer_2) := lim bsHasServer_2
theorem bsHasServer_2_k {ρ : Type} (s : LsHasServer_2.D) (fn : LsHasServer_2.D → Option ρ) (fe : Exs.D XsHasServer_2 → Option ρ) : bsHasServer_2C s.1.1 s.1.2.1 s.1.2.2.1 fn fe = (bsHasServer_2 s).bind (Sum.elim fn fe) := by
  simp only [bsHasServer_2, bsHasServer_2C, br_bind, iteP_bind, Option.bind_none, Option.bind_assoc, Option.bind_some, Sum.elim_inl, Sum.elim_inr]
abbrev EsHasServer_2 : LoopE := loopE [] [0, 1, 5] LsHasServer_2 XsHasServer_2 lsHasServer_2
theorem bsHasServer_2_ok (s : LsHasServer_2.D) : evCK Θ (getY YsHasServer) (getL []) csHasServer_2 (LsHasServer_2.mk' s) (tellK [0, 1, 5] [4] fun x S => some (x, S)) = (bsHasServer_2 s).bind (Sum.elim (fun s' => some (.nor, LsHasServer_2.mk' s')) fun e => some (Exs.e XsHasServer_2 e)) :=
  Eq.trans (by kernel_rfl : _ = bsHasServer_2C s.1.1 s.1.2.1 s.1.2.2.1 (fun s' => some (.nor, LsHasServer_2.mk' s')) (fun e => some (Exs.e XsHasServer_2 e))) (bsHasServer_2_k s _ _)
theorem lsHasServer_2_ok : LoopOk Tryz.prog csHasServer_2 EsHasServer_2 := loopE_ok Θ_ok YsHasServer_ok mixed_ok (by kernel_rfl) (hL_in (by kernel_rfl : _ = []) loops_nil) [] [0, 1, 5] [4] LsHasServer_2 XsHasServer_2 (by kernel_rfl) bsHasServer_2 bsHasServer_2_ok lsHasServer_2 (limN bsHasServer_2) (lim_round bsHasServer_2)
def fsHasServerC {ρ : Type} (a0 : List Int) (a1 : Int) (k : Bool × Unit → Option ρ) : Option ρ :=
  (lsHasServer_2 ((a0, a1, 0, ()), (()), (()))).bind fun e5 => Sum.elim (fun e5_ => k (e5_.1.1, ())) (fun e5_ => k (false, ())) e5
def fsHasServer (a0 : List Int) (a1 : Int) : Option (Bool × Unit) := fsHasServerC a0 a1 some
theorem fsHasServer_k {ρ : Type} (a0 : List Int) (a1 : Int) (k : Bool × Unit → Option ρ) : fsHasServerC a0 a1 k = (fsHasServer a0 a1).bind k := by
  simp only [fsHasServer, fsHasServerC, elim_bind, Option.bind_assoc, Option.bind_some]
abbrev EsHasServer : Ent := entP [.ty (.ls (.i .i64)), .ty (.i .i64)] [.b] fun x => fsHasServer x.1 x.2.1
theorem esHasServer : EntOk Tryz.prog 74 EsHasServer :=
  entP_of (Λ := getL [(key csHasServer_2, EsHasServer_2)]) (fn := Tryz.f74) Θ_ok YsHasServer_ok mixed_ok (by kernel_rfl) (hL_of (by kernel_rfl : _ = [csHasServer_2]) (loops_one (q := key csHasServer_2) rfl lsHasServer_2_ok fun _ _ _ => by kernel_rfl)) (by kernel_rfl) (fun x => fsHasServer x.1 x.2.1)
    (fun x => Eq.trans (by kernel_rfl : _ = fsHasServerC x.1 x.2.1 (fun y => ret (pairs [.b] y) fun v g => some (v, g))) (fsHasServer_k x.1 x.2.1 _)) fun _ _ h => h
/-! loop.example/g01926/spec.l2Put -/
abbrev Ysl2Put : List (Nat × Ent) := []
theorem Ysl2Put_ok : TabOk Tryz.prog (getY Ysl2Put) := tab_nil _
noncomputable abbrev csl2Put_2 : Code := loopAt (bodyOf Tryz.f141) 0
abbrev Lsl2Put_2 : LSh := ⟨[(0, .cl (.ro (.i .i64))), (1, .cl (.int .i64)), (5, .cl (.int .i64))], [], [], 0, 47⟩
abbrev Xsl2Put_2 : List (X × LSh) := [(.ext 0, ⟨[(0, .cl (.ro (.i .i64))), (1, .cl (.int .i64)), (5, .cl (.int .i64))], [], [], 0, 47⟩)]
def bsl2Put_2C {ρ : Type} (v1 : List Int) (v2 : Int) (v3 : Int) (fn : (((List Int) × Int × Int × Unit) × (Unit) × (Unit)) → Option ρ) (fe : (((List Int) × Int × Int × Unit) × (Unit) × (Unit)) → Option ρ) : Option ρ :=
  br (decide (v3 < (v1.length : Int))) (iteP (0 ≤ v3) ((v1[v3.toNat]?).bind fun x4 => br (decide (x4 < v2)) (fn ((v1, v2, (IntKind.wrap .i64 (v3 + 1)), ()), (()), (()))) (fe ((v1, v2, v3, ()), (()), (())))) none) (fe ((v1, v2, v3, ()), (()), (())))
def bsl2Put_2 (s : Lsl2Put_2.D) : Option (Lsl2Put_2.D ⊕ Exs.D Xsl2Put_2) := bsl2Put_2C s.1.1 s.1.2.1 s.1.2.2.1 (fun s => some (.inl s)) (fun e => some (.inr e))
def lsl2Put_2 : Lsl2Put_2.D → Option (Exs.D Xsl2Put_2) := lim bsl2Put_2
theorem bsl2Put_2_k {ρ : Type} (s : Lsl2Put_2.D) (fn : Lsl2Put_2.D → Option ρ) (fe : Exs.D Xsl2Put_2 → Option ρ) : bsl2Put_2C s.1.1 s.1.2.1 s.1.2.2.1 fn fe = (bsl2Put_2 s).bind (Sum.elim fn fe) := by
  simp only [bsl2Put_2, bsl2Put_2C, br_bind, iteP_bind, Option.bind_none, Option.bind_assoc, Option.bind_some, Sum.elim_inl, Sum.elim_inr]
abbrev Esl2Put_2 : LoopE := loopE [] [0, 1, 5] Lsl2Put_2 Xsl2Put_2 lsl2Put_2
theorem bsl2Put_2_ok (s : Lsl2Put_2.D) : evCK Θ (getY Ysl2Put) (getL []) csl2Put_2 (Lsl2Put_2.mk' s) (tellK [0, 1, 5] [0, 1, 5] fun x S => some (x, S)) = (bsl2Put_2 s).bind (Sum.elim (fun s' => some (.nor, Lsl2Put_2.mk' s')) fun e => some (Exs.e Xsl2Put_2 e)) :=
  Eq.trans (by kernel_rfl : _ = bsl2Put_2C s.1.1 s.1.2.1 s.1.2.2.1 (fun s' => some (.nor, Lsl2Put_2.mk' s')) (fun e => some (Exs.e Xsl2Put_2 e))) (bsl2Put_2_k s _ _)
theorem lsl2Put_2_ok : LoopOk Tryz.prog csl2Put_2 Esl2Put_2 := loopE_ok Θ_ok Ysl2Put_ok mixed_ok (by kernel_rfl) (hL_in (by kernel_rfl : _ = []) loops_nil) [] [0, 1, 5] [0, 1, 5] Lsl2Put_2 Xsl2Put_2 (by kernel_rfl) bsl2Put_2 bsl2Put_2_ok lsl2Put_2 (limN bsl2Put_2) (lim_round bsl2Put_2)
def fsl2PutC {ρ : Type} (a0 : List Int) (a1 : Int) (k : (List Int) × Unit → Option ρ) : Option ρ :=
  (lsl2Put_2 ((a0, a1, 0, ()), (()), (()))).bind fun e5 => br (decide (e5.1.2.2.1 < (e5.1.1.length : Int))) (iteP (0 ≤ e5.1.2.2.1) ((e5.1.1[e5.1.2.2.1.toNat]?).bind fun x6 => br (x6 == e5.1.2.1) (iteP ((([] : List Int) ++ e5.1.1).length * 8 ≤ 2 ^ 40) (k ((([] : List Int) ++ e5.1.1), ())) none) (iteP (0 ≤ (0 : Int) ∧ (0 : Int) ≤ e5.1.2.2.1 ∧ e5.1.2.2.1 ≤ (e5.1.1.length : Int)) (iteP ((([] : List Int) ++ ((e5.1.1.drop (0 : Int).toNat).take (e5.1.2.2.1.toNat - (0 : Int).toNat))).length * 8 ≤ 2 ^ 40) (iteP (((([] : List Int) ++ ((e5.1.1.drop (0 : Int).toNat).take (e5.1.2.2.1.toNat - (0 : Int).toNat))) ++ ([e5.1.2.1] : List Int)).length * 8 ≤ 2 ^ 40) (iteP (0 ≤ e5.1.2.2.1 ∧ e5.1.2.2.1 ≤ (e5.1.1.length : Int) ∧ (e5.1.1.length : Int) ≤ (e5.1.1.length : Int)) (iteP ((((([] : List Int) ++ ((e5.1.1.drop (0 : Int).toNat).take (e5.1.2.2.1.toNat - (0 : Int).toNat))) ++ ([e5.1.2.1] : List Int)) ++ ((e5.1.1.drop e5.1.2.2.1.toNat).take ((e5.1.1.length : Int).toNat - e5.1.2.2.1.toNat))).length * 8 ≤ 2 ^ 40) (k ((((([] : List Int) ++ ((e5.1.1.drop (0 : Int).toNat).take (e5.1.2.2.1.toNat - (0 : Int).toNat))) ++ ([e5.1.2.1] : List Int)) ++ ((e5.1.1.drop e5.1.2.2.1.toNat).take ((e5.1.1.length : Int).toNat - e5.1.2.2.1.toNat))), ())) none) none) none) none) none)) none) (iteP (0 ≤ (0 : Int) ∧ (0 : Int) ≤ e5.1.2.2.1 ∧ e5.1.2.2.1 ≤ (e5.1.1.length : Int)) (iteP ((([] : List Int) ++ ((e5.1.1.drop (0 : Int).toNat).take (e5.1.2.2.1.toNat - (0 : Int).toNat))).length * 8 ≤ 2 ^ 40) (iteP (((([] : List Int) ++ ((e5.1.1.drop (0 : Int).toNat).take (e5.1.2.2.1.toNat - (0 : Int).toNat))) ++ ([e5.1.2.1] : List Int)).length * 8 ≤ 2 ^ 40) (iteP (0 ≤ e5.1.2.2.1 ∧ e5.1.2.2.1 ≤ (e5.1.1.length : Int) ∧ (e5.1.1.length : Int) ≤ (e5.1.1.length : Int)) (iteP ((((([] : List Int) ++ ((e5.1.1.drop (0 : Int).toNat).take (e5.1.2.2.1.toNat - (0 : Int).toNat))) ++ ([e5.1.2.1] : List Int)) ++ ((e5.1.1.drop e5.1.2.2.1.toNat).take ((e5.1.1.length : Int).toNat - e5.1.2.2.1.toNat))).length * 8 ≤ 2 ^ 40) (k ((((([] : List Int) ++ ((e5.1.1.drop (0 : Int).toNat).take (e5.1.2.2.1.toNat - (0 : Int).toNat))) ++ ([e5.1.2.1] : List Int)) ++ ((e5.1.1.drop e5.1.2.2.1.toNat).take ((e5.1.1.length : Int).toNat - e5.1.2.2.1.toNat))), ())) none) none) none) none) none)
def fsl2Put (a0 : List Int) (a1 : Int) : Option ((List Int) × Unit) := fsl2PutC a0 a1 some
theorem fsl2Put_k {ρ : Type} (a0 : List Int) (a1 : Int) (k : (List Int) × Unit → Option ρ) : fsl2PutC a0 a1 k = (fsl2Put a0 a1).bind k := by
  simp only [fsl2Put, fsl2PutC, br_bind, iteP_bind, Option.bind_none, Option.bind_assoc, Option.bind_some]
abbrev Esl2Put : Ent := entP [.ty (.ls (.i .i64)), .ty (.i .i64)] [.ls (.i .i64)] fun x => fsl2Put x.1 x.2.1
theorem esl2Put : EntOk Tryz.prog 141 Esl2Put :=
  entP_of (Λ := getL [(key csl2Put_2, Esl2Put_2)]) (fn := Tryz.f141) Θ_ok Ysl2Put_ok mixed_ok (by kernel_rfl) (hL_of (by kernel_rfl : _ = [csl2Put_2]) (loops_one (q := key csl2Put_2) rfl lsl2Put_2_ok fun _ _ _ => by kernel_rfl)) (by kernel_rfl) (fun x => fsl2Put x.1 x.2.1)
    (fun x => Eq.trans (by kernel_rfl : _ = fsl2PutC x.1 x.2.1 (fun y => ret (pairs [.ls (.i .i64)] y) fun v g => some (v, g))) (fsl2Put_k x.1 x.2.1 _)) fun _ _ h => h
/-! loop.example/g01926/spec.CommonServers -/
abbrev YsCommonServers : List (Nat × Ent) := [(74, EsHasServer), (141, Esl2Put)]
theorem YsCommonServers_ok : TabOk Tryz.prog (getY YsCommonServers) := tab_cons esHasServer <| tab_cons esl2Put <| tab_nil _
noncomputable abbrev csCommonServers_3 : Code := loopAt (bodyOf Tryz.f133) 0
abbrev LsCommonServers_3 : LSh := ⟨[(0, .cl (.ro (.i .i64))), (1, .cl (.ro (.i .i64))), (5, .cl (.own 0 (.i .i64))), (6, .cl (.int .i64))], [], [.i .i64], 0, 27⟩
abbrev XsCommonServers_3 : List (X × LSh) := [(.ext 0, ⟨[(5, .cl (.own 0 (.i .i64)))], [], [.i .i64], 0, 27⟩)]
def bsCommonServers_3C {ρ : Type} (v1 : List Int) (v2 : List Int) (v3 : List Int) (v4 : Int) (fn : (((List Int) × (List Int) × Unit × Int × Unit) × (Unit) × ((List Int) × Unit)) → Option ρ) (fe : ((Unit × Unit) × (Unit) × ((List Int) × Unit)) → Option ρ) : Option ρ :=
  br (decide (v4 < (v2.length : Int))) (iteP (0 ≤ v4) ((v2[v4.toNat]?).bind fun x5 => (fsHasServer v3 x5).bind fun y6 => br y6.1 (iteP (0 ≤ v4) ((v2[v4.toNat]?).bind fun x7 => (fsl2Put v1 x7).bind fun y8 => fn ((v2, v3, (), (IntKind.wrap .i64 (v4 + 1)), ()), (()), (y8.1, ()))) none) (fn ((v2, v3, (), (IntKind.wrap .i64 (v4 + 1)), ()), (()), (v1, ())))) none) (fe (((), ()), (()), (v1, ())))
def bsCommonServers_3 (s : LsCommonServers_3.D) : Option (LsCommonServers_3.D ⊕ Exs.D XsCommonServers_3) := bsCommonServers_3C s.2.2.1 s.1.1 s.1.2.1 s.1.2.2.2.1 (fun s => some (.inl s)) (fun e => some (.inr e))
def lsCommonServers_3 : LsCommonServers_3.D → Option (Exs.D XsCommonServers_3) := lim bsCommonServers_3
theorem bsCommonServers_3_k {ρ : Type} (s : LsCommonServers_3.D) (fn : LsCommonServers_3.D → Option ρ) (fe : Exs.D XsCommonServers_3 → Option ρ) : bsCommonServers_3C s.2.2.1 s.1.1 s.1.2.1 s.1.2.2.2.1 fn fe = (bsCommonServers_3 s).bind (Sum.elim fn fe) := by
  simp only [bsCommonServers_3, bsCommonServers_3C, br_bind, iteP_bind, Option.bind_none, Option.bind_assoc, Option.bind_some, Sum.elim_inl, Sum.elim_inr]
abbrev EsCommonServers_3 : LoopE := loopE [] [0, 1, 5, 6] LsCommonServers_3 XsCommonServers_3 lsCommonServers_3
theorem bsCommonServers_3_ok (s : LsCommonServers_3.D) : evCK Θ (getY YsCommonServers) (getL []) csCommonServers_3 (LsCommonServers_3.mk' s) (tellK [0, 1, 5, 6] [5] fun x S => some (x, S)) = (bsCommonServers_3 s).bind (Sum.elim (fun s' => some (.nor, LsCommonServers_3.mk' s')) fun e => some (Exs.e XsCommonServers_3 e)) :=
  Eq.trans (by kernel_rfl : _ = bsCommonServers_3C s.2.2.1 s.1.1 s.1.2.1 s.1.2.2.2.1 (fun s' => some (.nor, LsCommonServers_3.mk' s')) (fun e => some (Exs.e XsCommonServers_3 e))) (bsCommonServers_3_k s _ _)
theorem lsCommonServers_3_ok : LoopOk Tryz.prog csCommonServers_3 EsCommonServers_3 := loopE_ok Θ_ok YsCommonServers_ok mixed_ok (by kernel_rfl) (hL_in (by kernel_rfl : _ = []) loops_nil) [] [0, 1, 5, 6] [5] LsCommonServers_3 XsCommonServers_3 (by kernel_rfl) bsCommonServers_3 bsCommonServers_3_ok lsCommonServers_3 (limN bsCommonServers_3) (lim_round bsCommonServers_3)
def fsCommonServersC {ρ : Type} (a0 : List Int) (a1 : List Int) (k : (List Int) × Unit → Option ρ) : Option ρ :=
  (lsCommonServers_3 ((a0, a1, (), 0, ()), (()), (([] : List Int), ()))).bind fun e9 => k (e9.2.2.1, ())
def fsCommonServers (a0 : List Int) (a1 : List Int) : Option ((List Int) × Unit) := fsCommonServersC a0 a1 some
theorem fsCommonServers_k {ρ : Type} (a0 : List Int) (a1 : List Int) (k : (List Int) × Unit → Option ρ) : fsCommonServersC a0 a1 k = (fsCommonServers a0 a1).bind k := by
  simp only [fsCommonServers, fsCommonServersC, Option.bind_assoc, Option.bind_some]
abbrev EsCommonServers : Ent := entP [.ty (.ls (.i .i64)), .ty (.ls (.i .i64))] [.ls (.i .i64)] fun x => fsCommonServers x.1 x.2.1
theorem esCommonServers : EntOk Tryz.prog 133 EsCommonServers :=
  entP_of (Λ := getL [(key csCommonServers_3, EsCommonServers_3)]) (fn := Tryz.f133) Θ_ok YsCommonServers_ok mixed_ok (by kernel_rfl) (hL_of (by kernel_rfl : _ = [csCommonServers_3]) (loops_one (q := key csCommonServers_3) rfl lsCommonServers_3_ok fun _ _ _ => by kernel_rfl)) (by kernel_rfl) (fun x => fsCommonServers x.1 x.2.1)
    (fun x => Eq.trans (by kernel_rfl : _ = fsCommonServersC x.1 x.2.1 (fun y => ret (pairs [.ls (.i .i64)] y) fun v g => some (v, g))) (fsCommonServers_k x.1 x.2.1 _)) fun _ _ h => h
/-! loop.example/g01926/spec.IsValidConfig -/
abbrev YsIsValidConfig : List (Nat × Ent) := [(107, Esl1In), (182, EsAreServers), (74, EsHasServer), (133, EsCommonServers)]
theorem YsIsValidConfig_ok : TabOk Tryz.prog (getY YsIsValidConfig) := tab_cons esl1In <| tab_cons esAreServers <| tab_cons esHasServer <| tab_cons esCommonServers <| tab_nil _
def fsIsValidConfigC {ρ : Type} (a0 : Config) (k : Bool × Unit → Option ρ) : Option ρ :=
  (fsl1In a0.epoch 1 20).bind fun y1 => br y1.1 ((fsAreServers a0.replicas).bind fun y2 => br y2.1 ((fsAreServers a0.witnesses).bind fun y3 => br y3.1 ((fsHasServer a0.replicas a0.primary).bind fun y4 => br y4.1 ((fsCommonServers a0.replicas a0.witnesses).bind fun y5 => k (((y5.1.length : Int) == 0), ())) (k (false, ()))) (k (false, ()))) (k (false, ()))) (k (false, ()))
def fsIsValidConfig (a0 : Config) : Option (Bool × Unit) := fsIsValidConfigC a0 some
theorem fsIsValidConfig_k {ρ : Type} (a0 : Config) (k : Bool × Unit → Option ρ) : fsIsValidConfigC a0 k = (fsIsValidConfig a0).bind k := by
  simp only [fsIsValidConfig, fsIsValidConfigC, br_bind, Option.bind_assoc, Option.bind_some]
abbrev EsIsValidConfig : Ent := entP [.ty (.st .config)] [.b] fun x => fsIsValidConfig x.1
theorem esIsValidConfig : EntOk Tryz.prog 159 EsIsValidConfig :=
  entP_of (Λ := getL []) (fn := Tryz.f159) Θ_ok YsIsValidConfig_ok mixed_ok (by kernel_rfl) (hL_of (by kernel_rfl : _ = []) loops_nil) (by kernel_rfl) (fun x => fsIsValidConfig x.1)
    (fun x => Eq.trans (by kernel_rfl : _ = fsIsValidConfigC x.1 (fun y => ret (pairs [.b] y) fun v g => some (v, g))) (fsIsValidConfig_k x.1 _)) fun _ _ h => h
/-! loop.example/g01926/spec.IsMasterLog -/
abbrev YsIsMasterLog : List (Nat × Ent) := [(159, EsIsValidConfig), (107, Esl1In)]
theorem YsIsMasterLog_ok : TabOk Tryz.prog (getY YsIsMasterLog) := tab_cons esIsValidConfig <| tab_cons esl1In <| tab_nil _
noncomputable abbrev csIsMasterLog_2 : Code := loopAt (bodyOf Tryz.f109) 0
abbrev LsIsMasterLog_2 : LSh := ⟨[(1, .cl (.ptr 0 0)), (3, .cl (.int .i64))], [[.ro (.st .config), .int .i64]], [], 0, 35⟩
abbrev XsIsMasterLog_2 : List (X × LSh) := [(.ret, ⟨[(1, .cl (.ptr 0 0)), (2, .cl (.bl))], [[.ro (.st .config), .int .i64]], [], 0, 35⟩), (.ext 0, ⟨[(1, .cl (.ptr 0 0)), (2, .cl (.dead))], [[.ro (.st .config), .int .i64]], [], 0, 35⟩)]
def bsIsMasterLog_2C {ρ : Type} (v1 : Int) (v2 : List Config) (v3 : Int) (fn : ((Unit × Int × Unit) × (((List Config) × Int × Unit) × Unit) × (Unit)) → Option ρ) (fe : ((Unit × Bool × Unit) × (((List Config) × Int × Unit) × Unit) × (Unit)) ⊕ ((Unit × Unit × Unit) × (((List Config) × Int × Unit) × Unit) × (Unit)) → Option ρ) : Option ρ :=
  br (decide (v1 < (v2.length : Int))) (iteP (0 ≤ v1) ((v2[v1.toNat]?).bind fun x4 => (fsIsValidConfig x4).bind fun y5 => br (!y5.1) (fe (.inl (((), false, ()), ((v2, v3, ()), ()), (())))) (iteP (0 ≤ v1) ((v2[v1.toNat]?).bind fun x6 => br (!(x6.epoch == (IntKind.wrap .i64 (v1 + 1)))) (fe (.inl (((), false, ()), ((v2, v3, ()), ()), (())))) (fn (((), (IntKind.wrap .i64 (v1 + 1)), ()), ((v2, v3, ()), ()), (())))) none)) none) (fe (.inr (((), (), ()), ((v2, v3, ()), ()), (()))))
def bsIsMasterLog_2 (s : LsIsMasterLog_2.D) : Option (LsIsMasterLog_2.D ⊕ Exs.D XsIsMasterLog_2) := bsIsMasterLog_2C s.1.2.1 s.2.1.1.1 s.2.1.1.2.1 (fun s => some (.inl s)) (fun e => some (.inr e))
def lsIsMasterLog_2 : LsIsMasterLog_2.D → Option (Exs.D XsIsMasterLog_2) := lim bsIsMasterLog_2
theorem bsIsMasterLog_2_k {ρ : Type} (s : LsIsMasterLog_2.D) (fn : LsIsMasterLog_2.D → Option ρ) (fe : Exs.D XsIsMasterLog_2 → Option ρ) : bsIsMasterLog_2C s.1.2.1 s.2.1.1.1 s.2.1.1.2.1 fn fe = (bsIsMasterLog_2 s).bind (Sum.elim fn fe) := by
  simp only [bsIsMasterLog_2, bsIsMasterLog_2C, br_bind, iteP_bind, Option.bind_none, Option.bind_assoc, Option.bind_some, Sum.elim_inl, Sum.elim_inr]
abbrev EsIsMasterLog_2 : LoopE := loopE [] [1, 3] LsIsMasterLog_2 XsIsMasterLog_2 lsIsMasterLog_2
theorem bsIsMasterLog_2_ok (s : LsIsMasterLog_2.D) : evCK Θ (getY YsIsMasterLog) (getL []) csIsMasterLog_2 (LsIsMasterLog_2.mk' s) (tellK [1, 3] [1, 2] fun x S => some (x, S)) = (bsIsMasterLog_2 s).bind (Sum.elim (fun s' => some (.nor, LsIsMasterLog_2.mk' s')) fun e => some (Exs.e XsIsMasterLog_2 e)) :=
  Eq.trans (by kernel_rfl : _ = bsIsMasterLog_2C s.1.2.1 s.2.1.1.1 s.2.1.1.2.1 (fun s' => some (.nor, LsIsMasterLog_2.mk' s')) (fun e => some (Exs.e XsIsMasterLog_2 e))) (bsIsMasterLog_2_k s _ _)
theorem lsIsMasterLog_2_ok : LoopOk Tryz.prog csIsMasterLog_2 EsIsMasterLog_2 := loopE_ok Θ_ok YsIsMasterLog_ok mixed_ok (by kernel_rfl) (hL_in (by kernel_rfl : _ = []) loops_nil) [] [1, 3] [1, 2] LsIsMasterLog_2 XsIsMasterLog_2 (by kernel_rfl) bsIsMasterLog_2 bsIsMasterLog_2_ok lsIsMasterLog_2 (limN bsIsMasterLog_2) (lim_round bsIsMasterLog_2)
def fsIsMasterLogC {ρ : Type} (a0 : MasterLog) (k : Bool × Unit → Option ρ) : Option ρ :=
  (lsIsMasterLog_2 (((), 0, ()), ((a0.configs, a0.activated, ()), ()), (()))).bind fun e7 => Sum.elim (fun e7_ => k (e7_.1.2.1, ())) (fun e7_ => (fsl1In e7_.2.1.1.2.1 0 (e7_.2.1.1.1.length : Int)).bind fun y8 => k (y8.1, ())) e7
def fsIsMasterLog (a0 : MasterLog) : Option (Bool × Unit) := fsIsMasterLogC a0 some
theorem fsIsMasterLog_k {ρ : Type} (a0 : MasterLog) (k : Bool × Unit → Option ρ) : fsIsMasterLogC a0 k = (fsIsMasterLog a0).bind k := by
  simp only [fsIsMasterLog, fsIsMasterLogC, elim_bind, Option.bind_assoc, Option.bind_some]
abbrev EsIsMasterLog : Ent := entP [.ty (.st .masterLog)] [.b] fun x => fsIsMasterLog x.1
theorem esIsMasterLog : EntOk Tryz.prog 109 EsIsMasterLog :=
  entP_of (Λ := getL [(key csIsMasterLog_2, EsIsMasterLog_2)]) (fn := Tryz.f109) Θ_ok YsIsMasterLog_ok mixed_ok (by kernel_rfl) (hL_of (by kernel_rfl : _ = [csIsMasterLog_2]) (loops_one (q := key csIsMasterLog_2) rfl lsIsMasterLog_2_ok fun _ _ _ => by kernel_rfl)) (by kernel_rfl) (fun x => fsIsMasterLog x.1)
    (fun x => Eq.trans (by kernel_rfl : _ = fsIsMasterLogC x.1 (fun y => ret (pairs [.b] y) fun v g => some (v, g))) (fsIsMasterLog_k x.1 _)) fun _ _ h => h
/-! loop.example/g01926/spec.IsLease -/
abbrev YsIsLease : List (Nat × Ent) := [(107, Esl1In)]
theorem YsIsLease_ok : TabOk Tryz.prog (getY YsIsLease) := tab_cons esl1In <| tab_nil _
def fsIsLeaseC {ρ : Type} (a0 : Lease) (k : Bool × Unit → Option ρ) : Option ρ :=
  br ((a0.epoch == 0) && ((a0.holder == 0) && ((a0.ends == 0) && true))) (k (true, ())) ((fsl1In a0.epoch 1 20).bind fun y1 => br y1.1 ((fsl1In a0.holder 0 4).bind fun y2 => br y2.1 ((fsl1In a0.ends 1 1049).bind fun y3 => k (y3.1, ())) (k (false, ()))) (k (false, ())))
def fsIsLease (a0 : Lease) : Option (Bool × Unit) := fsIsLeaseC a0 some
theorem fsIsLease_k {ρ : Type} (a0 : Lease) (k : Bool × Unit → Option ρ) : fsIsLeaseC a0 k = (fsIsLease a0).bind k := by
  simp only [fsIsLease, fsIsLeaseC, br_bind, Option.bind_assoc, Option.bind_some]
abbrev EsIsLease : Ent := entP [.ty (.st .lease)] [.b] fun x => fsIsLease x.1
theorem esIsLease : EntOk Tryz.prog 110 EsIsLease :=
  entP_of (Λ := getL []) (fn := Tryz.f110) Θ_ok YsIsLease_ok mixed_ok (by kernel_rfl) (hL_of (by kernel_rfl : _ = []) loops_nil) (by kernel_rfl) (fun x => fsIsLease x.1)
    (fun x => Eq.trans (by kernel_rfl : _ = fsIsLeaseC x.1 (fun y => ret (pairs [.b] y) fun v g => some (v, g))) (fsIsLease_k x.1 _)) fun _ _ h => h
/-! loop.example/g01926/spec.ArePlaces -/
abbrev YsArePlaces : List (Nat × Ent) := [(107, Esl1In)]
theorem YsArePlaces_ok : TabOk Tryz.prog (getY YsArePlaces) := tab_cons esl1In <| tab_nil _
noncomputable abbrev csArePlaces_2 : Code := loopAt (bodyOf Tryz.f111) 0
abbrev LsArePlaces_2 : LSh := ⟨[(0, .cl (.ro (.st .place))), (3, .cl (.int .i64))], [], [], 0, 38⟩
abbrev XsArePlaces_2 : List (X × LSh) := [(.ret, ⟨[(0, .cl (.ro (.st .place))), (2, .cl (.bl))], [], [], 0, 38⟩), (.ext 0, ⟨[(0, .cl (.ro (.st .place))), (2, .cl (.dead))], [], [], 0, 38⟩)]
def bsArePlaces_2C {ρ : Type} (v1 : List Place) (v2 : Int) (fn : (((List Place) × Int × Unit) × (Unit) × (Unit)) → Option ρ) (fe : (((List Place) × Bool × Unit) × (Unit) × (Unit)) ⊕ (((List Place) × Unit × Unit) × (Unit) × (Unit)) → Option ρ) : Option ρ :=
  br (decide (v2 < (v1.length : Int))) (iteP (0 ≤ v2) ((v1[v2.toNat]?).bind fun x3 => (fsl1In x3.rack 0 9).bind fun y4 => br (!y4.1) (fe (.inl ((v1, false, ()), (()), (())))) (iteP (0 ≤ v2) ((v1[v2.toNat]?).bind fun x5 => (fsl1In x5.capacity 0 9).bind fun y6 => br (!y6.1) (fe (.inl ((v1, false, ()), (()), (())))) (iteP (0 ≤ v2) ((v1[v2.toNat]?).bind fun x7 => (fsl1In x7.load 0 99).bind fun y8 => br (!y8.1) (fe (.inl ((v1, false, ()), (()), (())))) (fn ((v1, (IntKind.wrap .i64 (v2 + 1)), ()), (()), (())))) none)) none)) none) (fe (.inr ((v1, (), ()), (()), (()))))
def bsArePlaces_2 (s : LsArePlaces_2.D) : Option (LsArePlaces_2.D ⊕ Exs.D XsArePlaces_2) := bsArePlaces_2C s.1.1 s.1.2.1 (fun s => some (.inl s)) (fun e => some (.inr e))
def lsArePlaces_2 : LsArePlaces_2.D → Option (Exs.D XsArePlaces_2) := lim bsArePlaces_2
theorem bsArePlaces_2_k {ρ : Type} (s : LsArePlaces_2.D) (fn : LsArePlaces_2.D → Option ρ) (fe : Exs.D XsArePlaces_2 → Option ρ) : bsArePlaces_2C s.1.1 s.1.2.1 fn fe = (bsArePlaces_2 s).bind (Sum.elim fn fe) := by
  simp only [bsArePlaces_2, bsArePlaces_2C, br_bind, iteP_bind, Option.bind_none, Option.bind_assoc, Option.bind_some, Sum.elim_inl, Sum.elim_inr]
abbrev EsArePlaces_2 : LoopE := loopE [] [0, 3] LsArePlaces_2 XsArePlaces_2 lsArePlaces_2
theorem bsArePlaces_2_ok (s : LsArePlaces_2.D) : evCK Θ (getY YsArePlaces) (getL []) csArePlaces_2 (LsArePlaces_2.mk' s) (tellK [0, 3] [0, 2] fun x S => some (x, S)) = (bsArePlaces_2 s).bind (Sum.elim (fun s' => some (.nor, LsArePlaces_2.mk' s')) fun e => some (Exs.e XsArePlaces_2 e)) :=
  Eq.trans (by kernel_rfl : _ = bsArePlaces_2C s.1.1 s.1.2.1 (fun s' => some (.nor, LsArePlaces_2.mk' s')) (fun e => some (Exs.e XsArePlaces_2 e))) (bsArePlaces_2_k s _ _)
theorem lsArePlaces_2_ok : LoopOk Tryz.prog csArePlaces_2 EsArePlaces_2 := loopE_ok Θ_ok YsArePlaces_ok mixed_ok (by kernel_rfl) (hL_in (by kernel_rfl : _ = []) loops_nil) [] [0, 3] [0, 2] LsArePlaces_2 XsArePlaces_2 (by kernel_rfl) bsArePlaces_2 bsArePlaces_2_ok lsArePlaces_2 (limN bsArePlaces_2) (lim_round bsArePlaces_2)
def fsArePlacesC {ρ : Type} (a0 : List Place) (k : Bool × Unit → Option ρ) : Option ρ :=
  (lsArePlaces_2 ((a0, 0, ()), (()), (()))).bind fun e9 => Sum.elim (fun e9_ => k (e9_.1.2.1, ())) (fun e9_ => k (((e9_.1.1.length : Int) == 5), ())) e9
def fsArePlaces (a0 : List Place) : Option (Bool × Unit) := fsArePlacesC a0 some
theorem fsArePlaces_k {ρ : Type} (a0 : List Place) (k : Bool × Unit → Option ρ) : fsArePlacesC a0 k = (fsArePlaces a0).bind k := by
  simp only [fsArePlaces, fsArePlacesC, elim_bind, Option.bind_assoc, Option.bind_some]
abbrev EsArePlaces : Ent := entP [.ty (.ls (.st .place))] [.b] fun x => fsArePlaces x.1
theorem esArePlaces : EntOk Tryz.prog 111 EsArePlaces :=
  entP_of (Λ := getL [(key csArePlaces_2, EsArePlaces_2)]) (fn := Tryz.f111) Θ_ok YsArePlaces_ok mixed_ok (by kernel_rfl) (hL_of (by kernel_rfl : _ = [csArePlaces_2]) (loops_one (q := key csArePlaces_2) rfl lsArePlaces_2_ok fun _ _ _ => by kernel_rfl)) (by kernel_rfl) (fun x => fsArePlaces x.1)
    (fun x => Eq.trans (by kernel_rfl : _ = fsArePlacesC x.1 (fun y => ret (pairs [.b] y) fun v g => some (v, g))) (fsArePlaces_k x.1 _)) fun _ _ h => h
/-! loop.example/g01926/spec.IsValidOp -/
abbrev YsIsValidOp : List (Nat × Ent) := [(107, Esl1In)]
theorem YsIsValidOp_ok : TabOk Tryz.prog (getY YsIsValidOp) := tab_cons esl1In <| tab_nil _
def fsIsValidOpC {ρ : Type} (a0 : Op) (k : Bool × Unit → Option ρ) : Option ρ :=
  (fsl1In a0.client 0 2).bind fun y1 => br (!y1.1) (k (false, ())) ((fsl1In a0.seq 1 99).bind fun y2 => br (!y2.1) (k (false, ())) ((fsl1In a0.object 0 2).bind fun y3 => br (!y3.1) (k (false, ())) ((fsl1In a0.value 0 9).bind fun y4 => br (!y4.1) (k (false, ())) (br (a0.kind == 1) (br (a0.old == 0) (k (true, ())) (br (a0.kind == 2) ((fsl1In a0.old 0 9).bind fun y5 => k (y5.1, ())) (k (false, ())))) (br (a0.kind == 2) ((fsl1In a0.old 0 9).bind fun y6 => k (y6.1, ())) (k (false, ())))))))
def fsIsValidOp (a0 : Op) : Option (Bool × Unit) := fsIsValidOpC a0 some
theorem fsIsValidOp_k {ρ : Type} (a0 : Op) (k : Bool × Unit → Option ρ) : fsIsValidOpC a0 k = (fsIsValidOp a0).bind k := by
  simp only [fsIsValidOp, fsIsValidOpC, br_bind, Option.bind_assoc, Option.bind_some]
abbrev EsIsValidOp : Ent := entP [.ty (.st .op)] [.b] fun x => fsIsValidOp x.1
theorem esIsValidOp : EntOk Tryz.prog 183 EsIsValidOp :=
  entP_of (Λ := getL []) (fn := Tryz.f183) Θ_ok YsIsValidOp_ok mixed_ok (by kernel_rfl) (hL_of (by kernel_rfl : _ = []) loops_nil) (by kernel_rfl) (fun x => fsIsValidOp x.1)
    (fun x => Eq.trans (by kernel_rfl : _ = fsIsValidOpC x.1 (fun y => ret (pairs [.b] y) fun v g => some (v, g))) (fsIsValidOp_k x.1 _)) fun _ _ h => h
/-! loop.example/g01926/spec.IsLog -/
abbrev YsIsLog : List (Nat × Ent) := [(107, Esl1In), (183, EsIsValidOp)]
theorem YsIsLog_ok : TabOk Tryz.prog (getY YsIsLog) := tab_cons esl1In <| tab_cons esIsValidOp <| tab_nil _
noncomputable abbrev csIsLog_2 : Code := loopAt (bodyOf Tryz.f160) 0
abbrev LsIsLog_2 : LSh := ⟨[(0, .cl (.ro (.st .entry))), (3, .cl (.int .i64))], [], [], 0, 47⟩
abbrev XsIsLog_2 : List (X × LSh) := [(.ret, ⟨[(0, .cl (.ro (.st .entry))), (2, .cl (.bl))], [], [], 0, 47⟩), (.ext 0, ⟨[(0, .cl (.ro (.st .entry))), (2, .cl (.dead))], [], [], 0, 47⟩)]
def bsIsLog_2C {ρ : Type} (v1 : List Entry) (v2 : Int) (fn : (((List Entry) × Int × Unit) × (Unit) × (Unit)) → Option ρ) (fe : (((List Entry) × Bool × Unit) × (Unit) × (Unit)) ⊕ (((List Entry) × Unit × Unit) × (Unit) × (Unit)) → Option ρ) : Option ρ :=
  br (decide (v2 < (v1.length : Int))) (iteP (0 ≤ v2) ((v1[v2.toNat]?).bind fun x3 => (fsl1In x3.epoch 1 20).bind fun y4 => br (!y4.1) (fe (.inl ((v1, false, ()), (()), (())))) (iteP (0 ≤ v2) ((v1[v2.toNat]?).bind fun x5 => (fsIsValidOp x5.op).bind fun y6 => br (!y6.1) (fe (.inl ((v1, false, ()), (()), (())))) (br (decide (v2 > 0)) (iteP (0 ≤ (IntKind.wrap .i64 (v2 - 1))) ((v1[(IntKind.wrap .i64 (v2 - 1)).toNat]?).bind fun x7 => iteP (0 ≤ v2) ((v1[v2.toNat]?).bind fun x8 => br (decide (x7.epoch > x8.epoch)) (fe (.inl ((v1, false, ()), (()), (())))) (fn ((v1, (IntKind.wrap .i64 (v2 + 1)), ()), (()), (())))) none) none) (fn ((v1, (IntKind.wrap .i64 (v2 + 1)), ()), (()), (()))))) none)) none) (fe (.inr ((v1, (), ()), (()), (()))))
def bsIsLog_2 (s : LsIsLog_2.D) : Option (LsIsLog_2.D ⊕ Exs.D XsIsLog_2) := bsIsLog_2C s.1.1 s.1.2.1 (fun s => some (.inl s)) (fun e => some (.inr e))
def lsIsLog_2 : LsIsLog_2.D → Option (Exs.D XsIsLog_2) := lim bsIsLog_2
theorem bsIsLog_2_k {ρ : Type} (s : LsIsLog_2.D) (fn : LsIsLog_2.D → Option ρ) (fe : Exs.D XsIsLog_2 → Option ρ) : bsIsLog_2C s.1.1 s.1.2.1 fn fe = (bsIsLog_2 s).bind (Sum.elim fn fe) := by
  simp only [bsIsLog_2, bsIsLog_2C, br_bind, iteP_bind, Option.bind_none, Option.bind_assoc, Option.bind_some, Sum.elim_inl, Sum.elim_inr]
abbrev EsIsLog_2 : LoopE := loopE [] [0, 3] LsIsLog_2 XsIsLog_2 lsIsLog_2
theorem bsIsLog_2_ok (s : LsIsLog_2.D) : evCK Θ (getY YsIsLog) (getL []) csIsLog_2 (LsIsLog_2.mk' s) (tellK [0, 3] [0, 2] fun x S => some (x, S)) = (bsIsLog_2 s).bind (Sum.elim (fun s' => some (.nor, LsIsLog_2.mk' s')) fun e => some (Exs.e XsIsLog_2 e)) :=
  Eq.trans (by kernel_rfl : _ = bsIsLog_2C s.1.1 s.1.2.1 (fun s' => some (.nor, LsIsLog_2.mk' s')) (fun e => some (Exs.e XsIsLog_2 e))) (bsIsLog_2_k s _ _)
theorem lsIsLog_2_ok : LoopOk Tryz.prog csIsLog_2 EsIsLog_2 := loopE_ok Θ_ok YsIsLog_ok mixed_ok (by kernel_rfl) (hL_in (by kernel_rfl : _ = []) loops_nil) [] [0, 3] [0, 2] LsIsLog_2 XsIsLog_2 (by kernel_rfl) bsIsLog_2 bsIsLog_2_ok lsIsLog_2 (limN bsIsLog_2) (lim_round bsIsLog_2)
def fsIsLogC {ρ : Type} (a0 : List Entry) (k : Bool × Unit → Option ρ) : Option ρ :=
  (lsIsLog_2 ((a0, 0, ()), (()), (()))).bind fun e9 => Sum.elim (fun e9_ => k (e9_.1.2.1, ())) (fun e9_ => k ((decide ((e9_.1.1.length : Int) ≤ 16)), ())) e9
def fsIsLog (a0 : List Entry) : Option (Bool × Unit) := fsIsLogC a0 some
theorem fsIsLog_k {ρ : Type} (a0 : List Entry) (k : Bool × Unit → Option ρ) : fsIsLogC a0 k = (fsIsLog a0).bind k := by
  simp only [fsIsLog, fsIsLogC, elim_bind, Option.bind_assoc, Option.bind_some]
abbrev EsIsLog : Ent := entP [.ty (.ls (.st .entry))] [.b] fun x => fsIsLog x.1
theorem esIsLog : EntOk Tryz.prog 160 EsIsLog :=
  entP_of (Λ := getL [(key csIsLog_2, EsIsLog_2)]) (fn := Tryz.f160) Θ_ok YsIsLog_ok mixed_ok (by kernel_rfl) (hL_of (by kernel_rfl : _ = [csIsLog_2]) (loops_one (q := key csIsLog_2) rfl lsIsLog_2_ok fun _ _ _ => by kernel_rfl)) (by kernel_rfl) (fun x => fsIsLog x.1)
    (fun x => Eq.trans (by kernel_rfl : _ = fsIsLogC x.1 (fun y => ret (pairs [.b] y) fun v g => some (v, g))) (fsIsLog_k x.1 _)) fun _ _ h => h
/-! loop.example/g01926/spec.EqualServers -/
abbrev YsEqualServers : List (Nat × Ent) := []
theorem YsEqualServers_ok : TabOk Tryz.prog (getY YsEqualServers) := tab_nil _
noncomputable abbrev csEqualServers_4 : Code := loopAt (bodyOf Tryz.f151) 0
abbrev LsEqualServers_4 : LSh := ⟨[(0, .cl (.ro (.i .i64))), (1, .cl (.ro (.i .i64))), (5, .cl (.int .i64))], [], [], 0, 26⟩
abbrev XsEqualServers_4 : List (X × LSh) := [(.ret, ⟨[(4, .cl (.bl))], [], [], 0, 26⟩), (.ext 0, ⟨[(4, .cl (.dead))], [], [], 0, 26⟩)]
def bsEqualServers_4C {ρ : Type} (v1 : List Int) (v2 : List Int) (v3 : Int) (fn : (((List Int) × (List Int) × Int × Unit) × (Unit) × (Unit)) → Option ρ) (fe : ((Bool × Unit) × (Unit) × (Unit)) ⊕ ((Unit × Unit) × (Unit) × (Unit)) → Option ρ) : Option ρ :=
  br (decide (v3 < (v1.length : Int))) (iteP (0 ≤ v3) ((v1[v3.toNat]?).bind fun x4 => iteP (0 ≤ v3) ((v2[v3.toNat]?).bind fun x5 => br (!(x4 == x5)) (fe (.inl ((false, ()), (()), (())))) (fn ((v1, v2, (IntKind.wrap .i64 (v3 + 1)), ()), (()), (())))) none) none) (fe (.inr (((), ()), (()), (()))))
def bsEqualServers_4 (s : LsEqualServers_4.D) : Option (LsEqualServers_4.D ⊕ Exs.D XsEqualServers_4) := bsEqualServers_4C s.1.1 s.1.2.1 s.1.2.2.1 (fun s => some (.inl s)) (fun e => some (.inr e))
def lsEqualServers_4 : LsEqualServers_4.D → Option (Exs.D XsEqualServers_4) := lim bsEqualServers_4
theorem bsEqualServers_4_k {ρ : Type} (s : LsEqualServers_4.D) (fn : LsEqualServers_4.D → Option ρ) (fe : Exs.D XsEqualServers_4 → Option ρ) : bsEqualServers_4C s.1.1 s.1.2.1 s.1.2.2.1 fn fe = (bsEqualServers_4 s).bind (Sum.elim fn fe) := by
  simp only [bsEqualServers_4, bsEqualServers_4C, br_bind, iteP_bind, Option.bind_none, Option.bind_assoc, Option.bind_some, Sum.elim_inl, Sum.elim_inr]
abbrev EsEqualServers_4 : LoopE := loopE [] [0, 1, 5] LsEqualServers_4 XsEqualServers_4 lsEqualServers_4
theorem bsEqualServers_4_ok (s : LsEqualServers_4.D) : evCK Θ (getY YsEqualServers) (getL []) csEqualServers_4 (LsEqualServers_4.mk' s) (tellK [0, 1, 5] [4] fun x S => some (x, S)) = (bsEqualServers_4 s).bind (Sum.elim (fun s' => some (.nor, LsEqualServers_4.mk' s')) fun e => some (Exs.e XsEqualServers_4 e)) :=
  Eq.trans (by kernel_rfl : _ = bsEqualServers_4C s.1.1 s.1.2.1 s.1.2.2.1 (fun s' => some (.nor, LsEqualServers_4.mk' s')) (fun e => some (Exs.e XsEqualServers_4 e))) (bsEqualServers_4_k s _ _)
theorem lsEqualServers_4_ok : LoopOk Tryz.prog csEqualServers_4 EsEqualServers_4 := loopE_ok Θ_ok YsEqualServers_ok mixed_ok (by kernel_rfl) (hL_in (by kernel_rfl : _ = []) loops_nil) [] [0, 1, 5] [4] LsEqualServers_4 XsEqualServers_4 (by kernel_rfl) bsEqualServers_4 bsEqualServers_4_ok lsEqualServers_4 (limN bsEqualServers_4) (lim_round bsEqualServers_4)
def fsEqualServersC {ρ : Type} (a0 : List Int) (a1 : List Int) (k : Bool × Unit → Option ρ) : Option ρ :=
  br (!((a0.length : Int) == (a1.length : Int))) (k (false, ())) ((lsEqualServers_4 ((a0, a1, 0, ()), (()), (()))).bind fun e6 => Sum.elim (fun e6_ => k (e6_.1.1, ())) (fun e6_ => k (true, ())) e6)
def fsEqualServers (a0 : List Int) (a1 : List Int) : Option (Bool × Unit) := fsEqualServersC a0 a1 some
theorem fsEqualServers_k {ρ : Type} (a0 : List Int) (a1 : List Int) (k : Bool × Unit → Option ρ) : fsEqualServersC a0 a1 k = (fsEqualServers a0 a1).bind k := by
  simp only [fsEqualServers, fsEqualServersC, br_bind, elim_bind, Option.bind_assoc, Option.bind_some]
abbrev EsEqualServers : Ent := entP [.ty (.ls (.i .i64)), .ty (.ls (.i .i64))] [.b] fun x => fsEqualServers x.1 x.2.1
theorem esEqualServers : EntOk Tryz.prog 151 EsEqualServers :=
  entP_of (Λ := getL [(key csEqualServers_4, EsEqualServers_4)]) (fn := Tryz.f151) Θ_ok YsEqualServers_ok mixed_ok (by kernel_rfl) (hL_of (by kernel_rfl : _ = [csEqualServers_4]) (loops_one (q := key csEqualServers_4) rfl lsEqualServers_4_ok fun _ _ _ => by kernel_rfl)) (by kernel_rfl) (fun x => fsEqualServers x.1 x.2.1)
    (fun x => Eq.trans (by kernel_rfl : _ = fsEqualServersC x.1 x.2.1 (fun y => ret (pairs [.b] y) fun v g => some (v, g))) (fsEqualServers_k x.1 x.2.1 _)) fun _ _ h => h
/-! loop.example/g01926/spec.EqualConfigs -/
abbrev YsEqualConfigs : List (Nat × Ent) := [(151, EsEqualServers)]
theorem YsEqualConfigs_ok : TabOk Tryz.prog (getY YsEqualConfigs) := tab_cons esEqualServers <| tab_nil _
def fsEqualConfigsC {ρ : Type} (a0 : Config) (a1 : Config) (k : Bool × Unit → Option ρ) : Option ρ :=
  br (a0.epoch == a1.epoch) (br (a0.primary == a1.primary) ((fsEqualServers a0.replicas a1.replicas).bind fun y1 => br y1.1 ((fsEqualServers a0.witnesses a1.witnesses).bind fun y2 => k (y2.1, ())) (k (false, ()))) (k (false, ()))) (k (false, ()))
def fsEqualConfigs (a0 : Config) (a1 : Config) : Option (Bool × Unit) := fsEqualConfigsC a0 a1 some
theorem fsEqualConfigs_k {ρ : Type} (a0 : Config) (a1 : Config) (k : Bool × Unit → Option ρ) : fsEqualConfigsC a0 a1 k = (fsEqualConfigs a0 a1).bind k := by
  simp only [fsEqualConfigs, fsEqualConfigsC, br_bind, Option.bind_assoc, Option.bind_some]
abbrev EsEqualConfigs : Ent := entP [.ty (.st .config), .ty (.st .config)] [.b] fun x => fsEqualConfigs x.1 x.2.1
theorem esEqualConfigs : EntOk Tryz.prog 101 EsEqualConfigs :=
  entP_of (Λ := getL []) (fn := Tryz.f101) Θ_ok YsEqualConfigs_ok mixed_ok (by kernel_rfl) (hL_of (by kernel_rfl : _ = []) loops_nil) (by kernel_rfl) (fun x => fsEqualConfigs x.1 x.2.1)
    (fun x => Eq.trans (by kernel_rfl : _ = fsEqualConfigsC x.1 x.2.1 (fun y => ret (pairs [.b] y) fun v g => some (v, g))) (fsEqualConfigs_k x.1 x.2.1 _)) fun _ _ h => h
/-! loop.example/g01926/spec.l14None -/
abbrev Ysl14None : List (Nat × Ent) := [(101, EsEqualConfigs)]
theorem Ysl14None_ok : TabOk Tryz.prog (getY Ysl14None) := tab_cons esEqualConfigs <| tab_nil _
def fsl14NoneC {ρ : Type} (a0 : Config) (k : Bool × Unit → Option ρ) : Option ρ :=
  (fsEqualConfigs a0 (⟨0, 0, ([] : List Int), ([] : List Int)⟩ : Config)).bind fun y1 => k (y1.1, ())
def fsl14None (a0 : Config) : Option (Bool × Unit) := fsl14NoneC a0 some
theorem fsl14None_k {ρ : Type} (a0 : Config) (k : Bool × Unit → Option ρ) : fsl14NoneC a0 k = (fsl14None a0).bind k := by
  simp only [fsl14None, fsl14NoneC, Option.bind_assoc, Option.bind_some]
abbrev Esl14None : Ent := entP [.ty (.st .config)] [.b] fun x => fsl14None x.1
theorem esl14None : EntOk Tryz.prog 100 Esl14None :=
  entP_of (Λ := getL []) (fn := Tryz.f100) Θ_ok Ysl14None_ok mixed_ok (by kernel_rfl) (hL_of (by kernel_rfl : _ = []) loops_nil) (by kernel_rfl) (fun x => fsl14None x.1)
    (fun x => Eq.trans (by kernel_rfl : _ = fsl14NoneC x.1 (fun y => ret (pairs [.b] y) fun v g => some (v, g))) (fsl14None_k x.1 _)) fun _ _ h => h
/-! loop.example/g01926/spec.l14Last -/
abbrev Ysl14Last : List (Nat × Ent) := []
theorem Ysl14Last_ok : TabOk Tryz.prog (getY Ysl14Last) := tab_nil _
def fsl14LastC {ρ : Type} (a0 : List Entry) (k : Int × Unit → Option ρ) : Option ρ :=
  br ((a0.length : Int) == 0) (k (0, ())) (iteP (0 ≤ (IntKind.wrap .i64 ((a0.length : Int) - 1))) ((a0[(IntKind.wrap .i64 ((a0.length : Int) - 1)).toNat]?).bind fun x1 => k (x1.epoch, ())) none)
def fsl14Last (a0 : List Entry) : Option (Int × Unit) := fsl14LastC a0 some
theorem fsl14Last_k {ρ : Type} (a0 : List Entry) (k : Int × Unit → Option ρ) : fsl14LastC a0 k = (fsl14Last a0).bind k := by
  simp only [fsl14Last, fsl14LastC, br_bind, iteP_bind, Option.bind_none, Option.bind_assoc, Option.bind_some]
abbrev Esl14Last : Ent := entP [.ty (.ls (.st .entry))] [.i .i64] fun x => fsl14Last x.1
theorem esl14Last : EntOk Tryz.prog 113 Esl14Last :=
  entP_of (Λ := getL []) (fn := Tryz.f113) Θ_ok Ysl14Last_ok mixed_ok (by kernel_rfl) (hL_of (by kernel_rfl : _ = []) loops_nil) (by kernel_rfl) (fun x => fsl14Last x.1)
    (fun x => Eq.trans (by kernel_rfl : _ = fsl14LastC x.1 (fun y => ret (pairs [.i .i64] y) fun v g => some (v, g))) (fsl14Last_k x.1 _)) fun _ _ h => h
/-! loop.example/g01926/spec.RoleOf -/
abbrev YsRoleOf : List (Nat × Ent) := [(159, EsIsValidConfig), (74, EsHasServer)]
theorem YsRoleOf_ok : TabOk Tryz.prog (getY YsRoleOf) := tab_cons esIsValidConfig <| tab_cons esHasServer <| tab_nil _
def fsRoleOfC {ρ : Type} (a0 : Config) (a1 : Int) (k : Int × Unit → Option ρ) : Option ρ :=
  (fsIsValidConfig a0).bind fun y1 => br (!y1.1) (k (0, ())) (br (a1 == a0.primary) (k (1, ())) ((fsHasServer a0.replicas a1).bind fun y2 => br y2.1 (k (2, ())) ((fsHasServer a0.witnesses a1).bind fun y3 => br y3.1 (k (3, ())) (k (0, ())))))
def fsRoleOf (a0 : Config) (a1 : Int) : Option (Int × Unit) := fsRoleOfC a0 a1 some
theorem fsRoleOf_k {ρ : Type} (a0 : Config) (a1 : Int) (k : Int × Unit → Option ρ) : fsRoleOfC a0 a1 k = (fsRoleOf a0 a1).bind k := by
  simp only [fsRoleOf, fsRoleOfC, br_bind, Option.bind_assoc, Option.bind_some]
abbrev EsRoleOf : Ent := entP [.ty (.st .config), .ty (.i .i64)] [.i .i64] fun x => fsRoleOf x.1 x.2.1
theorem esRoleOf : EntOk Tryz.prog 161 EsRoleOf :=
  entP_of (Λ := getL []) (fn := Tryz.f161) Θ_ok YsRoleOf_ok mixed_ok (by kernel_rfl) (hL_of (by kernel_rfl : _ = []) loops_nil) (by kernel_rfl) (fun x => fsRoleOf x.1 x.2.1)
    (fun x => Eq.trans (by kernel_rfl : _ = fsRoleOfC x.1 x.2.1 (fun y => ret (pairs [.i .i64] y) fun v g => some (v, g))) (fsRoleOf_k x.1 x.2.1 _)) fun _ _ h => h
/-! loop.example/g01926/spec.IsValidServer -/
abbrev YsIsValidServer : List (Nat × Ent) := [(107, Esl1In), (160, EsIsLog), (100, Esl14None), (113, Esl14Last), (161, EsRoleOf)]
theorem YsIsValidServer_ok : TabOk Tryz.prog (getY YsIsValidServer) := tab_cons esl1In <| tab_cons esIsLog <| tab_cons esl14None <| tab_cons esl14Last <| tab_cons esRoleOf <| tab_nil _
def fsIsValidServerC {ρ : Type} (a0 : Server) (a1 : Int) (k : Bool × Unit → Option ρ) : Option ρ :=
  (fsl1In a0.version 1 2).bind fun y1 => br (!y1.1) (k (false, ())) ((fsl1In a0.epoch 0 20).bind fun y2 => br (!y2.1) (k (false, ())) ((fsIsLog a0.log).bind fun y3 => br (!y3.1) (k (false, ())) ((fsIsLog a0.learned).bind fun y4 => br (!y4.1) (k (false, ())) ((fsl1In a0.first 0 16).bind fun y5 => br (!y5.1) (k (false, ())) ((fsl1In (IntKind.wrap .i64 (a0.first + (a0.log.length : Int))) 0 16).bind fun y6 => br (!y6.1) (k (false, ())) ((fsl1In a0.commit 0 (IntKind.wrap .i64 (a0.first + (a0.log.length : Int)))).bind fun y7 => br (!y7.1) (k (false, ())) ((fsl14None a0.config).bind fun y8 => br y8.1 (br (a0.first == 0) (br ((a0.log.length : Int) == 0) (k ((a0.commit == 0), ())) (k (false, ()))) (k (false, ()))) (br (!a0.intact) (k (false, ())) (br (decide (a0.epoch < a0.config.epoch)) (k (false, ())) ((fsl14Last a0.log).bind fun y9 => br (decide (y9.1 > a0.config.epoch)) (k (false, ())) ((fsRoleOf a0.config a1).bind fun y10 => br (y10.1 == 0) (k (false, ())) (br (y10.1 == 3) (br (decide ((a0.log.length : Int) ≤ 3)) (br ((a0.log.length : Int) == 3) (k (true, ())) (k ((a0.first == 0), ()))) (k (false, ()))) (k ((a0.first == 0), ()))))))))))))))
def fsIsValidServer (a0 : Server) (a1 : Int) : Option (Bool × Unit) := fsIsValidServerC a0 a1 some
theorem fsIsValidServer_k {ρ : Type} (a0 : Server) (a1 : Int) (k : Bool × Unit → Option ρ) : fsIsValidServerC a0 a1 k = (fsIsValidServer a0 a1).bind k := by
  simp only [fsIsValidServer, fsIsValidServerC, br_bind, Option.bind_assoc, Option.bind_some]
abbrev EsIsValidServer : Ent := entP [.ty (.st .server), .ty (.i .i64)] [.b] fun x => fsIsValidServer x.1 x.2.1
theorem esIsValidServer : EntOk Tryz.prog 112 EsIsValidServer :=
  entP_of (Λ := getL []) (fn := Tryz.f112) Θ_ok YsIsValidServer_ok mixed_ok (by kernel_rfl) (hL_of (by kernel_rfl : _ = []) loops_nil) (by kernel_rfl) (fun x => fsIsValidServer x.1 x.2.1)
    (fun x => Eq.trans (by kernel_rfl : _ = fsIsValidServerC x.1 x.2.1 (fun y => ret (pairs [.b] y) fun v g => some (v, g))) (fsIsValidServer_k x.1 x.2.1 _)) fun _ _ h => h
/-! loop.example/g01926/spec.l8Copy -/
abbrev Ysl8Copy : List (Nat × Ent) := []
theorem Ysl8Copy_ok : TabOk Tryz.prog (getY Ysl8Copy) := tab_nil _
def fsl8CopyC {ρ : Type} (a0 : Config) (k : Config × Unit → Option ρ) : Option ρ :=
  iteP ((([] : List Int) ++ a0.replicas).length * 8 ≤ 2 ^ 40) (iteP ((([] : List Int) ++ a0.witnesses).length * 8 ≤ 2 ^ 40) (k ((⟨a0.epoch, a0.primary, (([] : List Int) ++ a0.replicas), (([] : List Int) ++ a0.witnesses)⟩ : Config), ())) none) none
def fsl8Copy (a0 : Config) : Option (Config × Unit) := fsl8CopyC a0 some
theorem fsl8Copy_k {ρ : Type} (a0 : Config) (k : Config × Unit → Option ρ) : fsl8CopyC a0 k = (fsl8Copy a0).bind k := by
  simp only [fsl8Copy, fsl8CopyC, iteP_bind, Option.bind_none, Option.bind_some]
abbrev Esl8Copy : Ent := entP [.ty (.st .config)] [.st .config] fun x => fsl8Copy x.1
theorem esl8Copy : EntOk Tryz.prog 162 Esl8Copy :=
  entP_of (Λ := getL []) (fn := Tryz.f162) Θ_ok Ysl8Copy_ok mixed_ok (by kernel_rfl) (hL_of (by kernel_rfl : _ = []) loops_nil) (by kernel_rfl) (fun x => fsl8Copy x.1)
    (fun x => Eq.trans (by kernel_rfl : _ = fsl8CopyC x.1 (fun y => ret (pairs [.st .config] y) fun v g => some (v, g))) (fsl8Copy_k x.1 _)) fun _ _ h => h
/-! loop.example/g01926/spec.ConfigAt -/
abbrev YsConfigAt : List (Nat × Ent) := [(109, EsIsMasterLog), (107, Esl1In), (162, Esl8Copy)]
theorem YsConfigAt_ok : TabOk Tryz.prog (getY YsConfigAt) := tab_cons esIsMasterLog <| tab_cons esl1In <| tab_cons esl8Copy <| tab_nil _
def fsConfigAtC {ρ : Type} (a0 : MasterLog) (a1 : Int) (k : Config × Bool × Unit → Option ρ) : Option ρ :=
  (fsIsMasterLog a0).bind fun y1 => br (!y1.1) (k ((⟨0, 0, ([] : List Int), ([] : List Int)⟩ : Config), false, ())) ((fsl1In a1 1 (a0.configs.length : Int)).bind fun y2 => br (!y2.1) (k ((⟨0, 0, ([] : List Int), ([] : List Int)⟩ : Config), false, ())) (iteP (0 ≤ (IntKind.wrap .i64 (a1 - 1))) ((a0.configs[(IntKind.wrap .i64 (a1 - 1)).toNat]?).bind fun x3 => (fsl8Copy x3).bind fun y4 => k (y4.1, true, ())) none))
def fsConfigAt (a0 : MasterLog) (a1 : Int) : Option (Config × Bool × Unit) := fsConfigAtC a0 a1 some
theorem fsConfigAt_k {ρ : Type} (a0 : MasterLog) (a1 : Int) (k : Config × Bool × Unit → Option ρ) : fsConfigAtC a0 a1 k = (fsConfigAt a0 a1).bind k := by
  simp only [fsConfigAt, fsConfigAtC, br_bind, iteP_bind, Option.bind_none, Option.bind_assoc, Option.bind_some]
abbrev EsConfigAt : Ent := entP [.ty (.st .masterLog), .ty (.i .i64)] [.st .config, .b] fun x => fsConfigAt x.1 x.2.1
theorem esConfigAt : EntOk Tryz.prog 114 EsConfigAt :=
  entP_of (Λ := getL []) (fn := Tryz.f114) Θ_ok YsConfigAt_ok mixed_ok (by kernel_rfl) (hL_of (by kernel_rfl : _ = []) loops_nil) (by kernel_rfl) (fun x => fsConfigAt x.1 x.2.1)
    (fun x => Eq.trans (by kernel_rfl : _ = fsConfigAtC x.1 x.2.1 (fun y => ret (pairs [.st .config, .b] y) fun v g => some (v, g))) (fsConfigAt_k x.1 x.2.1 _)) fun _ _ h => h
/-! loop.example/g01926/spec.IsValidCluster -/
abbrev YsIsValidCluster : List (Nat × Ent) := [(107, Esl1In), (108, EsAreSides), (109, EsIsMasterLog), (110, EsIsLease), (111, EsArePlaces), (112, EsIsValidServer), (113, Esl14Last), (114, EsConfigAt), (100, Esl14None), (101, EsEqualConfigs)]
theorem YsIsValidCluster_ok : TabOk Tryz.prog (getY YsIsValidCluster) := tab_cons esl1In <| tab_cons esAreSides <| tab_cons esIsMasterLog <| tab_cons esIsLease <| tab_cons esArePlaces <| tab_cons esIsValidServer <| tab_cons esl14Last <| tab_cons esConfigAt <| tab_cons esl14None <| tab_cons esEqualConfigs <| tab_nil _
noncomputable abbrev csIsValidCluster_4 : Code := loopAt (bodyOf Tryz.f48) 0
abbrev LsIsValidCluster_4 : LSh := ⟨[(1, .cl (.ptr 0 0)), (3, .cl (.int .i64))], [[.int .i64, .ro (.st .server), .ro (.i .i64), .ro (.st .config), .int .i64, .int .i64, .int .i64, .int .i64, .int .i64, .ro (.st .place)]], [], 0, 123⟩
abbrev XsIsValidCluster_4 : List (X × LSh) := [(.ret, ⟨[(2, .cl (.bl))], [], [], 0, 123⟩), (.ext 0, ⟨[(2, .cl (.dead))], [], [], 0, 123⟩)]
def bsIsValidCluster_4C {ρ : Type} (v7 : Int) (v8 : Int) (v9 : List Server) (v10 : List Int) (v11 : List Config) (v12 : Int) (v13 : Int) (v14 : Int) (v15 : Int) (v16 : Int) (v17 : List Place) (fn : ((Unit × Int × Unit) × ((Int × (List Server) × (List Int) × (List Config) × Int × Int × Int × Int × Int × (List Place) × Unit) × Unit) × (Unit)) → Option ρ) (fe : ((Bool × Unit) × (Unit) × (Unit)) ⊕ ((Unit × Unit) × (Unit) × (Unit)) → Option ρ) : Option ρ :=
  br (decide (v7 < (v9.length : Int))) (iteP (0 ≤ v7) ((v9[v7.toNat]?).bind fun x18 => (fsIsValidServer x18 v7).bind fun y19 => br (!y19.1) (fe (.inl ((false, ()), (()), (())))) (br (decide (x18.epoch > (v11.length : Int))) (fe (.inl ((false, ()), (()), (())))) ((fsl14Last x18.learned).bind fun y20 => br (decide (y20.1 > v12)) (fe (.inl ((false, ()), (()), (())))) ((fsConfigAt (⟨v11, v12⟩ : MasterLog) x18.config.epoch).bind fun y21 => (fsl14None x18.config).bind fun y22 => br (!y22.1) (br (!y21.2.1) (fe (.inl ((false, ()), (()), (())))) ((fsEqualConfigs y21.1 x18.config).bind fun y23 => br (!y23.1) (fe (.inl ((false, ()), (()), (())))) (br (decide (x18.config.epoch > v12)) (fe (.inl ((false, ()), (()), (())))) (fn (((), (IntKind.wrap .i64 (v7 + 1)), ()), ((v8, v9, v10, v11, v12, v13, v14, v15, v16, v17, ()), ()), (())))))) (fn (((), (IntKind.wrap .i64 (v7 + 1)), ()), ((v8, v9, v10, v11, v12, v13, v14, v15, v16, v17, ()), ()), (()))))))) none) (fe (.inr (((), ()), (()), (()))))
def bsIsValidCluster_4 (s : LsIsValidCluster_4.D) : Option (LsIsValidCluster_4.D ⊕ Exs.D XsIsValidCluster_4) := bsIsValidCluster_4C s.1.2.1 s.2.1.1.1 s.2.1.1.2.1 s.2.1.1.2.2.1 s.2.1.1.2.2.2.1 s.2.1.1.2.2.2.2.1 s.2.1.1.2.2.2.2.2.1 s.2.1.1.2.2.2.2.2.2.1 s.2.1.1.2.2.2.2.2.2.2.1 s.2.1.1.2.2.2.2.2.2.2.2.1 s.2.1.1.2.2.2.2.2.2.2.2.2.1 (fun s => some (.inl s)) (fun e => some (.inr e))
def lsIsValidCluster_4 : LsIsValidCluster_4.D → Option (Exs.D XsIsValidCluster_4) := lim bsIsValidCluster_4
theorem bsIsValidCluster_4_k {ρ : Type} (s : LsIsValidCluster_4.D) (fn : LsIsValidCluster_4.D → Option ρ) (fe : Exs.D XsIsValidCluster_4 → Option ρ) : bsIsValidCluster_4C s.1.2.1 s.2.1.1.1 s.2.1.1.2.1 s.2.1.1.2.2.1 s.2.1.1.2.2.2.1 s.2.1.1.2.2.2.2.1 s.2.1.1.2.2.2.2.2.1 s.2.1.1.2.2.2.2.2.2.1 s.2.1.1.2.2.2.2.2.2.2.1 s.2.1.1.2.2.2.2.2.2.2.2.1 s.2.1.1.2.2.2.2.2.2.2.2.2.1 fn fe = (bsIsValidCluster_4 s).bind (Sum.elim fn fe) := by
  simp only [bsIsValidCluster_4, bsIsValidCluster_4C, br_bind, iteP_bind, Option.bind_none, Option.bind_assoc, Option.bind_some, Sum.elim_inl, Sum.elim_inr]
abbrev EsIsValidCluster_4 : LoopE := loopE [] [1, 3] LsIsValidCluster_4 XsIsValidCluster_4 lsIsValidCluster_4
theorem bsIsValidCluster_4_ok (s : LsIsValidCluster_4.D) : evCK Θ (getY YsIsValidCluster) (getL []) csIsValidCluster_4 (LsIsValidCluster_4.mk' s) (tellK [1, 3] [2] fun x S => some (x, S)) = (bsIsValidCluster_4 s).bind (Sum.elim (fun s' => some (.nor, LsIsValidCluster_4.mk' s')) fun e => some (Exs.e XsIsValidCluster_4 e)) :=
  Eq.trans (by kernel_rfl : _ = bsIsValidCluster_4C s.1.2.1 s.2.1.1.1 s.2.1.1.2.1 s.2.1.1.2.2.1 s.2.1.1.2.2.2.1 s.2.1.1.2.2.2.2.1 s.2.1.1.2.2.2.2.2.1 s.2.1.1.2.2.2.2.2.2.1 s.2.1.1.2.2.2.2.2.2.2.1 s.2.1.1.2.2.2.2.2.2.2.2.1 s.2.1.1.2.2.2.2.2.2.2.2.2.1 (fun s' => some (.nor, LsIsValidCluster_4.mk' s')) (fun e => some (Exs.e XsIsValidCluster_4 e))) (bsIsValidCluster_4_k s _ _)
theorem lsIsValidCluster_4_ok : LoopOk Tryz.prog csIsValidCluster_4 EsIsValidCluster_4 := loopE_ok Θ_ok YsIsValidCluster_ok mixed_ok (by kernel_rfl) (hL_in (by kernel_rfl : _ = []) loops_nil) [] [1, 3] [2] LsIsValidCluster_4 XsIsValidCluster_4 (by kernel_rfl) bsIsValidCluster_4 bsIsValidCluster_4_ok lsIsValidCluster_4 (limN bsIsValidCluster_4) (lim_round bsIsValidCluster_4)
def fsIsValidClusterC {ρ : Type} (a0 : Cluster) (k : Bool × Unit → Option ρ) : Option ρ :=
  (fsl1In a0.now 0 999).bind fun y1 => br (!y1.1) (k (false, ())) (br (!((a0.servers.length : Int) == 5)) (k (false, ())) ((fsAreSides a0.sides).bind fun y2 => br (!y2.1) (k (false, ())) ((fsIsMasterLog a0.master).bind fun y3 => br (!y3.1) (k (false, ())) ((fsl1In a0.masterUp 0 3).bind fun y4 => br (!y4.1) (k (false, ())) ((fsIsLease a0.lease).bind fun y5 => br (!y5.1) (k (false, ())) ((fsArePlaces a0.places).bind fun y6 => br (!y6.1) (k (false, ())) (br (decide (a0.lease.epoch > a0.master.activated)) (k (false, ())) ((lsIsValidCluster_4 (((), 0, ()), ((a0.now, a0.servers, a0.sides, a0.master.configs, a0.master.activated, a0.masterUp, a0.lease.epoch, a0.lease.holder, a0.lease.ends, a0.places, ()), ()), (()))).bind fun e24 => Sum.elim (fun e24_ => k (e24_.1.1, ())) (fun e24_ => k (true, ())) e24))))))))
def fsIsValidCluster (a0 : Cluster) : Option (Bool × Unit) := fsIsValidClusterC a0 some
theorem fsIsValidCluster_k {ρ : Type} (a0 : Cluster) (k : Bool × Unit → Option ρ) : fsIsValidClusterC a0 k = (fsIsValidCluster a0).bind k := by
  simp only [fsIsValidCluster, fsIsValidClusterC, br_bind, elim_bind, Option.bind_assoc, Option.bind_some]
abbrev EsIsValidCluster : Ent := entP [.ty (.st .cluster)] [.b] fun x => fsIsValidCluster x.1
theorem esIsValidCluster : EntOk Tryz.prog 48 EsIsValidCluster :=
  entP_of (Λ := getL [(key csIsValidCluster_4, EsIsValidCluster_4)]) (fn := Tryz.f48) Θ_ok YsIsValidCluster_ok mixed_ok (by kernel_rfl) (hL_of (by kernel_rfl : _ = [csIsValidCluster_4]) (loops_one (q := key csIsValidCluster_4) rfl lsIsValidCluster_4_ok fun _ _ _ => by kernel_rfl)) (by kernel_rfl) (fun x => fsIsValidCluster x.1)
    (fun x => Eq.trans (by kernel_rfl : _ = fsIsValidClusterC x.1 (fun y => ret (pairs [.b] y) fun v g => some (v, g))) (fsIsValidCluster_k x.1 _)) fun _ _ h => h
/-! loop.example/g01926/spec.UpServers -/
abbrev YsUpServers : List (Nat × Ent) := [(48, EsIsValidCluster)]
theorem YsUpServers_ok : TabOk Tryz.prog (getY YsUpServers) := tab_cons esIsValidCluster <| tab_nil _
noncomputable abbrev csUpServers_3 : Code := loopAt (bodyOf Tryz.f134) 0
abbrev LsUpServers_3 : LSh := ⟨[(1, .cl (.ptr 0 0)), (3, .cl (.own 0 (.i .i64))), (4, .cl (.int .i64))], [[.int .i64, .ro (.st .server), .ro (.i .i64), .ro (.st .config), .int .i64, .int .i64, .int .i64, .int .i64, .int .i64, .ro (.st .place)]], [.i .i64], 0, 28⟩
abbrev XsUpServers_3 : List (X × LSh) := [(.ext 0, ⟨[(3, .cl (.own 0 (.i .i64)))], [], [.i .i64], 0, 28⟩)]
def bsUpServers_3C {ρ : Type} (v1 : List Int) (v2 : Int) (v3 : Int) (v4 : List Server) (v5 : List Int) (v6 : List Config) (v7 : Int) (v8 : Int) (v9 : Int) (v10 : Int) (v11 : Int) (v12 : List Place) (fn : ((Unit × Unit × Int × Unit) × ((Int × (List Server) × (List Int) × (List Config) × Int × Int × Int × Int × Int × (List Place) × Unit) × Unit) × ((List Int) × Unit)) → Option ρ) (fe : ((Unit × Unit) × (Unit) × ((List Int) × Unit)) → Option ρ) : Option ρ :=
  br (decide (v2 < (v4.length : Int))) ((fsIsValidCluster (⟨v3, v4, v5, (⟨v6, v7⟩ : MasterLog), v8, (⟨v9, v10, v11⟩ : Lease), v12⟩ : Cluster)).bind fun y13 => br y13.1 (iteP (0 ≤ v2) ((v4[v2.toNat]?).bind fun x14 => br x14.up (iteP ((v1 ++ ([v2] : List Int)).length * 8 ≤ 2 ^ 40) (fn (((), (), (IntKind.wrap .i64 (v2 + 1)), ()), ((v3, v4, v5, v6, v7, v8, v9, v10, v11, v12, ()), ()), ((v1 ++ ([v2] : List Int)), ()))) none) (fn (((), (), (IntKind.wrap .i64 (v2 + 1)), ()), ((v3, v4, v5, v6, v7, v8, v9, v10, v11, v12, ()), ()), (v1, ())))) none) (fe (((), ()), (()), (v1, ())))) (fe (((), ()), (()), (v1, ())))
def bsUpServers_3 (s : LsUpServers_3.D) : Option (LsUpServers_3.D ⊕ Exs.D XsUpServers_3) := bsUpServers_3C s.2.2.1 s.1.2.2.1 s.2.1.1.1 s.2.1.1.2.1 s.2.1.1.2.2.1 s.2.1.1.2.2.2.1 s.2.1.1.2.2.2.2.1 s.2.1.1.2.2.2.2.2.1 s.2.1.1.2.2.2.2.2.2.1 s.2.1.1.2.2.2.2.2.2.2.1 s.2.1.1.2.2.2.2.2.2.2.2.1 s.2.1.1.2.2.2.2.2.2.2.2.2.1 (fun s => some (.inl s)) (fun e => some (.inr e))
def lsUpServers_3 : LsUpServers_3.D → Option (Exs.D XsUpServers_3) := lim bsUpServers_3
theorem bsUpServers_3_k {ρ : Type} (s : LsUpServers_3.D) (fn : LsUpServers_3.D → Option ρ) (fe : Exs.D XsUpServers_3 → Option ρ) : bsUpServers_3C s.2.2.1 s.1.2.2.1 s.2.1.1.1 s.2.1.1.2.1 s.2.1.1.2.2.1 s.2.1.1.2.2.2.1 s.2.1.1.2.2.2.2.1 s.2.1.1.2.2.2.2.2.1 s.2.1.1.2.2.2.2.2.2.1 s.2.1.1.2.2.2.2.2.2.2.1 s.2.1.1.2.2.2.2.2.2.2.2.1 s.2.1.1.2.2.2.2.2.2.2.2.2.1 fn fe = (bsUpServers_3 s).bind (Sum.elim fn fe) := by
  simp only [bsUpServers_3, bsUpServers_3C, br_bind, iteP_bind, Option.bind_none, Option.bind_assoc, Option.bind_some, Sum.elim_inl, Sum.elim_inr]
abbrev EsUpServers_3 : LoopE := loopE [] [1, 3, 4] LsUpServers_3 XsUpServers_3 lsUpServers_3
theorem bsUpServers_3_ok (s : LsUpServers_3.D) : evCK Θ (getY YsUpServers) (getL []) csUpServers_3 (LsUpServers_3.mk' s) (tellK [1, 3, 4] [3] fun x S => some (x, S)) = (bsUpServers_3 s).bind (Sum.elim (fun s' => some (.nor, LsUpServers_3.mk' s')) fun e => some (Exs.e XsUpServers_3 e)) :=
  Eq.trans (by kernel_rfl : _ = bsUpServers_3C s.2.2.1 s.1.2.2.1 s.2.1.1.1 s.2.1.1.2.1 s.2.1.1.2.2.1 s.2.1.1.2.2.2.1 s.2.1.1.2.2.2.2.1 s.2.1.1.2.2.2.2.2.1 s.2.1.1.2.2.2.2.2.2.1 s.2.1.1.2.2.2.2.2.2.2.1 s.2.1.1.2.2.2.2.2.2.2.2.1 s.2.1.1.2.2.2.2.2.2.2.2.2.1 (fun s' => some (.nor, LsUpServers_3.mk' s')) (fun e => some (Exs.e XsUpServers_3 e))) (bsUpServers_3_k s _ _)
theorem lsUpServers_3_ok : LoopOk Tryz.prog csUpServers_3 EsUpServers_3 := loopE_ok Θ_ok YsUpServers_ok mixed_ok (by kernel_rfl) (hL_in (by kernel_rfl : _ = []) loops_nil) [] [1, 3, 4] [3] LsUpServers_3 XsUpServers_3 (by kernel_rfl) bsUpServers_3 bsUpServers_3_ok lsUpServers_3 (limN bsUpServers_3) (lim_round bsUpServers_3)
def fsUpServersC {ρ : Type} (a0 : Cluster) (k : (List Int) × Unit → Option ρ) : Option ρ :=
  (lsUpServers_3 (((), (), 0, ()), ((a0.now, a0.servers, a0.sides, a0.master.configs, a0.master.activated, a0.masterUp, a0.lease.epoch, a0.lease.holder, a0.lease.ends, a0.places, ()), ()), (([] : List Int), ()))).bind fun e15 => k (e15.2.2.1, ())
def fsUpServers (a0 : Cluster) : Option ((List Int) × Unit) := fsUpServersC a0 some
theorem fsUpServers_k {ρ : Type} (a0 : Cluster) (k : (List Int) × Unit → Option ρ) : fsUpServersC a0 k = (fsUpServers a0).bind k := by
  simp only [fsUpServers, fsUpServersC, Option.bind_assoc, Option.bind_some]
abbrev EsUpServers : Ent := entP [.ty (.st .cluster)] [.ls (.i .i64)] fun x => fsUpServers x.1
theorem esUpServers : EntOk Tryz.prog 134 EsUpServers :=
  entP_of (Λ := getL [(key csUpServers_3, EsUpServers_3)]) (fn := Tryz.f134) Θ_ok YsUpServers_ok mixed_ok (by kernel_rfl) (hL_of (by kernel_rfl : _ = [csUpServers_3]) (loops_one (q := key csUpServers_3) rfl lsUpServers_3_ok fun _ _ _ => by kernel_rfl)) (by kernel_rfl) (fun x => fsUpServers x.1)
    (fun x => Eq.trans (by kernel_rfl : _ = fsUpServersC x.1 (fun y => ret (pairs [.ls (.i .i64)] y) fun v g => some (v, g))) (fsUpServers_k x.1 _)) fun _ _ h => h
/-! loop.example/g01926/spec.MasterSide -/
abbrev YsMasterSide : List (Nat × Ent) := [(108, EsAreSides)]
theorem YsMasterSide_ok : TabOk Tryz.prog (getY YsMasterSide) := tab_cons esAreSides <| tab_nil _
noncomputable abbrev csMasterSide_3 : Code := loopAt (bodyOf Tryz.f135) 0
abbrev LsMasterSide_3 : LSh := ⟨[(0, .cl (.ro (.i .i64))), (3, .cl (.own 0 (.i .i64))), (4, .cl (.int .i64))], [], [.i .i64], 0, 26⟩
abbrev XsMasterSide_3 : List (X × LSh) := [(.ext 0, ⟨[(3, .cl (.own 0 (.i .i64)))], [], [.i .i64], 0, 26⟩)]
def bsMasterSide_3C {ρ : Type} (v1 : List Int) (v2 : List Int) (v3 : Int) (fn : (((List Int) × Unit × Int × Unit) × (Unit) × ((List Int) × Unit)) → Option ρ) (fe : ((Unit × Unit) × (Unit) × ((List Int) × Unit)) → Option ρ) : Option ρ :=
  br (decide (v3 < (v2.length : Int))) ((fsAreSides v2).bind fun y4 => br y4.1 (iteP (0 ≤ v3) ((v2[v3.toNat]?).bind fun x5 => br (x5 == 0) (iteP ((v1 ++ ([v3] : List Int)).length * 8 ≤ 2 ^ 40) (fn ((v2, (), (IntKind.wrap .i64 (v3 + 1)), ()), (()), ((v1 ++ ([v3] : List Int)), ()))) none) (fn ((v2, (), (IntKind.wrap .i64 (v3 + 1)), ()), (()), (v1, ())))) none) (fe (((), ()), (()), (v1, ())))) (fe (((), ()), (()), (v1, ())))
def bsMasterSide_3 (s : LsMasterSide_3.D) : Option (LsMasterSide_3.D ⊕ Exs.D XsMasterSide_3) := bsMasterSide_3C s.2.2.1 s.1.1 s.1.2.2.1 (fun s => some (.inl s)) (fun e => some (.inr e))
def lsMasterSide_3 : LsMasterSide_3.D → Option (Exs.D XsMasterSide_3) := lim bsMasterSide_3
theorem bsMasterSide_3_k {ρ : Type} (s : LsMasterSide_3.D) (fn : LsMasterSide_3.D → Option ρ) (fe : Exs.D XsMasterSide_3 → Option ρ) : bsMasterSide_3C s.2.2.1 s.1.1 s.1.2.2.1 fn fe = (bsMasterSide_3 s).bind (Sum.elim fn fe) := by
  simp only [bsMasterSide_3, bsMasterSide_3C, br_bind, iteP_bind, Option.bind_none, Option.bind_assoc, Option.bind_some, Sum.elim_inl, Sum.elim_inr]
abbrev EsMasterSide_3 : LoopE := loopE [] [0, 3, 4] LsMasterSide_3 XsMasterSide_3 lsMasterSide_3
theorem bsMasterSide_3_ok (s : LsMasterSide_3.D) : evCK Θ (getY YsMasterSide) (getL []) csMasterSide_3 (LsMasterSide_3.mk' s) (tellK [0, 3, 4] [3] fun x S => some (x, S)) = (bsMasterSide_3 s).bind (Sum.elim (fun s' => some (.nor, LsMasterSide_3.mk' s')) fun e => some (Exs.e XsMasterSide_3 e)) :=
  Eq.trans (by kernel_rfl : _ = bsMasterSide_3C s.2.2.1 s.1.1 s.1.2.2.1 (fun s' => some (.nor, LsMasterSide_3.mk' s')) (fun e => some (Exs.e XsMasterSide_3 e))) (bsMasterSide_3_k s _ _)
theorem lsMasterSide_3_ok : LoopOk Tryz.prog csMasterSide_3 EsMasterSide_3 := loopE_ok Θ_ok YsMasterSide_ok mixed_ok (by kernel_rfl) (hL_in (by kernel_rfl : _ = []) loops_nil) [] [0, 3, 4] [3] LsMasterSide_3 XsMasterSide_3 (by kernel_rfl) bsMasterSide_3 bsMasterSide_3_ok lsMasterSide_3 (limN bsMasterSide_3) (lim_round bsMasterSide_3)
def fsMasterSideC {ρ : Type} (a0 : List Int) (k : (List Int) × Unit → Option ρ) : Option ρ :=
  (lsMasterSide_3 ((a0, (), 0, ()), (()), (([] : List Int), ()))).bind fun e6 => k (e6.2.2.1, ())
def fsMasterSide (a0 : List Int) : Option ((List Int) × Unit) := fsMasterSideC a0 some
theorem fsMasterSide_k {ρ : Type} (a0 : List Int) (k : (List Int) × Unit → Option ρ) : fsMasterSideC a0 k = (fsMasterSide a0).bind k := by
  simp only [fsMasterSide, fsMasterSideC, Option.bind_assoc, Option.bind_some]
abbrev EsMasterSide : Ent := entP [.ty (.ls (.i .i64))] [.ls (.i .i64)] fun x => fsMasterSide x.1
theorem esMasterSide : EntOk Tryz.prog 135 EsMasterSide :=
  entP_of (Λ := getL [(key csMasterSide_3, EsMasterSide_3)]) (fn := Tryz.f135) Θ_ok YsMasterSide_ok mixed_ok (by kernel_rfl) (hL_of (by kernel_rfl : _ = [csMasterSide_3]) (loops_one (q := key csMasterSide_3) rfl lsMasterSide_3_ok fun _ _ _ => by kernel_rfl)) (by kernel_rfl) (fun x => fsMasterSide x.1)
    (fun x => Eq.trans (by kernel_rfl : _ = fsMasterSideC x.1 (fun y => ret (pairs [.ls (.i .i64)] y) fun v g => some (v, g))) (fsMasterSide_k x.1 _)) fun _ _ h => h
/-! loop.example/g01926/spec.l25Alive -/
abbrev Ysl25Alive : List (Nat × Ent) := [(134, EsUpServers), (135, EsMasterSide), (133, EsCommonServers)]
theorem Ysl25Alive_ok : TabOk Tryz.prog (getY Ysl25Alive) := tab_cons esUpServers <| tab_cons esMasterSide <| tab_cons esCommonServers <| tab_nil _
def fsl25AliveC {ρ : Type} (a0 : Cluster) (k : (List Int) × Unit → Option ρ) : Option ρ :=
  (fsUpServers a0).bind fun y1 => (fsMasterSide a0.sides).bind fun y2 => (fsCommonServers y1.1 y2.1).bind fun y3 => k (y3.1, ())
def fsl25Alive (a0 : Cluster) : Option ((List Int) × Unit) := fsl25AliveC a0 some
theorem fsl25Alive_k {ρ : Type} (a0 : Cluster) (k : (List Int) × Unit → Option ρ) : fsl25AliveC a0 k = (fsl25Alive a0).bind k := by
  simp only [fsl25Alive, fsl25AliveC, Option.bind_assoc, Option.bind_some]
abbrev Esl25Alive : Ent := entP [.ty (.st .cluster)] [.ls (.i .i64)] fun x => fsl25Alive x.1
theorem esl25Alive : EntOk Tryz.prog 68 Esl25Alive :=
  entP_of (Λ := getL []) (fn := Tryz.f68) Θ_ok Ysl25Alive_ok mixed_ok (by kernel_rfl) (hL_of (by kernel_rfl : _ = []) loops_nil) (by kernel_rfl) (fun x => fsl25Alive x.1)
    (fun x => Eq.trans (by kernel_rfl : _ = fsl25AliveC x.1 (fun y => ret (pairs [.ls (.i .i64)] y) fun v g => some (v, g))) (fsl25Alive_k x.1 _)) fun _ _ h => h
/-! loop.example/g01926/spec.l5Copy -/
abbrev Ysl5Copy : List (Nat × Ent) := []
theorem Ysl5Copy_ok : TabOk Tryz.prog (getY Ysl5Copy) := tab_nil _
def fsl5CopyC {ρ : Type} (a0 : List Entry) (k : (List Entry) × Unit → Option ρ) : Option ρ :=
  iteP ((([] : List Entry) ++ a0).length * 56 ≤ 2 ^ 40) (k ((([] : List Entry) ++ a0), ())) none
def fsl5Copy (a0 : List Entry) : Option ((List Entry) × Unit) := fsl5CopyC a0 some
theorem fsl5Copy_k {ρ : Type} (a0 : List Entry) (k : (List Entry) × Unit → Option ρ) : fsl5CopyC a0 k = (fsl5Copy a0).bind k := by
  simp only [fsl5Copy, fsl5CopyC, iteP_bind, Option.bind_none, Option.bind_some]
abbrev Esl5Copy : Ent := entP [.ty (.ls (.st .entry))] [.ls (.st .entry)] fun x => fsl5Copy x.1
theorem esl5Copy : EntOk Tryz.prog 91 Esl5Copy :=
  entP_of (Λ := getL []) (fn := Tryz.f91) Θ_ok Ysl5Copy_ok mixed_ok (by kernel_rfl) (hL_of (by kernel_rfl : _ = []) loops_nil) (by kernel_rfl) (fun x => fsl5Copy x.1)
    (fun x => Eq.trans (by kernel_rfl : _ = fsl5CopyC x.1 (fun y => ret (pairs [.ls (.st .entry)] y) fun v g => some (v, g))) (fsl5Copy_k x.1 _)) fun _ _ h => h
/-! loop.example/g01926/spec.CommittedPart -/
abbrev YsCommittedPart : List (Nat × Ent) := [(107, Esl1In), (91, Esl5Copy)]
theorem YsCommittedPart_ok : TabOk Tryz.prog (getY YsCommittedPart) := tab_cons esl1In <| tab_cons esl5Copy <| tab_nil _
def fsCommittedPartC {ρ : Type} (a0 : Server) (k : (List Entry) × Unit → Option ρ) : Option ρ :=
  (fsl1In a0.commit a0.first (IntKind.wrap .i64 (a0.first + (a0.log.length : Int)))).bind fun y1 => br (!y1.1) (k (([] : List Entry), ())) (br (decide (a0.first < 0)) (k (([] : List Entry), ())) (iteP (0 ≤ (0 : Int) ∧ (0 : Int) ≤ (IntKind.wrap .i64 (a0.commit - a0.first)) ∧ (IntKind.wrap .i64 (a0.commit - a0.first)) ≤ (a0.log.length : Int)) ((fsl5Copy ((a0.log.drop (0 : Int).toNat).take ((IntKind.wrap .i64 (a0.commit - a0.first)).toNat - (0 : Int).toNat))).bind fun y2 => k (y2.1, ())) none))
def fsCommittedPart (a0 : Server) : Option ((List Entry) × Unit) := fsCommittedPartC a0 some
theorem fsCommittedPart_k {ρ : Type} (a0 : Server) (k : (List Entry) × Unit → Option ρ) : fsCommittedPartC a0 k = (fsCommittedPart a0).bind k := by
  simp only [fsCommittedPart, fsCommittedPartC, br_bind, iteP_bind, Option.bind_none, Option.bind_assoc, Option.bind_some]
abbrev EsCommittedPart : Ent := entP [.ty (.st .server)] [.ls (.st .entry)] fun x => fsCommittedPart x.1
theorem esCommittedPart : EntOk Tryz.prog 63 EsCommittedPart :=
  entP_of (Λ := getL []) (fn := Tryz.f63) Θ_ok YsCommittedPart_ok mixed_ok (by kernel_rfl) (hL_of (by kernel_rfl : _ = []) loops_nil) (by kernel_rfl) (fun x => fsCommittedPart x.1)
    (fun x => Eq.trans (by kernel_rfl : _ = fsCommittedPartC x.1 (fun y => ret (pairs [.ls (.st .entry)] y) fun v g => some (v, g))) (fsCommittedPart_k x.1 _)) fun _ _ h => h
/-! loop.example/g01926/spec.l22Base -/
abbrev Ysl22Base : List (Nat × Ent) := [(161, EsRoleOf), (91, Esl5Copy), (63, EsCommittedPart)]
theorem Ysl22Base_ok : TabOk Tryz.prog (getY Ysl22Base) := tab_cons esRoleOf <| tab_cons esl5Copy <| tab_cons esCommittedPart <| tab_nil _
def fsl22BaseC {ρ : Type} (a0 : Server) (a1 : Int) (k : (List Entry) × Unit → Option ρ) : Option ρ :=
  (fsRoleOf a0.config a1).bind fun y1 => (fsl5Copy a0.learned).bind fun y2 => br (y1.1 == 1) ((fsCommittedPart a0).bind fun y3 => br (decide ((y3.1.length : Int) > (y2.1.length : Int))) (k (y3.1, ())) (k (y2.1, ()))) (br (y1.1 == 2) ((fsCommittedPart a0).bind fun y4 => br (decide ((y4.1.length : Int) > (y2.1.length : Int))) (k (y4.1, ())) (k (y2.1, ()))) (k (y2.1, ())))
def fsl22Base (a0 : Server) (a1 : Int) : Option ((List Entry) × Unit) := fsl22BaseC a0 a1 some
theorem fsl22Base_k {ρ : Type} (a0 : Server) (a1 : Int) (k : (List Entry) × Unit → Option ρ) : fsl22BaseC a0 a1 k = (fsl22Base a0 a1).bind k := by
  simp only [fsl22Base, fsl22BaseC, br_bind, Option.bind_assoc, Option.bind_some]
abbrev Esl22Base : Ent := entP [.ty (.st .server), .ty (.i .i64)] [.ls (.st .entry)] fun x => fsl22Base x.1 x.2.1
theorem esl22Base : EntOk Tryz.prog 136 Esl22Base :=
  entP_of (Λ := getL []) (fn := Tryz.f136) Θ_ok Ysl22Base_ok mixed_ok (by kernel_rfl) (hL_of (by kernel_rfl : _ = []) loops_nil) (by kernel_rfl) (fun x => fsl22Base x.1 x.2.1)
    (fun x => Eq.trans (by kernel_rfl : _ = fsl22BaseC x.1 x.2.1 (fun y => ret (pairs [.ls (.st .entry)] y) fun v g => some (v, g))) (fsl22Base_k x.1 x.2.1 _)) fun _ _ h => h
/-! loop.example/g01926/spec.l29Data -/
abbrev Ysl29Data : List (Nat × Ent) := [(136, Esl22Base)]
theorem Ysl29Data_ok : TabOk Tryz.prog (getY Ysl29Data) := tab_cons esl22Base <| tab_nil _
def fsl29DataC {ρ : Type} (a0 : Cluster) (a1 : Int) (k : (List Entry) × Unit → Option ρ) : Option ρ :=
  iteP (0 ≤ a1) ((a0.servers[a1.toNat]?).bind fun x1 => (fsl22Base x1 a1).bind fun y2 => k (y2.1, ())) none
def fsl29Data (a0 : Cluster) (a1 : Int) : Option ((List Entry) × Unit) := fsl29DataC a0 a1 some
theorem fsl29Data_k {ρ : Type} (a0 : Cluster) (a1 : Int) (k : (List Entry) × Unit → Option ρ) : fsl29DataC a0 a1 k = (fsl29Data a0 a1).bind k := by
  simp only [fsl29Data, fsl29DataC, iteP_bind, Option.bind_none, Option.bind_assoc, Option.bind_some]
abbrev Esl29Data : Ent := entP [.ty (.st .cluster), .ty (.i .i64)] [.ls (.st .entry)] fun x => fsl29Data x.1 x.2.1
theorem esl29Data : EntOk Tryz.prog 69 Esl29Data :=
  entP_of (Λ := getL []) (fn := Tryz.f69) Θ_ok Ysl29Data_ok mixed_ok (by kernel_rfl) (hL_of (by kernel_rfl : _ = []) loops_nil) (by kernel_rfl) (fun x => fsl29Data x.1 x.2.1)
    (fun x => Eq.trans (by kernel_rfl : _ = fsl29DataC x.1 x.2.1 (fun y => ret (pairs [.ls (.st .entry)] y) fun v g => some (v, g))) (fsl29Data_k x.1 x.2.1 _)) fun _ _ h => h
/-! loop.example/g01926/spec.LongestSurvivor -/
abbrev YsLongestSurvivor : List (Nat × Ent) := [(68, Esl25Alive), (48, EsIsValidCluster), (69, Esl29Data)]
theorem YsLongestSurvivor_ok : TabOk Tryz.prog (getY YsLongestSurvivor) := tab_cons esl25Alive <| tab_cons esIsValidCluster <| tab_cons esl29Data <| tab_nil _
noncomputable abbrev csLongestSurvivor_4 : Code := loopAt (bodyOf Tryz.f24) 0
abbrev LsLongestSurvivor_4 : LSh := ⟨[(1, .cl (.ptr 0 0)), (3, .cl (.int .i64)), (4, .cl (.own 0 (.i .i64))), (5, .cl (.int .i64))], [[.int .i64, .ro (.st .server), .ro (.i .i64), .ro (.st .config), .int .i64, .int .i64, .int .i64, .int .i64, .int .i64, .ro (.st .place)]], [.i .i64], 0, 39⟩
abbrev XsLongestSurvivor_4 : List (X × LSh) := [(.ext 0, ⟨[(3, .cl (.int .i64))], [], [], 0, 39⟩)]
def bsLongestSurvivor_4C {ρ : Type} (v2 : List Int) (v3 : Int) (v4 : Int) (v5 : Int) (v6 : List Server) (v7 : List Int) (v8 : List Config) (v9 : Int) (v10 : Int) (v11 : Int) (v12 : Int) (v13 : Int) (v14 : List Place) (fn : ((Unit × Int × Unit × Int × Unit) × ((Int × (List Server) × (List Int) × (List Config) × Int × Int × Int × Int × Int × (List Place) × Unit) × Unit) × ((List Int) × Unit)) → Option ρ) (fe : ((Int × Unit) × (Unit) × (Unit)) → Option ρ) : Option ρ :=
  br (decide (v4 < (v2.length : Int))) ((fsIsValidCluster (⟨v5, v6, v7, (⟨v8, v9⟩ : MasterLog), v10, (⟨v11, v12, v13⟩ : Lease), v14⟩ : Cluster)).bind fun y15 => br y15.1 (br (decide (v3 < 0)) (iteP (0 ≤ v4 ∧ v4 < (v2.length : Int)) ((v2[v4.toNat]?).bind fun x16 => fn (((), x16, (), (IntKind.wrap .i64 (v4 + 1)), ()), ((v5, v6, v7, v8, v9, v10, v11, v12, v13, v14, ()), ()), (v2, ()))) none) (iteP (0 ≤ v4 ∧ v4 < (v2.length : Int)) ((v2[v4.toNat]?).bind fun x17 => (fsl29Data (⟨v5, v6, v7, (⟨v8, v9⟩ : MasterLog), v10, (⟨v11, v12, v13⟩ : Lease), v14⟩ : Cluster) x17).bind fun y18 => (fsl29Data (⟨v5, v6, v7, (⟨v8, v9⟩ : MasterLog), v10, (⟨v11, v12, v13⟩ : Lease), v14⟩ : Cluster) v3).bind fun y19 => br (decide ((y18.1.length : Int) > (y19.1.length : Int))) (iteP (0 ≤ v4 ∧ v4 < (v2.length : Int)) ((v2[v4.toNat]?).bind fun x20 => fn (((), x20, (), (IntKind.wrap .i64 (v4 + 1)), ()), ((v5, v6, v7, v8, v9, v10, v11, v12, v13, v14, ()), ()), (v2, ()))) none) (fn (((), v3, (), (IntKind.wrap .i64 (v4 + 1)), ()), ((v5, v6, v7, v8, v9, v10, v11, v12, v13, v14, ()), ()), (v2, ())))) none)) (fe ((v3, ()), (()), (())))) (fe ((v3, ()), (()), (())))
def bsLongestSurvivor_4 (s : LsLongestSurvivor_4.D) : Option (LsLongestSurvivor_4.D ⊕ Exs.D XsLongestSurvivor_4) := bsLongestSurvivor_4C s.2.2.1 s.1.2.1 s.1.2.2.2.1 s.2.1.1.1 s.2.1.1.2.1 s.2.1.1.2.2.1 s.2.1.1.2.2.2.1 s.2.1.1.2.2.2.2.1 s.2.1.1.2.2.2.2.2.1 s.2.1.1.2.2.2.2.2.2.1 s.2.1.1.2.2.2.2.2.2.2.1 s.2.1.1.2.2.2.2.2.2.2.2.1 s.2.1.1.2.2.2.2.2.2.2.2.2.1 (fun s => some (.inl s)) (fun e => some (.inr e))
def lsLongestSurvivor_4 : LsLongestSurvivor_4.D → Option (Exs.D XsLongestSurvivor_4) := lim bsLongestSurvivor_4
theorem bsLongestSurvivor_4_k {ρ : Type} (s : LsLongestSurvivor_4.D) (fn : LsLongestSurvivor_4.D → Option ρ) (fe : Exs.D XsLongestSurvivor_4 → Option ρ) : bsLongestSurvivor_4C s.2.2.1 s.1.2.1 s.1.2.2.2.1 s.2.1.1.1 s.2.1.1.2.1 s.2.1.1.2.2.1 s.2.1.1.2.2.2.1 s.2.1.1.2.2.2.2.1 s.2.1.1.2.2.2.2.2.1 s.2.1.1.2.2.2.2.2.2.1 s.2.1.1.2.2.2.2.2.2.2.1 s.2.1.1.2.2.2.2.2.2.2.2.1 s.2.1.1.2.2.2.2.2.2.2.2.2.1 fn fe = (bsLongestSurvivor_4 s).bind (Sum.elim fn fe) := by
  simp only [bsLongestSurvivor_4, bsLongestSurvivor_4C, br_bind, iteP_bind, Option.bind_none, Option.bind_assoc, Option.bind_some, Sum.elim_inl, Sum.elim_inr]
abbrev EsLongestSurvivor_4 : LoopE := loopE [] [1, 3, 4, 5] LsLongestSurvivor_4 XsLongestSurvivor_4 lsLongestSurvivor_4
theorem bsLongestSurvivor_4_ok (s : LsLongestSurvivor_4.D) : evCK Θ (getY YsLongestSurvivor) (getL []) csLongestSurvivor_4 (LsLongestSurvivor_4.mk' s) (tellK [1, 3, 4, 5] [3] fun x S => some (x, S)) = (bsLongestSurvivor_4 s).bind (Sum.elim (fun s' => some (.nor, LsLongestSurvivor_4.mk' s')) fun e => some (Exs.e XsLongestSurvivor_4 e)) :=
  Eq.trans (by kernel_rfl : _ = bsLongestSurvivor_4C s.2.2.1 s.1.2.1 s.1.2.2.2.1 s.2.1.1.1 s.2.1.1.2.1 s.2.1.1.2.2.1 s.2.1.1.2.2.2.1 s.2.1.1.2.2.2.2.1 s.2.1.1.2.2.2.2.2.1 s.2.1.1.2.2.2.2.2.2.1 s.2.1.1.2.2.2.2.2.2.2.1 s.2.1.1.2.2.2.2.2.2.2.2.1 s.2.1.1.2.2.2.2.2.2.2.2.2.1 (fun s' => some (.nor, LsLongestSurvivor_4.mk' s')) (fun e => some (Exs.e XsLongestSurvivor_4 e))) (bsLongestSurvivor_4_k s _ _)
theorem lsLongestSurvivor_4_ok : LoopOk Tryz.prog csLongestSurvivor_4 EsLongestSurvivor_4 := loopE_ok Θ_ok YsLongestSurvivor_ok mixed_ok (by kernel_rfl) (hL_in (by kernel_rfl : _ = []) loops_nil) [] [1, 3, 4, 5] [3] LsLongestSurvivor_4 XsLongestSurvivor_4 (by kernel_rfl) bsLongestSurvivor_4 bsLongestSurvivor_4_ok lsLongestSurvivor_4 (limN bsLongestSurvivor_4) (lim_round bsLongestSurvivor_4)
def fsLongestSurvivorC {ρ : Type} (a0 : Cluster) (k : Int × Unit → Option ρ) : Option ρ :=
  (fsl25Alive a0).bind fun y1 => (lsLongestSurvivor_4 (((), (-1), (), 0, ()), ((a0.now, a0.servers, a0.sides, a0.master.configs, a0.master.activated, a0.masterUp, a0.lease.epoch, a0.lease.holder, a0.lease.ends, a0.places, ()), ()), (y1.1, ()))).bind fun e21 => k (e21.1.1, ())
def fsLongestSurvivor (a0 : Cluster) : Option (Int × Unit) := fsLongestSurvivorC a0 some
theorem fsLongestSurvivor_k {ρ : Type} (a0 : Cluster) (k : Int × Unit → Option ρ) : fsLongestSurvivorC a0 k = (fsLongestSurvivor a0).bind k := by
  simp only [fsLongestSurvivor, fsLongestSurvivorC, Option.bind_assoc, Option.bind_some]
abbrev EsLongestSurvivor : Ent := entP [.ty (.st .cluster)] [.i .i64] fun x => fsLongestSurvivor x.1
theorem esLongestSurvivor : EntOk Tryz.prog 24 EsLongestSurvivor :=
  entP_of (Λ := getL [(key csLongestSurvivor_4, EsLongestSurvivor_4)]) (fn := Tryz.f24) Θ_ok YsLongestSurvivor_ok mixed_ok (by kernel_rfl) (hL_of (by kernel_rfl : _ = [csLongestSurvivor_4]) (loops_one (q := key csLongestSurvivor_4) rfl lsLongestSurvivor_4_ok fun _ _ _ => by kernel_rfl)) (by kernel_rfl) (fun x => fsLongestSurvivor x.1)
    (fun x => Eq.trans (by kernel_rfl : _ = fsLongestSurvivorC x.1 (fun y => ret (pairs [.i .i64] y) fun v g => some (v, g))) (fsLongestSurvivor_k x.1 _)) fun _ _ h => h
/-! loop.example/g01926/impl.within -/
abbrev Yiwithin : List (Nat × Ent) := []
theorem Yiwithin_ok : TabOk Tryz.prog (getY Yiwithin) := tab_nil _
def fiwithinC {ρ : Type} (a0 : Int) (a1 : Int) (a2 : Int) (k : Bool × Unit → Option ρ) : Option ρ :=
  br (decide (a1 ≤ a0)) (k ((decide (a0 ≤ a2)), ())) (k (false, ()))
def fiwithin (a0 : Int) (a1 : Int) (a2 : Int) : Option (Bool × Unit) := fiwithinC a0 a1 a2 some
theorem fiwithin_k {ρ : Type} (a0 : Int) (a1 : Int) (a2 : Int) (k : Bool × Unit → Option ρ) : fiwithinC a0 a1 a2 k = (fiwithin a0 a1 a2).bind k := by
  simp only [fiwithin, fiwithinC, br_bind, Option.bind_some]
abbrev Eiwithin : Ent := entP [.ty (.i .i64), .ty (.i .i64), .ty (.i .i64)] [.b] fun x => fiwithin x.1 x.2.1 x.2.2.1
theorem eiwithin : EntOk Tryz.prog 118 Eiwithin :=
  entP_of (Λ := getL []) (fn := Tryz.f118) Θ_ok Yiwithin_ok mixed_ok (by kernel_rfl) (hL_of (by kernel_rfl : _ = []) loops_nil) (by kernel_rfl) (fun x => fiwithin x.1 x.2.1 x.2.2.1)
    (fun x => Eq.trans (by kernel_rfl : _ = fiwithinC x.1 x.2.1 x.2.2.1 (fun y => ret (pairs [.b] y) fun v g => some (v, g))) (fiwithin_k x.1 x.2.1 x.2.2.1 _)) fun _ _ h => h
/-! loop.example/g01926/impl.AreSides$1 -/
abbrev YiAreSides_c1 : List (Nat × Ent) := [(118, Eiwithin)]
theorem YiAreSides_c1_ok : TabOk Tryz.prog (getY YiAreSides_c1) := tab_cons eiwithin <| tab_nil _
def fiAreSides_c1C {ρ : Type} (a0 : Int) (k : Bool × Unit → Option ρ) : Option ρ :=
  (fiwithin a0 0 3).bind fun y1 => k ((!y1.1), ())
def fiAreSides_c1 (a0 : Int) : Option (Bool × Unit) := fiAreSides_c1C a0 some
theorem fiAreSides_c1_k {ρ : Type} (a0 : Int) (k : Bool × Unit → Option ρ) : fiAreSides_c1C a0 k = (fiAreSides_c1 a0).bind k := by
  simp only [fiAreSides_c1, fiAreSides_c1C, Option.bind_assoc, Option.bind_some]
abbrev EiAreSides_c1 : Ent := entP [.ty (.i .i64)] [.b] fun x => fiAreSides_c1 x.1
theorem eiAreSides_c1 : EntOk Tryz.prog 165 EiAreSides_c1 :=
  entP_of (Λ := getL []) (fn := Tryz.f165) Θ_ok YiAreSides_c1_ok mixed_ok (by kernel_rfl) (hL_of (by kernel_rfl : _ = []) loops_nil) (by kernel_rfl) (fun x => fiAreSides_c1 x.1)
    (fun x => Eq.trans (by kernel_rfl : _ = fiAreSides_c1C x.1 (fun y => ret (pairs [.b] y) fun v g => some (v, g))) (fiAreSides_c1_k x.1 _)) fun _ _ h => h
/-! slices.IndexFunc[[]int,int] -/
abbrev YslIndexFunc_int_iAreSides_c1 : List (Nat × Ent) := [(165, EiAreSides_c1)]
theorem YslIndexFunc_int_iAreSides_c1_ok : TabOk Tryz.prog (getY YslIndexFunc_int_iAreSides_c1) := tab_cons eiAreSides_c1 <| tab_nil _
noncomputable abbrev cslIndexFunc_int_iAreSides_c1_2 : Code := loopAt (bodyOf Tryz.f139) 0
abbrev LslIndexFunc_int_iAreSides_c1_2 : LSh := ⟨[(0, .cl (.ro (.i .i64))), (1, .cl (.fc 165)), (7, .cl (.int .i64)), (8, .cl (.int .i64))], [], [], 0, 19⟩
abbrev XslIndexFunc_int_iAreSides_c1_2 : List (X × LSh) := [(.ret, ⟨[(4, .cl (.int .i64))], [], [], 0, 19⟩), (.ext 0, ⟨[(4, .cl (.dead))], [], [], 0, 19⟩)]
def bslIndexFunc_int_iAreSides_c1_2C {ρ : Type} (v1 : List Int) (v2 : Int) (v3 : Int) (fn : (((List Int) × Unit × Int × Int × Unit) × (Unit) × (Unit)) → Option ρ) (fe : ((Int × Unit) × (Unit) × (Unit)) ⊕ ((Unit × Unit) × (Unit) × (Unit)) → Option ρ) : Option ρ :=
  br (decide (v3 < v2)) (iteP (0 ≤ v3) ((v1[v3.toNat]?).bind fun x4 => (fiAreSides_c1 x4).bind fun y5 => br y5.1 (fe (.inl ((v3, ()), (()), (())))) (fn ((v1, (), v2, (IntKind.wrap .i64 (v3 + 1)), ()), (()), (())))) none) (fe (.inr (((), ()), (()), (()))))
def bslIndexFunc_int_iAreSides_c1_2 (s : LslIndexFunc_int_iAreSides_c1_2.D) : Option (LslIndexFunc_int_iAreSides_c1_2.D ⊕ Exs.D XslIndexFunc_int_iAreSides_c1_2) := bslIndexFunc_int_iAreSides_c1_2C s.1.1 s.1.2.2.1 s.1.2.2.2.1 (fun s => some (.inl s)) (fun e => some (.inr e))
def lslIndexFunc_int_iAreSides_c1_2 : LslIndexFunc_int_iAreSides_c1_2.D → Option (Exs.D XslIndexFunc_int_iAreSides_c1_2) := lim bslIndexFunc_int_iAreSides_c1_2
theorem bslIndexFunc_int_iAreSides_c1_2_k {ρ : Type} (s : LslIndexFunc_int_iAreSides_c1_2.D) (fn : LslIndexFunc_int_iAreSides_c1_2.D → Option ρ) (fe : Exs.D XslIndexFunc_int_iAreSides_c1_2 → Option ρ) : bslIndexFunc_int_iAreSides_c1_2C s.1.1 s.1.2.2.1 s.1.2.2.2.1 fn fe = (bslIndexFunc_int_iAreSides_c1_2 s).bind (Sum.elim fn fe) := by
  simp only [bslIndexFunc_int_iAreSides_c1_2, bslIndexFunc_int_iAreSides_c1_2C, br_bind, iteP_bind, Option.bind_none, Option.bind_assoc, Option.bind_some, Sum.elim_inl, Sum.elim_inr]
abbrev EslIndexFunc_int_iAreSides_c1_2 : LoopE := loopE [] [0, 1, 7, 8] LslIndexFunc_int_iAreSides_c1_2 XslIndexFunc_int_iAreSides_c1_2 lslIndexFunc_int_iAreSides_c1_2
theorem bslIndexFunc_int_iAreSides_c1_2_ok (s : LslIndexFunc_int_iAreSides_c1_2.D) : evCK Θ (getY YslIndexFunc_int_iAreSides_c1) (getL []) cslIndexFunc_int_iAreSides_c1_2 (LslIndexFunc_int_iAreSides_c1_2.mk' s) (tellK [0, 1, 7, 8] [4] fun x S => some (x, S)) = (bslIndexFunc_int_iAreSides_c1_2 s).bind (Sum.elim (fun s' => some (.nor, LslIndexFunc_int_iAreSides_c1_2.mk' s')) fun e => some (Exs.e XslIndexFunc_int_iAreSides_c1_2 e)) :=
  Eq.trans (by kernel_rfl : _ = bslIndexFunc_int_iAreSides_c1_2C s.1.1 s.1.2.2.1 s.1.2.2.2.1 (fun s' => some (.nor, LslIndexFunc_int_iAreSides_c1_2.mk' s')) (fun e => some (Exs.e XslIndexFunc_int_iAreSides_c1_2 e))) (bslIndexFunc_int_iAreSides_c1_2_k s _ _)
theorem lslIndexFunc_int_iAreSides_c1_2_ok : LoopOk Tryz.prog cslIndexFunc_int_iAreSides_c1_2 EslIndexFunc_int_iAreSides_c1_2 := loopE_ok Θ_ok YslIndexFunc_int_iAreSides_c1_ok mixed_ok (by kernel_rfl) (hL_in (by kernel_rfl : _ = []) loops_nil) [] [0, 1, 7, 8] [4] LslIndexFunc_int_iAreSides_c1_2 XslIndexFunc_int_iAreSides_c1_2 (by kernel_rfl) bslIndexFunc_int_iAreSides_c1_2 bslIndexFunc_int_iAreSides_c1_2_ok lslIndexFunc_int_iAreSides_c1_2 (limN bslIndexFunc_int_iAreSides_c1_2) (lim_round bslIndexFunc_int_iAreSides_c1_2)
def fslIndexFunc_int_iAreSides_c1C {ρ : Type} (a0 : List Int) (k : Int × Unit → Option ρ) : Option ρ :=
  (lslIndexFunc_int_iAreSides_c1_2 ((a0, (), (a0.length : Int), 0, ()), (()), (()))).bind fun e6 => Sum.elim (fun e6_ => k (e6_.1.1, ())) (fun e6_ => k ((-1), ())) e6
def fslIndexFunc_int_iAreSides_c1 (a0 : List Int) : Option (Int × Unit) := fslIndexFunc_int_iAreSides_c1C a0 some
theorem fslIndexFunc_int_iAreSides_c1_k {ρ : Type} (a0 : List Int) (k : Int × Unit → Option ρ) : fslIndexFunc_int_iAreSides_c1C a0 k = (fslIndexFunc_int_iAreSides_c1 a0).bind k := by
  simp only [fslIndexFunc_int_iAreSides_c1, fslIndexFunc_int_iAreSides_c1C, elim_bind, Option.bind_assoc, Option.bind_some]
abbrev EslIndexFunc_int_iAreSides_c1 : Ent := entP [.ty (.ls (.i .i64)), .fc 165] [.i .i64] fun x => fslIndexFunc_int_iAreSides_c1 x.1
theorem eslIndexFunc_int_iAreSides_c1 : EntOk Tryz.prog 139 EslIndexFunc_int_iAreSides_c1 :=
  entP_of (Λ := getL [(key cslIndexFunc_int_iAreSides_c1_2, EslIndexFunc_int_iAreSides_c1_2)]) (fn := Tryz.f139) Θ_ok YslIndexFunc_int_iAreSides_c1_ok mixed_ok (by kernel_rfl) (hL_of (by kernel_rfl : _ = [cslIndexFunc_int_iAreSides_c1_2]) (loops_one (q := key cslIndexFunc_int_iAreSides_c1_2) rfl lslIndexFunc_int_iAreSides_c1_2_ok fun _ _ _ => by kernel_rfl)) (by kernel_rfl) (fun x => fslIndexFunc_int_iAreSides_c1 x.1)
    (fun x => Eq.trans (by kernel_rfl : _ = fslIndexFunc_int_iAreSides_c1C x.1 (fun y => ret (pairs [.i .i64] y) fun v g => some (v, g))) (fslIndexFunc_int_iAreSides_c1_k x.1 _)) fun _ _ h => h
/-! slices.ContainsFunc[[]int,int] -/
abbrev YslContainsFunc_int_iAreSides_c1 : List (Nat × Ent) := [(139, EslIndexFunc_int_iAreSides_c1)]
theorem YslContainsFunc_int_iAreSides_c1_ok : TabOk Tryz.prog (getY YslContainsFunc_int_iAreSides_c1) := tab_cons eslIndexFunc_int_iAreSides_c1 <| tab_nil _
def fslContainsFunc_int_iAreSides_c1C {ρ : Type} (a0 : List Int) (k : Bool × Unit → Option ρ) : Option ρ :=
  (fslIndexFunc_int_iAreSides_c1 a0).bind fun y1 => k ((decide (y1.1 ≥ 0)), ())
def fslContainsFunc_int_iAreSides_c1 (a0 : List Int) : Option (Bool × Unit) := fslContainsFunc_int_iAreSides_c1C a0 some
theorem fslContainsFunc_int_iAreSides_c1_k {ρ : Type} (a0 : List Int) (k : Bool × Unit → Option ρ) : fslContainsFunc_int_iAreSides_c1C a0 k = (fslContainsFunc_int_iAreSides_c1 a0).bind k := by
  simp only [fslContainsFunc_int_iAreSides_c1, fslContainsFunc_int_iAreSides_c1C, Option.bind_assoc, Option.bind_some]
abbrev EslContainsFunc_int_iAreSides_c1 : Ent := entP [.ty (.ls (.i .i64)), .fc 165] [.b] fun x => fslContainsFunc_int_iAreSides_c1 x.1
theorem eslContainsFunc_int_iAreSides_c1 : EntOk Tryz.prog 78 EslContainsFunc_int_iAreSides_c1 :=
  entP_of (Λ := getL []) (fn := Tryz.f78) Θ_ok YslContainsFunc_int_iAreSides_c1_ok mixed_ok (by kernel_rfl) (hL_of (by kernel_rfl : _ = []) loops_nil) (by kernel_rfl) (fun x => fslContainsFunc_int_iAreSides_c1 x.1)
    (fun x => Eq.trans (by kernel_rfl : _ = fslContainsFunc_int_iAreSides_c1C x.1 (fun y => ret (pairs [.b] y) fun v g => some (v, g))) (fslContainsFunc_int_iAreSides_c1_k x.1 _)) fun _ _ h => h
/-! loop.example/g01926/impl.AreSides -/
abbrev YiAreSides : List (Nat × Ent) := [(78, EslContainsFunc_int_iAreSides_c1)]
theorem YiAreSides_ok : TabOk Tryz.prog (getY YiAreSides) := tab_cons eslContainsFunc_int_iAreSides_c1 <| tab_nil _
def fiAreSidesC {ρ : Type} (a0 : List Int) (k : Bool × Unit → Option ρ) : Option ρ :=
  br ((a0.length : Int) == 5) ((fslContainsFunc_int_iAreSides_c1 a0).bind fun y1 => k ((!y1.1), ())) (k (false, ()))
def fiAreSides (a0 : List Int) : Option (Bool × Unit) := fiAreSidesC a0 some
theorem fiAreSides_k {ρ : Type} (a0 : List Int) (k : Bool × Unit → Option ρ) : fiAreSidesC a0 k = (fiAreSides a0).bind k := by
  simp only [fiAreSides, fiAreSidesC, br_bind, Option.bind_assoc, Option.bind_some]
abbrev EiAreSides : Ent := entP [.ty (.ls (.i .i64))] [.b] fun x => fiAreSides x.1
theorem eiAreSides : EntOk Tryz.prog 119 EiAreSides :=
  entP_of (Λ := getL []) (fn := Tryz.f119) Θ_ok YiAreSides_ok mixed_ok (by kernel_rfl) (hL_of (by kernel_rfl : _ = []) loops_nil) (by kernel_rfl) (fun x => fiAreSides x.1)
    (fun x => Eq.trans (by kernel_rfl : _ = fiAreSidesC x.1 (fun y => ret (pairs [.b] y) fun v g => some (v, g))) (fiAreSides_k x.1 _)) fun _ _ h => h
/-! loop.example/g01926/impl.AreServers -/
abbrev YiAreServers : List (Nat × Ent) := [(118, Eiwithin)]
theorem YiAreServers_ok : TabOk Tryz.prog (getY YiAreServers) := tab_cons eiwithin <| tab_nil _
noncomputable abbrev ciAreServers_2 : Code := loopAt (bodyOf Tryz.f185) 0
abbrev LiAreServers_2 : LSh := ⟨[(0, .cl (.ro (.i .i64))), (5, .cl (.ro (.i .i64))), (6, .cl (.int .i64)), (7, .cl (.int .i64))], [], [], 0, 29⟩
abbrev XiAreServers_2 : List (X × LSh) := [(.ret, ⟨[(2, .cl (.bl))], [], [], 0, 29⟩), (.ext 0, ⟨[(2, .cl (.dead))], [], [], 0, 29⟩)]
def biAreServers_2C {ρ : Type} (v1 : List Int) (v2 : List Int) (v3 : Int) (v4 : Int) (fn : (((List Int) × (List Int) × Int × Int × Unit) × (Unit) × (Unit)) → Option ρ) (fe : ((Bool × Unit) × (Unit) × (Unit)) ⊕ ((Unit × Unit) × (Unit) × (Unit)) → Option ρ) : Option ρ :=
  br (decide (v4 < v3)) (iteP (0 ≤ v4) ((v2[v4.toNat]?).bind fun x5 => (fiwithin x5 0 4).bind fun y6 => br (!y6.1) (fe (.inl ((false, ()), (()), (())))) (br (decide (v4 > 0)) (iteP (0 ≤ (IntKind.wrap .i64 (v4 - 1))) ((v1[(IntKind.wrap .i64 (v4 - 1)).toNat]?).bind fun x7 => br (decide (x5 ≤ x7)) (fe (.inl ((false, ()), (()), (())))) (fn ((v1, v2, v3, (IntKind.wrap .i64 (v4 + 1)), ()), (()), (())))) none) (fn ((v1, v2, v3, (IntKind.wrap .i64 (v4 + 1)), ()), (()), (()))))) none) (fe (.inr (((), ()), (()), (()))))
def biAreServers_2 (s : LiAreServers_2.D) : Option (LiAreServers_2.D ⊕ Exs.D XiAreServers_2) := biAreServers_2C s.1.1 s.1.2.1 s.1.2.2.1 s.1.2.2.2.1 (fun s => some (.inl s)) (fun e => some (.inr e))
def liAreServers_2 : LiAreServers_2.D → Option (Exs.D XiAreServers_2) := lim biAreServers_2
theorem biAreServers_2_k {ρ : Type} (s : LiAreServers_2.D) (fn : LiAreServers_2.D → Option ρ) (fe : Exs.D XiAreServers_2 → Option ρ) : biAreServers_2C s.1.1 s.1.2.1 s.1.2.2.1 s.1.2.2.2.1 fn fe = (biAreServers_2 s).bind (Sum.elim fn fe) := by
  simp only [biAreServers_2, biAreServers_2C, br_bind, iteP_bind, Option.bind_none, Option.bind_assoc, Option.bind_some, Sum.elim_inl, Sum.elim_inr]
abbrev EiAreServers_2 : LoopE := loopE [] [0, 5, 6, 7] LiAreServers_2 XiAreServers_2 liAreServers_2
theorem biAreServers_2_ok (s : LiAreServers_2.D) : evCK Θ (getY YiAreServers) (getL []) ciAreServers_2 (LiAreServers_2.mk' s) (tellK [0, 5, 6, 7] [2] fun x S => some (x, S)) = (biAreServers_2 s).bind (Sum.elim (fun s' => some (.nor, LiAreServers_2.mk' s')) fun e => some (Exs.e XiAreServers_2 e)) :=
  Eq.trans (by kernel_rfl : _ = biAreServers_2C s.1.1 s.1.2.1 s.1.2.2.1 s.1.2.2.2.1 (fun s' => some (.nor, LiAreServers_2.mk' s')) (fun e => some (Exs.e XiAreServers_2 e))) (biAreServers_2_k s _ _)
theorem liAreServers_2_ok : LoopOk Tryz.prog ciAreServers_2 EiAreServers_2 := loopE_ok Θ_ok YiAreServers_ok mixed_ok (by kernel_rfl) (hL_in (by kernel_rfl : _ = []) loops_nil) [] [0, 5, 6, 7] [2] LiAreServers_2 XiAreServers_2 (by kernel_rfl) biAreServers_2 biAreServers_2_ok liAreServers_2 (limN biAreServers_2) (lim_round biAreServers_2)
def fiAreServersC {ρ : Type} (a0 : List Int) (k : Bool × Unit → Option ρ) : Option ρ :=
  (liAreServers_2 ((a0, a0, (a0.length : Int), 0, ()), (()), (()))).bind fun e8 => Sum.elim (fun e8_ => k (e8_.1.1, ())) (fun e8_ => k (true, ())) e8
def fiAreServers (a0 : List Int) : Option (Bool × Unit) := fiAreServersC a0 some
theorem fiAreServers_k {ρ : Type} (a0 : List Int) (k : Bool × Unit → Option ρ) : fiAreServersC a0 k = (fiAreServers a0).bind k := by
  simp only [fiAreServers, fiAreServersC, elim_bind, Option.bind_assoc, Option.bind_some]
abbrev EiAreServers : Ent := entP [.ty (.ls (.i .i64))] [.b] fun x => fiAreServers x.1
theorem eiAreServers : EntOk Tryz.prog 185 EiAreServers :=
  entP_of (Λ := getL [(key ciAreServers_2, EiAreServers_2)]) (fn := Tryz.f185) Θ_ok YiAreServers_ok mixed_ok (by kernel_rfl) (hL_of (by kernel_rfl : _ = [ciAreServers_2]) (loops_one (q := key ciAreServers_2) rfl liAreServers_2_ok fun _ _ _ => by kernel_rfl)) (by kernel_rfl) (fun x => fiAreServers x.1)
    (fun x => Eq.trans (by kernel_rfl : _ = fiAreServersC x.1 (fun y => ret (pairs [.b] y) fun v g => some (v, g))) (fiAreServers_k x.1 _)) fun _ _ h => h
/-! slices.Index[[]int,int] -/
abbrev YslIndex_int : List (Nat × Ent) := []
theorem YslIndex_int_ok : TabOk Tryz.prog (getY YslIndex_int) := tab_nil _
noncomputable abbrev cslIndex_int_2 : Code := loopAt (bodyOf Tryz.f178) 0
abbrev LslIndex_int_2 : LSh := ⟨[(0, .cl (.ro (.i .i64))), (1, .cl (.int .i64)), (7, .cl (.int .i64)), (8, .cl (.int .i64))], [], [], 0, 19⟩
abbrev XslIndex_int_2 : List (X × LSh) := [(.ret, ⟨[(4, .cl (.int .i64))], [], [], 0, 19⟩), (.ext 0, ⟨[(4, .cl (.dead))], [], [], 0, 19⟩)]
def bslIndex_int_2C {ρ : Type} (v1 : List Int) (v2 : Int) (v3 : Int) (v4 : Int) (fn : (((List Int) × Int × Int × Int × Unit) × (Unit) × (Unit)) → Option ρ) (fe : ((Int × Unit) × (Unit) × (Unit)) ⊕ ((Unit × Unit) × (Unit) × (Unit)) → Option ρ) : Option ρ :=
  br (decide (v4 < v3)) (iteP (0 ≤ v4) ((v1[v4.toNat]?).bind fun x5 => br (v2 == x5) (fe (.inl ((v4, ()), (()), (())))) (fn ((v1, v2, v3, (IntKind.wrap .i64 (v4 + 1)), ()), (()), (())))) none) (fe (.inr (((), ()), (()), (()))))
def bslIndex_int_2 (s : LslIndex_int_2.D) : Option (LslIndex_int_2.D ⊕ Exs.D XslIndex_int_2) := bslIndex_int_2C s.1.1 s.1.2.1 s.1.2.2.1 s.1.2.2.2.1 (fun s => some (.inl s)) (fun e => some (.inr e))
def lslIndex_int_2 : LslIndex_int_2.D → Option (Exs.D XslIndex_int_2) := lim bslIndex_int_2
theorem bslIndex_int_2_k {ρ : Type} (s : LslIndex_int_2.D) (fn : LslIndex_int_2.D → Option ρ) (fe : Exs.D XslIndex_int_2 → Option ρ) : bslIndex_int_2C s.1.1 s.1.2.1 s.1.2.2.1 s.1.2.2.2.1 fn fe = (bslIndex_int_2 s).bind (Sum.elim fn fe) := by
  simp only [bslIndex_int_2, bslIndex_int_2C, br_bind, iteP_bind, Option.bind_none, Option.bind_assoc, Option.bind_some, Sum.elim_inl, Sum.elim_inr]
abbrev EslIndex_int_2 : LoopE := loopE [] [0, 1, 7, 8] LslIndex_int_2 XslIndex_int_2 lslIndex_int_2
theorem bslIndex_int_2_ok (s : LslIndex_int_2.D) : evCK Θ (getY YslIndex_int) (getL []) cslIndex_int_2 (LslIndex_int_2.mk' s) (tellK [0, 1, 7, 8] [4] fun x S => some (x, S)) = (bslIndex_int_2 s).bind (Sum.elim (fun s' => some (.nor, LslIndex_int_2.mk' s')) fun e => some (Exs.e XslIndex_int_2 e)) :=
  Eq.trans (by kernel_rfl : _ = bslIndex_int_2C s.1.1 s.1.2.1 s.1.2.2.1 s.1.2.2.2.1 (fun s' => some (.nor, LslIndex_int_2.mk' s')) (fun e => some (Exs.e XslIndex_int_2 e))) (bslIndex_int_2_k s _ _)
theorem lslIndex_int_2_ok : LoopOk Tryz.prog cslIndex_int_2 EslIndex_int_2 := loopE_ok Θ_ok YslIndex_int_ok mixed_ok (by kernel_rfl) (hL_in (by kernel_rfl : _ = []) loops_nil) [] [0, 1, 7, 8] [4] LslIndex_int_2 XslIndex_int_2 (by kernel_rfl) bslIndex_int_2 bslIndex_int_2_ok lslIndex_int_2 (limN bslIndex_int_2) (lim_round bslIndex_int_2)
def fslIndex_intC {ρ : Type} (a0 : List Int) (a1 : Int) (k : Int × Unit → Option ρ) : Option ρ :=
  (lslIndex_int_2 ((a0, a1, (a0.length : Int), 0, ()), (()), (()))).bind fun e6 => Sum.elim (fun e6_ => k (e6_.1.1, ())) (fun e6_ => k ((-1), ())) e6
def fslIndex_int (a0 : List Int) (a1 : Int) : Option (Int × Unit) := fslIndex_intC a0 a1 some
theorem fslIndex_int_k {ρ : Type} (a0 : List Int) (a1 : Int) (k : Int × Unit → Option ρ) : fslIndex_intC a0 a1 k = (fslIndex_int a0 a1).bind k := by
  simp only [fslIndex_int, fslIndex_intC, elim_bind, Option.bind_assoc, Option.bind_some]
abbrev EslIndex_int : Ent := entP [.ty (.ls (.i .i64)), .ty (.i .i64)] [.i .i64] fun x => fslIndex_int x.1 x.2.1
theorem eslIndex_int : EntOk Tryz.prog 178 EslIndex_int :=
  entP_of (Λ := getL [(key cslIndex_int_2, EslIndex_int_2)]) (fn := Tryz.f178) Θ_ok YslIndex_int_ok mixed_ok (by kernel_rfl) (hL_of (by kernel_rfl : _ = [cslIndex_int_2]) (loops_one (q := key cslIndex_int_2) rfl lslIndex_int_2_ok fun _ _ _ => by kernel_rfl)) (by kernel_rfl) (fun x => fslIndex_int x.1 x.2.1)
    (fun x => Eq.trans (by kernel_rfl : _ = fslIndex_intC x.1 x.2.1 (fun y => ret (pairs [.i .i64] y) fun v g => some (v, g))) (fslIndex_int_k x.1 x.2.1 _)) fun _ _ h => h
/-! slices.Contains[[]int,int] -/
abbrev YslContains_int : List (Nat × Ent) := [(178, EslIndex_int)]
theorem YslContains_int_ok : TabOk Tryz.prog (getY YslContains_int) := tab_cons eslIndex_int <| tab_nil _
def fslContains_intC {ρ : Type} (a0 : List Int) (a1 : Int) (k : Bool × Unit → Option ρ) : Option ρ :=
  (fslIndex_int a0 a1).bind fun y1 => k ((decide (y1.1 ≥ 0)), ())
def fslContains_int (a0 : List Int) (a1 : Int) : Option (Bool × Unit) := fslContains_intC a0 a1 some
theorem fslContains_int_k {ρ : Type} (a0 : List Int) (a1 : Int) (k : Bool × Unit → Option ρ) : fslContains_intC a0 a1 k = (fslContains_int a0 a1).bind k := by
  simp only [fslContains_int, fslContains_intC, Option.bind_assoc, Option.bind_some]
abbrev EslContains_int : Ent := entP [.ty (.ls (.i .i64)), .ty (.i .i64)] [.b] fun x => fslContains_int x.1 x.2.1
theorem eslContains_int : EntOk Tryz.prog 140 EslContains_int :=
  entP_of (Λ := getL []) (fn := Tryz.f140) Θ_ok YslContains_int_ok mixed_ok (by kernel_rfl) (hL_of (by kernel_rfl : _ = []) loops_nil) (by kernel_rfl) (fun x => fslContains_int x.1 x.2.1)
    (fun x => Eq.trans (by kernel_rfl : _ = fslContains_intC x.1 x.2.1 (fun y => ret (pairs [.b] y) fun v g => some (v, g))) (fslContains_int_k x.1 x.2.1 _)) fun _ _ h => h
/-! loop.example/g01926/impl.HasServer -/
abbrev YiHasServer : List (Nat × Ent) := [(140, EslContains_int)]
theorem YiHasServer_ok : TabOk Tryz.prog (getY YiHasServer) := tab_cons eslContains_int <| tab_nil _
def fiHasServerC {ρ : Type} (a0 : List Int) (a1 : Int) (k : Bool × Unit → Option ρ) : Option ρ :=
  (fslContains_int a0 a1).bind fun y1 => k (y1.1, ())
def fiHasServer (a0 : List Int) (a1 : Int) : Option (Bool × Unit) := fiHasServerC a0 a1 some
theorem fiHasServer_k {ρ : Type} (a0 : List Int) (a1 : Int) (k : Bool × Unit → Option ρ) : fiHasServerC a0 a1 k = (fiHasServer a0 a1).bind k := by
  simp only [fiHasServer, fiHasServerC, Option.bind_assoc, Option.bind_some]
abbrev EiHasServer : Ent := entP [.ty (.ls (.i .i64)), .ty (.i .i64)] [.b] fun x => fiHasServer x.1 x.2.1
theorem eiHasServer : EntOk Tryz.prog 82 EiHasServer :=
  entP_of (Λ := getL []) (fn := Tryz.f82) Θ_ok YiHasServer_ok mixed_ok (by kernel_rfl) (hL_of (by kernel_rfl : _ = []) loops_nil) (by kernel_rfl) (fun x => fiHasServer x.1 x.2.1)
    (fun x => Eq.trans (by kernel_rfl : _ = fiHasServerC x.1 x.2.1 (fun y => ret (pairs [.b] y) fun v g => some (v, g))) (fiHasServer_k x.1 x.2.1 _)) fun _ _ h => h
/-! slices.Clone[[]int,int] -/
abbrev YslClone_int : List (Nat × Ent) := []
theorem YslClone_int_ok : TabOk Tryz.prog (getY YslClone_int) := tab_nil _
def fslClone_intC {ρ : Type} (a0 : List Int) (k : (List Int) × Unit → Option ρ) : Option ρ :=
  iteP (a0.length * 8 ≤ 2 ^ 40) (k (a0, ())) none
def fslClone_int (a0 : List Int) : Option ((List Int) × Unit) := fslClone_intC a0 some
theorem fslClone_int_k {ρ : Type} (a0 : List Int) (k : (List Int) × Unit → Option ρ) : fslClone_intC a0 k = (fslClone_int a0).bind k := by
  simp only [fslClone_int, fslClone_intC, iteP_bind, Option.bind_none, Option.bind_some]
abbrev EslClone_int : Ent := entP [.ty (.ls (.i .i64))] [.ls (.i .i64)] fun x => fslClone_int x.1
abbrev kslClone_int (y : (List Int) × Unit) : Option (V × List Tre) := ret (pairs [.ls (.i .i64)] y) fun v g => some (v, g)
theorem eslClone_int : EntOk Tryz.prog 154 EslClone_int :=
  entP_of (Λ := getL []) (fn := Tryz.f154) Θ_ok YslClone_int_ok mixed_ok (by kernel_rfl) (hL_of (by kernel_rfl : _ = []) loops_nil) (by kernel_rfl) (fun x => fslClone_int x.1)
    (fun x => Eq.trans (by kernel_rfl : _ = nilE x.1 (amb (kslClone_int ([], ())) (iteP ((([] : List Int) ++ x.1).length * 8 ≤ 2 ^ 40) (kslClone_int (([] : List Int) ++ x.1, ())) none) none) (iteP ((([] : List Int) ++ x.1).length * 8 ≤ 2 ^ 40) (kslClone_int (([] : List Int) ++ x.1, ())) none)) (clone_k x.1 8 kslClone_int)) fun _ _ h => h
/-! math/bits.Len64 -/
abbrev YbitsLen64 : List (Nat × Ent) := []
theorem YbitsLen64_ok : TabOk Tryz.prog (getY YbitsLen64) := tab_nil _
def fbitsLen64C {ρ : Type} (a0 : Int) (k : Int × Unit → Option ρ) : Option ρ :=
  br (decide (a0 ≥ 4294967296)) (none) (br (decide (a0 ≥ 65536)) (none) (br (decide (a0 ≥ 256)) (none) (iteP (0 ≤ (IntKind.wrap .u8 a0)) ((sb0[(IntKind.wrap .u8 a0).toNat]?).bind fun x1 => k ((IntKind.wrap .i64 (0 + (IntKind.wrap .i64 (x1.toNat : Int)))), ())) none)))
def fbitsLen64 (a0 : Int) : Option (Int × Unit) := fbitsLen64C a0 some
theorem fbitsLen64_k {ρ : Type} (a0 : Int) (k : Int × Unit → Option ρ) : fbitsLen64C a0 k = (fbitsLen64 a0).bind k := by
  simp only [fbitsLen64, fbitsLen64C, br_bind, iteP_bind, Option.bind_none, Option.bind_assoc, Option.bind_some]
abbrev EbitsLen64 : Ent := entP [.ty (.i .u64)] [.i .i64] fun x => fbitsLen64 x.1
theorem ebitsLen64 : EntOk Tryz.prog 203 EbitsLen64 :=
  entP_of (Λ := getL []) (fn := Tryz.f203) Θ_ok YbitsLen64_ok mixed_ok (by kernel_rfl) (hL_of (by kernel_rfl : _ = []) loops_nil) (by kernel_rfl) (fun x => fbitsLen64 x.1)
    (fun x => Eq.trans (by kernel_rfl : _ = fbitsLen64C x.1 (fun y => ret (pairs [.i .i64] y) fun v g => some (v, g))) (fbitsLen64_k x.1 _)) fun _ _ h => h
/-! math/bits.Len -/
abbrev YbitsLen : List (Nat × Ent) := [(203, EbitsLen64)]
theorem YbitsLen_ok : TabOk Tryz.prog (getY YbitsLen) := tab_cons ebitsLen64 <| tab_nil _
def fbitsLenC {ρ : Type} (a0 : Int) (k : Int × Unit → Option ρ) : Option ρ :=
  (fbitsLen64 a0).bind fun y1 => k (y1.1, ())
def fbitsLen (a0 : Int) : Option (Int × Unit) := fbitsLenC a0 some
theorem fbitsLen_k {ρ : Type} (a0 : Int) (k : Int × Unit → Option ρ) : fbitsLenC a0 k = (fbitsLen a0).bind k := by
  simp only [fbitsLen, fbitsLenC, Option.bind_assoc, Option.bind_some]
abbrev EbitsLen : Ent := entP [.ty (.i .u64)] [.i .i64] fun x => fbitsLen x.1
theorem ebitsLen : EntOk Tryz.prog 191 EbitsLen :=
  entP_of (Λ := getL []) (fn := Tryz.f191) Θ_ok YbitsLen_ok mixed_ok (by kernel_rfl) (hL_of (by kernel_rfl : _ = []) loops_nil) (by kernel_rfl) (fun x => fbitsLen x.1)
    (fun x => Eq.trans (by kernel_rfl : _ = fbitsLenC x.1 (fun y => ret (pairs [.i .i64] y) fun v g => some (v, g))) (fbitsLen_k x.1 _)) fun _ _ h => h
/-! cmp.isNaN[int] -/
abbrev YcmpisNaN_int : List (Nat × Ent) := []
theorem YcmpisNaN_int_ok : TabOk Tryz.prog (getY YcmpisNaN_int) := tab_nil _
def fcmpisNaN_intC {ρ : Type} (a0 : Int) (k : Bool × Unit → Option ρ) : Option ρ :=
  k ((!(a0 == a0)), ())
def fcmpisNaN_int (a0 : Int) : Option (Bool × Unit) := fcmpisNaN_intC a0 some
theorem fcmpisNaN_int_k {ρ : Type} (a0 : Int) (k : Bool × Unit → Option ρ) : fcmpisNaN_intC a0 k = (fcmpisNaN_int a0).bind k := by
  simp only [fcmpisNaN_int, fcmpisNaN_intC, Option.bind_some]
abbrev EcmpisNaN_int : Ent := entP [.ty (.i .i64)] [.b] fun x => fcmpisNaN_int x.1
theorem ecmpisNaN_int : EntOk Tryz.prog 209 EcmpisNaN_int :=
  entP_of (Λ := getL []) (fn := Tryz.f209) Θ_ok YcmpisNaN_int_ok mixed_ok (by kernel_rfl) (hL_of (by kernel_rfl : _ = []) loops_nil) (by kernel_rfl) (fun x => fcmpisNaN_int x.1)
    (fun x => Eq.trans (by kernel_rfl : _ = fcmpisNaN_intC x.1 (fun y => ret (pairs [.b] y) fun v g => some (v, g))) (fcmpisNaN_int_k x.1 _)) fun _ _ h => h
/-! cmp.Less[int] -/
abbrev YcmpLess_int : List (Nat × Ent) := [(209, EcmpisNaN_int)]
theorem YcmpLess_int_ok : TabOk Tryz.prog (getY YcmpLess_int) := tab_cons ecmpisNaN_int <| tab_nil _
def fcmpLess_intC {ρ : Type} (a0 : Int) (a1 : Int) (k : Bool × Unit → Option ρ) : Option ρ :=
  (fcmpisNaN_int a0).bind fun y1 => br y1.1 ((fcmpisNaN_int a1).bind fun y2 => br (!y2.1) (k (true, ())) (k ((decide (a0 < a1)), ()))) (k ((decide (a0 < a1)), ()))
def fcmpLess_int (a0 : Int) (a1 : Int) : Option (Bool × Unit) := fcmpLess_intC a0 a1 some
theorem fcmpLess_int_k {ρ : Type} (a0 : Int) (a1 : Int) (k : Bool × Unit → Option ρ) : fcmpLess_intC a0 a1 k = (fcmpLess_int a0 a1).bind k := by
  simp only [fcmpLess_int, fcmpLess_intC, br_bind, Option.bind_assoc, Option.bind_some]
abbrev EcmpLess_int : Ent := entP [.ty (.i .i64), .ty (.i .i64)] [.b] fun x => fcmpLess_int x.1 x.2.1
theorem ecmpLess_int : EntOk Tryz.prog 199 EcmpLess_int :=
  entP_of (Λ := getL []) (fn := Tryz.f199) Θ_ok YcmpLess_int_ok mixed_ok (by kernel_rfl) (hL_of (by kernel_rfl : _ = []) loops_nil) (by kernel_rfl) (fun x => fcmpLess_int x.1 x.2.1)
    (fun x => Eq.trans (by kernel_rfl : _ = fcmpLess_intC x.1 x.2.1 (fun y => ret (pairs [.b] y) fun v g => some (v, g))) (fcmpLess_int_k x.1 x.2.1 _)) fun _ _ h => h
/-! slices.insertionSortOrdered[int] -/
abbrev YslinsertionSortOrdered_int_io : List (Nat × Ent) := [(199, EcmpLess_int)]
theorem YslinsertionSortOrdered_int_io_ok : TabOk Tryz.prog (getY YslinsertionSortOrdered_int_io) := tab_cons ecmpLess_int <| tab_nil _
noncomputable abbrev cslinsertionSortOrdered_int_io_1 : Code := loopAt (bodyOf Tryz.f193) 0
noncomputable abbrev cslinsertionSortOrdered_int_io_4 : Code := loopAt cslinsertionSortOrdered_int_io_1 0
abbrev LslinsertionSortOrdered_int_io_4 : LSh := ⟨[(0, .cl (.own 0 (.i .i64))), (1, .cl (.int .i64)), (2, .cl (.int .i64)), (6, .cl (.int .i64)), (7, .cl (.int .i64))], [], [.i .i64], 1, 49⟩
abbrev XslinsertionSortOrdered_int_io_4 : List (X × LSh) := [(.ext 2, ⟨[(0, .cl (.own 0 (.i .i64))), (1, .cl (.int .i64)), (2, .cl (.int .i64)), (6, .cl (.int .i64))], [], [.i .i64], 1, 49⟩)]
def bslinsertionSortOrdered_int_io_4C {ρ : Type} (v5 : List Int) (v6 : Int) (v7 : Int) (v8 : Int) (v9 : Int) (fn : ((Unit × Int × Int × Int × Int × Unit) × (Unit) × ((List Int) × Unit)) → Option ρ) (fe : ((Unit × Int × Int × Int × Unit) × (Unit) × ((List Int) × Unit)) → Option ρ) : Option ρ :=
  br (decide (v9 > v6)) (iteP (0 ≤ v9 ∧ v9 < (v5.length : Int)) ((v5[v9.toNat]?).bind fun x10 => iteP (0 ≤ (IntKind.wrap .i64 (v9 - 1)) ∧ (IntKind.wrap .i64 (v9 - 1)) < (v5.length : Int)) ((v5[(IntKind.wrap .i64 (v9 - 1)).toNat]?).bind fun x11 => (fcmpLess_int x10 x11).bind fun y12 => br y12.1 (iteP (0 ≤ (IntKind.wrap .i64 (v9 - 1)) ∧ (IntKind.wrap .i64 (v9 - 1)) < (v5.length : Int)) ((v5[(IntKind.wrap .i64 (v9 - 1)).toNat]?).bind fun x13 => iteP (0 ≤ v9 ∧ v9 < (v5.length : Int)) ((v5[v9.toNat]?).bind fun x14 => iteP (0 ≤ v9 ∧ v9 < (v5.length : Int)) (iteP (0 ≤ (IntKind.wrap .i64 (v9 - 1)) ∧ (IntKind.wrap .i64 (v9 - 1)) < (v5.length : Int)) ((v5[v9.toNat]?).bind fun _ => ((v5.set v9.toNat x13)[(IntKind.wrap .i64 (v9 - 1)).toNat]?).bind fun _ => fn (((), v6, v7, v8, (IntKind.wrap .i64 (v9 - 1)), ()), (()), (((v5.set v9.toNat x13).set ((IntKind.wrap .i64 (v9 - 1)).toNat) x14), ()))) none) none) none) none) (fe (((), v6, v7, v8, ()), (()), (v5, ())))) none) none) (fe (((), v6, v7, v8, ()), (()), (v5, ())))
def bslinsertionSortOrdered_int_io_4 (s : LslinsertionSortOrdered_int_io_4.D) : Option (LslinsertionSortOrdered_int_io_4.D ⊕ Exs.D XslinsertionSortOrdered_int_io_4) := bslinsertionSortOrdered_int_io_4C s.2.2.1 s.1.2.1 s.1.2.2.1 s.1.2.2.2.1 s.1.2.2.2.2.1 (fun s => some (.inl s)) (fun e => some (.inr e))
def lslinsertionSortOrdered_int_io_4 : LslinsertionSortOrdered_int_io_4.D → Option (Exs.D XslinsertionSortOrdered_int_io_4) := lim bslinsertionSortOrdered_int_io_4
theorem bslinsertionSortOrdered_int_io_4_k {ρ : Type} (s : LslinsertionSortOrdered_int_io_4.D) (fn : LslinsertionSortOrdered_int_io_4.D → Option ρ) (fe : Exs.D XslinsertionSortOrdered_int_io_4 → Option ρ) : bslinsertionSortOrdered_int_io_4C s.2.2.1 s.1.2.1 s.1.2.2.1 s.1.2.2.2.1 s.1.2.2.2.2.1 fn fe = (bslinsertionSortOrdered_int_io_4 s).bind (Sum.elim fn fe) := by
  simp only [bslinsertionSortOrdered_int_io_4, bslinsertionSortOrdered_int_io_4C, br_bind, iteP_bind, Option.bind_none, Option.bind_assoc, Option.bind_some, Sum.elim_inl, Sum.elim_inr]
abbrev EslinsertionSortOrdered_int_io_4 : LoopE := loopE [] [0, 1, 2, 6, 7] LslinsertionSortOrdered_int_io_4 XslinsertionSortOrdered_int_io_4 lslinsertionSortOrdered_int_io_4
theorem bslinsertionSortOrdered_int_io_4_ok (s : LslinsertionSortOrdered_int_io_4.D) : evCK Θ (getY YslinsertionSortOrdered_int_io) (getL []) cslinsertionSortOrdered_int_io_4 (LslinsertionSortOrdered_int_io_4.mk' s) (tellK [0, 1, 2, 6, 7] [0, 1, 2, 6] fun x S => some (x, S)) = (bslinsertionSortOrdered_int_io_4 s).bind (Sum.elim (fun s' => some (.nor, LslinsertionSortOrdered_int_io_4.mk' s')) fun e => some (Exs.e XslinsertionSortOrdered_int_io_4 e)) :=
  Eq.trans (by kernel_rfl : _ = bslinsertionSortOrdered_int_io_4C s.2.2.1 s.1.2.1 s.1.2.2.1 s.1.2.2.2.1 s.1.2.2.2.2.1 (fun s' => some (.nor, LslinsertionSortOrdered_int_io_4.mk' s')) (fun e => some (Exs.e XslinsertionSortOrdered_int_io_4 e))) (bslinsertionSortOrdered_int_io_4_k s _ _)
theorem lslinsertionSortOrdered_int_io_4_ok : LoopOk Tryz.prog cslinsertionSortOrdered_int_io_4 EslinsertionSortOrdered_int_io_4 := loopE_ok Θ_ok YslinsertionSortOrdered_int_io_ok mixed_ok (by kernel_rfl) (hL_in (by kernel_rfl : _ = []) loops_nil) [] [0, 1, 2, 6, 7] [0, 1, 2, 6] LslinsertionSortOrdered_int_io_4 XslinsertionSortOrdered_int_io_4 (by kernel_rfl) bslinsertionSortOrdered_int_io_4 bslinsertionSortOrdered_int_io_4_ok lslinsertionSortOrdered_int_io_4 (limN bslinsertionSortOrdered_int_io_4) (lim_round bslinsertionSortOrdered_int_io_4)
abbrev LslinsertionSortOrdered_int_io_1 : LSh := ⟨[(0, .cl (.own 0 (.i .i64))), (1, .cl (.int .i64)), (2, .cl (.int .i64)), (6, .cl (.int .i64))], [], [.i .i64], 1, 49⟩
abbrev XslinsertionSortOrdered_int_io_1 : List (X × LSh) := [(.ext 0, ⟨[], [], [.i .i64], 1, 49⟩)]
def bslinsertionSortOrdered_int_io_1C {ρ : Type} (v1 : List Int) (v2 : Int) (v3 : Int) (v4 : Int) (fn : ((Unit × Int × Int × Int × Unit) × (Unit) × ((List Int) × Unit)) → Option ρ) (fe : ((Unit) × (Unit) × ((List Int) × Unit)) → Option ρ) : Option ρ :=
  br (decide (v4 < v3)) ((lslinsertionSortOrdered_int_io_4 (((), v2, v3, v4, v4, ()), (()), (v1, ()))).bind fun e17 => fn (((), e17.1.2.1, e17.1.2.2.1, (IntKind.wrap .i64 (e17.1.2.2.2.1 + 1)), ()), (()), (e17.2.2.1, ()))) (fe ((()), (()), (v1, ())))
def bslinsertionSortOrdered_int_io_1 (s : LslinsertionSortOrdered_int_io_1.D) : Option (LslinsertionSortOrdered_int_io_1.D ⊕ Exs.D XslinsertionSortOrdered_int_io_1) := bslinsertionSortOrdered_int_io_1C s.2.2.1 s.1.2.1 s.1.2.2.1 s.1.2.2.2.1 (fun s => some (.inl s)) (fun e => some (.inr e))
def lslinsertionSortOrdered_int_io_1 : LslinsertionSortOrdered_int_io_1.D → Option (Exs.D XslinsertionSortOrdered_int_io_1) := lim bslinsertionSortOrdered_int_io_1
theorem bslinsertionSortOrdered_int_io_1_k {ρ : Type} (s : LslinsertionSortOrdered_int_io_1.D) (fn : LslinsertionSortOrdered_int_io_1.D → Option ρ) (fe : Exs.D XslinsertionSortOrdered_int_io_1 → Option ρ) : bslinsertionSortOrdered_int_io_1C s.2.2.1 s.1.2.1 s.1.2.2.1 s.1.2.2.2.1 fn fe = (bslinsertionSortOrdered_int_io_1 s).bind (Sum.elim fn fe) := by
  simp only [bslinsertionSortOrdered_int_io_1, bslinsertionSortOrdered_int_io_1C, br_bind, Option.bind_assoc, Option.bind_some, Sum.elim_inl, Sum.elim_inr]
abbrev EslinsertionSortOrdered_int_io_1 : LoopE := loopE [] [0, 1, 2, 6] LslinsertionSortOrdered_int_io_1 XslinsertionSortOrdered_int_io_1 lslinsertionSortOrdered_int_io_1
theorem bslinsertionSortOrdered_int_io_1_ok (s : LslinsertionSortOrdered_int_io_1.D) : evCK Θ (getY YslinsertionSortOrdered_int_io) (getL [(key cslinsertionSortOrdered_int_io_4, EslinsertionSortOrdered_int_io_4)]) cslinsertionSortOrdered_int_io_1 (LslinsertionSortOrdered_int_io_1.mk' s) (tellK [0, 1, 2, 6] [] fun x S => some (x, S)) = (bslinsertionSortOrdered_int_io_1 s).bind (Sum.elim (fun s' => some (.nor, LslinsertionSortOrdered_int_io_1.mk' s')) fun e => some (Exs.e XslinsertionSortOrdered_int_io_1 e)) :=
  Eq.trans (by kernel_rfl : _ = bslinsertionSortOrdered_int_io_1C s.2.2.1 s.1.2.1 s.1.2.2.1 s.1.2.2.2.1 (fun s' => some (.nor, LslinsertionSortOrdered_int_io_1.mk' s')) (fun e => some (Exs.e XslinsertionSortOrdered_int_io_1 e))) (bslinsertionSortOrdered_int_io_1_k s _ _)
theorem lslinsertionSortOrdered_int_io_1_ok : LoopOk Tryz.prog cslinsertionSortOrdered_int_io_1 EslinsertionSortOrdered_int_io_1 := loopE_ok Θ_ok YslinsertionSortOrdered_int_io_ok mixed_ok (by kernel_rfl) (hL_in (by kernel_rfl : _ = [cslinsertionSortOrdered_int_io_4]) (loops_one (q := key cslinsertionSortOrdered_int_io_4) rfl lslinsertionSortOrdered_int_io_4_ok fun _ _ _ => by kernel_rfl)) [] [0, 1, 2, 6] [] LslinsertionSortOrdered_int_io_1 XslinsertionSortOrdered_int_io_1 (by kernel_rfl) bslinsertionSortOrdered_int_io_1 bslinsertionSortOrdered_int_io_1_ok lslinsertionSortOrdered_int_io_1 (limN bslinsertionSortOrdered_int_io_1) (lim_round bslinsertionSortOrdered_int_io_1)
def fslinsertionSortOrdered_int_ioC {ρ : Type} (a0 : List Int) (a1 : Int) (a2 : Int) (k : (List Int) × Unit → Option ρ) : Option ρ :=
  (lslinsertionSortOrdered_int_io_1 (((), a1, a2, (IntKind.wrap .i64 (a1 + 1)), ()), (()), (a0, ()))).bind fun e18 => k (e18.2.2.1, ())
def fslinsertionSortOrdered_int_io (a0 : List Int) (a1 : Int) (a2 : Int) : Option ((List Int) × Unit) := fslinsertionSortOrdered_int_ioC a0 a1 a2 some
theorem fslinsertionSortOrdered_int_io_k {ρ : Type} (a0 : List Int) (a1 : Int) (a2 : Int) (k : (List Int) × Unit → Option ρ) : fslinsertionSortOrdered_int_ioC a0 a1 a2 k = (fslinsertionSortOrdered_int_io a0 a1 a2).bind k := by
  simp only [fslinsertionSortOrdered_int_io, fslinsertionSortOrdered_int_ioC, Option.bind_assoc, Option.bind_some]
abbrev EslinsertionSortOrdered_int_io : Ent := entI (.i .i64) [.ty (.i .i64), .ty (.i .i64)] [] fun l x => fslinsertionSortOrdered_int_io l x.1 x.2.1
theorem eslinsertionSortOrdered_int_io : EntOk Tryz.prog (ioOf 193) EslinsertionSortOrdered_int_io :=
  entI_of (Λ := getL [(key cslinsertionSortOrdered_int_io_1, EslinsertionSortOrdered_int_io_1)]) (fn := Tryz.f193) Θ_ok YslinsertionSortOrdered_int_io_ok mixed_ok (by kernel_rfl) (hL_of (by kernel_rfl : _ = [cslinsertionSortOrdered_int_io_1]) (loops_one (q := key cslinsertionSortOrdered_int_io_1) rfl lslinsertionSortOrdered_int_io_1_ok fun _ _ _ => by kernel_rfl)) (by kernel_rfl) (fun l x => fslinsertionSortOrdered_int_io l x.1 x.2.1)
    (fun l x => Eq.trans (by kernel_rfl : _ = fslinsertionSortOrdered_int_ioC l x.1 x.2.1 (fun y => retI (.i .i64) [] y fun v g => some (v, g))) (fslinsertionSortOrdered_int_io_k l x.1 x.2.1 _)) fun _ _ _ h => h
/-! slices.pdqsortOrdered[int] -/
abbrev YslpdqsortOrdered_int_io : List (Nat × Ent) := [(ioOf 193, EslinsertionSortOrdered_int_io)]
theorem YslpdqsortOrdered_int_io_ok : TabOk Tryz.prog (getY YslpdqsortOrdered_int_io) := tab_cons eslinsertionSortOrdered_int_io <| tab_nil _
noncomputable abbrev cslpdqsortOrdered_int_io_2 : Code := loopAt (bodyOf Tryz.f190) 0
abbrev LslpdqsortOrdered_int_io_2 : LSh := ⟨[(0, .cl (.own 0 (.i .i64))), (1, .cl (.int .i64)), (2, .cl (.int .i64)), (3, .cl (.int .i64)), (8, .cl (.bl)), (9, .cl (.bl))], [], [.i .i64], 1, 134⟩
abbrev XslpdqsortOrdered_int_io_2 : List (X × LSh) := [(.ret, ⟨[], [], [.i .i64], 1, 134⟩)]
def bslpdqsortOrdered_int_io_2C {ρ : Type} (v1 : List Int) (v2 : Int) (v3 : Int) (v4 : Int) (v5 : Bool) (_v6 : Bool) (fn : ((Unit × Int × Int × Int × Bool × Bool × Unit) × (Unit) × ((List Int) × Unit)) → Option ρ) (fe : ((Unit) × (Unit) × ((List Int) × Unit)) → Option ρ) : Option ρ :=
  br (decide ((IntKind.wrap .i64 (v3 - v2)) ≤ 12)) ((fslinsertionSortOrdered_int_io v1 v2 v3).bind fun y7 => iteP (y7.1.length = v1.length) (fe ((()), (()), (y7.1, ()))) none) (br (v4 == 0) (none) (br (!v5) (none) (none)))
def bslpdqsortOrdered_int_io_2 (s : LslpdqsortOrdered_int_io_2.D) : Option (LslpdqsortOrdered_int_io_2.D ⊕ Exs.D XslpdqsortOrdered_int_io_2) := bslpdqsortOrdered_int_io_2C s.2.2.1 s.1.2.1 s.1.2.2.1 s.1.2.2.2.1 s.1.2.2.2.2.1 s.1.2.2.2.2.2.1 (fun s => some (.inl s)) (fun e => some (.inr e))
def lslpdqsortOrdered_int_io_2 : LslpdqsortOrdered_int_io_2.D → Option (Exs.D XslpdqsortOrdered_int_io_2) := lim bslpdqsortOrdered_int_io_2
theorem bslpdqsortOrdered_int_io_2_k {ρ : Type} (s : LslpdqsortOrdered_int_io_2.D) (fn : LslpdqsortOrdered_int_io_2.D → Option ρ) (fe : Exs.D XslpdqsortOrdered_int_io_2 → Option ρ) : bslpdqsortOrdered_int_io_2C s.2.2.1 s.1.2.1 s.1.2.2.1 s.1.2.2.2.1 s.1.2.2.2.2.1 s.1.2.2.2.2.2.1 fn fe = (bslpdqsortOrdered_int_io_2 s).bind (Sum.elim fn fe) := by
  simp only [bslpdqsortOrdered_int_io_2, bslpdqsortOrdered_int_io_2C, br_bind, iteP_bind, Option.bind_none, Option.bind_assoc, Option.bind_some, Sum.elim_inr]
abbrev EslpdqsortOrdered_int_io_2 : LoopE := loopE [] [0, 1, 2, 3, 8, 9] LslpdqsortOrdered_int_io_2 XslpdqsortOrdered_int_io_2 lslpdqsortOrdered_int_io_2
theorem bslpdqsortOrdered_int_io_2_ok (s : LslpdqsortOrdered_int_io_2.D) : evCK Θ (getY YslpdqsortOrdered_int_io) (getL []) cslpdqsortOrdered_int_io_2 (LslpdqsortOrdered_int_io_2.mk' s) (tellK [0, 1, 2, 3, 8, 9] [] fun x S => some (x, S)) = (bslpdqsortOrdered_int_io_2 s).bind (Sum.elim (fun s' => some (.nor, LslpdqsortOrdered_int_io_2.mk' s')) fun e => some (Exs.e XslpdqsortOrdered_int_io_2 e)) :=
  Eq.trans (by kernel_rfl : _ = bslpdqsortOrdered_int_io_2C s.2.2.1 s.1.2.1 s.1.2.2.1 s.1.2.2.2.1 s.1.2.2.2.2.1 s.1.2.2.2.2.2.1 (fun s' => some (.nor, LslpdqsortOrdered_int_io_2.mk' s')) (fun e => some (Exs.e XslpdqsortOrdered_int_io_2 e))) (bslpdqsortOrdered_int_io_2_k s _ _)
theorem lslpdqsortOrdered_int_io_2_ok : LoopOk Tryz.prog cslpdqsortOrdered_int_io_2 EslpdqsortOrdered_int_io_2 := loopE_ok Θ_ok YslpdqsortOrdered_int_io_ok mixed_ok (by kernel_rfl) (hL_in (by kernel_rfl : _ = []) loops_nil) [] [0, 1, 2, 3, 8, 9] [] LslpdqsortOrdered_int_io_2 XslpdqsortOrdered_int_io_2 (by kernel_rfl) bslpdqsortOrdered_int_io_2 bslpdqsortOrdered_int_io_2_ok lslpdqsortOrdered_int_io_2 (limN bslpdqsortOrdered_int_io_2) (lim_round bslpdqsortOrdered_int_io_2)
def fslpdqsortOrdered_int_ioC {ρ : Type} (a0 : List Int) (a1 : Int) (a2 : Int) (a3 : Int) (k : (List Int) × Unit → Option ρ) : Option ρ :=
  (lslpdqsortOrdered_int_io_2 (((), a1, a2, a3, true, true, ()), (()), (a0, ()))).bind fun e8 => k (e8.2.2.1, ())
def fslpdqsortOrdered_int_io (a0 : List Int) (a1 : Int) (a2 : Int) (a3 : Int) : Option ((List Int) × Unit) := fslpdqsortOrdered_int_ioC a0 a1 a2 a3 some
theorem fslpdqsortOrdered_int_io_k {ρ : Type} (a0 : List Int) (a1 : Int) (a2 : Int) (a3 : Int) (k : (List Int) × Unit → Option ρ) : fslpdqsortOrdered_int_ioC a0 a1 a2 a3 k = (fslpdqsortOrdered_int_io a0 a1 a2 a3).bind k := by
  simp only [fslpdqsortOrdered_int_io, fslpdqsortOrdered_int_ioC, Option.bind_assoc, Option.bind_some]
abbrev EslpdqsortOrdered_int_io : Ent := entI (.i .i64) [.ty (.i .i64), .ty (.i .i64), .ty (.i .i64)] [] fun l x => fslpdqsortOrdered_int_io l x.1 x.2.1 x.2.2.1
theorem eslpdqsortOrdered_int_io : EntOk Tryz.prog (ioOf 190) EslpdqsortOrdered_int_io :=
  entI_of (Λ := getL [(key cslpdqsortOrdered_int_io_2, EslpdqsortOrdered_int_io_2)]) (fn := Tryz.f190) Θ_ok YslpdqsortOrdered_int_io_ok mixed_ok (by kernel_rfl) (hL_of (by kernel_rfl : _ = [cslpdqsortOrdered_int_io_2]) (loops_one (q := key cslpdqsortOrdered_int_io_2) rfl lslpdqsortOrdered_int_io_2_ok fun _ _ _ => by kernel_rfl)) (by kernel_rfl) (fun l x => fslpdqsortOrdered_int_io l x.1 x.2.1 x.2.2.1)
    (fun l x => Eq.trans (by kernel_rfl : _ = fslpdqsortOrdered_int_ioC l x.1 x.2.1 x.2.2.1 (fun y => retI (.i .i64) [] y fun v g => some (v, g))) (fslpdqsortOrdered_int_io_k l x.1 x.2.1 x.2.2.1 _)) fun _ _ _ h => h
/-! slices.Sort[[]int,int] -/
abbrev YslSort_int_io : List (Nat × Ent) := [(191, EbitsLen), (ioOf 190, EslpdqsortOrdered_int_io)]
theorem YslSort_int_io_ok : TabOk Tryz.prog (getY YslSort_int_io) := tab_cons ebitsLen <| tab_cons eslpdqsortOrdered_int_io <| tab_nil _
def fslSort_int_ioC {ρ : Type} (a0 : List Int) (k : (List Int) × Unit → Option ρ) : Option ρ :=
  (fbitsLen (IntKind.wrap .u64 (a0.length : Int))).bind fun y1 => (fslpdqsortOrdered_int_io a0 0 (a0.length : Int) y1.1).bind fun y2 => iteP (y2.1.length = a0.length) (k (y2.1, ())) none
def fslSort_int_io (a0 : List Int) : Option ((List Int) × Unit) := fslSort_int_ioC a0 some
theorem fslSort_int_io_k {ρ : Type} (a0 : List Int) (k : (List Int) × Unit → Option ρ) : fslSort_int_ioC a0 k = (fslSort_int_io a0).bind k := by
  simp only [fslSort_int_io, fslSort_int_ioC, iteP_bind, Option.bind_none, Option.bind_assoc, Option.bind_some]
abbrev EslSort_int_io : Ent := entI (.i .i64) [] [] fun l _ => fslSort_int_io l
theorem eslSort_int_io : EntOk Tryz.prog (ioOf 179) EslSort_int_io :=
  entI_of (Λ := getL []) (fn := Tryz.f179) Θ_ok YslSort_int_io_ok mixed_ok (by kernel_rfl) (hL_of (by kernel_rfl : _ = []) loops_nil) (by kernel_rfl) (fun l _ => fslSort_int_io l)
    (fun l _ => Eq.trans (by kernel_rfl : _ = fslSort_int_ioC l (fun y => retI (.i .i64) [] y fun v g => some (v, g))) (fslSort_int_io_k l _)) fun _ _ _ h => h
/-! slices.Compact[[]int,int] -/
abbrev YslCompact_int_mv : List (Nat × Ent) := []
theorem YslCompact_int_mv_ok : TabOk Tryz.prog (getY YslCompact_int_mv) := tab_nil _
noncomputable abbrev cslCompact_int_mv_4 : Code := loopAt (bodyOf Tryz.f180) 0
noncomputable abbrev cslCompact_int_mv_9 : Code := loopAt cslCompact_int_mv_4 0
abbrev LslCompact_int_mv_4 : LSh := ⟨[(0, .cl (.own 0 (.i .i64))), (3, .cl (.int .i64))], [], [.i .i64], 0, 61⟩
abbrev XslCompact_int_mv_4 : List (X × LSh) := [(.ext 0, ⟨[(0, .cl (.own 0 (.i .i64))), (2, .cl (.dead))], [], [.i .i64], 0, 61⟩)]
def bslCompact_int_mv_4C {ρ : Type} (v1 : List Int) (v2 : Int) (fn : ((Unit × Int × Unit) × (Unit) × ((List Int) × Unit)) → Option ρ) (fe : ((Unit × Unit × Unit) × (Unit) × ((List Int) × Unit)) → Option ρ) : Option ρ :=
  br (decide (v2 < (v1.length : Int))) (iteP (0 ≤ v2 ∧ v2 < (v1.length : Int)) ((v1[v2.toNat]?).bind fun x3 => iteP (0 ≤ (IntKind.wrap .i64 (v2 - 1)) ∧ (IntKind.wrap .i64 (v2 - 1)) < (v1.length : Int)) ((v1[(IntKind.wrap .i64 (v2 - 1)).toNat]?).bind fun x4 => br (x3 == x4) (iteP (0 ≤ v2 ∧ v2 ≤ (v1.length : Int) ∧ (v1.length : Int) ≤ ((v1.length : Nat) : Int)) (none) none) (fn (((), (IntKind.wrap .i64 (v2 + 1)), ()), (()), (v1, ())))) none) none) (fe (((), (), ()), (()), (v1, ())))
def bslCompact_int_mv_4 (s : LslCompact_int_mv_4.D) : Option (LslCompact_int_mv_4.D ⊕ Exs.D XslCompact_int_mv_4) := bslCompact_int_mv_4C s.2.2.1 s.1.2.1 (fun s => some (.inl s)) (fun e => some (.inr e))
def lslCompact_int_mv_4 : LslCompact_int_mv_4.D → Option (Exs.D XslCompact_int_mv_4) := lim bslCompact_int_mv_4
theorem bslCompact_int_mv_4_k {ρ : Type} (s : LslCompact_int_mv_4.D) (fn : LslCompact_int_mv_4.D → Option ρ) (fe : Exs.D XslCompact_int_mv_4 → Option ρ) : bslCompact_int_mv_4C s.2.2.1 s.1.2.1 fn fe = (bslCompact_int_mv_4 s).bind (Sum.elim fn fe) := by
  simp only [bslCompact_int_mv_4, bslCompact_int_mv_4C, br_bind, iteP_bind, Option.bind_none, Option.bind_assoc, Option.bind_some, Sum.elim_inl, Sum.elim_inr]
abbrev EslCompact_int_mv_4 : LoopE := loopE [] [0, 3] LslCompact_int_mv_4 XslCompact_int_mv_4 lslCompact_int_mv_4
theorem bslCompact_int_mv_4_ok (s : LslCompact_int_mv_4.D) : evCK Θ (getY YslCompact_int_mv) (getL []) cslCompact_int_mv_4 (LslCompact_int_mv_4.mk' s) (tellK [0, 3] [0, 2] fun x S => some (x, S)) = (bslCompact_int_mv_4 s).bind (Sum.elim (fun s' => some (.nor, LslCompact_int_mv_4.mk' s')) fun e => some (Exs.e XslCompact_int_mv_4 e)) :=
  Eq.trans (by kernel_rfl : _ = bslCompact_int_mv_4C s.2.2.1 s.1.2.1 (fun s' => some (.nor, LslCompact_int_mv_4.mk' s')) (fun e => some (Exs.e XslCompact_int_mv_4 e))) (bslCompact_int_mv_4_k s _ _)
theorem lslCompact_int_mv_4_ok : LoopOk Tryz.prog cslCompact_int_mv_4 EslCompact_int_mv_4 := loopE_ok Θ_ok YslCompact_int_mv_ok mixed_ok (by kernel_rfl) (hL_in (by kernel_rfl : _ = [cslCompact_int_mv_9]) (loops_no (q := key cslCompact_int_mv_9) rfl fun _ _ _ => by kernel_rfl)) [] [0, 3] [0, 2] LslCompact_int_mv_4 XslCompact_int_mv_4 (by kernel_rfl) bslCompact_int_mv_4 bslCompact_int_mv_4_ok lslCompact_int_mv_4 (limN bslCompact_int_mv_4) (lim_round bslCompact_int_mv_4)
def fslCompact_int_mvC {ρ : Type} (a0 : List Int) (k : (List Int) × Unit → Option ρ) : Option ρ :=
  br (decide ((a0.length : Int) < 2)) (k (a0, ())) ((lslCompact_int_mv_4 (((), 1, ()), (()), (a0, ()))).bind fun e5 => k (e5.2.2.1, ()))
def fslCompact_int_mv (a0 : List Int) : Option ((List Int) × Unit) := fslCompact_int_mvC a0 some
theorem fslCompact_int_mv_k {ρ : Type} (a0 : List Int) (k : (List Int) × Unit → Option ρ) : fslCompact_int_mvC a0 k = (fslCompact_int_mv a0).bind k := by
  simp only [fslCompact_int_mv, fslCompact_int_mvC, br_bind, Option.bind_assoc, Option.bind_some]
abbrev EslCompact_int_mv : Ent := entM (.i .i64) [] [.ls (.i .i64)] fun l _ => fslCompact_int_mv l
theorem eslCompact_int_mv : EntOk Tryz.prog (mvOf 180) EslCompact_int_mv :=
  entM_of (Λ := getL [(key cslCompact_int_mv_4, EslCompact_int_mv_4)]) (fn := Tryz.f180) Θ_ok YslCompact_int_mv_ok mixed_ok (by kernel_rfl) (hL_of (by kernel_rfl : _ = [cslCompact_int_mv_4]) (loops_one (q := key cslCompact_int_mv_4) rfl lslCompact_int_mv_4_ok fun _ _ _ => by kernel_rfl)) (fun l _ => fslCompact_int_mv l)
    (fun l _ => Eq.trans (by kernel_rfl : _ = fslCompact_int_mvC l (fun y => ret (pairs [.ls (.i .i64)] y) fun v g => some (v, g))) (fslCompact_int_mv_k l _)) fun _ _ _ h => h
/-! loop.example/g01926/impl.ascending -/
abbrev Yiascending : List (Nat × Ent) := [(154, EslClone_int), (ioOf 179, EslSort_int_io), (mvOf 180, EslCompact_int_mv)]
theorem Yiascending_ok : TabOk Tryz.prog (getY Yiascending) := tab_cons eslClone_int <| tab_cons eslSort_int_io <| tab_cons eslCompact_int_mv <| tab_nil _
def fiascendingC {ρ : Type} (a0 : List Int) (k : (List Int) × Unit → Option ρ) : Option ρ :=
  (fslClone_int a0).bind fun y1 => (fslSort_int_io y1.1).bind fun y2 => iteP (y2.1.length = y1.1.length) ((fslCompact_int_mv y2.1).bind fun y3 => k (y3.1, ())) none
def fiascending (a0 : List Int) : Option ((List Int) × Unit) := fiascendingC a0 some
theorem fiascending_k {ρ : Type} (a0 : List Int) (k : (List Int) × Unit → Option ρ) : fiascendingC a0 k = (fiascending a0).bind k := by
  simp only [fiascending, fiascendingC, iteP_bind, Option.bind_none, Option.bind_assoc, Option.bind_some]
abbrev Eiascending : Ent := entP [.ty (.ls (.i .i64))] [.ls (.i .i64)] fun x => fiascending x.1
theorem eiascending : EntOk Tryz.prog 143 Eiascending :=
  entP_of (Λ := getL []) (fn := Tryz.f143) Θ_ok Yiascending_ok mixed_ok (by kernel_rfl) (hL_of (by kernel_rfl : _ = []) loops_nil) (by kernel_rfl) (fun x => fiascending x.1)
    (fun x => Eq.trans (by kernel_rfl : _ = fiascendingC x.1 (fun y => ret (pairs [.ls (.i .i64)] y) fun v g => some (v, g))) (fiascending_k x.1 _)) fun _ _ h => h
/-! loop.example/g01926/impl.WithoutServers$1 -/
abbrev YiWithoutServers_c1 : List (Nat × Ent) := [(82, EiHasServer)]
theorem YiWithoutServers_c1_ok : TabOk Tryz.prog (getY YiWithoutServers_c1) := tab_cons eiHasServer <| tab_nil _
def fiWithoutServers_c1C {ρ : Type} (a0 : Int) (a1 : List Int) (k : Bool × Unit → Option ρ) : Option ρ :=
  (fiHasServer a1 a0).bind fun y1 => k (y1.1, ())
def fiWithoutServers_c1 (a0 : Int) (a1 : List Int) : Option (Bool × Unit) := fiWithoutServers_c1C a0 a1 some
theorem fiWithoutServers_c1_k {ρ : Type} (a0 : Int) (a1 : List Int) (k : Bool × Unit → Option ρ) : fiWithoutServers_c1C a0 a1 k = (fiWithoutServers_c1 a0 a1).bind k := by
  simp only [fiWithoutServers_c1, fiWithoutServers_c1C, Option.bind_assoc, Option.bind_some]
abbrev EiWithoutServers_c1 : Ent := entP [.ty (.i .i64), .pr (.ls (.i .i64))] [.b] fun x => fiWithoutServers_c1 x.1 x.2.1
theorem eiWithoutServers_c1 : EntOk Tryz.prog 144 EiWithoutServers_c1 :=
  entP_of (Λ := getL []) (fn := Tryz.f144) Θ_ok YiWithoutServers_c1_ok mixed_ok (by kernel_rfl) (hL_of (by kernel_rfl : _ = []) loops_nil) (by kernel_rfl) (fun x => fiWithoutServers_c1 x.1 x.2.1)
    (fun x => Eq.trans (by kernel_rfl : _ = fiWithoutServers_c1C x.1 x.2.1 (fun y => ret (pairs [.b] y) fun v g => some (v, g))) (fiWithoutServers_c1_k x.1 x.2.1 _)) fun _ _ h => h
/-! slices.IndexFunc[[]int,int] -/
abbrev YslIndexFunc_int_iWithoutServers_c1 : List (Nat × Ent) := [(144, EiWithoutServers_c1)]
theorem YslIndexFunc_int_iWithoutServers_c1_ok : TabOk Tryz.prog (getY YslIndexFunc_int_iWithoutServers_c1) := tab_cons eiWithoutServers_c1 <| tab_nil _
noncomputable abbrev cslIndexFunc_int_iWithoutServers_c1_2 : Code := loopAt (bodyOf Tryz.f139) 0
abbrev LslIndexFunc_int_iWithoutServers_c1_2 : LSh := ⟨[(0, .cl (.ro (.i .i64))), (1, .fn 144 [.pro (.ls (.i .i64))]), (7, .cl (.int .i64)), (8, .cl (.int .i64))], [], [], 0, 19⟩
abbrev XslIndexFunc_int_iWithoutServers_c1_2 : List (X × LSh) := [(.ret, ⟨[(4, .cl (.int .i64))], [], [], 0, 19⟩), (.ext 0, ⟨[(4, .cl (.dead))], [], [], 0, 19⟩)]
def bslIndexFunc_int_iWithoutServers_c1_2C {ρ : Type} (v1 : List Int) (v2 : List Int) (v3 : Int) (v4 : Int) (fn : (((List Int) × ((List Int) × Unit) × Int × Int × Unit) × (Unit) × (Unit)) → Option ρ) (fe : ((Int × Unit) × (Unit) × (Unit)) ⊕ ((Unit × Unit) × (Unit) × (Unit)) → Option ρ) : Option ρ :=
  br (decide (v4 < v3)) (iteP (0 ≤ v4) ((v1[v4.toNat]?).bind fun x5 => (fiWithoutServers_c1 x5 v2).bind fun y6 => br y6.1 (fe (.inl ((v4, ()), (()), (())))) (fn ((v1, (v2, ()), v3, (IntKind.wrap .i64 (v4 + 1)), ()), (()), (())))) none) (fe (.inr (((), ()), (()), (()))))
def bslIndexFunc_int_iWithoutServers_c1_2 (s : LslIndexFunc_int_iWithoutServers_c1_2.D) : Option (LslIndexFunc_int_iWithoutServers_c1_2.D ⊕ Exs.D XslIndexFunc_int_iWithoutServers_c1_2) := bslIndexFunc_int_iWithoutServers_c1_2C s.1.1 s.1.2.1.1 s.1.2.2.1 s.1.2.2.2.1 (fun s => some (.inl s)) (fun e => some (.inr e))
def lslIndexFunc_int_iWithoutServers_c1_2 : LslIndexFunc_int_iWithoutServers_c1_2.D → Option (Exs.D XslIndexFunc_int_iWithoutServers_c1_2) := lim bslIndexFunc_int_iWithoutServers_c1_2
theorem bslIndexFunc_int_iWithoutServers_c1_2_k {ρ : Type} (s : LslIndexFunc_int_iWithoutServers_c1_2.D) (fn : LslIndexFunc_int_iWithoutServers_c1_2.D → Option ρ) (fe : Exs.D XslIndexFunc_int_iWithoutServers_c1_2 → Option ρ) : bslIndexFunc_int_iWithoutServers_c1_2C s.1.1 s.1.2.1.1 s.1.2.2.1 s.1.2.2.2.1 fn fe = (bslIndexFunc_int_iWithoutServers_c1_2 s).bind (Sum.elim fn fe) := by
  simp only [bslIndexFunc_int_iWithoutServers_c1_2, bslIndexFunc_int_iWithoutServers_c1_2C, br_bind, iteP_bind, Option.bind_none, Option.bind_assoc, Option.bind_some, Sum.elim_inl, Sum.elim_inr]
abbrev EslIndexFunc_int_iWithoutServers_c1_2 : LoopE := loopE [] [0, 1, 7, 8] LslIndexFunc_int_iWithoutServers_c1_2 XslIndexFunc_int_iWithoutServers_c1_2 lslIndexFunc_int_iWithoutServers_c1_2
theorem bslIndexFunc_int_iWithoutServers_c1_2_ok (s : LslIndexFunc_int_iWithoutServers_c1_2.D) : evCK Θ (getY YslIndexFunc_int_iWithoutServers_c1) (getL []) cslIndexFunc_int_iWithoutServers_c1_2 (LslIndexFunc_int_iWithoutServers_c1_2.mk' s) (tellK [0, 1, 7, 8] [4] fun x S => some (x, S)) = (bslIndexFunc_int_iWithoutServers_c1_2 s).bind (Sum.elim (fun s' => some (.nor, LslIndexFunc_int_iWithoutServers_c1_2.mk' s')) fun e => some (Exs.e XslIndexFunc_int_iWithoutServers_c1_2 e)) :=
  Eq.trans (by kernel_rfl : _ = bslIndexFunc_int_iWithoutServers_c1_2C s.1.1 s.1.2.1.1 s.1.2.2.1 s.1.2.2.2.1 (fun s' => some (.nor, LslIndexFunc_int_iWithoutServers_c1_2.mk' s')) (fun e => some (Exs.e XslIndexFunc_int_iWithoutServers_c1_2 e))) (bslIndexFunc_int_iWithoutServers_c1_2_k s _ _)
theorem lslIndexFunc_int_iWithoutServers_c1_2_ok : LoopOk Tryz.prog cslIndexFunc_int_iWithoutServers_c1_2 EslIndexFunc_int_iWithoutServers_c1_2 := loopE_ok Θ_ok YslIndexFunc_int_iWithoutServers_c1_ok mixed_ok (by kernel_rfl) (hL_in (by kernel_rfl : _ = []) loops_nil) [] [0, 1, 7, 8] [4] LslIndexFunc_int_iWithoutServers_c1_2 XslIndexFunc_int_iWithoutServers_c1_2 (by kernel_rfl) bslIndexFunc_int_iWithoutServers_c1_2 bslIndexFunc_int_iWithoutServers_c1_2_ok lslIndexFunc_int_iWithoutServers_c1_2 (limN bslIndexFunc_int_iWithoutServers_c1_2) (lim_round bslIndexFunc_int_iWithoutServers_c1_2)
def fslIndexFunc_int_iWithoutServers_c1C {ρ : Type} (a0 : List Int) (a1_0 : List Int) (k : Int × Unit → Option ρ) : Option ρ :=
  (lslIndexFunc_int_iWithoutServers_c1_2 ((a0, (a1_0, ()), (a0.length : Int), 0, ()), (()), (()))).bind fun e7 => Sum.elim (fun e7_ => k (e7_.1.1, ())) (fun e7_ => k ((-1), ())) e7
def fslIndexFunc_int_iWithoutServers_c1 (a0 : List Int) (a1_0 : List Int) : Option (Int × Unit) := fslIndexFunc_int_iWithoutServers_c1C a0 a1_0 some
theorem fslIndexFunc_int_iWithoutServers_c1_k {ρ : Type} (a0 : List Int) (a1_0 : List Int) (k : Int × Unit → Option ρ) : fslIndexFunc_int_iWithoutServers_c1C a0 a1_0 k = (fslIndexFunc_int_iWithoutServers_c1 a0 a1_0).bind k := by
  simp only [fslIndexFunc_int_iWithoutServers_c1, fslIndexFunc_int_iWithoutServers_c1C, elim_bind, Option.bind_assoc, Option.bind_some]
abbrev EslIndexFunc_int_iWithoutServers_c1 : Ent := entP [.ty (.ls (.i .i64)), .fn 144 [.ls (.i .i64)]] [.i .i64] fun x => fslIndexFunc_int_iWithoutServers_c1 x.1 x.2.1.1
theorem eslIndexFunc_int_iWithoutServers_c1 : EntOk Tryz.prog 139 EslIndexFunc_int_iWithoutServers_c1 :=
  entP_of (Λ := getL [(key cslIndexFunc_int_iWithoutServers_c1_2, EslIndexFunc_int_iWithoutServers_c1_2)]) (fn := Tryz.f139) Θ_ok YslIndexFunc_int_iWithoutServers_c1_ok mixed_ok (by kernel_rfl) (hL_of (by kernel_rfl : _ = [cslIndexFunc_int_iWithoutServers_c1_2]) (loops_one (q := key cslIndexFunc_int_iWithoutServers_c1_2) rfl lslIndexFunc_int_iWithoutServers_c1_2_ok fun _ _ _ => by kernel_rfl)) (by kernel_rfl) (fun x => fslIndexFunc_int_iWithoutServers_c1 x.1 x.2.1.1)
    (fun x => Eq.trans (by kernel_rfl : _ = fslIndexFunc_int_iWithoutServers_c1C x.1 x.2.1.1 (fun y => ret (pairs [.i .i64] y) fun v g => some (v, g))) (fslIndexFunc_int_iWithoutServers_c1_k x.1 x.2.1.1 _)) fun _ _ h => h
/-! slices.DeleteFunc[[]int,int] -/
abbrev YslDeleteFunc_int_mv_iWithoutServers_c1 : List (Nat × Ent) := [(139, EslIndexFunc_int_iWithoutServers_c1), (144, EiWithoutServers_c1)]
theorem YslDeleteFunc_int_mv_iWithoutServers_c1_ok : TabOk Tryz.prog (getY YslDeleteFunc_int_mv_iWithoutServers_c1) := tab_cons eslIndexFunc_int_iWithoutServers_c1 <| tab_cons eiWithoutServers_c1 <| tab_nil _
noncomputable abbrev cslDeleteFunc_int_mv_iWithoutServers_c1_5 : Code := loopAt (bodyOf Tryz.f86) 0
abbrev LslDeleteFunc_int_mv_iWithoutServers_c1_5 : LSh := ⟨[(0, .cl (.own 0 (.i .i64))), (1, .fn 144 [.pro (.ls (.i .i64))]), (5, .cl (.int .i64)), (6, .cl (.int .i64))], [], [.i .i64], 0, 42⟩
abbrev XslDeleteFunc_int_mv_iWithoutServers_c1_5 : List (X × LSh) := [(.ext 0, ⟨[(0, .cl (.own 0 (.i .i64))), (5, .cl (.int .i64))], [], [.i .i64], 0, 42⟩)]
def bslDeleteFunc_int_mv_iWithoutServers_c1_5C {ρ : Type} (v2 : List Int) (v3 : List Int) (v4 : Int) (v5 : Int) (fn : ((Unit × ((List Int) × Unit) × Int × Int × Unit) × (Unit) × ((List Int) × Unit)) → Option ρ) (fe : ((Unit × Int × Unit) × (Unit) × ((List Int) × Unit)) → Option ρ) : Option ρ :=
  br (decide (v5 < (v2.length : Int))) (iteP (0 ≤ v5 ∧ v5 < (v2.length : Int)) ((v2[v5.toNat]?).bind fun x6 => (fiWithoutServers_c1 x6 v3).bind fun y7 => br (!y7.1) (iteP (0 ≤ v4 ∧ v4 < (v2.length : Int)) ((v2[v4.toNat]?).bind fun _ => fn (((), (v3, ()), (IntKind.wrap .i64 (v4 + 1)), (IntKind.wrap .i64 (v5 + 1)), ()), (()), ((v2.set v4.toNat x6), ()))) none) (fn (((), (v3, ()), v4, (IntKind.wrap .i64 (v5 + 1)), ()), (()), (v2, ())))) none) (fe (((), v4, ()), (()), (v2, ())))
def bslDeleteFunc_int_mv_iWithoutServers_c1_5 (s : LslDeleteFunc_int_mv_iWithoutServers_c1_5.D) : Option (LslDeleteFunc_int_mv_iWithoutServers_c1_5.D ⊕ Exs.D XslDeleteFunc_int_mv_iWithoutServers_c1_5) := bslDeleteFunc_int_mv_iWithoutServers_c1_5C s.2.2.1 s.1.2.1.1 s.1.2.2.1 s.1.2.2.2.1 (fun s => some (.inl s)) (fun e => some (.inr e))
def lslDeleteFunc_int_mv_iWithoutServers_c1_5 : LslDeleteFunc_int_mv_iWithoutServers_c1_5.D → Option (Exs.D XslDeleteFunc_int_mv_iWithoutServers_c1_5) := lim bslDeleteFunc_int_mv_iWithoutServers_c1_5
theorem bslDeleteFunc_int_mv_iWithoutServers_c1_5_k {ρ : Type} (s : LslDeleteFunc_int_mv_iWithoutServers_c1_5.D) (fn : LslDeleteFunc_int_mv_iWithoutServers_c1_5.D → Option ρ) (fe : Exs.D XslDeleteFunc_int_mv_iWithoutServers_c1_5 → Option ρ) : bslDeleteFunc_int_mv_iWithoutServers_c1_5C s.2.2.1 s.1.2.1.1 s.1.2.2.1 s.1.2.2.2.1 fn fe = (bslDeleteFunc_int_mv_iWithoutServers_c1_5 s).bind (Sum.elim fn fe) := by
  simp only [bslDeleteFunc_int_mv_iWithoutServers_c1_5, bslDeleteFunc_int_mv_iWithoutServers_c1_5C, br_bind, iteP_bind, Option.bind_none, Option.bind_assoc, Option.bind_some, Sum.elim_inl, Sum.elim_inr]
abbrev EslDeleteFunc_int_mv_iWithoutServers_c1_5 : LoopE := loopE [] [0, 1, 5, 6] LslDeleteFunc_int_mv_iWithoutServers_c1_5 XslDeleteFunc_int_mv_iWithoutServers_c1_5 lslDeleteFunc_int_mv_iWithoutServers_c1_5
theorem bslDeleteFunc_int_mv_iWithoutServers_c1_5_ok (s : LslDeleteFunc_int_mv_iWithoutServers_c1_5.D) : evCK Θ (getY YslDeleteFunc_int_mv_iWithoutServers_c1) (getL []) cslDeleteFunc_int_mv_iWithoutServers_c1_5 (LslDeleteFunc_int_mv_iWithoutServers_c1_5.mk' s) (tellK [0, 1, 5, 6] [0, 5] fun x S => some (x, S)) = (bslDeleteFunc_int_mv_iWithoutServers_c1_5 s).bind (Sum.elim (fun s' => some (.nor, LslDeleteFunc_int_mv_iWithoutServers_c1_5.mk' s')) fun e => some (Exs.e XslDeleteFunc_int_mv_iWithoutServers_c1_5 e)) :=
  Eq.trans (by kernel_rfl : _ = bslDeleteFunc_int_mv_iWithoutServers_c1_5C s.2.2.1 s.1.2.1.1 s.1.2.2.1 s.1.2.2.2.1 (fun s' => some (.nor, LslDeleteFunc_int_mv_iWithoutServers_c1_5.mk' s')) (fun e => some (Exs.e XslDeleteFunc_int_mv_iWithoutServers_c1_5 e))) (bslDeleteFunc_int_mv_iWithoutServers_c1_5_k s _ _)
theorem lslDeleteFunc_int_mv_iWithoutServers_c1_5_ok : LoopOk Tryz.prog cslDeleteFunc_int_mv_iWithoutServers_c1_5 EslDeleteFunc_int_mv_iWithoutServers_c1_5 := loopE_ok Θ_ok YslDeleteFunc_int_mv_iWithoutServers_c1_ok mixed_ok (by kernel_rfl) (hL_in (by kernel_rfl : _ = []) loops_nil) [] [0, 1, 5, 6] [0, 5] LslDeleteFunc_int_mv_iWithoutServers_c1_5 XslDeleteFunc_int_mv_iWithoutServers_c1_5 (by kernel_rfl) bslDeleteFunc_int_mv_iWithoutServers_c1_5 bslDeleteFunc_int_mv_iWithoutServers_c1_5_ok lslDeleteFunc_int_mv_iWithoutServers_c1_5 (limN bslDeleteFunc_int_mv_iWithoutServers_c1_5) (lim_round bslDeleteFunc_int_mv_iWithoutServers_c1_5)
def fslDeleteFunc_int_mv_iWithoutServers_c1C {ρ : Type} (a0 : List Int) (a1_0 : List Int) (k : (List Int) × Unit → Option ρ) : Option ρ :=
  (fslIndexFunc_int_iWithoutServers_c1 a0 a1_0).bind fun y1 => br (y1.1 == (-1)) (k (a0, ())) ((lslDeleteFunc_int_mv_iWithoutServers_c1_5 (((), (a1_0, ()), y1.1, (IntKind.wrap .i64 (y1.1 + 1)), ()), (()), (a0, ()))).bind fun e9 => iteP (0 ≤ e9.1.2.1 ∧ e9.1.2.1 ≤ (e9.2.2.1.length : Int) ∧ (e9.2.2.1.length : Int) ≤ ((e9.2.2.1.length : Nat) : Int)) (iteP ((0 + e9.1.2.1.toNat) + ((e9.2.2.1.length : Int).toNat - e9.1.2.1.toNat) ≤ e9.2.2.1.length) (iteP (0 ≤ (0 : Int) ∧ (0 : Int) ≤ e9.1.2.1 ∧ e9.1.2.1 ≤ ((e9.2.2.1.length : Nat) : Int)) (iteP ((0 + (0 : Int).toNat) = 0 ∧ (e9.1.2.1.toNat - (0 : Int).toNat) ≤ (e9.2.2.1.take (0 + e9.1.2.1.toNat) ++ List.replicate ((e9.2.2.1.length : Int).toNat - e9.1.2.1.toNat) (0 : Int) ++ e9.2.2.1.drop ((0 + e9.1.2.1.toNat) + ((e9.2.2.1.length : Int).toNat - e9.1.2.1.toNat))).length) (k (((e9.2.2.1.take (0 + e9.1.2.1.toNat) ++ List.replicate ((e9.2.2.1.length : Int).toNat - e9.1.2.1.toNat) (0 : Int) ++ e9.2.2.1.drop ((0 + e9.1.2.1.toNat) + ((e9.2.2.1.length : Int).toNat - e9.1.2.1.toNat))).take (e9.1.2.1.toNat - (0 : Int).toNat)), ())) none) none) none) none)
def fslDeleteFunc_int_mv_iWithoutServers_c1 (a0 : List Int) (a1_0 : List Int) : Option ((List Int) × Unit) := fslDeleteFunc_int_mv_iWithoutServers_c1C a0 a1_0 some
theorem fslDeleteFunc_int_mv_iWithoutServers_c1_k {ρ : Type} (a0 : List Int) (a1_0 : List Int) (k : (List Int) × Unit → Option ρ) : fslDeleteFunc_int_mv_iWithoutServers_c1C a0 a1_0 k = (fslDeleteFunc_int_mv_iWithoutServers_c1 a0 a1_0).bind k := by
  simp only [fslDeleteFunc_int_mv_iWithoutServers_c1, fslDeleteFunc_int_mv_iWithoutServers_c1C, br_bind, iteP_bind, Option.bind_none, Option.bind_assoc, Option.bind_some]
abbrev EslDeleteFunc_int_mv_iWithoutServers_c1 : Ent := entM (.i .i64) [.fn 144 [.ls (.i .i64)]] [.ls (.i .i64)] fun l x => fslDeleteFunc_int_mv_iWithoutServers_c1 l x.1.1
theorem eslDeleteFunc_int_mv_iWithoutServers_c1 : EntOk Tryz.prog (mvOf 86) EslDeleteFunc_int_mv_iWithoutServers_c1 :=
  entM_of (Λ := getL [(key cslDeleteFunc_int_mv_iWithoutServers_c1_5, EslDeleteFunc_int_mv_iWithoutServers_c1_5)]) (fn := Tryz.f86) Θ_ok YslDeleteFunc_int_mv_iWithoutServers_c1_ok mixed_ok (by kernel_rfl) (hL_of (by kernel_rfl : _ = [cslDeleteFunc_int_mv_iWithoutServers_c1_5]) (loops_one (q := key cslDeleteFunc_int_mv_iWithoutServers_c1_5) rfl lslDeleteFunc_int_mv_iWithoutServers_c1_5_ok fun _ _ _ => by kernel_rfl)) (fun l x => fslDeleteFunc_int_mv_iWithoutServers_c1 l x.1.1)
    (fun l x => Eq.trans (by kernel_rfl : _ = fslDeleteFunc_int_mv_iWithoutServers_c1C l x.1.1 (fun y => ret (pairs [.ls (.i .i64)] y) fun v g => some (v, g))) (fslDeleteFunc_int_mv_iWithoutServers_c1_k l x.1.1 _)) fun _ _ _ h => h
/-! loop.example/g01926/impl.WithoutServers -/
abbrev YiWithoutServers : List (Nat × Ent) := [(143, Eiascending), (mvOf 86, EslDeleteFunc_int_mv_iWithoutServers_c1)]
theorem YiWithoutServers_ok : TabOk Tryz.prog (getY YiWithoutServers) := tab_cons eiascending <| tab_cons eslDeleteFunc_int_mv_iWithoutServers_c1 <| tab_nil _
def fiWithoutServersC {ρ : Type} (a0 : List Int) (a1 : List Int) (k : (List Int) × Unit → Option ρ) : Option ρ :=
  (fiascending a0).bind fun y1 => (fslDeleteFunc_int_mv_iWithoutServers_c1 y1.1 a1).bind fun y2 => k (y2.1, ())
def fiWithoutServers (a0 : List Int) (a1 : List Int) : Option ((List Int) × Unit) := fiWithoutServersC a0 a1 some
theorem fiWithoutServers_k {ρ : Type} (a0 : List Int) (a1 : List Int) (k : (List Int) × Unit → Option ρ) : fiWithoutServersC a0 a1 k = (fiWithoutServers a0 a1).bind k := by
  simp only [fiWithoutServers, fiWithoutServersC, Option.bind_assoc, Option.bind_some]
abbrev EiWithoutServers : Ent := entP [.ty (.ls (.i .i64)), .ty (.ls (.i .i64))] [.ls (.i .i64)] fun x => fiWithoutServers x.1 x.2.1
theorem eiWithoutServers : EntOk Tryz.prog 85 EiWithoutServers :=
  entP_of (Λ := getL []) (fn := Tryz.f85) Θ_ok YiWithoutServers_ok mixed_ok (by kernel_rfl) (hL_of (by kernel_rfl : _ = []) loops_nil) (by kernel_rfl) (fun x => fiWithoutServers x.1 x.2.1)
    (fun x => Eq.trans (by kernel_rfl : _ = fiWithoutServersC x.1 x.2.1 (fun y => ret (pairs [.ls (.i .i64)] y) fun v g => some (v, g))) (fiWithoutServers_k x.1 x.2.1 _)) fun _ _ h => h
/-! loop.example/g01926/impl.CommonServers -/
abbrev YiCommonServers : List (Nat × Ent) := [(85, EiWithoutServers)]
theorem YiCommonServers_ok : TabOk Tryz.prog (getY YiCommonServers) := tab_cons eiWithoutServers <| tab_nil _
def fiCommonServersC {ρ : Type} (a0 : List Int) (a1 : List Int) (k : (List Int) × Unit → Option ρ) : Option ρ :=
  (fiWithoutServers a0 a1).bind fun y1 => (fiWithoutServers a0 y1.1).bind fun y2 => k (y2.1, ())
def fiCommonServers (a0 : List Int) (a1 : List Int) : Option ((List Int) × Unit) := fiCommonServersC a0 a1 some
theorem fiCommonServers_k {ρ : Type} (a0 : List Int) (a1 : List Int) (k : (List Int) × Unit → Option ρ) : fiCommonServersC a0 a1 k = (fiCommonServers a0 a1).bind k := by
  simp only [fiCommonServers, fiCommonServersC, Option.bind_assoc, Option.bind_some]
abbrev EiCommonServers : Ent := entP [.ty (.ls (.i .i64)), .ty (.ls (.i .i64))] [.ls (.i .i64)] fun x => fiCommonServers x.1 x.2.1
theorem eiCommonServers : EntOk Tryz.prog 186 EiCommonServers :=
  entP_of (Λ := getL []) (fn := Tryz.f186) Θ_ok YiCommonServers_ok mixed_ok (by kernel_rfl) (hL_of (by kernel_rfl : _ = []) loops_nil) (by kernel_rfl) (fun x => fiCommonServers x.1 x.2.1)
    (fun x => Eq.trans (by kernel_rfl : _ = fiCommonServersC x.1 x.2.1 (fun y => ret (pairs [.ls (.i .i64)] y) fun v g => some (v, g))) (fiCommonServers_k x.1 x.2.1 _)) fun _ _ h => h
/-! loop.example/g01926/impl.IsValidConfig -/
abbrev YiIsValidConfig : List (Nat × Ent) := [(118, Eiwithin), (185, EiAreServers), (82, EiHasServer), (186, EiCommonServers)]
theorem YiIsValidConfig_ok : TabOk Tryz.prog (getY YiIsValidConfig) := tab_cons eiwithin <| tab_cons eiAreServers <| tab_cons eiHasServer <| tab_cons eiCommonServers <| tab_nil _
def fiIsValidConfigC {ρ : Type} (a0 : Config) (k : Bool × Unit → Option ρ) : Option ρ :=
  (fiwithin a0.epoch 1 20).bind fun y1 => br y1.1 ((fiAreServers a0.replicas).bind fun y2 => br y2.1 ((fiAreServers a0.witnesses).bind fun y3 => br y3.1 ((fiHasServer a0.replicas a0.primary).bind fun y4 => br y4.1 ((fiCommonServers a0.replicas a0.witnesses).bind fun y5 => k (((y5.1.length : Int) == 0), ())) (k (false, ()))) (k (false, ()))) (k (false, ()))) (k (false, ()))
def fiIsValidConfig (a0 : Config) : Option (Bool × Unit) := fiIsValidConfigC a0 some
theorem fiIsValidConfig_k {ρ : Type} (a0 : Config) (k : Bool × Unit → Option ρ) : fiIsValidConfigC a0 k = (fiIsValidConfig a0).bind k := by
  simp only [fiIsValidConfig, fiIsValidConfigC, br_bind, Option.bind_assoc, Option.bind_some]
abbrev EiIsValidConfig : Ent := entP [.ty (.st .config)] [.b] fun x => fiIsValidConfig x.1
theorem eiIsValidConfig : EntOk Tryz.prog 166 EiIsValidConfig :=
  entP_of (Λ := getL []) (fn := Tryz.f166) Θ_ok YiIsValidConfig_ok mixed_ok (by kernel_rfl) (hL_of (by kernel_rfl : _ = []) loops_nil) (by kernel_rfl) (fun x => fiIsValidConfig x.1)
    (fun x => Eq.trans (by kernel_rfl : _ = fiIsValidConfigC x.1 (fun y => ret (pairs [.b] y) fun v g => some (v, g))) (fiIsValidConfig_k x.1 _)) fun _ _ h => h
/-! loop.example/g01926/impl.IsMasterLog -/
abbrev YiIsMasterLog : List (Nat × Ent) := [(166, EiIsValidConfig), (118, Eiwithin)]
theorem YiIsMasterLog_ok : TabOk Tryz.prog (getY YiIsMasterLog) := tab_cons eiIsValidConfig <| tab_cons eiwithin <| tab_nil _
noncomputable abbrev ciIsMasterLog_2 : Code := loopAt (bodyOf Tryz.f120) 0
abbrev LiIsMasterLog_2 : LSh := ⟨[(1, .cl (.ptr 0 0)), (6, .cl (.ro (.st .config))), (7, .cl (.int .i64)), (8, .cl (.int .i64))], [[.ro (.st .config), .int .i64]], [], 0, 30⟩
abbrev XiIsMasterLog_2 : List (X × LSh) := [(.ret, ⟨[(1, .cl (.ptr 0 0)), (2, .cl (.bl))], [[.ro (.st .config), .int .i64]], [], 0, 30⟩), (.ext 0, ⟨[(1, .cl (.ptr 0 0)), (2, .cl (.dead))], [[.ro (.st .config), .int .i64]], [], 0, 30⟩)]
def biIsMasterLog_2C {ρ : Type} (v1 : List Config) (v2 : Int) (v3 : Int) (v4 : List Config) (v5 : Int) (fn : ((Unit × (List Config) × Int × Int × Unit) × (((List Config) × Int × Unit) × Unit) × (Unit)) → Option ρ) (fe : ((Unit × Bool × Unit) × (((List Config) × Int × Unit) × Unit) × (Unit)) ⊕ ((Unit × Unit × Unit) × (((List Config) × Int × Unit) × Unit) × (Unit)) → Option ρ) : Option ρ :=
  br (decide (v3 < v2)) (iteP (0 ≤ v3) ((v1[v3.toNat]?).bind fun x6 => (fiIsValidConfig x6).bind fun y7 => br (!y7.1) (fe (.inl (((), false, ()), ((v4, v5, ()), ()), (())))) (br (!(x6.epoch == (IntKind.wrap .i64 (v3 + 1)))) (fe (.inl (((), false, ()), ((v4, v5, ()), ()), (())))) (fn (((), v1, v2, (IntKind.wrap .i64 (v3 + 1)), ()), ((v4, v5, ()), ()), (()))))) none) (fe (.inr (((), (), ()), ((v4, v5, ()), ()), (()))))
def biIsMasterLog_2 (s : LiIsMasterLog_2.D) : Option (LiIsMasterLog_2.D ⊕ Exs.D XiIsMasterLog_2) := biIsMasterLog_2C s.1.2.1 s.1.2.2.1 s.1.2.2.2.1 s.2.1.1.1 s.2.1.1.2.1 (fun s => some (.inl s)) (fun e => some (.inr e))
def liIsMasterLog_2 : LiIsMasterLog_2.D → Option (Exs.D XiIsMasterLog_2) := lim biIsMasterLog_2
theorem biIsMasterLog_2_k {ρ : Type} (s : LiIsMasterLog_2.D) (fn : LiIsMasterLog_2.D → Option ρ) (fe : Exs.D XiIsMasterLog_2 → Option ρ) : biIsMasterLog_2C s.1.2.1 s.1.2.2.1 s.1.2.2.2.1 s.2.1.1.1 s.2.1.1.2.1 fn fe = (biIsMasterLog_2 s).bind (Sum.elim fn fe) := by
  simp only [biIsMasterLog_2, biIsMasterLog_2C, br_bind, iteP_bind, Option.bind_none, Option.bind_assoc, Option.bind_some, Sum.elim_inl, Sum.elim_inr]
abbrev EiIsMasterLog_2 : LoopE := loopE [] [1, 6, 7, 8] LiIsMasterLog_2 XiIsMasterLog_2 liIsMasterLog_2
theorem biIsMasterLog_2_ok (s : LiIsMasterLog_2.D) : evCK Θ (getY YiIsMasterLog) (getL []) ciIsMasterLog_2 (LiIsMasterLog_2.mk' s) (tellK [1, 6, 7, 8] [1, 2] fun x S => some (x, S)) = (biIsMasterLog_2 s).bind (Sum.elim (fun s' => some (.nor, LiIsMasterLog_2.mk' s')) fun e => some (Exs.e XiIsMasterLog_2 e)) :=
  Eq.trans (by kernel_rfl : _ = biIsMasterLog_2C s.1.2.1 s.1.2.2.1 s.1.2.2.2.1 s.2.1.1.1 s.2.1.1.2.1 (fun s' => some (.nor, LiIsMasterLog_2.mk' s')) (fun e => some (Exs.e XiIsMasterLog_2 e))) (biIsMasterLog_2_k s _ _)
theorem liIsMasterLog_2_ok : LoopOk Tryz.prog ciIsMasterLog_2 EiIsMasterLog_2 := loopE_ok Θ_ok YiIsMasterLog_ok mixed_ok (by kernel_rfl) (hL_in (by kernel_rfl : _ = []) loops_nil) [] [1, 6, 7, 8] [1, 2] LiIsMasterLog_2 XiIsMasterLog_2 (by kernel_rfl) biIsMasterLog_2 biIsMasterLog_2_ok liIsMasterLog_2 (limN biIsMasterLog_2) (lim_round biIsMasterLog_2)
def fiIsMasterLogC {ρ : Type} (a0 : MasterLog) (k : Bool × Unit → Option ρ) : Option ρ :=
  (liIsMasterLog_2 (((), a0.configs, (a0.configs.length : Int), 0, ()), ((a0.configs, a0.activated, ()), ()), (()))).bind fun e8 => Sum.elim (fun e8_ => k (e8_.1.2.1, ())) (fun e8_ => (fiwithin e8_.2.1.1.2.1 0 (e8_.2.1.1.1.length : Int)).bind fun y9 => k (y9.1, ())) e8
def fiIsMasterLog (a0 : MasterLog) : Option (Bool × Unit) := fiIsMasterLogC a0 some
theorem fiIsMasterLog_k {ρ : Type} (a0 : MasterLog) (k : Bool × Unit → Option ρ) : fiIsMasterLogC a0 k = (fiIsMasterLog a0).bind k := by
  simp only [fiIsMasterLog, fiIsMasterLogC, elim_bind, Option.bind_assoc, Option.bind_some]
abbrev EiIsMasterLog : Ent := entP [.ty (.st .masterLog)] [.b] fun x => fiIsMasterLog x.1
theorem eiIsMasterLog : EntOk Tryz.prog 120 EiIsMasterLog :=
  entP_of (Λ := getL [(key ciIsMasterLog_2, EiIsMasterLog_2)]) (fn := Tryz.f120) Θ_ok YiIsMasterLog_ok mixed_ok (by kernel_rfl) (hL_of (by kernel_rfl : _ = [ciIsMasterLog_2]) (loops_one (q := key ciIsMasterLog_2) rfl liIsMasterLog_2_ok fun _ _ _ => by kernel_rfl)) (by kernel_rfl) (fun x => fiIsMasterLog x.1)
    (fun x => Eq.trans (by kernel_rfl : _ = fiIsMasterLogC x.1 (fun y => ret (pairs [.b] y) fun v g => some (v, g))) (fiIsMasterLog_k x.1 _)) fun _ _ h => h
/-! loop.example/g01926/impl.IsLease -/
abbrev YiIsLease : List (Nat × Ent) := [(118, Eiwithin)]
theorem YiIsLease_ok : TabOk Tryz.prog (getY YiIsLease) := tab_cons eiwithin <| tab_nil _
def fiIsLeaseC {ρ : Type} (a0 : Lease) (k : Bool × Unit → Option ρ) : Option ρ :=
  br ((a0.epoch == 0) && ((a0.holder == 0) && ((a0.ends == 0) && true))) (k (true, ())) ((fiwithin a0.epoch 1 20).bind fun y1 => br y1.1 ((fiwithin a0.holder 0 4).bind fun y2 => br y2.1 ((fiwithin a0.ends 1 1049).bind fun y3 => k (y3.1, ())) (k (false, ()))) (k (false, ())))
def fiIsLease (a0 : Lease) : Option (Bool × Unit) := fiIsLeaseC a0 some
theorem fiIsLease_k {ρ : Type} (a0 : Lease) (k : Bool × Unit → Option ρ) : fiIsLeaseC a0 k = (fiIsLease a0).bind k := by
  simp only [fiIsLease, fiIsLeaseC, br_bind, Option.bind_assoc, Option.bind_some]
abbrev EiIsLease : Ent := entP [.ty (.st .lease)] [.b] fun x => fiIsLease x.1
theorem eiIsLease : EntOk Tryz.prog 121 EiIsLease :=
  entP_of (Λ := getL []) (fn := Tryz.f121) Θ_ok YiIsLease_ok mixed_ok (by kernel_rfl) (hL_of (by kernel_rfl : _ = []) loops_nil) (by kernel_rfl) (fun x => fiIsLease x.1)
    (fun x => Eq.trans (by kernel_rfl : _ = fiIsLeaseC x.1 (fun y => ret (pairs [.b] y) fun v g => some (v, g))) (fiIsLease_k x.1 _)) fun _ _ h => h
/-! loop.example/g01926/impl.ArePlaces$1 -/
abbrev YiArePlaces_c1 : List (Nat × Ent) := [(118, Eiwithin)]
theorem YiArePlaces_c1_ok : TabOk Tryz.prog (getY YiArePlaces_c1) := tab_cons eiwithin <| tab_nil _
def fiArePlaces_c1C {ρ : Type} (a0 : Place) (k : Bool × Unit → Option ρ) : Option ρ :=
  (fiwithin a0.rack 0 9).bind fun y1 => br (!y1.1) (k (true, ())) ((fiwithin a0.capacity 0 9).bind fun y2 => br (!y2.1) (k (true, ())) ((fiwithin a0.load 0 99).bind fun y3 => k ((!y3.1), ())))
def fiArePlaces_c1 (a0 : Place) : Option (Bool × Unit) := fiArePlaces_c1C a0 some
theorem fiArePlaces_c1_k {ρ : Type} (a0 : Place) (k : Bool × Unit → Option ρ) : fiArePlaces_c1C a0 k = (fiArePlaces_c1 a0).bind k := by
  simp only [fiArePlaces_c1, fiArePlaces_c1C, br_bind, Option.bind_assoc, Option.bind_some]
abbrev EiArePlaces_c1 : Ent := entP [.ty (.st .place)] [.b] fun x => fiArePlaces_c1 x.1
theorem eiArePlaces_c1 : EntOk Tryz.prog 168 EiArePlaces_c1 :=
  entP_of (Λ := getL []) (fn := Tryz.f168) Θ_ok YiArePlaces_c1_ok mixed_ok (by kernel_rfl) (hL_of (by kernel_rfl : _ = []) loops_nil) (by kernel_rfl) (fun x => fiArePlaces_c1 x.1)
    (fun x => Eq.trans (by kernel_rfl : _ = fiArePlaces_c1C x.1 (fun y => ret (pairs [.b] y) fun v g => some (v, g))) (fiArePlaces_c1_k x.1 _)) fun _ _ h => h
/-! slices.IndexFunc[[]loop.example/g01926/impl.Place,loop.example/g01926/impl.Place] -/
abbrev YslIndexFunc_Place_iArePlaces_c1 : List (Nat × Ent) := [(168, EiArePlaces_c1)]
theorem YslIndexFunc_Place_iArePlaces_c1_ok : TabOk Tryz.prog (getY YslIndexFunc_Place_iArePlaces_c1) := tab_cons eiArePlaces_c1 <| tab_nil _
noncomputable abbrev cslIndexFunc_Place_iArePlaces_c1_2 : Code := loopAt (bodyOf Tryz.f187) 0
abbrev LslIndexFunc_Place_iArePlaces_c1_2 : LSh := ⟨[(0, .cl (.ro (.st .place))), (1, .cl (.fc 168)), (7, .cl (.int .i64)), (8, .cl (.int .i64))], [], [], 0, 19⟩
abbrev XslIndexFunc_Place_iArePlaces_c1_2 : List (X × LSh) := [(.ret, ⟨[(4, .cl (.int .i64))], [], [], 0, 19⟩), (.ext 0, ⟨[(4, .cl (.dead))], [], [], 0, 19⟩)]
def bslIndexFunc_Place_iArePlaces_c1_2C {ρ : Type} (v1 : List Place) (v2 : Int) (v3 : Int) (fn : (((List Place) × Unit × Int × Int × Unit) × (Unit) × (Unit)) → Option ρ) (fe : ((Int × Unit) × (Unit) × (Unit)) ⊕ ((Unit × Unit) × (Unit) × (Unit)) → Option ρ) : Option ρ :=
  br (decide (v3 < v2)) (iteP (0 ≤ v3) ((v1[v3.toNat]?).bind fun x4 => (fiArePlaces_c1 x4).bind fun y5 => br y5.1 (fe (.inl ((v3, ()), (()), (())))) (fn ((v1, (), v2, (IntKind.wrap .i64 (v3 + 1)), ()), (()), (())))) none) (fe (.inr (((), ()), (()), (()))))
def bslIndexFunc_Place_iArePlaces_c1_2 (s : LslIndexFunc_Place_iArePlaces_c1_2.D) : Option (LslIndexFunc_Place_iArePlaces_c1_2.D ⊕ Exs.D XslIndexFunc_Place_iArePlaces_c1_2) := bslIndexFunc_Place_iArePlaces_c1_2C s.1.1 s.1.2.2.1 s.1.2.2.2.1 (fun s => some (.inl s)) (fun e => some (.inr e))
def lslIndexFunc_Place_iArePlaces_c1_2 : LslIndexFunc_Place_iArePlaces_c1_2.D → Option (Exs.D XslIndexFunc_Place_iArePlaces_c1_2) := lim bslIndexFunc_Place_iArePlaces_c1_2
theorem bslIndexFunc_Place_iArePlaces_c1_2_k {ρ : Type} (s : LslIndexFunc_Place_iArePlaces_c1_2.D) (fn : LslIndexFunc_Place_iArePlaces_c1_2.D → Option ρ) (fe : Exs.D XslIndexFunc_Place_iArePlaces_c1_2 → Option ρ) : bslIndexFunc_Place_iArePlaces_c1_2C s.1.1 s.1.2.2.1 s.1.2.2.2.1 fn fe = (bslIndexFunc_Place_iArePlaces_c1_2 s).bind (Sum.elim fn fe) := by
  simp only [bslIndexFunc_Place_iArePlaces_c1_2, bslIndexFunc_Place_iArePlaces_c1_2C, br_bind, iteP_bind, Option.bind_none, Option.bind_assoc, Option.bind_some, Sum.elim_inl, Sum.elim_inr]
abbrev EslIndexFunc_Place_iArePlaces_c1_2 : LoopE := loopE [] [0, 1, 7, 8] LslIndexFunc_Place_iArePlaces_c1_2 XslIndexFunc_Place_iArePlaces_c1_2 lslIndexFunc_Place_iArePlaces_c1_2
theorem bslIndexFunc_Place_iArePlaces_c1_2_ok (s : LslIndexFunc_Place_iArePlaces_c1_2.D) : evCK Θ (getY YslIndexFunc_Place_iArePlaces_c1) (getL []) cslIndexFunc_Place_iArePlaces_c1_2 (LslIndexFunc_Place_iArePlaces_c1_2.mk' s) (tellK [0, 1, 7, 8] [4] fun x S => some (x, S)) = (bslIndexFunc_Place_iArePlaces_c1_2 s).bind (Sum.elim (fun s' => some (.nor, LslIndexFunc_Place_iArePlaces_c1_2.mk' s')) fun e => some (Exs.e XslIndexFunc_Place_iArePlaces_c1_2 e)) :=
  Eq.trans (by kernel_rfl : _ = bslIndexFunc_Place_iArePlaces_c1_2C s.1.1 s.1.2.2.1 s.1.2.2.2.1 (fun s' => some (.nor, LslIndexFunc_Place_iArePlaces_c1_2.mk' s')) (fun e => some (Exs.e XslIndexFunc_Place_iArePlaces_c1_2 e))) (bslIndexFunc_Place_iArePlaces_c1_2_k s _ _)
theorem lslIndexFunc_Place_iArePlaces_c1_2_ok : LoopOk Tryz.prog cslIndexFunc_Place_iArePlaces_c1_2 EslIndexFunc_Place_iArePlaces_c1_2 := loopE_ok Θ_ok YslIndexFunc_Place_iArePlaces_c1_ok mixed_ok (by kernel_rfl) (hL_in (by kernel_rfl : _ = []) loops_nil) [] [0, 1, 7, 8] [4] LslIndexFunc_Place_iArePlaces_c1_2 XslIndexFunc_Place_iArePlaces_c1_2 (by kernel_rfl) bslIndexFunc_Place_iArePlaces_c1_2 bslIndexFunc_Place_iArePlaces_c1_2_ok lslIndexFunc_Place_iArePlaces_c1_2 (limN bslIndexFunc_Place_iArePlaces_c1_2) (lim_round bslIndexFunc_Place_iArePlaces_c1_2)
def fslIndexFunc_Place_iArePlaces_c1C {ρ : Type} (a0 : List Place) (k : Int × Unit → Option ρ) : Option ρ :=
  (lslIndexFunc_Place_iArePlaces_c1_2 ((a0, (), (a0.length : Int), 0, ()), (()), (()))).bind fun e6 => Sum.elim (fun e6_ => k (e6_.1.1, ())) (fun e6_ => k ((-1), ())) e6
def fslIndexFunc_Place_iArePlaces_c1 (a0 : List Place) : Option (Int × Unit) := fslIndexFunc_Place_iArePlaces_c1C a0 some
theorem fslIndexFunc_Place_iArePlaces_c1_k {ρ : Type} (a0 : List Place) (k : Int × Unit → Option ρ) : fslIndexFunc_Place_iArePlaces_c1C a0 k = (fslIndexFunc_Place_iArePlaces_c1 a0).bind k := by
  simp only [fslIndexFunc_Place_iArePlaces_c1, fslIndexFunc_Place_iArePlaces_c1C, elim_bind, Option.bind_assoc, Option.bind_some]
abbrev EslIndexFunc_Place_iArePlaces_c1 : Ent := entP [.ty (.ls (.st .place)), .fc 168] [.i .i64] fun x => fslIndexFunc_Place_iArePlaces_c1 x.1
theorem eslIndexFunc_Place_iArePlaces_c1 : EntOk Tryz.prog 187 EslIndexFunc_Place_iArePlaces_c1 :=
  entP_of (Λ := getL [(key cslIndexFunc_Place_iArePlaces_c1_2, EslIndexFunc_Place_iArePlaces_c1_2)]) (fn := Tryz.f187) Θ_ok YslIndexFunc_Place_iArePlaces_c1_ok mixed_ok (by kernel_rfl) (hL_of (by kernel_rfl : _ = [cslIndexFunc_Place_iArePlaces_c1_2]) (loops_one (q := key cslIndexFunc_Place_iArePlaces_c1_2) rfl lslIndexFunc_Place_iArePlaces_c1_2_ok fun _ _ _ => by kernel_rfl)) (by kernel_rfl) (fun x => fslIndexFunc_Place_iArePlaces_c1 x.1)
    (fun x => Eq.trans (by kernel_rfl : _ = fslIndexFunc_Place_iArePlaces_c1C x.1 (fun y => ret (pairs [.i .i64] y) fun v g => some (v, g))) (fslIndexFunc_Place_iArePlaces_c1_k x.1 _)) fun _ _ h => h
/-! slices.ContainsFunc[[]loop.example/g01926/impl.Place,loop.example/g01926/impl.Place] -/
abbrev YslContainsFunc_Place_iArePlaces_c1 : List (Nat × Ent) := [(187, EslIndexFunc_Place_iArePlaces_c1)]
theorem YslContainsFunc_Place_iArePlaces_c1_ok : TabOk Tryz.prog (getY YslContainsFunc_Place_iArePlaces_c1) := tab_cons eslIndexFunc_Place_iArePlaces_c1 <| tab_nil _
def fslContainsFunc_Place_iArePlaces_c1C {ρ : Type} (a0 : List Place) (k : Bool × Unit → Option ρ) : Option ρ :=
  (fslIndexFunc_Place_iArePlaces_c1 a0).bind fun y1 => k ((decide (y1.1 ≥ 0)), ())
def fslContainsFunc_Place_iArePlaces_c1 (a0 : List Place) : Option (Bool × Unit) := fslContainsFunc_Place_iArePlaces_c1C a0 some
theorem fslContainsFunc_Place_iArePlaces_c1_k {ρ : Type} (a0 : List Place) (k : Bool × Unit → Option ρ) : fslContainsFunc_Place_iArePlaces_c1C a0 k = (fslContainsFunc_Place_iArePlaces_c1 a0).bind k := by
  simp only [fslContainsFunc_Place_iArePlaces_c1, fslContainsFunc_Place_iArePlaces_c1C, Option.bind_assoc, Option.bind_some]
abbrev EslContainsFunc_Place_iArePlaces_c1 : Ent := entP [.ty (.ls (.st .place)), .fc 168] [.b] fun x => fslContainsFunc_Place_iArePlaces_c1 x.1
theorem eslContainsFunc_Place_iArePlaces_c1 : EntOk Tryz.prog 167 EslContainsFunc_Place_iArePlaces_c1 :=
  entP_of (Λ := getL []) (fn := Tryz.f167) Θ_ok YslContainsFunc_Place_iArePlaces_c1_ok mixed_ok (by kernel_rfl) (hL_of (by kernel_rfl : _ = []) loops_nil) (by kernel_rfl) (fun x => fslContainsFunc_Place_iArePlaces_c1 x.1)
    (fun x => Eq.trans (by kernel_rfl : _ = fslContainsFunc_Place_iArePlaces_c1C x.1 (fun y => ret (pairs [.b] y) fun v g => some (v, g))) (fslContainsFunc_Place_iArePlaces_c1_k x.1 _)) fun _ _ h => h
/-! loop.example/g01926/impl.ArePlaces -/
abbrev YiArePlaces : List (Nat × Ent) := [(167, EslContainsFunc_Place_iArePlaces_c1)]
theorem YiArePlaces_ok : TabOk Tryz.prog (getY YiArePlaces) := tab_cons eslContainsFunc_Place_iArePlaces_c1 <| tab_nil _
def fiArePlacesC {ρ : Type} (a0 : List Place) (k : Bool × Unit → Option ρ) : Option ρ :=
  br ((a0.length : Int) == 5) ((fslContainsFunc_Place_iArePlaces_c1 a0).bind fun y1 => k ((!y1.1), ())) (k (false, ()))
def fiArePlaces (a0 : List Place) : Option (Bool × Unit) := fiArePlacesC a0 some
theorem fiArePlaces_k {ρ : Type} (a0 : List Place) (k : Bool × Unit → Option ρ) : fiArePlacesC a0 k = (fiArePlaces a0).bind k := by
  simp only [fiArePlaces, fiArePlacesC, br_bind, Option.bind_assoc, Option.bind_some]
abbrev EiArePlaces : Ent := entP [.ty (.ls (.st .place))] [.b] fun x => fiArePlaces x.1
theorem eiArePlaces : EntOk Tryz.prog 122 EiArePlaces :=
  entP_of (Λ := getL []) (fn := Tryz.f122) Θ_ok YiArePlaces_ok mixed_ok (by kernel_rfl) (hL_of (by kernel_rfl : _ = []) loops_nil) (by kernel_rfl) (fun x => fiArePlaces x.1)
    (fun x => Eq.trans (by kernel_rfl : _ = fiArePlacesC x.1 (fun y => ret (pairs [.b] y) fun v g => some (v, g))) (fiArePlaces_k x.1 _)) fun _ _ h => h
/-! loop.example/g01926/impl.IsValidOp -/
abbrev YiIsValidOp : List (Nat × Ent) := [(118, Eiwithin)]
theorem YiIsValidOp_ok : TabOk Tryz.prog (getY YiIsValidOp) := tab_cons eiwithin <| tab_nil _
def fiIsValidOpC {ρ : Type} (a0 : Op) (k : Bool × Unit → Option ρ) : Option ρ :=
  (fiwithin a0.client 0 2).bind fun y1 => br (!y1.1) (k (false, ())) ((fiwithin a0.seq 1 99).bind fun y2 => br (!y2.1) (k (false, ())) ((fiwithin a0.object 0 2).bind fun y3 => br (!y3.1) (k (false, ())) ((fiwithin a0.value 0 9).bind fun y4 => br (!y4.1) (k (false, ())) (br (a0.kind == 1) (br (a0.old == 0) (k (true, ())) (br (a0.kind == 2) ((fiwithin a0.old 0 9).bind fun y5 => k (y5.1, ())) (k (false, ())))) (br (a0.kind == 2) ((fiwithin a0.old 0 9).bind fun y6 => k (y6.1, ())) (k (false, ())))))))
def fiIsValidOp (a0 : Op) : Option (Bool × Unit) := fiIsValidOpC a0 some
theorem fiIsValidOp_k {ρ : Type} (a0 : Op) (k : Bool × Unit → Option ρ) : fiIsValidOpC a0 k = (fiIsValidOp a0).bind k := by
  simp only [fiIsValidOp, fiIsValidOpC, br_bind, Option.bind_assoc, Option.bind_some]
abbrev EiIsValidOp : Ent := entP [.ty (.st .op)] [.b] fun x => fiIsValidOp x.1
theorem eiIsValidOp : EntOk Tryz.prog 188 EiIsValidOp :=
  entP_of (Λ := getL []) (fn := Tryz.f188) Θ_ok YiIsValidOp_ok mixed_ok (by kernel_rfl) (hL_of (by kernel_rfl : _ = []) loops_nil) (by kernel_rfl) (fun x => fiIsValidOp x.1)
    (fun x => Eq.trans (by kernel_rfl : _ = fiIsValidOpC x.1 (fun y => ret (pairs [.b] y) fun v g => some (v, g))) (fiIsValidOp_k x.1 _)) fun _ _ h => h
/-! loop.example/g01926/impl.IsLog -/
abbrev YiIsLog : List (Nat × Ent) := [(118, Eiwithin), (188, EiIsValidOp)]
theorem YiIsLog_ok : TabOk Tryz.prog (getY YiIsLog) := tab_cons eiwithin <| tab_cons eiIsValidOp <| tab_nil _
noncomputable abbrev ciIsLog_2 : Code := loopAt (bodyOf Tryz.f169) 0
abbrev LiIsLog_2 : LSh := ⟨[(0, .cl (.ro (.st .entry))), (5, .cl (.ro (.st .entry))), (6, .cl (.int .i64)), (7, .cl (.int .i64))], [], [], 0, 41⟩
abbrev XiIsLog_2 : List (X × LSh) := [(.ret, ⟨[(0, .cl (.ro (.st .entry))), (2, .cl (.bl))], [], [], 0, 41⟩), (.ext 0, ⟨[(0, .cl (.ro (.st .entry))), (2, .cl (.dead))], [], [], 0, 41⟩)]
def biIsLog_2C {ρ : Type} (v1 : List Entry) (v2 : List Entry) (v3 : Int) (v4 : Int) (fn : (((List Entry) × (List Entry) × Int × Int × Unit) × (Unit) × (Unit)) → Option ρ) (fe : (((List Entry) × Bool × Unit) × (Unit) × (Unit)) ⊕ (((List Entry) × Unit × Unit) × (Unit) × (Unit)) → Option ρ) : Option ρ :=
  br (decide (v4 < v3)) (iteP (0 ≤ v4) ((v2[v4.toNat]?).bind fun x5 => (fiwithin x5.epoch 1 20).bind fun y6 => br (!y6.1) (fe (.inl ((v1, false, ()), (()), (())))) (br (decide (v4 > 0)) (iteP (0 ≤ (IntKind.wrap .i64 (v4 - 1))) ((v1[(IntKind.wrap .i64 (v4 - 1)).toNat]?).bind fun x7 => br (decide (x5.epoch < x7.epoch)) (fe (.inl ((v1, false, ()), (()), (())))) ((fiIsValidOp x5.op).bind fun y8 => br (!y8.1) (fe (.inl ((v1, false, ()), (()), (())))) (fn ((v1, v2, v3, (IntKind.wrap .i64 (v4 + 1)), ()), (()), (()))))) none) ((fiIsValidOp x5.op).bind fun y9 => br (!y9.1) (fe (.inl ((v1, false, ()), (()), (())))) (fn ((v1, v2, v3, (IntKind.wrap .i64 (v4 + 1)), ()), (()), (())))))) none) (fe (.inr ((v1, (), ()), (()), (()))))
def biIsLog_2 (s : LiIsLog_2.D) : Option (LiIsLog_2.D ⊕ Exs.D XiIsLog_2) := biIsLog_2C s.1.1 s.1.2.1 s.1.2.2.1 s.1.2.2.2.1 (fun s => some (.inl s)) (fun e => some (.inr e))
def liIsLog_2 : LiIsLog_2.D → Option (Exs.D XiIsLog_2) := lim biIsLog_2
theorem biIsLog_2_k {ρ : Type} (s : LiIsLog_2.D) (fn : LiIsLog_2.D → Option ρ) (fe : Exs.D XiIsLog_2 → Option ρ) : biIsLog_2C s.1.1 s.1.2.1 s.1.2.2.1 s.1.2.2.2.1 fn fe = (biIsLog_2 s).bind (Sum.elim fn fe) := by
  simp only [biIsLog_2, biIsLog_2C, br_bind, iteP_bind, Option.bind_none, Option.bind_assoc, Option.bind_some, Sum.elim_inl, Sum.elim_inr]
abbrev EiIsLog_2 : LoopE := loopE [] [0, 5, 6, 7] LiIsLog_2 XiIsLog_2 liIsLog_2
theorem biIsLog_2_ok (s : LiIsLog_2.D) : evCK Θ (getY YiIsLog) (getL []) ciIsLog_2 (LiIsLog_2.mk' s) (tellK [0, 5, 6, 7] [0, 2] fun x S => some (x, S)) = (biIsLog_2 s).bind (Sum.elim (fun s' => some (.nor, LiIsLog_2.mk' s')) fun e => some (Exs.e XiIsLog_2 e)) :=
  Eq.trans (by kernel_rfl : _ = biIsLog_2C s.1.1 s.1.2.1 s.1.2.2.1 s.1.2.2.2.1 (fun s' => some (.nor, LiIsLog_2.mk' s')) (fun e => some (Exs.e XiIsLog_2 e))) (biIsLog_2_k s _ _)
theorem liIsLog_2_ok : LoopOk Tryz.prog ciIsLog_2 EiIsLog_2 := loopE_ok Θ_ok YiIsLog_ok mixed_ok (by kernel_rfl) (hL_in (by kernel_rfl : _ = []) loops_nil) [] [0, 5, 6, 7] [0, 2] LiIsLog_2 XiIsLog_2 (by kernel_rfl) biIsLog_2 biIsLog_2_ok liIsLog_2 (limN biIsLog_2) (lim_round biIsLog_2)
def fiIsLogC {ρ : Type} (a0 : List Entry) (k : Bool × Unit → Option ρ) : Option ρ :=
  (liIsLog_2 ((a0, a0, (a0.length : Int), 0, ()), (()), (()))).bind fun e10 => Sum.elim (fun e10_ => k (e10_.1.2.1, ())) (fun e10_ => k ((decide ((e10_.1.1.length : Int) ≤ 16)), ())) e10
def fiIsLog (a0 : List Entry) : Option (Bool × Unit) := fiIsLogC a0 some
theorem fiIsLog_k {ρ : Type} (a0 : List Entry) (k : Bool × Unit → Option ρ) : fiIsLogC a0 k = (fiIsLog a0).bind k := by
  simp only [fiIsLog, fiIsLogC, elim_bind, Option.bind_assoc, Option.bind_some]
abbrev EiIsLog : Ent := entP [.ty (.ls (.st .entry))] [.b] fun x => fiIsLog x.1
theorem eiIsLog : EntOk Tryz.prog 169 EiIsLog :=
  entP_of (Λ := getL [(key ciIsLog_2, EiIsLog_2)]) (fn := Tryz.f169) Θ_ok YiIsLog_ok mixed_ok (by kernel_rfl) (hL_of (by kernel_rfl : _ = [ciIsLog_2]) (loops_one (q := key ciIsLog_2) rfl liIsLog_2_ok fun _ _ _ => by kernel_rfl)) (by kernel_rfl) (fun x => fiIsLog x.1)
    (fun x => Eq.trans (by kernel_rfl : _ = fiIsLogC x.1 (fun y => ret (pairs [.b] y) fun v g => some (v, g))) (fiIsLog_k x.1 _)) fun _ _ h => h
/-! slices.Equal[[]int,int] -/
abbrev YslEqual_int : List (Nat × Ent) := []
theorem YslEqual_int_ok : TabOk Tryz.prog (getY YslEqual_int) := tab_nil _
noncomputable abbrev cslEqual_int_4 : Code := loopAt (bodyOf Tryz.f181) 0
abbrev LslEqual_int_4 : LSh := ⟨[(0, .cl (.ro (.i .i64))), (1, .cl (.ro (.i .i64))), (12, .cl (.int .i64)), (13, .cl (.int .i64))], [], [], 0, 26⟩
abbrev XslEqual_int_4 : List (X × LSh) := [(.ret, ⟨[(4, .cl (.bl))], [], [], 0, 26⟩), (.ext 0, ⟨[(4, .cl (.dead))], [], [], 0, 26⟩)]
def bslEqual_int_4C {ρ : Type} (v1 : List Int) (v2 : List Int) (v3 : Int) (v4 : Int) (fn : (((List Int) × (List Int) × Int × Int × Unit) × (Unit) × (Unit)) → Option ρ) (fe : ((Bool × Unit) × (Unit) × (Unit)) ⊕ ((Unit × Unit) × (Unit) × (Unit)) → Option ρ) : Option ρ :=
  br (decide (v4 < v3)) (iteP (0 ≤ v4) ((v1[v4.toNat]?).bind fun x5 => iteP (0 ≤ v4) ((v2[v4.toNat]?).bind fun x6 => br (!(x5 == x6)) (fe (.inl ((false, ()), (()), (())))) (fn ((v1, v2, v3, (IntKind.wrap .i64 (v4 + 1)), ()), (()), (())))) none) none) (fe (.inr (((), ()), (()), (()))))
def bslEqual_int_4 (s : LslEqual_int_4.D) : Option (LslEqual_int_4.D ⊕ Exs.D XslEqual_int_4) := bslEqual_int_4C s.1.1 s.1.2.1 s.1.2.2.1 s.1.2.2.2.1 (fun s => some (.inl s)) (fun e => some (.inr e))
def lslEqual_int_4 : LslEqual_int_4.D → Option (Exs.D XslEqual_int_4) := lim bslEqual_int_4
theorem bslEqual_int_4_k {ρ : Type} (s : LslEqual_int_4.D) (fn : LslEqual_int_4.D → Option ρ) (fe : Exs.D XslEqual_int_4 → Option ρ) : bslEqual_int_4C s.1.1 s.1.2.1 s.1.2.2.1 s.1.2.2.2.1 fn fe = (bslEqual_int_4 s).bind (Sum.elim fn fe) := by
  simp only [bslEqual_int_4, bslEqual_int_4C, br_bind, iteP_bind, Option.bind_none, Option.bind_assoc, Option.bind_some, Sum.elim_inl, Sum.elim_inr]
abbrev EslEqual_int_4 : LoopE := loopE [] [0, 1, 12, 13] LslEqual_int_4 XslEqual_int_4 lslEqual_int_4
theorem bslEqual_int_4_ok (s : LslEqual_int_4.D) : evCK Θ (getY YslEqual_int) (getL []) cslEqual_int_4 (LslEqual_int_4.mk' s) (tellK [0, 1, 12, 13] [4] fun x S => some (x, S)) = (bslEqual_int_4 s).bind (Sum.elim (fun s' => some (.nor, LslEqual_int_4.mk' s')) fun e => some (Exs.e XslEqual_int_4 e)) :=
  Eq.trans (by kernel_rfl : _ = bslEqual_int_4C s.1.1 s.1.2.1 s.1.2.2.1 s.1.2.2.2.1 (fun s' => some (.nor, LslEqual_int_4.mk' s')) (fun e => some (Exs.e XslEqual_int_4 e))) (bslEqual_int_4_k s _ _)
theorem lslEqual_int_4_ok : LoopOk Tryz.prog cslEqual_int_4 EslEqual_int_4 := loopE_ok Θ_ok YslEqual_int_ok mixed_ok (by kernel_rfl) (hL_in (by kernel_rfl : _ = []) loops_nil) [] [0, 1, 12, 13] [4] LslEqual_int_4 XslEqual_int_4 (by kernel_rfl) bslEqual_int_4 bslEqual_int_4_ok lslEqual_int_4 (limN bslEqual_int_4) (lim_round bslEqual_int_4)
def fslEqual_intC {ρ : Type} (a0 : List Int) (a1 : List Int) (k : Bool × Unit → Option ρ) : Option ρ :=
  br (!((a0.length : Int) == (a1.length : Int))) (k (false, ())) ((lslEqual_int_4 ((a0, a1, (a0.length : Int), 0, ()), (()), (()))).bind fun e7 => Sum.elim (fun e7_ => k (e7_.1.1, ())) (fun e7_ => k (true, ())) e7)
def fslEqual_int (a0 : List Int) (a1 : List Int) : Option (Bool × Unit) := fslEqual_intC a0 a1 some
theorem fslEqual_int_k {ρ : Type} (a0 : List Int) (a1 : List Int) (k : Bool × Unit → Option ρ) : fslEqual_intC a0 a1 k = (fslEqual_int a0 a1).bind k := by
  simp only [fslEqual_int, fslEqual_intC, br_bind, elim_bind, Option.bind_assoc, Option.bind_some]
abbrev EslEqual_int : Ent := entP [.ty (.ls (.i .i64)), .ty (.ls (.i .i64))] [.b] fun x => fslEqual_int x.1 x.2.1
theorem eslEqual_int : EntOk Tryz.prog 181 EslEqual_int :=
  entP_of (Λ := getL [(key cslEqual_int_4, EslEqual_int_4)]) (fn := Tryz.f181) Θ_ok YslEqual_int_ok mixed_ok (by kernel_rfl) (hL_of (by kernel_rfl : _ = [cslEqual_int_4]) (loops_one (q := key cslEqual_int_4) rfl lslEqual_int_4_ok fun _ _ _ => by kernel_rfl)) (by kernel_rfl) (fun x => fslEqual_int x.1 x.2.1)
    (fun x => Eq.trans (by kernel_rfl : _ = fslEqual_intC x.1 x.2.1 (fun y => ret (pairs [.b] y) fun v g => some (v, g))) (fslEqual_int_k x.1 x.2.1 _)) fun _ _ h => h
/-! loop.example/g01926/impl.EqualServers -/
abbrev YiEqualServers : List (Nat × Ent) := [(181, EslEqual_int)]
theorem YiEqualServers_ok : TabOk Tryz.prog (getY YiEqualServers) := tab_cons eslEqual_int <| tab_nil _
def fiEqualServersC {ρ : Type} (a0 : List Int) (a1 : List Int) (k : Bool × Unit → Option ρ) : Option ρ :=
  (fslEqual_int a0 a1).bind fun y1 => k (y1.1, ())
def fiEqualServers (a0 : List Int) (a1 : List Int) : Option (Bool × Unit) := fiEqualServersC a0 a1 some
theorem fiEqualServers_k {ρ : Type} (a0 : List Int) (a1 : List Int) (k : Bool × Unit → Option ρ) : fiEqualServersC a0 a1 k = (fiEqualServers a0 a1).bind k := by
  simp only [fiEqualServers, fiEqualServersC, Option.bind_assoc, Option.bind_some]
abbrev EiEqualServers : Ent := entP [.ty (.ls (.i .i64)), .ty (.ls (.i .i64))] [.b] fun x => fiEqualServers x.1 x.2.1
theorem eiEqualServers : EntOk Tryz.prog 152 EiEqualServers :=
  entP_of (Λ := getL []) (fn := Tryz.f152) Θ_ok YiEqualServers_ok mixed_ok (by kernel_rfl) (hL_of (by kernel_rfl : _ = []) loops_nil) (by kernel_rfl) (fun x => fiEqualServers x.1 x.2.1)
    (fun x => Eq.trans (by kernel_rfl : _ = fiEqualServersC x.1 x.2.1 (fun y => ret (pairs [.b] y) fun v g => some (v, g))) (fiEqualServers_k x.1 x.2.1 _)) fun _ _ h => h
/-! loop.example/g01926/impl.EqualConfigs -/
abbrev YiEqualConfigs : List (Nat × Ent) := [(152, EiEqualServers)]
theorem YiEqualConfigs_ok : TabOk Tryz.prog (getY YiEqualConfigs) := tab_cons eiEqualServers <| tab_nil _
def fiEqualConfigsC {ρ : Type} (a0 : Config) (a1 : Config) (k : Bool × Unit → Option ρ) : Option ρ :=
  br (a0.epoch == a1.epoch) (br (a0.primary == a1.primary) ((fiEqualServers a0.replicas a1.replicas).bind fun y1 => br y1.1 ((fiEqualServers a0.witnesses a1.witnesses).bind fun y2 => k (y2.1, ())) (k (false, ()))) (k (false, ()))) (k (false, ()))
def fiEqualConfigs (a0 : Config) (a1 : Config) : Option (Bool × Unit) := fiEqualConfigsC a0 a1 some
theorem fiEqualConfigs_k {ρ : Type} (a0 : Config) (a1 : Config) (k : Bool × Unit → Option ρ) : fiEqualConfigsC a0 a1 k = (fiEqualConfigs a0 a1).bind k := by
  simp only [fiEqualConfigs, fiEqualConfigsC, br_bind, Option.bind_assoc, Option.bind_some]
abbrev EiEqualConfigs : Ent := entP [.ty (.st .config), .ty (.st .config)] [.b] fun x => fiEqualConfigs x.1 x.2.1
theorem eiEqualConfigs : EntOk Tryz.prog 102 EiEqualConfigs :=
  entP_of (Λ := getL []) (fn := Tryz.f102) Θ_ok YiEqualConfigs_ok mixed_ok (by kernel_rfl) (hL_of (by kernel_rfl : _ = []) loops_nil) (by kernel_rfl) (fun x => fiEqualConfigs x.1 x.2.1)
    (fun x => Eq.trans (by kernel_rfl : _ = fiEqualConfigsC x.1 x.2.1 (fun y => ret (pairs [.b] y) fun v g => some (v, g))) (fiEqualConfigs_k x.1 x.2.1 _)) fun _ _ h => h
/-! loop.example/g01926/impl.lastEpoch -/
abbrev YilastEpoch : List (Nat × Ent) := []
theorem YilastEpoch_ok : TabOk Tryz.prog (getY YilastEpoch) := tab_nil _
def filastEpochC {ρ : Type} (a0 : List Entry) (k : Int × Unit → Option ρ) : Option ρ :=
  br ((a0.length : Int) == 0) (k (0, ())) (iteP (0 ≤ (IntKind.wrap .i64 ((a0.length : Int) - 1))) ((a0[(IntKind.wrap .i64 ((a0.length : Int) - 1)).toNat]?).bind fun x1 => k (x1.epoch, ())) none)
def filastEpoch (a0 : List Entry) : Option (Int × Unit) := filastEpochC a0 some
theorem filastEpoch_k {ρ : Type} (a0 : List Entry) (k : Int × Unit → Option ρ) : filastEpochC a0 k = (filastEpoch a0).bind k := by
  simp only [filastEpoch, filastEpochC, br_bind, iteP_bind, Option.bind_none, Option.bind_assoc, Option.bind_some]
abbrev EilastEpoch : Ent := entP [.ty (.ls (.st .entry))] [.i .i64] fun x => filastEpoch x.1
theorem eilastEpoch : EntOk Tryz.prog 124 EilastEpoch :=
  entP_of (Λ := getL []) (fn := Tryz.f124) Θ_ok YilastEpoch_ok mixed_ok (by kernel_rfl) (hL_of (by kernel_rfl : _ = []) loops_nil) (by kernel_rfl) (fun x => filastEpoch x.1)
    (fun x => Eq.trans (by kernel_rfl : _ = filastEpochC x.1 (fun y => ret (pairs [.i .i64] y) fun v g => some (v, g))) (filastEpoch_k x.1 _)) fun _ _ h => h
/-! loop.example/g01926/impl.RoleOf -/
abbrev YiRoleOf : List (Nat × Ent) := [(166, EiIsValidConfig), (82, EiHasServer)]
theorem YiRoleOf_ok : TabOk Tryz.prog (getY YiRoleOf) := tab_cons eiIsValidConfig <| tab_cons eiHasServer <| tab_nil _
def fiRoleOfC {ρ : Type} (a0 : Config) (a1 : Int) (k : Int × Unit → Option ρ) : Option ρ :=
  (fiIsValidConfig a0).bind fun y1 => br (!y1.1) (k (0, ())) (br (a1 == a0.primary) (k (1, ())) ((fiHasServer a0.replicas a1).bind fun y2 => br y2.1 (k (2, ())) ((fiHasServer a0.witnesses a1).bind fun y3 => br y3.1 (k (3, ())) (k (0, ())))))
def fiRoleOf (a0 : Config) (a1 : Int) : Option (Int × Unit) := fiRoleOfC a0 a1 some
theorem fiRoleOf_k {ρ : Type} (a0 : Config) (a1 : Int) (k : Int × Unit → Option ρ) : fiRoleOfC a0 a1 k = (fiRoleOf a0 a1).bind k := by
  simp only [fiRoleOf, fiRoleOfC, br_bind, Option.bind_assoc, Option.bind_some]
abbrev EiRoleOf : Ent := entP [.ty (.st .config), .ty (.i .i64)] [.i .i64] fun x => fiRoleOf x.1 x.2.1
theorem eiRoleOf : EntOk Tryz.prog 170 EiRoleOf :=
  entP_of (Λ := getL []) (fn := Tryz.f170) Θ_ok YiRoleOf_ok mixed_ok (by kernel_rfl) (hL_of (by kernel_rfl : _ = []) loops_nil) (by kernel_rfl) (fun x => fiRoleOf x.1 x.2.1)
    (fun x => Eq.trans (by kernel_rfl : _ = fiRoleOfC x.1 x.2.1 (fun y => ret (pairs [.i .i64] y) fun v g => some (v, g))) (fiRoleOf_k x.1 x.2.1 _)) fun _ _ h => h
/-! loop.example/g01926/impl.isTail -/
abbrev YiisTail : List (Nat × Ent) := [(169, EiIsLog), (118, Eiwithin)]
theorem YiisTail_ok : TabOk Tryz.prog (getY YiisTail) := tab_cons eiIsLog <| tab_cons eiwithin <| tab_nil _
def fiisTailC {ρ : Type} (a0 : Int) (a1 : List Entry) (k : Bool × Unit → Option ρ) : Option ρ :=
  (fiIsLog a1).bind fun y1 => br y1.1 (br (decide ((a1.length : Int) ≤ 3)) ((fiwithin a0 0 (IntKind.wrap .i64 (16 - (a1.length : Int)))).bind fun y2 => br y2.1 (br (a0 == 0) (k (true, ())) (k (((a1.length : Int) == 3), ()))) (k (false, ()))) (k (false, ()))) (k (false, ()))
def fiisTail (a0 : Int) (a1 : List Entry) : Option (Bool × Unit) := fiisTailC a0 a1 some
theorem fiisTail_k {ρ : Type} (a0 : Int) (a1 : List Entry) (k : Bool × Unit → Option ρ) : fiisTailC a0 a1 k = (fiisTail a0 a1).bind k := by
  simp only [fiisTail, fiisTailC, br_bind, Option.bind_assoc, Option.bind_some]
abbrev EiisTail : Ent := entP [.ty (.i .i64), .ty (.ls (.st .entry))] [.b] fun x => fiisTail x.1 x.2.1
theorem eiisTail : EntOk Tryz.prog 171 EiisTail :=
  entP_of (Λ := getL []) (fn := Tryz.f171) Θ_ok YiisTail_ok mixed_ok (by kernel_rfl) (hL_of (by kernel_rfl : _ = []) loops_nil) (by kernel_rfl) (fun x => fiisTail x.1 x.2.1)
    (fun x => Eq.trans (by kernel_rfl : _ = fiisTailC x.1 x.2.1 (fun y => ret (pairs [.b] y) fun v g => some (v, g))) (fiisTail_k x.1 x.2.1 _)) fun _ _ h => h
/-! loop.example/g01926/impl.IsValidServer -/
abbrev YiIsValidServer : List (Nat × Ent) := [(118, Eiwithin), (169, EiIsLog), (102, EiEqualConfigs), (124, EilastEpoch), (170, EiRoleOf), (171, EiisTail)]
theorem YiIsValidServer_ok : TabOk Tryz.prog (getY YiIsValidServer) := tab_cons eiwithin <| tab_cons eiIsLog <| tab_cons eiEqualConfigs <| tab_cons eilastEpoch <| tab_cons eiRoleOf <| tab_cons eiisTail <| tab_nil _
def fiIsValidServerC {ρ : Type} (a0 : Server) (a1 : Int) (k : Bool × Unit → Option ρ) : Option ρ :=
  (fiwithin a0.version 1 2).bind fun y1 => br (!y1.1) (k (false, ())) ((fiwithin a0.epoch 0 20).bind fun y2 => br (!y2.1) (k (false, ())) ((fiIsLog a0.log).bind fun y3 => br (!y3.1) (k (false, ())) ((fiIsLog a0.learned).bind fun y4 => br (!y4.1) (k (false, ())) ((fiwithin a0.first 0 16).bind fun y5 => br (!y5.1) (k (false, ())) (br (decide ((IntKind.wrap .i64 (a0.first + (a0.log.length : Int))) > 16)) (k (false, ())) ((fiwithin a0.commit 0 (IntKind.wrap .i64 (a0.first + (a0.log.length : Int)))).bind fun y6 => br (!y6.1) (k (false, ())) ((fiEqualConfigs a0.config (⟨0, 0, ([] : List Int), ([] : List Int)⟩ : Config)).bind fun y7 => br y7.1 (br (a0.first == 0) (br (a0.commit == 0) (k (((a0.log.length : Int) == 0), ())) (k (false, ()))) (k (false, ()))) (br (!a0.intact) (k (false, ())) (br (decide (a0.epoch < a0.config.epoch)) (k (false, ())) ((filastEpoch a0.log).bind fun y8 => br (decide (y8.1 > a0.config.epoch)) (k (false, ())) ((fiRoleOf a0.config a1).bind fun y9 => br (y9.1 == 1) (k ((a0.first == 0), ())) (br (y9.1 == 2) (k ((a0.first == 0), ())) (br (y9.1 == 3) ((fiisTail a0.first a0.log).bind fun y10 => k (y10.1, ())) (k (false, ())))))))))))))))
def fiIsValidServer (a0 : Server) (a1 : Int) : Option (Bool × Unit) := fiIsValidServerC a0 a1 some
theorem fiIsValidServer_k {ρ : Type} (a0 : Server) (a1 : Int) (k : Bool × Unit → Option ρ) : fiIsValidServerC a0 a1 k = (fiIsValidServer a0 a1).bind k := by
  simp only [fiIsValidServer, fiIsValidServerC, br_bind, Option.bind_assoc, Option.bind_some]
abbrev EiIsValidServer : Ent := entP [.ty (.st .server), .ty (.i .i64)] [.b] fun x => fiIsValidServer x.1 x.2.1
theorem eiIsValidServer : EntOk Tryz.prog 123 EiIsValidServer :=
  entP_of (Λ := getL []) (fn := Tryz.f123) Θ_ok YiIsValidServer_ok mixed_ok (by kernel_rfl) (hL_of (by kernel_rfl : _ = []) loops_nil) (by kernel_rfl) (fun x => fiIsValidServer x.1 x.2.1)
    (fun x => Eq.trans (by kernel_rfl : _ = fiIsValidServerC x.1 x.2.1 (fun y => ret (pairs [.b] y) fun v g => some (v, g))) (fiIsValidServer_k x.1 x.2.1 _)) fun _ _ h => h
/-! loop.example/g01926/impl.configCopy -/
abbrev YiconfigCopy : List (Nat × Ent) := []
theorem YiconfigCopy_ok : TabOk Tryz.prog (getY YiconfigCopy) := tab_nil _
def ficonfigCopyC {ρ : Type} (a0 : Config) (k : Config × Unit → Option ρ) : Option ρ :=
  iteP ((([] : List Int) ++ a0.replicas).length * 8 ≤ 2 ^ 40) (iteP ((([] : List Int) ++ a0.witnesses).length * 8 ≤ 2 ^ 40) (k ((⟨a0.epoch, a0.primary, (([] : List Int) ++ a0.replicas), (([] : List Int) ++ a0.witnesses)⟩ : Config), ())) none) none
def ficonfigCopy (a0 : Config) : Option (Config × Unit) := ficonfigCopyC a0 some
theorem ficonfigCopy_k {ρ : Type} (a0 : Config) (k : Config × Unit → Option ρ) : ficonfigCopyC a0 k = (ficonfigCopy a0).bind k := by
  simp only [ficonfigCopy, ficonfigCopyC, iteP_bind, Option.bind_none, Option.bind_some]
abbrev EiconfigCopy : Ent := entP [.ty (.st .config)] [.st .config] fun x => ficonfigCopy x.1
theorem eiconfigCopy : EntOk Tryz.prog 172 EiconfigCopy :=
  entP_of (Λ := getL []) (fn := Tryz.f172) Θ_ok YiconfigCopy_ok mixed_ok (by kernel_rfl) (hL_of (by kernel_rfl : _ = []) loops_nil) (by kernel_rfl) (fun x => ficonfigCopy x.1)
    (fun x => Eq.trans (by kernel_rfl : _ = ficonfigCopyC x.1 (fun y => ret (pairs [.st .config] y) fun v g => some (v, g))) (ficonfigCopy_k x.1 _)) fun _ _ h => h
/-! loop.example/g01926/impl.ConfigAt -/
abbrev YiConfigAt : List (Nat × Ent) := [(120, EiIsMasterLog), (118, Eiwithin), (172, EiconfigCopy)]
theorem YiConfigAt_ok : TabOk Tryz.prog (getY YiConfigAt) := tab_cons eiIsMasterLog <| tab_cons eiwithin <| tab_cons eiconfigCopy <| tab_nil _
def fiConfigAtC {ρ : Type} (a0 : MasterLog) (a1 : Int) (k : Config × Bool × Unit → Option ρ) : Option ρ :=
  (fiIsMasterLog a0).bind fun y1 => br (!y1.1) (k ((⟨0, 0, ([] : List Int), ([] : List Int)⟩ : Config), false, ())) ((fiwithin a1 1 (a0.configs.length : Int)).bind fun y2 => br (!y2.1) (k ((⟨0, 0, ([] : List Int), ([] : List Int)⟩ : Config), false, ())) (iteP (0 ≤ (IntKind.wrap .i64 (a1 - 1))) ((a0.configs[(IntKind.wrap .i64 (a1 - 1)).toNat]?).bind fun x3 => (ficonfigCopy x3).bind fun y4 => k (y4.1, true, ())) none))
def fiConfigAt (a0 : MasterLog) (a1 : Int) : Option (Config × Bool × Unit) := fiConfigAtC a0 a1 some
theorem fiConfigAt_k {ρ : Type} (a0 : MasterLog) (a1 : Int) (k : Config × Bool × Unit → Option ρ) : fiConfigAtC a0 a1 k = (fiConfigAt a0 a1).bind k := by
  simp only [fiConfigAt, fiConfigAtC, br_bind, iteP_bind, Option.bind_none, Option.bind_assoc, Option.bind_some]
abbrev EiConfigAt : Ent := entP [.ty (.st .masterLog), .ty (.i .i64)] [.st .config, .b] fun x => fiConfigAt x.1 x.2.1
theorem eiConfigAt : EntOk Tryz.prog 125 EiConfigAt :=
  entP_of (Λ := getL []) (fn := Tryz.f125) Θ_ok YiConfigAt_ok mixed_ok (by kernel_rfl) (hL_of (by kernel_rfl : _ = []) loops_nil) (by kernel_rfl) (fun x => fiConfigAt x.1 x.2.1)
    (fun x => Eq.trans (by kernel_rfl : _ = fiConfigAtC x.1 x.2.1 (fun y => ret (pairs [.st .config, .b] y) fun v g => some (v, g))) (fiConfigAt_k x.1 x.2.1 _)) fun _ _ h => h
/-! loop.example/g01926/impl.IsValidCluster -/
abbrev YiIsValidCluster : List (Nat × Ent) := [(118, Eiwithin), (119, EiAreSides), (120, EiIsMasterLog), (121, EiIsLease), (122, EiArePlaces), (123, EiIsValidServer), (124, EilastEpoch), (102, EiEqualConfigs), (125, EiConfigAt)]
theorem YiIsValidCluster_ok : TabOk Tryz.prog (getY YiIsValidCluster) := tab_cons eiwithin <| tab_cons eiAreSides <| tab_cons eiIsMasterLog <| tab_cons eiIsLease <| tab_cons eiArePlaces <| tab_cons eiIsValidServer <| tab_cons eilastEpoch <| tab_cons eiEqualConfigs <| tab_cons eiConfigAt <| tab_nil _
noncomputable abbrev ciIsValidCluster_4 : Code := loopAt (bodyOf Tryz.f54) 0
abbrev LiIsValidCluster_4 : LSh := ⟨[(1, .cl (.ptr 0 0)), (57, .cl (.ro (.st .server))), (58, .cl (.int .i64)), (59, .cl (.int .i64))], [[.int .i64, .ro (.st .server), .ro (.i .i64), .ro (.st .config), .int .i64, .int .i64, .int .i64, .int .i64, .int .i64, .ro (.st .place)]], [], 0, 118⟩
abbrev XiIsValidCluster_4 : List (X × LSh) := [(.ret, ⟨[(2, .cl (.bl))], [], [], 0, 118⟩), (.ext 0, ⟨[(2, .cl (.dead))], [], [], 0, 118⟩)]
def biIsValidCluster_4C {ρ : Type} (v7 : List Server) (v8 : Int) (v9 : Int) (v10 : Int) (v11 : List Server) (v12 : List Int) (v13 : List Config) (v14 : Int) (v15 : Int) (v16 : Int) (v17 : Int) (v18 : Int) (v19 : List Place) (fn : ((Unit × (List Server) × Int × Int × Unit) × ((Int × (List Server) × (List Int) × (List Config) × Int × Int × Int × Int × Int × (List Place) × Unit) × Unit) × (Unit)) → Option ρ) (fe : ((Bool × Unit) × (Unit) × (Unit)) ⊕ ((Unit × Unit) × (Unit) × (Unit)) → Option ρ) : Option ρ :=
  br (decide (v9 < v8)) (iteP (0 ≤ v9) ((v7[v9.toNat]?).bind fun x20 => (fiIsValidServer x20 v9).bind fun y21 => br (!y21.1) (fe (.inl ((false, ()), (()), (())))) (br (decide (x20.epoch > (v13.length : Int))) (fe (.inl ((false, ()), (()), (())))) ((filastEpoch x20.learned).bind fun y22 => br (decide (y22.1 > v14)) (fe (.inl ((false, ()), (()), (())))) ((fiEqualConfigs x20.config (⟨0, 0, ([] : List Int), ([] : List Int)⟩ : Config)).bind fun y23 => br y23.1 (fn (((), v7, v8, (IntKind.wrap .i64 (v9 + 1)), ()), ((v10, v11, v12, v13, v14, v15, v16, v17, v18, v19, ()), ()), (()))) ((fiConfigAt (⟨v13, v14⟩ : MasterLog) x20.config.epoch).bind fun y24 => br (!y24.2.1) (fe (.inl ((false, ()), (()), (())))) ((fiEqualConfigs y24.1 x20.config).bind fun y25 => br (!y25.1) (fe (.inl ((false, ()), (()), (())))) (br (decide (x20.config.epoch > v14)) (fe (.inl ((false, ()), (()), (())))) (fn (((), v7, v8, (IntKind.wrap .i64 (v9 + 1)), ()), ((v10, v11, v12, v13, v14, v15, v16, v17, v18, v19, ()), ()), (())))))))))) none) (fe (.inr (((), ()), (()), (()))))
def biIsValidCluster_4 (s : LiIsValidCluster_4.D) : Option (LiIsValidCluster_4.D ⊕ Exs.D XiIsValidCluster_4) := biIsValidCluster_4C s.1.2.1 s.1.2.2.1 s.1.2.2.2.1 s.2.1.1.1 s.2.1.1.2.1 s.2.1.1.2.2.1 s.2.1.1.2.2.2.1 s.2.1.1.2.2.2.2.1 s.2.1.1.2.2.2.2.2.1 s.2.1.1.2.2.2.2.2.2.1 s.2.1.1.2.2.2.2.2.2.2.1 s.2.1.1.2.2.2.2.2.2.2.2.1 s.2.1.1.2.2.2.2.2.2.2.2.2.1 (fun s => some (.inl s)) (fun e => some (.inr e))
def liIsValidCluster_4 : LiIsValidCluster_4.D → Option (Exs.D XiIsValidCluster_4) := lim biIsValidCluster_4
theorem biIsValidCluster_4_k {ρ : Type} (s : LiIsValidCluster_4.D) (fn : LiIsValidCluster_4.D → Option ρ) (fe : Exs.D XiIsValidCluster_4 → Option ρ) : biIsValidCluster_4C s.1.2.1 s.1.2.2.1 s.1.2.2.2.1 s.2.1.1.1 s.2.1.1.2.1 s.2.1.1.2.2.1 s.2.1.1.2.2.2.1 s.2.1.1.2.2.2.2.1 s.2.1.1.2.2.2.2.2.1 s.2.1.1.2.2.2.2.2.2.1 s.2.1.1.2.2.2.2.2.2.2.1 s.2.1.1.2.2.2.2.2.2.2.2.1 s.2.1.1.2.2.2.2.2.2.2.2.2.1 fn fe = (biIsValidCluster_4 s).bind (Sum.elim fn fe) := by
  simp only [biIsValidCluster_4, biIsValidCluster_4C, br_bind, iteP_bind, Option.bind_none, Option.bind_assoc, Option.bind_some, Sum.elim_inl, Sum.elim_inr]
abbrev EiIsValidCluster_4 : LoopE := loopE [] [1, 57, 58, 59] LiIsValidCluster_4 XiIsValidCluster_4 liIsValidCluster_4
theorem biIsValidCluster_4_ok (s : LiIsValidCluster_4.D) : evCK Θ (getY YiIsValidCluster) (getL []) ciIsValidCluster_4 (LiIsValidCluster_4.mk' s) (tellK [1, 57, 58, 59] [2] fun x S => some (x, S)) = (biIsValidCluster_4 s).bind (Sum.elim (fun s' => some (.nor, LiIsValidCluster_4.mk' s')) fun e => some (Exs.e XiIsValidCluster_4 e)) :=
  Eq.trans (by kernel_rfl : _ = biIsValidCluster_4C s.1.2.1 s.1.2.2.1 s.1.2.2.2.1 s.2.1.1.1 s.2.1.1.2.1 s.2.1.1.2.2.1 s.2.1.1.2.2.2.1 s.2.1.1.2.2.2.2.1 s.2.1.1.2.2.2.2.2.1 s.2.1.1.2.2.2.2.2.2.1 s.2.1.1.2.2.2.2.2.2.2.1 s.2.1.1.2.2.2.2.2.2.2.2.1 s.2.1.1.2.2.2.2.2.2.2.2.2.1 (fun s' => some (.nor, LiIsValidCluster_4.mk' s')) (fun e => some (Exs.e XiIsValidCluster_4 e))) (biIsValidCluster_4_k s _ _)
theorem liIsValidCluster_4_ok : LoopOk Tryz.prog ciIsValidCluster_4 EiIsValidCluster_4 := loopE_ok Θ_ok YiIsValidCluster_ok mixed_ok (by kernel_rfl) (hL_in (by kernel_rfl : _ = []) loops_nil) [] [1, 57, 58, 59] [2] LiIsValidCluster_4 XiIsValidCluster_4 (by kernel_rfl) biIsValidCluster_4 biIsValidCluster_4_ok liIsValidCluster_4 (limN biIsValidCluster_4) (lim_round biIsValidCluster_4)
def fiIsValidClusterC {ρ : Type} (a0 : Cluster) (k : Bool × Unit → Option ρ) : Option ρ :=
  (fiwithin a0.now 0 999).bind fun y1 => br (!y1.1) (k (false, ())) (br (!((a0.servers.length : Int) == 5)) (k (false, ())) ((fiAreSides a0.sides).bind fun y2 => br (!y2.1) (k (false, ())) ((fiIsMasterLog a0.master).bind fun y3 => br (!y3.1) (k (false, ())) ((fiIsLease a0.lease).bind fun y4 => br (!y4.1) (k (false, ())) ((fiArePlaces a0.places).bind fun y5 => br (!y5.1) (k (false, ())) ((fiwithin a0.masterUp 0 3).bind fun y6 => br (!y6.1) (k (false, ())) (br (decide (a0.lease.epoch > a0.master.activated)) (k (false, ())) ((liIsValidCluster_4 (((), a0.servers, (a0.servers.length : Int), 0, ()), ((a0.now, a0.servers, a0.sides, a0.master.configs, a0.master.activated, a0.masterUp, a0.lease.epoch, a0.lease.holder, a0.lease.ends, a0.places, ()), ()), (()))).bind fun e26 => Sum.elim (fun e26_ => k (e26_.1.1, ())) (fun e26_ => k (true, ())) e26))))))))
def fiIsValidCluster (a0 : Cluster) : Option (Bool × Unit) := fiIsValidClusterC a0 some
theorem fiIsValidCluster_k {ρ : Type} (a0 : Cluster) (k : Bool × Unit → Option ρ) : fiIsValidClusterC a0 k = (fiIsValidCluster a0).bind k := by
  simp only [fiIsValidCluster, fiIsValidClusterC, br_bind, elim_bind, Option.bind_assoc, Option.bind_some]
abbrev EiIsValidCluster : Ent := entP [.ty (.st .cluster)] [.b] fun x => fiIsValidCluster x.1
theorem eiIsValidCluster : EntOk Tryz.prog 54 EiIsValidCluster :=
  entP_of (Λ := getL [(key ciIsValidCluster_4, EiIsValidCluster_4)]) (fn := Tryz.f54) Θ_ok YiIsValidCluster_ok mixed_ok (by kernel_rfl) (hL_of (by kernel_rfl : _ = [ciIsValidCluster_4]) (loops_one (q := key ciIsValidCluster_4) rfl liIsValidCluster_4_ok fun _ _ _ => by kernel_rfl)) (by kernel_rfl) (fun x => fiIsValidCluster x.1)
    (fun x => Eq.trans (by kernel_rfl : _ = fiIsValidClusterC x.1 (fun y => ret (pairs [.b] y) fun v g => some (v, g))) (fiIsValidCluster_k x.1 _)) fun _ _ h => h
/-! slices.Clone[[]loop.example/g01926/impl.Entry,loop.example/g01926/impl.Entry] -/
abbrev YslClone_Entry : List (Nat × Ent) := []
theorem YslClone_Entry_ok : TabOk Tryz.prog (getY YslClone_Entry) := tab_nil _
def fslClone_EntryC {ρ : Type} (a0 : List Entry) (k : (List Entry) × Unit → Option ρ) : Option ρ :=
  iteP (a0.length * 56 ≤ 2 ^ 40) (k (a0, ())) none
def fslClone_Entry (a0 : List Entry) : Option ((List Entry) × Unit) := fslClone_EntryC a0 some
theorem fslClone_Entry_k {ρ : Type} (a0 : List Entry) (k : (List Entry) × Unit → Option ρ) : fslClone_EntryC a0 k = (fslClone_Entry a0).bind k := by
  simp only [fslClone_Entry, fslClone_EntryC, iteP_bind, Option.bind_none, Option.bind_some]
abbrev EslClone_Entry : Ent := entP [.ty (.ls (.st .entry))] [.ls (.st .entry)] fun x => fslClone_Entry x.1
abbrev kslClone_Entry (y : (List Entry) × Unit) : Option (V × List Tre) := ret (pairs [.ls (.st .entry)] y) fun v g => some (v, g)
theorem eslClone_Entry : EntOk Tryz.prog 92 EslClone_Entry :=
  entP_of (Λ := getL []) (fn := Tryz.f92) Θ_ok YslClone_Entry_ok mixed_ok (by kernel_rfl) (hL_of (by kernel_rfl : _ = []) loops_nil) (by kernel_rfl) (fun x => fslClone_Entry x.1)
    (fun x => Eq.trans (by kernel_rfl : _ = nilE x.1 (amb (kslClone_Entry ([], ())) (iteP ((([] : List Entry) ++ x.1).length * 56 ≤ 2 ^ 40) (kslClone_Entry (([] : List Entry) ++ x.1, ())) none) none) (iteP ((([] : List Entry) ++ x.1).length * 56 ≤ 2 ^ 40) (kslClone_Entry (([] : List Entry) ++ x.1, ())) none)) (clone_k x.1 56 kslClone_Entry)) fun _ _ h => h
/-! loop.example/g01926/impl.CommittedPart -/
abbrev YiCommittedPart : List (Nat × Ent) := [(118, Eiwithin), (92, EslClone_Entry)]
theorem YiCommittedPart_ok : TabOk Tryz.prog (getY YiCommittedPart) := tab_cons eiwithin <| tab_cons eslClone_Entry <| tab_nil _
def fiCommittedPartC {ρ : Type} (a0 : Server) (k : (List Entry) × Unit → Option ρ) : Option ρ :=
  br (decide (a0.first < 0)) (k (([] : List Entry), ())) ((fiwithin a0.commit a0.first (IntKind.wrap .i64 (a0.first + (a0.log.length : Int)))).bind fun y1 => br (!y1.1) (k (([] : List Entry), ())) (iteP (0 ≤ (0 : Int) ∧ (0 : Int) ≤ (IntKind.wrap .i64 (a0.commit - a0.first)) ∧ (IntKind.wrap .i64 (a0.commit - a0.first)) ≤ (a0.log.length : Int)) ((fslClone_Entry ((a0.log.drop (0 : Int).toNat).take ((IntKind.wrap .i64 (a0.commit - a0.first)).toNat - (0 : Int).toNat))).bind fun y2 => k (y2.1, ())) none))
def fiCommittedPart (a0 : Server) : Option ((List Entry) × Unit) := fiCommittedPartC a0 some
theorem fiCommittedPart_k {ρ : Type} (a0 : Server) (k : (List Entry) × Unit → Option ρ) : fiCommittedPartC a0 k = (fiCommittedPart a0).bind k := by
  simp only [fiCommittedPart, fiCommittedPartC, br_bind, iteP_bind, Option.bind_none, Option.bind_assoc, Option.bind_some]
abbrev EiCommittedPart : Ent := entP [.ty (.st .server)] [.ls (.st .entry)] fun x => fiCommittedPart x.1
theorem eiCommittedPart : EntOk Tryz.prog 67 EiCommittedPart :=
  entP_of (Λ := getL []) (fn := Tryz.f67) Θ_ok YiCommittedPart_ok mixed_ok (by kernel_rfl) (hL_of (by kernel_rfl : _ = []) loops_nil) (by kernel_rfl) (fun x => fiCommittedPart x.1)
    (fun x => Eq.trans (by kernel_rfl : _ = fiCommittedPartC x.1 (fun y => ret (pairs [.ls (.st .entry)] y) fun v g => some (v, g))) (fiCommittedPart_k x.1 _)) fun _ _ h => h
/-! loop.example/g01926/impl.isReplica -/
abbrev YiisReplica : List (Nat × Ent) := [(82, EiHasServer)]
theorem YiisReplica_ok : TabOk Tryz.prog (getY YiisReplica) := tab_cons eiHasServer <| tab_nil _
def fiisReplicaC {ρ : Type} (a0 : Server) (a1 : Int) (k : Bool × Unit → Option ρ) : Option ρ :=
  (fiHasServer a0.config.replicas a1).bind fun y1 => k (y1.1, ())
def fiisReplica (a0 : Server) (a1 : Int) : Option (Bool × Unit) := fiisReplicaC a0 a1 some
theorem fiisReplica_k {ρ : Type} (a0 : Server) (a1 : Int) (k : Bool × Unit → Option ρ) : fiisReplicaC a0 a1 k = (fiisReplica a0 a1).bind k := by
  simp only [fiisReplica, fiisReplicaC, Option.bind_assoc, Option.bind_some]
abbrev EiisReplica : Ent := entP [.ty (.st .server), .ty (.i .i64)] [.b] fun x => fiisReplica x.1 x.2.1
theorem eiisReplica : EntOk Tryz.prog 137 EiisReplica :=
  entP_of (Λ := getL []) (fn := Tryz.f137) Θ_ok YiisReplica_ok mixed_ok (by kernel_rfl) (hL_of (by kernel_rfl : _ = []) loops_nil) (by kernel_rfl) (fun x => fiisReplica x.1 x.2.1)
    (fun x => Eq.trans (by kernel_rfl : _ = fiisReplicaC x.1 x.2.1 (fun y => ret (pairs [.b] y) fun v g => some (v, g))) (fiisReplica_k x.1 x.2.1 _)) fun _ _ h => h
/-! loop.example/g01926/impl.committedData -/
abbrev YicommittedData : List (Nat × Ent) := [(67, EiCommittedPart), (137, EiisReplica), (92, EslClone_Entry)]
theorem YicommittedData_ok : TabOk Tryz.prog (getY YicommittedData) := tab_cons eiCommittedPart <| tab_cons eiisReplica <| tab_cons eslClone_Entry <| tab_nil _
def ficommittedDataC {ρ : Type} (a0 : Server) (a1 : Int) (k : (List Entry) × Unit → Option ρ) : Option ρ :=
  (fiCommittedPart a0).bind fun y1 => (fiisReplica a0 a1).bind fun y2 => br y2.1 (br (decide ((y1.1.length : Int) > (a0.learned.length : Int))) (k (y1.1, ())) ((fslClone_Entry a0.learned).bind fun y3 => k (y3.1, ()))) ((fslClone_Entry a0.learned).bind fun y4 => k (y4.1, ()))
def ficommittedData (a0 : Server) (a1 : Int) : Option ((List Entry) × Unit) := ficommittedDataC a0 a1 some
theorem ficommittedData_k {ρ : Type} (a0 : Server) (a1 : Int) (k : (List Entry) × Unit → Option ρ) : ficommittedDataC a0 a1 k = (ficommittedData a0 a1).bind k := by
  simp only [ficommittedData, ficommittedDataC, br_bind, Option.bind_assoc, Option.bind_some]
abbrev EicommittedData : Ent := entP [.ty (.st .server), .ty (.i .i64)] [.ls (.st .entry)] fun x => ficommittedData x.1 x.2.1
theorem eicommittedData : EntOk Tryz.prog 70 EicommittedData :=
  entP_of (Λ := getL []) (fn := Tryz.f70) Θ_ok YicommittedData_ok mixed_ok (by kernel_rfl) (hL_of (by kernel_rfl : _ = []) loops_nil) (by kernel_rfl) (fun x => ficommittedData x.1 x.2.1)
    (fun x => Eq.trans (by kernel_rfl : _ = ficommittedDataC x.1 x.2.1 (fun y => ret (pairs [.ls (.st .entry)] y) fun v g => some (v, g))) (ficommittedData_k x.1 x.2.1 _)) fun _ _ h => h
/-! loop.example/g01926/impl.isUsable -/
abbrev YiisUsable : List (Nat × Ent) := []
theorem YiisUsable_ok : TabOk Tryz.prog (getY YiisUsable) := tab_nil _
def fiisUsableC {ρ : Type} (a0 : Cluster) (a1 : Int) (k : Bool × Unit → Option ρ) : Option ρ :=
  iteP (0 ≤ a1) ((a0.servers[a1.toNat]?).bind fun x1 => br x1.up (iteP (0 ≤ a1) ((a0.sides[a1.toNat]?).bind fun x2 => k ((x2 == 0), ())) none) (k (false, ()))) none
def fiisUsable (a0 : Cluster) (a1 : Int) : Option (Bool × Unit) := fiisUsableC a0 a1 some
theorem fiisUsable_k {ρ : Type} (a0 : Cluster) (a1 : Int) (k : Bool × Unit → Option ρ) : fiisUsableC a0 a1 k = (fiisUsable a0 a1).bind k := by
  simp only [fiisUsable, fiisUsableC, br_bind, iteP_bind, Option.bind_none, Option.bind_assoc, Option.bind_some]
abbrev EiisUsable : Ent := entP [.ty (.st .cluster), .ty (.i .i64)] [.b] fun x => fiisUsable x.1 x.2.1
theorem eiisUsable : EntOk Tryz.prog 71 EiisUsable :=
  entP_of (Λ := getL []) (fn := Tryz.f71) Θ_ok YiisUsable_ok mixed_ok (by kernel_rfl) (hL_of (by kernel_rfl : _ = []) loops_nil) (by kernel_rfl) (fun x => fiisUsable x.1 x.2.1)
    (fun x => Eq.trans (by kernel_rfl : _ = fiisUsableC x.1 x.2.1 (fun y => ret (pairs [.b] y) fun v g => some (v, g))) (fiisUsable_k x.1 x.2.1 _)) fun _ _ h => h
/-! loop.example/g01926/impl.LongestSurvivor -/
abbrev YiLongestSurvivor : List (Nat × Ent) := [(54, EiIsValidCluster), (70, EicommittedData), (71, EiisUsable)]
theorem YiLongestSurvivor_ok : TabOk Tryz.prog (getY YiLongestSurvivor) := tab_cons eiIsValidCluster <| tab_cons eicommittedData <| tab_cons eiisUsable <| tab_nil _
noncomputable abbrev ciLongestSurvivor_5 : Code := loopAt (bodyOf Tryz.f25) 0
abbrev LiLongestSurvivor_5 : LSh := ⟨[(1, .cl (.ptr 0 0)), (3, .cl (.int .i64)), (4, .cl (.int .i64)), (13, .cl (.ro (.st .server))), (14, .cl (.int .i64)), (15, .cl (.int .i64))], [[.int .i64, .ro (.st .server), .ro (.i .i64), .ro (.st .config), .int .i64, .int .i64, .int .i64, .int .i64, .int .i64, .ro (.st .place)]], [], 0, 40⟩
abbrev XiLongestSurvivor_5 : List (X × LSh) := [(.ext 0, ⟨[(3, .cl (.int .i64))], [], [], 0, 40⟩)]
def biLongestSurvivor_5C {ρ : Type} (v2 : Int) (v3 : Int) (v4 : List Server) (v5 : Int) (v6 : Int) (v7 : Int) (v8 : List Server) (v9 : List Int) (v10 : List Config) (v11 : Int) (v12 : Int) (v13 : Int) (v14 : Int) (v15 : Int) (v16 : List Place) (fn : ((Unit × Int × Int × (List Server) × Int × Int × Unit) × ((Int × (List Server) × (List Int) × (List Config) × Int × Int × Int × Int × Int × (List Place) × Unit) × Unit) × (Unit)) → Option ρ) (fe : ((Int × Unit) × (Unit) × (Unit)) → Option ρ) : Option ρ :=
  br (decide (v6 < v5)) (iteP (0 ≤ v6) ((v4[v6.toNat]?).bind fun x17 => (ficommittedData x17 v6).bind fun y18 => (fiisUsable (⟨v7, v8, v9, (⟨v10, v11⟩ : MasterLog), v12, (⟨v13, v14, v15⟩ : Lease), v16⟩ : Cluster) v6).bind fun y19 => br y19.1 (br (decide (v2 < 0)) (fn (((), v6, (y18.1.length : Int), v4, v5, (IntKind.wrap .i64 (v6 + 1)), ()), ((v7, v8, v9, v10, v11, v12, v13, v14, v15, v16, ()), ()), (()))) (br (decide ((y18.1.length : Int) > v3)) (fn (((), v6, (y18.1.length : Int), v4, v5, (IntKind.wrap .i64 (v6 + 1)), ()), ((v7, v8, v9, v10, v11, v12, v13, v14, v15, v16, ()), ()), (()))) (fn (((), v2, v3, v4, v5, (IntKind.wrap .i64 (v6 + 1)), ()), ((v7, v8, v9, v10, v11, v12, v13, v14, v15, v16, ()), ()), (()))))) (fn (((), v2, v3, v4, v5, (IntKind.wrap .i64 (v6 + 1)), ()), ((v7, v8, v9, v10, v11, v12, v13, v14, v15, v16, ()), ()), (())))) none) (fe ((v2, ()), (()), (())))
def biLongestSurvivor_5 (s : LiLongestSurvivor_5.D) : Option (LiLongestSurvivor_5.D ⊕ Exs.D XiLongestSurvivor_5) := biLongestSurvivor_5C s.1.2.1 s.1.2.2.1 s.1.2.2.2.1 s.1.2.2.2.2.1 s.1.2.2.2.2.2.1 s.2.1.1.1 s.2.1.1.2.1 s.2.1.1.2.2.1 s.2.1.1.2.2.2.1 s.2.1.1.2.2.2.2.1 s.2.1.1.2.2.2.2.2.1 s.2.1.1.2.2.2.2.2.2.1 s.2.1.1.2.2.2.2.2.2.2.1 s.2.1.1.2.2.2.2.2.2.2.2.1 s.2.1.1.2.2.2.2.2.2.2.2.2.1 (fun s => some (.inl s)) (fun e => some (.inr e))
def liLongestSurvivor_5 : LiLongestSurvivor_5.D → Option (Exs.D XiLongestSurvivor_5) := lim biLongestSurvivor_5
theorem biLongestSurvivor_5_k {ρ : Type} (s : LiLongestSurvivor_5.D) (fn : LiLongestSurvivor_5.D → Option ρ) (fe : Exs.D XiLongestSurvivor_5 → Option ρ) : biLongestSurvivor_5C s.1.2.1 s.1.2.2.1 s.1.2.2.2.1 s.1.2.2.2.2.1 s.1.2.2.2.2.2.1 s.2.1.1.1 s.2.1.1.2.1 s.2.1.1.2.2.1 s.2.1.1.2.2.2.1 s.2.1.1.2.2.2.2.1 s.2.1.1.2.2.2.2.2.1 s.2.1.1.2.2.2.2.2.2.1 s.2.1.1.2.2.2.2.2.2.2.1 s.2.1.1.2.2.2.2.2.2.2.2.1 s.2.1.1.2.2.2.2.2.2.2.2.2.1 fn fe = (biLongestSurvivor_5 s).bind (Sum.elim fn fe) := by
  simp only [biLongestSurvivor_5, biLongestSurvivor_5C, br_bind, iteP_bind, Option.bind_none, Option.bind_assoc, Option.bind_some, Sum.elim_inl, Sum.elim_inr]
abbrev EiLongestSurvivor_5 : LoopE := loopE [] [1, 3, 4, 13, 14, 15] LiLongestSurvivor_5 XiLongestSurvivor_5 liLongestSurvivor_5
theorem biLongestSurvivor_5_ok (s : LiLongestSurvivor_5.D) : evCK Θ (getY YiLongestSurvivor) (getL []) ciLongestSurvivor_5 (LiLongestSurvivor_5.mk' s) (tellK [1, 3, 4, 13, 14, 15] [3] fun x S => some (x, S)) = (biLongestSurvivor_5 s).bind (Sum.elim (fun s' => some (.nor, LiLongestSurvivor_5.mk' s')) fun e => some (Exs.e XiLongestSurvivor_5 e)) :=
  Eq.trans (by kernel_rfl : _ = biLongestSurvivor_5C s.1.2.1 s.1.2.2.1 s.1.2.2.2.1 s.1.2.2.2.2.1 s.1.2.2.2.2.2.1 s.2.1.1.1 s.2.1.1.2.1 s.2.1.1.2.2.1 s.2.1.1.2.2.2.1 s.2.1.1.2.2.2.2.1 s.2.1.1.2.2.2.2.2.1 s.2.1.1.2.2.2.2.2.2.1 s.2.1.1.2.2.2.2.2.2.2.1 s.2.1.1.2.2.2.2.2.2.2.2.1 s.2.1.1.2.2.2.2.2.2.2.2.2.1 (fun s' => some (.nor, LiLongestSurvivor_5.mk' s')) (fun e => some (Exs.e XiLongestSurvivor_5 e))) (biLongestSurvivor_5_k s _ _)
theorem liLongestSurvivor_5_ok : LoopOk Tryz.prog ciLongestSurvivor_5 EiLongestSurvivor_5 := loopE_ok Θ_ok YiLongestSurvivor_ok mixed_ok (by kernel_rfl) (hL_in (by kernel_rfl : _ = []) loops_nil) [] [1, 3, 4, 13, 14, 15] [3] LiLongestSurvivor_5 XiLongestSurvivor_5 (by kernel_rfl) biLongestSurvivor_5 biLongestSurvivor_5_ok liLongestSurvivor_5 (limN biLongestSurvivor_5) (lim_round biLongestSurvivor_5)
def fiLongestSurvivorC {ρ : Type} (a0 : Cluster) (k : Int × Unit → Option ρ) : Option ρ :=
  (fiIsValidCluster a0).bind fun y1 => br (!y1.1) (k ((-1), ())) ((liLongestSurvivor_5 (((), (-1), 0, a0.servers, (a0.servers.length : Int), 0, ()), ((a0.now, a0.servers, a0.sides, a0.master.configs, a0.master.activated, a0.masterUp, a0.lease.epoch, a0.lease.holder, a0.lease.ends, a0.places, ()), ()), (()))).bind fun e20 => k (e20.1.1, ()))
def fiLongestSurvivor (a0 : Cluster) : Option (Int × Unit) := fiLongestSurvivorC a0 some
theorem fiLongestSurvivor_k {ρ : Type} (a0 : Cluster) (k : Int × Unit → Option ρ) : fiLongestSurvivorC a0 k = (fiLongestSurvivor a0).bind k := by
  simp only [fiLongestSurvivor, fiLongestSurvivorC, br_bind, Option.bind_assoc, Option.bind_some]
abbrev EiLongestSurvivor : Ent := entP [.ty (.st .cluster)] [.i .i64] fun x => fiLongestSurvivor x.1
theorem eiLongestSurvivor : EntOk Tryz.prog 25 EiLongestSurvivor :=
  entP_of (Λ := getL [(key ciLongestSurvivor_5, EiLongestSurvivor_5)]) (fn := Tryz.f25) Θ_ok YiLongestSurvivor_ok mixed_ok (by kernel_rfl) (hL_of (by kernel_rfl : _ = [ciLongestSurvivor_5]) (loops_one (q := key ciLongestSurvivor_5) rfl liLongestSurvivor_5_ok fun _ _ _ => by kernel_rfl)) (by kernel_rfl) (fun x => fiLongestSurvivor x.1)
    (fun x => Eq.trans (by kernel_rfl : _ = fiLongestSurvivorC x.1 (fun y => ret (pairs [.i .i64] y) fun v g => some (v, g))) (fiLongestSurvivor_k x.1 _)) fun _ _ h => h
/-! loop.example/g01926/laws.eqIntS -/
abbrev YweqIntS : List (Nat × Ent) := []
theorem YweqIntS_ok : TabOk Tryz.prog (getY YweqIntS) := tab_nil _
noncomputable abbrev cweqIntS_4 : Code := loopAt (bodyOf Tryz.f30) 0
abbrev LweqIntS_4 : LSh := ⟨[(0, .cl (.ro (.i .i64))), (1, .cl (.ro (.i .i64))), (5, .cl (.int .i64))], [], [], 0, 26⟩
abbrev XweqIntS_4 : List (X × LSh) := [(.ret, ⟨[(4, .cl (.bl))], [], [], 0, 26⟩), (.ext 0, ⟨[(4, .cl (.dead))], [], [], 0, 26⟩)]
def bweqIntS_4C {ρ : Type} (v1 : List Int) (v2 : List Int) (v3 : Int) (fn : (((List Int) × (List Int) × Int × Unit) × (Unit) × (Unit)) → Option ρ) (fe : ((Bool × Unit) × (Unit) × (Unit)) ⊕ ((Unit × Unit) × (Unit) × (Unit)) → Option ρ) : Option ρ :=
  br (decide (v3 < (v1.length : Int))) (iteP (0 ≤ v3) ((v1[v3.toNat]?).bind fun x4 => iteP (0 ≤ v3) ((v2[v3.toNat]?).bind fun x5 => br (!(x4 == x5)) (fe (.inl ((false, ()), (()), (())))) (fn ((v1, v2, (IntKind.wrap .i64 (v3 + 1)), ()), (()), (())))) none) none) (fe (.inr (((), ()), (()), (()))))
def bweqIntS_4 (s : LweqIntS_4.D) : Option (LweqIntS_4.D ⊕ Exs.D XweqIntS_4) := bweqIntS_4C s.1.1 s.1.2.1 s.1.2.2.1 (fun s => some (.inl s)) (fun e => some (.inr e))
def lweqIntS_4 : LweqIntS_4.D → Option (Exs.D XweqIntS_4) := lim bweqIntS_4
theorem bweqIntS_4_k {ρ : Type} (s : LweqIntS_4.D) (fn : LweqIntS_4.D → Option ρ) (fe : Exs.D XweqIntS_4 → Option ρ) : bweqIntS_4C s.1.1 s.1.2.1 s.1.2.2.1 fn fe = (bweqIntS_4 s).bind (Sum.elim fn fe) := by
  simp only [bweqIntS_4, bweqIntS_4C, br_bind, iteP_bind, Option.bind_none, Option.bind_assoc, Option.bind_some, Sum.elim_inl, Sum.elim_inr]
abbrev EweqIntS_4 : LoopE := loopE [] [0, 1, 5] LweqIntS_4 XweqIntS_4 lweqIntS_4
theorem bweqIntS_4_ok (s : LweqIntS_4.D) : evCK Θ (getY YweqIntS) (getL []) cweqIntS_4 (LweqIntS_4.mk' s) (tellK [0, 1, 5] [4] fun x S => some (x, S)) = (bweqIntS_4 s).bind (Sum.elim (fun s' => some (.nor, LweqIntS_4.mk' s')) fun e => some (Exs.e XweqIntS_4 e)) :=
  Eq.trans (by kernel_rfl : _ = bweqIntS_4C s.1.1 s.1.2.1 s.1.2.2.1 (fun s' => some (.nor, LweqIntS_4.mk' s')) (fun e => some (Exs.e XweqIntS_4 e))) (bweqIntS_4_k s _ _)
theorem lweqIntS_4_ok : LoopOk Tryz.prog cweqIntS_4 EweqIntS_4 := loopE_ok Θ_ok YweqIntS_ok mixed_ok (by kernel_rfl) (hL_in (by kernel_rfl : _ = []) loops_nil) [] [0, 1, 5] [4] LweqIntS_4 XweqIntS_4 (by kernel_rfl) bweqIntS_4 bweqIntS_4_ok lweqIntS_4 (limN bweqIntS_4) (lim_round bweqIntS_4)
def fweqIntSC {ρ : Type} (a0 : List Int) (a1 : List Int) (k : Bool × Unit → Option ρ) : Option ρ :=
  br (!((a0.length : Int) == (a1.length : Int))) (k (false, ())) ((lweqIntS_4 ((a0, a1, 0, ()), (()), (()))).bind fun e6 => Sum.elim (fun e6_ => k (e6_.1.1, ())) (fun e6_ => k (true, ())) e6)
def fweqIntS (a0 : List Int) (a1 : List Int) : Option (Bool × Unit) := fweqIntSC a0 a1 some
theorem fweqIntS_k {ρ : Type} (a0 : List Int) (a1 : List Int) (k : Bool × Unit → Option ρ) : fweqIntSC a0 a1 k = (fweqIntS a0 a1).bind k := by
  simp only [fweqIntS, fweqIntSC, br_bind, elim_bind, Option.bind_assoc, Option.bind_some]
abbrev EweqIntS : Ent := entP [.ty (.ls (.i .i64)), .ty (.ls (.i .i64))] [.b] fun x => fweqIntS x.1 x.2.1
theorem eweqIntS : EntOk Tryz.prog 30 EweqIntS :=
  entP_of (Λ := getL [(key cweqIntS_4, EweqIntS_4)]) (fn := Tryz.f30) Θ_ok YweqIntS_ok mixed_ok (by kernel_rfl) (hL_of (by kernel_rfl : _ = [cweqIntS_4]) (loops_one (q := key cweqIntS_4) rfl lweqIntS_4_ok fun _ _ _ => by kernel_rfl)) (by kernel_rfl) (fun x => fweqIntS x.1 x.2.1)
    (fun x => Eq.trans (by kernel_rfl : _ = fweqIntSC x.1 x.2.1 (fun y => ret (pairs [.b] y) fun v g => some (v, g))) (fweqIntS_k x.1 x.2.1 _)) fun _ _ h => h
/-! loop.example/g01926/laws.eqConfig -/
abbrev YweqConfig : List (Nat × Ent) := [(30, EweqIntS)]
theorem YweqConfig_ok : TabOk Tryz.prog (getY YweqConfig) := tab_cons eweqIntS <| tab_nil _
def fweqConfigC {ρ : Type} (a0 : Config) (a1 : Config) (k : Bool × Unit → Option ρ) : Option ρ :=
  br (!(a0.epoch == a1.epoch)) (k (false, ())) (br (!(a0.primary == a1.primary)) (k (false, ())) ((fweqIntS a0.replicas a1.replicas).bind fun y1 => br (!y1.1) (k (false, ())) ((fweqIntS a0.witnesses a1.witnesses).bind fun y2 => br (!y2.1) (k (false, ())) (k (true, ())))))
def fweqConfig (a0 : Config) (a1 : Config) : Option (Bool × Unit) := fweqConfigC a0 a1 some
theorem fweqConfig_k {ρ : Type} (a0 : Config) (a1 : Config) (k : Bool × Unit → Option ρ) : fweqConfigC a0 a1 k = (fweqConfig a0 a1).bind k := by
  simp only [fweqConfig, fweqConfigC, br_bind, Option.bind_assoc, Option.bind_some]
abbrev EweqConfig : Ent := entP [.ty (.st .config), .ty (.st .config)] [.b] fun x => fweqConfig x.1 x.2.1
theorem eweqConfig : EntOk Tryz.prog 173 EweqConfig :=
  entP_of (Λ := getL []) (fn := Tryz.f173) Θ_ok YweqConfig_ok mixed_ok (by kernel_rfl) (hL_of (by kernel_rfl : _ = []) loops_nil) (by kernel_rfl) (fun x => fweqConfig x.1 x.2.1)
    (fun x => Eq.trans (by kernel_rfl : _ = fweqConfigC x.1 x.2.1 (fun y => ret (pairs [.b] y) fun v g => some (v, g))) (fweqConfig_k x.1 x.2.1 _)) fun _ _ h => h
/-! loop.example/g01926/laws.eqOp -/
abbrev YweqOp : List (Nat × Ent) := []
theorem YweqOp_ok : TabOk Tryz.prog (getY YweqOp) := tab_nil _
def fweqOpC {ρ : Type} (a0 : Op) (a1 : Op) (k : Bool × Unit → Option ρ) : Option ρ :=
  br (!(a0.client == a1.client)) (k (false, ())) (br (!(a0.seq == a1.seq)) (k (false, ())) (br (!(a0.kind == a1.kind)) (k (false, ())) (br (!(a0.object == a1.object)) (k (false, ())) (br (!(a0.old == a1.old)) (k (false, ())) (br (!(a0.value == a1.value)) (k (false, ())) (k (true, ())))))))
def fweqOp (a0 : Op) (a1 : Op) : Option (Bool × Unit) := fweqOpC a0 a1 some
theorem fweqOp_k {ρ : Type} (a0 : Op) (a1 : Op) (k : Bool × Unit → Option ρ) : fweqOpC a0 a1 k = (fweqOp a0 a1).bind k := by
  simp only [fweqOp, fweqOpC, br_bind, Option.bind_some]
abbrev EweqOp : Ent := entP [.ty (.st .op), .ty (.st .op)] [.b] fun x => fweqOp x.1 x.2.1
theorem eweqOp : EntOk Tryz.prog 146 EweqOp :=
  entP_of (Λ := getL []) (fn := Tryz.f146) Θ_ok YweqOp_ok mixed_ok (by kernel_rfl) (hL_of (by kernel_rfl : _ = []) loops_nil) (by kernel_rfl) (fun x => fweqOp x.1 x.2.1)
    (fun x => Eq.trans (by kernel_rfl : _ = fweqOpC x.1 x.2.1 (fun y => ret (pairs [.b] y) fun v g => some (v, g))) (fweqOp_k x.1 x.2.1 _)) fun _ _ h => h
/-! loop.example/g01926/laws.eqEntry -/
abbrev YweqEntry : List (Nat × Ent) := [(146, EweqOp)]
theorem YweqEntry_ok : TabOk Tryz.prog (getY YweqEntry) := tab_cons eweqOp <| tab_nil _
def fweqEntryC {ρ : Type} (a0 : Entry) (a1 : Entry) (k : Bool × Unit → Option ρ) : Option ρ :=
  br (!(a0.epoch == a1.epoch)) (k (false, ())) ((fweqOp a0.op a1.op).bind fun y1 => br (!y1.1) (k (false, ())) (k (true, ())))
def fweqEntry (a0 : Entry) (a1 : Entry) : Option (Bool × Unit) := fweqEntryC a0 a1 some
theorem fweqEntry_k {ρ : Type} (a0 : Entry) (a1 : Entry) (k : Bool × Unit → Option ρ) : fweqEntryC a0 a1 k = (fweqEntry a0 a1).bind k := by
  simp only [fweqEntry, fweqEntryC, br_bind, Option.bind_assoc, Option.bind_some]
abbrev EweqEntry : Ent := entP [.ty (.st .entry), .ty (.st .entry)] [.b] fun x => fweqEntry x.1 x.2.1
theorem eweqEntry : EntOk Tryz.prog 93 EweqEntry :=
  entP_of (Λ := getL []) (fn := Tryz.f93) Θ_ok YweqEntry_ok mixed_ok (by kernel_rfl) (hL_of (by kernel_rfl : _ = []) loops_nil) (by kernel_rfl) (fun x => fweqEntry x.1 x.2.1)
    (fun x => Eq.trans (by kernel_rfl : _ = fweqEntryC x.1 x.2.1 (fun y => ret (pairs [.b] y) fun v g => some (v, g))) (fweqEntry_k x.1 x.2.1 _)) fun _ _ h => h
/-! loop.example/g01926/laws.eqEntryS -/
abbrev YweqEntryS : List (Nat × Ent) := [(93, EweqEntry)]
theorem YweqEntryS_ok : TabOk Tryz.prog (getY YweqEntryS) := tab_cons eweqEntry <| tab_nil _
noncomputable abbrev cweqEntryS_4 : Code := loopAt (bodyOf Tryz.f36) 0
abbrev LweqEntryS_4 : LSh := ⟨[(0, .cl (.ro (.st .entry))), (1, .cl (.ro (.st .entry))), (5, .cl (.int .i64))], [], [], 0, 27⟩
abbrev XweqEntryS_4 : List (X × LSh) := [(.ret, ⟨[(4, .cl (.bl))], [], [], 0, 27⟩), (.ext 0, ⟨[(4, .cl (.dead))], [], [], 0, 27⟩)]
def bweqEntryS_4C {ρ : Type} (v1 : List Entry) (v2 : List Entry) (v3 : Int) (fn : (((List Entry) × (List Entry) × Int × Unit) × (Unit) × (Unit)) → Option ρ) (fe : ((Bool × Unit) × (Unit) × (Unit)) ⊕ ((Unit × Unit) × (Unit) × (Unit)) → Option ρ) : Option ρ :=
  br (decide (v3 < (v1.length : Int))) (iteP (0 ≤ v3) ((v1[v3.toNat]?).bind fun x4 => iteP (0 ≤ v3) ((v2[v3.toNat]?).bind fun x5 => (fweqEntry x4 x5).bind fun y6 => br (!y6.1) (fe (.inl ((false, ()), (()), (())))) (fn ((v1, v2, (IntKind.wrap .i64 (v3 + 1)), ()), (()), (())))) none) none) (fe (.inr (((), ()), (()), (()))))
def bweqEntryS_4 (s : LweqEntryS_4.D) : Option (LweqEntryS_4.D ⊕ Exs.D XweqEntryS_4) := bweqEntryS_4C s.1.1 s.1.2.1 s.1.2.2.1 (fun s => some (.inl s)) (fun e => some (.inr e))
def lweqEntryS_4 : LweqEntryS_4.D → Option (Exs.D XweqEntryS_4) := lim bweqEntryS_4
theorem bweqEntryS_4_k {ρ : Type} (s : LweqEntryS_4.D) (fn : LweqEntryS_4.D → Option ρ) (fe : Exs.D XweqEntryS_4 → Option ρ) : bweqEntryS_4C s.1.1 s.1.2.1 s.1.2.2.1 fn fe = (bweqEntryS_4 s).bind (Sum.elim fn fe) := by
  simp only [bweqEntryS_4, bweqEntryS_4C, br_bind, iteP_bind, Option.bind_none, Option.bind_assoc, Option.bind_some, Sum.elim_inl, Sum.elim_inr]
abbrev EweqEntryS_4 : LoopE := loopE [] [0, 1, 5] LweqEntryS_4 XweqEntryS_4 lweqEntryS_4
theorem bweqEntryS_4_ok (s : LweqEntryS_4.D) : evCK Θ (getY YweqEntryS) (getL []) cweqEntryS_4 (LweqEntryS_4.mk' s) (tellK [0, 1, 5] [4] fun x S => some (x, S)) = (bweqEntryS_4 s).bind (Sum.elim (fun s' => some (.nor, LweqEntryS_4.mk' s')) fun e => some (Exs.e XweqEntryS_4 e)) :=
  Eq.trans (by kernel_rfl : _ = bweqEntryS_4C s.1.1 s.1.2.1 s.1.2.2.1 (fun s' => some (.nor, LweqEntryS_4.mk' s')) (fun e => some (Exs.e XweqEntryS_4 e))) (bweqEntryS_4_k s _ _)
theorem lweqEntryS_4_ok : LoopOk Tryz.prog cweqEntryS_4 EweqEntryS_4 := loopE_ok Θ_ok YweqEntryS_ok mixed_ok (by kernel_rfl) (hL_in (by kernel_rfl : _ = []) loops_nil) [] [0, 1, 5] [4] LweqEntryS_4 XweqEntryS_4 (by kernel_rfl) bweqEntryS_4 bweqEntryS_4_ok lweqEntryS_4 (limN bweqEntryS_4) (lim_round bweqEntryS_4)
def fweqEntrySC {ρ : Type} (a0 : List Entry) (a1 : List Entry) (k : Bool × Unit → Option ρ) : Option ρ :=
  br (!((a0.length : Int) == (a1.length : Int))) (k (false, ())) ((lweqEntryS_4 ((a0, a1, 0, ()), (()), (()))).bind fun e7 => Sum.elim (fun e7_ => k (e7_.1.1, ())) (fun e7_ => k (true, ())) e7)
def fweqEntryS (a0 : List Entry) (a1 : List Entry) : Option (Bool × Unit) := fweqEntrySC a0 a1 some
theorem fweqEntryS_k {ρ : Type} (a0 : List Entry) (a1 : List Entry) (k : Bool × Unit → Option ρ) : fweqEntrySC a0 a1 k = (fweqEntryS a0 a1).bind k := by
  simp only [fweqEntryS, fweqEntrySC, br_bind, elim_bind, Option.bind_assoc, Option.bind_some]
abbrev EweqEntryS : Ent := entP [.ty (.ls (.st .entry)), .ty (.ls (.st .entry))] [.b] fun x => fweqEntryS x.1 x.2.1
theorem eweqEntryS : EntOk Tryz.prog 36 EweqEntryS :=
  entP_of (Λ := getL [(key cweqEntryS_4, EweqEntryS_4)]) (fn := Tryz.f36) Θ_ok YweqEntryS_ok mixed_ok (by kernel_rfl) (hL_of (by kernel_rfl : _ = [cweqEntryS_4]) (loops_one (q := key cweqEntryS_4) rfl lweqEntryS_4_ok fun _ _ _ => by kernel_rfl)) (by kernel_rfl) (fun x => fweqEntryS x.1 x.2.1)
    (fun x => Eq.trans (by kernel_rfl : _ = fweqEntrySC x.1 x.2.1 (fun y => ret (pairs [.b] y) fun v g => some (v, g))) (fweqEntryS_k x.1 x.2.1 _)) fun _ _ h => h
/-! loop.example/g01926/laws.eqServer -/
abbrev YweqServer : List (Nat × Ent) := [(173, EweqConfig), (36, EweqEntryS)]
theorem YweqServer_ok : TabOk Tryz.prog (getY YweqServer) := tab_cons eweqConfig <| tab_cons eweqEntryS <| tab_nil _
def fweqServerC {ρ : Type} (a0 : Server) (a1 : Server) (k : Bool × Unit → Option ρ) : Option ρ :=
  br (!(a0.up == a1.up)) (k (false, ())) (br (!(a0.intact == a1.intact)) (k (false, ())) (br (!(a0.version == a1.version)) (k (false, ())) (br (!(a0.epoch == a1.epoch)) (k (false, ())) ((fweqConfig a0.config a1.config).bind fun y1 => br (!y1.1) (k (false, ())) (br (!(a0.first == a1.first)) (k (false, ())) ((fweqEntryS a0.log a1.log).bind fun y2 => br (!y2.1) (k (false, ())) (br (!(a0.commit == a1.commit)) (k (false, ())) ((fweqEntryS a0.learned a1.learned).bind fun y3 => br (!y3.1) (k (false, ())) (k (true, ()))))))))))
def fweqServer (a0 : Server) (a1 : Server) : Option (Bool × Unit) := fweqServerC a0 a1 some
theorem fweqServer_k {ρ : Type} (a0 : Server) (a1 : Server) (k : Bool × Unit → Option ρ) : fweqServerC a0 a1 k = (fweqServer a0 a1).bind k := by
  simp only [fweqServer, fweqServerC, br_bind, Option.bind_assoc, Option.bind_some]
abbrev EweqServer : Ent := entP [.ty (.st .server), .ty (.st .server)] [.b] fun x => fweqServer x.1 x.2.1
theorem eweqServer : EntOk Tryz.prog 126 EweqServer :=
  entP_of (Λ := getL []) (fn := Tryz.f126) Θ_ok YweqServer_ok mixed_ok (by kernel_rfl) (hL_of (by kernel_rfl : _ = []) loops_nil) (by kernel_rfl) (fun x => fweqServer x.1 x.2.1)
    (fun x => Eq.trans (by kernel_rfl : _ = fweqServerC x.1 x.2.1 (fun y => ret (pairs [.b] y) fun v g => some (v, g))) (fweqServer_k x.1 x.2.1 _)) fun _ _ h => h
/-! loop.example/g01926/laws.eqServerS -/
abbrev YweqServerS : List (Nat × Ent) := [(126, EweqServer)]
theorem YweqServerS_ok : TabOk Tryz.prog (getY YweqServerS) := tab_cons eweqServer <| tab_nil _
noncomputable abbrev cweqServerS_4 : Code := loopAt (bodyOf Tryz.f55) 0
abbrev LweqServerS_4 : LSh := ⟨[(0, .cl (.ro (.st .server))), (1, .cl (.ro (.st .server))), (5, .cl (.int .i64))], [], [], 0, 27⟩
abbrev XweqServerS_4 : List (X × LSh) := [(.ret, ⟨[(4, .cl (.bl))], [], [], 0, 27⟩), (.ext 0, ⟨[(4, .cl (.dead))], [], [], 0, 27⟩)]
def bweqServerS_4C {ρ : Type} (v1 : List Server) (v2 : List Server) (v3 : Int) (fn : (((List Server) × (List Server) × Int × Unit) × (Unit) × (Unit)) → Option ρ) (fe : ((Bool × Unit) × (Unit) × (Unit)) ⊕ ((Unit × Unit) × (Unit) × (Unit)) → Option ρ) : Option ρ :=
  br (decide (v3 < (v1.length : Int))) (iteP (0 ≤ v3) ((v1[v3.toNat]?).bind fun x4 => iteP (0 ≤ v3) ((v2[v3.toNat]?).bind fun x5 => (fweqServer x4 x5).bind fun y6 => br (!y6.1) (fe (.inl ((false, ()), (()), (())))) (fn ((v1, v2, (IntKind.wrap .i64 (v3 + 1)), ()), (()), (())))) none) none) (fe (.inr (((), ()), (()), (()))))
def bweqServerS_4 (s : LweqServerS_4.D) : Option (LweqServerS_4.D ⊕ Exs.D XweqServerS_4) := bweqServerS_4C s.1.1 s.1.2.1 s.1.2.2.1 (fun s => some (.inl s)) (fun e => some (.inr e))
def lweqServerS_4 : LweqServerS_4.D → Option (Exs.D XweqServerS_4) := lim bweqServerS_4
theorem bweqServerS_4_k {ρ : Type} (s : LweqServerS_4.D) (fn : LweqServerS_4.D → Option ρ) (fe : Exs.D XweqServerS_4 → Option ρ) : bweqServerS_4C s.1.1 s.1.2.1 s.1.2.2.1 fn fe = (bweqServerS_4 s).bind (Sum.elim fn fe) := by
  simp only [bweqServerS_4, bweqServerS_4C, br_bind, iteP_bind, Option.bind_none, Option.bind_assoc, Option.bind_some, Sum.elim_inl, Sum.elim_inr]
abbrev EweqServerS_4 : LoopE := loopE [] [0, 1, 5] LweqServerS_4 XweqServerS_4 lweqServerS_4
theorem bweqServerS_4_ok (s : LweqServerS_4.D) : evCK Θ (getY YweqServerS) (getL []) cweqServerS_4 (LweqServerS_4.mk' s) (tellK [0, 1, 5] [4] fun x S => some (x, S)) = (bweqServerS_4 s).bind (Sum.elim (fun s' => some (.nor, LweqServerS_4.mk' s')) fun e => some (Exs.e XweqServerS_4 e)) :=
  Eq.trans (by kernel_rfl : _ = bweqServerS_4C s.1.1 s.1.2.1 s.1.2.2.1 (fun s' => some (.nor, LweqServerS_4.mk' s')) (fun e => some (Exs.e XweqServerS_4 e))) (bweqServerS_4_k s _ _)
theorem lweqServerS_4_ok : LoopOk Tryz.prog cweqServerS_4 EweqServerS_4 := loopE_ok Θ_ok YweqServerS_ok mixed_ok (by kernel_rfl) (hL_in (by kernel_rfl : _ = []) loops_nil) [] [0, 1, 5] [4] LweqServerS_4 XweqServerS_4 (by kernel_rfl) bweqServerS_4 bweqServerS_4_ok lweqServerS_4 (limN bweqServerS_4) (lim_round bweqServerS_4)
def fweqServerSC {ρ : Type} (a0 : List Server) (a1 : List Server) (k : Bool × Unit → Option ρ) : Option ρ :=
  br (!((a0.length : Int) == (a1.length : Int))) (k (false, ())) ((lweqServerS_4 ((a0, a1, 0, ()), (()), (()))).bind fun e7 => Sum.elim (fun e7_ => k (e7_.1.1, ())) (fun e7_ => k (true, ())) e7)
def fweqServerS (a0 : List Server) (a1 : List Server) : Option (Bool × Unit) := fweqServerSC a0 a1 some
theorem fweqServerS_k {ρ : Type} (a0 : List Server) (a1 : List Server) (k : Bool × Unit → Option ρ) : fweqServerSC a0 a1 k = (fweqServerS a0 a1).bind k := by
  simp only [fweqServerS, fweqServerSC, br_bind, elim_bind, Option.bind_assoc, Option.bind_some]
abbrev EweqServerS : Ent := entP [.ty (.ls (.st .server)), .ty (.ls (.st .server))] [.b] fun x => fweqServerS x.1 x.2.1
theorem eweqServerS : EntOk Tryz.prog 55 EweqServerS :=
  entP_of (Λ := getL [(key cweqServerS_4, EweqServerS_4)]) (fn := Tryz.f55) Θ_ok YweqServerS_ok mixed_ok (by kernel_rfl) (hL_of (by kernel_rfl : _ = [cweqServerS_4]) (loops_one (q := key cweqServerS_4) rfl lweqServerS_4_ok fun _ _ _ => by kernel_rfl)) (by kernel_rfl) (fun x => fweqServerS x.1 x.2.1)
    (fun x => Eq.trans (by kernel_rfl : _ = fweqServerSC x.1 x.2.1 (fun y => ret (pairs [.b] y) fun v g => some (v, g))) (fweqServerS_k x.1 x.2.1 _)) fun _ _ h => h
/-! loop.example/g01926/laws.eqConfigS -/
abbrev YweqConfigS : List (Nat × Ent) := [(173, EweqConfig)]
theorem YweqConfigS_ok : TabOk Tryz.prog (getY YweqConfigS) := tab_cons eweqConfig <| tab_nil _
noncomputable abbrev cweqConfigS_4 : Code := loopAt (bodyOf Tryz.f127) 0
abbrev LweqConfigS_4 : LSh := ⟨[(0, .cl (.ro (.st .config))), (1, .cl (.ro (.st .config))), (5, .cl (.int .i64))], [], [], 0, 27⟩
abbrev XweqConfigS_4 : List (X × LSh) := [(.ret, ⟨[(4, .cl (.bl))], [], [], 0, 27⟩), (.ext 0, ⟨[(4, .cl (.dead))], [], [], 0, 27⟩)]
def bweqConfigS_4C {ρ : Type} (v1 : List Config) (v2 : List Config) (v3 : Int) (fn : (((List Config) × (List Config) × Int × Unit) × (Unit) × (Unit)) → Option ρ) (fe : ((Bool × Unit) × (Unit) × (Unit)) ⊕ ((Unit × Unit) × (Unit) × (Unit)) → Option ρ) : Option ρ :=
  br (decide (v3 < (v1.length : Int))) (iteP (0 ≤ v3) ((v1[v3.toNat]?).bind fun x4 => iteP (0 ≤ v3) ((v2[v3.toNat]?).bind fun x5 => (fweqConfig x4 x5).bind fun y6 => br (!y6.1) (fe (.inl ((false, ()), (()), (())))) (fn ((v1, v2, (IntKind.wrap .i64 (v3 + 1)), ()), (()), (())))) none) none) (fe (.inr (((), ()), (()), (()))))
def bweqConfigS_4 (s : LweqConfigS_4.D) : Option (LweqConfigS_4.D ⊕ Exs.D XweqConfigS_4) := bweqConfigS_4C s.1.1 s.1.2.1 s.1.2.2.1 (fun s => some (.inl s)) (fun e => some (.inr e))
def lweqConfigS_4 : LweqConfigS_4.D → Option (Exs.D XweqConfigS_4) := lim bweqConfigS_4
theorem bweqConfigS_4_k {ρ : Type} (s : LweqConfigS_4.D) (fn : LweqConfigS_4.D → Option ρ) (fe : Exs.D XweqConfigS_4 → Option ρ) : bweqConfigS_4C s.1.1 s.1.2.1 s.1.2.2.1 fn fe = (bweqConfigS_4 s).bind (Sum.elim fn fe) := by
  simp only [bweqConfigS_4, bweqConfigS_4C, br_bind, iteP_bind, Option.bind_none, Option.bind_assoc, Option.bind_some, Sum.elim_inl, Sum.elim_inr]
abbrev EweqConfigS_4 : LoopE := loopE [] [0, 1, 5] LweqConfigS_4 XweqConfigS_4 lweqConfigS_4
theorem bweqConfigS_4_ok (s : LweqConfigS_4.D) : evCK Θ (getY YweqConfigS) (getL []) cweqConfigS_4 (LweqConfigS_4.mk' s) (tellK [0, 1, 5] [4] fun x S => some (x, S)) = (bweqConfigS_4 s).bind (Sum.elim (fun s' => some (.nor, LweqConfigS_4.mk' s')) fun e => some (Exs.e XweqConfigS_4 e)) :=
  Eq.trans (by kernel_rfl : _ = bweqConfigS_4C s.1.1 s.1.2.1 s.1.2.2.1 (fun s' => some (.nor, LweqConfigS_4.mk' s')) (fun e => some (Exs.e XweqConfigS_4 e))) (bweqConfigS_4_k s _ _)
theorem lweqConfigS_4_ok : LoopOk Tryz.prog cweqConfigS_4 EweqConfigS_4 := loopE_ok Θ_ok YweqConfigS_ok mixed_ok (by kernel_rfl) (hL_in (by kernel_rfl : _ = []) loops_nil) [] [0, 1, 5] [4] LweqConfigS_4 XweqConfigS_4 (by kernel_rfl) bweqConfigS_4 bweqConfigS_4_ok lweqConfigS_4 (limN bweqConfigS_4) (lim_round bweqConfigS_4)
def fweqConfigSC {ρ : Type} (a0 : List Config) (a1 : List Config) (k : Bool × Unit → Option ρ) : Option ρ :=
  br (!((a0.length : Int) == (a1.length : Int))) (k (false, ())) ((lweqConfigS_4 ((a0, a1, 0, ()), (()), (()))).bind fun e7 => Sum.elim (fun e7_ => k (e7_.1.1, ())) (fun e7_ => k (true, ())) e7)
def fweqConfigS (a0 : List Config) (a1 : List Config) : Option (Bool × Unit) := fweqConfigSC a0 a1 some
theorem fweqConfigS_k {ρ : Type} (a0 : List Config) (a1 : List Config) (k : Bool × Unit → Option ρ) : fweqConfigSC a0 a1 k = (fweqConfigS a0 a1).bind k := by
  simp only [fweqConfigS, fweqConfigSC, br_bind, elim_bind, Option.bind_assoc, Option.bind_some]
abbrev EweqConfigS : Ent := entP [.ty (.ls (.st .config)), .ty (.ls (.st .config))] [.b] fun x => fweqConfigS x.1 x.2.1
theorem eweqConfigS : EntOk Tryz.prog 127 EweqConfigS :=
  entP_of (Λ := getL [(key cweqConfigS_4, EweqConfigS_4)]) (fn := Tryz.f127) Θ_ok YweqConfigS_ok mixed_ok (by kernel_rfl) (hL_of (by kernel_rfl : _ = [cweqConfigS_4]) (loops_one (q := key cweqConfigS_4) rfl lweqConfigS_4_ok fun _ _ _ => by kernel_rfl)) (by kernel_rfl) (fun x => fweqConfigS x.1 x.2.1)
    (fun x => Eq.trans (by kernel_rfl : _ = fweqConfigSC x.1 x.2.1 (fun y => ret (pairs [.b] y) fun v g => some (v, g))) (fweqConfigS_k x.1 x.2.1 _)) fun _ _ h => h
/-! loop.example/g01926/laws.eqMasterLog -/
abbrev YweqMasterLog : List (Nat × Ent) := [(127, EweqConfigS)]
theorem YweqMasterLog_ok : TabOk Tryz.prog (getY YweqMasterLog) := tab_cons eweqConfigS <| tab_nil _
def fweqMasterLogC {ρ : Type} (a0 : MasterLog) (a1 : MasterLog) (k : Bool × Unit → Option ρ) : Option ρ :=
  (fweqConfigS a0.configs a1.configs).bind fun y1 => br (!y1.1) (k (false, ())) (br (!(a0.activated == a1.activated)) (k (false, ())) (k (true, ())))
def fweqMasterLog (a0 : MasterLog) (a1 : MasterLog) : Option (Bool × Unit) := fweqMasterLogC a0 a1 some
theorem fweqMasterLog_k {ρ : Type} (a0 : MasterLog) (a1 : MasterLog) (k : Bool × Unit → Option ρ) : fweqMasterLogC a0 a1 k = (fweqMasterLog a0 a1).bind k := by
  simp only [fweqMasterLog, fweqMasterLogC, br_bind, Option.bind_assoc, Option.bind_some]
abbrev EweqMasterLog : Ent := entP [.ty (.st .masterLog), .ty (.st .masterLog)] [.b] fun x => fweqMasterLog x.1 x.2.1
theorem eweqMasterLog : EntOk Tryz.prog 56 EweqMasterLog :=
  entP_of (Λ := getL []) (fn := Tryz.f56) Θ_ok YweqMasterLog_ok mixed_ok (by kernel_rfl) (hL_of (by kernel_rfl : _ = []) loops_nil) (by kernel_rfl) (fun x => fweqMasterLog x.1 x.2.1)
    (fun x => Eq.trans (by kernel_rfl : _ = fweqMasterLogC x.1 x.2.1 (fun y => ret (pairs [.b] y) fun v g => some (v, g))) (fweqMasterLog_k x.1 x.2.1 _)) fun _ _ h => h
/-! loop.example/g01926/laws.eqLease -/
abbrev YweqLease : List (Nat × Ent) := []
theorem YweqLease_ok : TabOk Tryz.prog (getY YweqLease) := tab_nil _
def fweqLeaseC {ρ : Type} (a0 : Lease) (a1 : Lease) (k : Bool × Unit → Option ρ) : Option ρ :=
  br (!(a0.epoch == a1.epoch)) (k (false, ())) (br (!(a0.holder == a1.holder)) (k (false, ())) (br (!(a0.ends == a1.ends)) (k (false, ())) (k (true, ()))))
def fweqLease (a0 : Lease) (a1 : Lease) : Option (Bool × Unit) := fweqLeaseC a0 a1 some
theorem fweqLease_k {ρ : Type} (a0 : Lease) (a1 : Lease) (k : Bool × Unit → Option ρ) : fweqLeaseC a0 a1 k = (fweqLease a0 a1).bind k := by
  simp only [fweqLease, fweqLeaseC, br_bind, Option.bind_some]
abbrev EweqLease : Ent := entP [.ty (.st .lease), .ty (.st .lease)] [.b] fun x => fweqLease x.1 x.2.1
theorem eweqLease : EntOk Tryz.prog 57 EweqLease :=
  entP_of (Λ := getL []) (fn := Tryz.f57) Θ_ok YweqLease_ok mixed_ok (by kernel_rfl) (hL_of (by kernel_rfl : _ = []) loops_nil) (by kernel_rfl) (fun x => fweqLease x.1 x.2.1)
    (fun x => Eq.trans (by kernel_rfl : _ = fweqLeaseC x.1 x.2.1 (fun y => ret (pairs [.b] y) fun v g => some (v, g))) (fweqLease_k x.1 x.2.1 _)) fun _ _ h => h
/-! loop.example/g01926/laws.eqPlace -/
abbrev YweqPlace : List (Nat × Ent) := []
theorem YweqPlace_ok : TabOk Tryz.prog (getY YweqPlace) := tab_nil _
def fweqPlaceC {ρ : Type} (a0 : Place) (a1 : Place) (k : Bool × Unit → Option ρ) : Option ρ :=
  br (!(a0.rack == a1.rack)) (k (false, ())) (br (!(a0.capacity == a1.capacity)) (k (false, ())) (br (!(a0.load == a1.load)) (k (false, ())) (k (true, ()))))
def fweqPlace (a0 : Place) (a1 : Place) : Option (Bool × Unit) := fweqPlaceC a0 a1 some
theorem fweqPlace_k {ρ : Type} (a0 : Place) (a1 : Place) (k : Bool × Unit → Option ρ) : fweqPlaceC a0 a1 k = (fweqPlace a0 a1).bind k := by
  simp only [fweqPlace, fweqPlaceC, br_bind, Option.bind_some]
abbrev EweqPlace : Ent := entP [.ty (.st .place), .ty (.st .place)] [.b] fun x => fweqPlace x.1 x.2.1
theorem eweqPlace : EntOk Tryz.prog 128 EweqPlace :=
  entP_of (Λ := getL []) (fn := Tryz.f128) Θ_ok YweqPlace_ok mixed_ok (by kernel_rfl) (hL_of (by kernel_rfl : _ = []) loops_nil) (by kernel_rfl) (fun x => fweqPlace x.1 x.2.1)
    (fun x => Eq.trans (by kernel_rfl : _ = fweqPlaceC x.1 x.2.1 (fun y => ret (pairs [.b] y) fun v g => some (v, g))) (fweqPlace_k x.1 x.2.1 _)) fun _ _ h => h
/-! loop.example/g01926/laws.eqPlaceS -/
abbrev YweqPlaceS : List (Nat × Ent) := [(128, EweqPlace)]
theorem YweqPlaceS_ok : TabOk Tryz.prog (getY YweqPlaceS) := tab_cons eweqPlace <| tab_nil _
noncomputable abbrev cweqPlaceS_4 : Code := loopAt (bodyOf Tryz.f58) 0
abbrev LweqPlaceS_4 : LSh := ⟨[(0, .cl (.ro (.st .place))), (1, .cl (.ro (.st .place))), (5, .cl (.int .i64))], [], [], 0, 27⟩
abbrev XweqPlaceS_4 : List (X × LSh) := [(.ret, ⟨[(4, .cl (.bl))], [], [], 0, 27⟩), (.ext 0, ⟨[(4, .cl (.dead))], [], [], 0, 27⟩)]
def bweqPlaceS_4C {ρ : Type} (v1 : List Place) (v2 : List Place) (v3 : Int) (fn : (((List Place) × (List Place) × Int × Unit) × (Unit) × (Unit)) → Option ρ) (fe : ((Bool × Unit) × (Unit) × (Unit)) ⊕ ((Unit × Unit) × (Unit) × (Unit)) → Option ρ) : Option ρ :=
  br (decide (v3 < (v1.length : Int))) (iteP (0 ≤ v3) ((v1[v3.toNat]?).bind fun x4 => iteP (0 ≤ v3) ((v2[v3.toNat]?).bind fun x5 => (fweqPlace x4 x5).bind fun y6 => br (!y6.1) (fe (.inl ((false, ()), (()), (())))) (fn ((v1, v2, (IntKind.wrap .i64 (v3 + 1)), ()), (()), (())))) none) none) (fe (.inr (((), ()), (()), (()))))
def bweqPlaceS_4 (s : LweqPlaceS_4.D) : Option (LweqPlaceS_4.D ⊕ Exs.D XweqPlaceS_4) := bweqPlaceS_4C s.1.1 s.1.2.1 s.1.2.2.1 (fun s => some (.inl s)) (fun e => some (.inr e))
def lweqPlaceS_4 : LweqPlaceS_4.D → Option (Exs.D XweqPlaceS_4) := lim bweqPlaceS_4
theorem bweqPlaceS_4_k {ρ : Type} (s : LweqPlaceS_4.D) (fn : LweqPlaceS_4.D → Option ρ) (fe : Exs.D XweqPlaceS_4 → Option ρ) : bweqPlaceS_4C s.1.1 s.1.2.1 s.1.2.2.1 fn fe = (bweqPlaceS_4 s).bind (Sum.elim fn fe) := by
  simp only [bweqPlaceS_4, bweqPlaceS_4C, br_bind, iteP_bind, Option.bind_none, Option.bind_assoc, Option.bind_some, Sum.elim_inl, Sum.elim_inr]
abbrev EweqPlaceS_4 : LoopE := loopE [] [0, 1, 5] LweqPlaceS_4 XweqPlaceS_4 lweqPlaceS_4
theorem bweqPlaceS_4_ok (s : LweqPlaceS_4.D) : evCK Θ (getY YweqPlaceS) (getL []) cweqPlaceS_4 (LweqPlaceS_4.mk' s) (tellK [0, 1, 5] [4] fun x S => some (x, S)) = (bweqPlaceS_4 s).bind (Sum.elim (fun s' => some (.nor, LweqPlaceS_4.mk' s')) fun e => some (Exs.e XweqPlaceS_4 e)) :=
  Eq.trans (by kernel_rfl : _ = bweqPlaceS_4C s.1.1 s.1.2.1 s.1.2.2.1 (fun s' => some (.nor, LweqPlaceS_4.mk' s')) (fun e => some (Exs.e XweqPlaceS_4 e))) (bweqPlaceS_4_k s _ _)
theorem lweqPlaceS_4_ok : LoopOk Tryz.prog cweqPlaceS_4 EweqPlaceS_4 := loopE_ok Θ_ok YweqPlaceS_ok mixed_ok (by kernel_rfl) (hL_in (by kernel_rfl : _ = []) loops_nil) [] [0, 1, 5] [4] LweqPlaceS_4 XweqPlaceS_4 (by kernel_rfl) bweqPlaceS_4 bweqPlaceS_4_ok lweqPlaceS_4 (limN bweqPlaceS_4) (lim_round bweqPlaceS_4)
def fweqPlaceSC {ρ : Type} (a0 : List Place) (a1 : List Place) (k : Bool × Unit → Option ρ) : Option ρ :=
  br (!((a0.length : Int) == (a1.length : Int))) (k (false, ())) ((lweqPlaceS_4 ((a0, a1, 0, ()), (()), (()))).bind fun e7 => Sum.elim (fun e7_ => k (e7_.1.1, ())) (fun e7_ => k (true, ())) e7)
def fweqPlaceS (a0 : List Place) (a1 : List Place) : Option (Bool × Unit) := fweqPlaceSC a0 a1 some
theorem fweqPlaceS_k {ρ : Type} (a0 : List Place) (a1 : List Place) (k : Bool × Unit → Option ρ) : fweqPlaceSC a0 a1 k = (fweqPlaceS a0 a1).bind k := by
  simp only [fweqPlaceS, fweqPlaceSC, br_bind, elim_bind, Option.bind_assoc, Option.bind_some]
abbrev EweqPlaceS : Ent := entP [.ty (.ls (.st .place)), .ty (.ls (.st .place))] [.b] fun x => fweqPlaceS x.1 x.2.1
theorem eweqPlaceS : EntOk Tryz.prog 58 EweqPlaceS :=
  entP_of (Λ := getL [(key cweqPlaceS_4, EweqPlaceS_4)]) (fn := Tryz.f58) Θ_ok YweqPlaceS_ok mixed_ok (by kernel_rfl) (hL_of (by kernel_rfl : _ = [cweqPlaceS_4]) (loops_one (q := key cweqPlaceS_4) rfl lweqPlaceS_4_ok fun _ _ _ => by kernel_rfl)) (by kernel_rfl) (fun x => fweqPlaceS x.1 x.2.1)
    (fun x => Eq.trans (by kernel_rfl : _ = fweqPlaceSC x.1 x.2.1 (fun y => ret (pairs [.b] y) fun v g => some (v, g))) (fweqPlaceS_k x.1 x.2.1 _)) fun _ _ h => h
/-! loop.example/g01926/laws.eqCluster -/
abbrev YweqCluster : List (Nat × Ent) := [(55, EweqServerS), (30, EweqIntS), (56, EweqMasterLog), (57, EweqLease), (58, EweqPlaceS)]
theorem YweqCluster_ok : TabOk Tryz.prog (getY YweqCluster) := tab_cons eweqServerS <| tab_cons eweqIntS <| tab_cons eweqMasterLog <| tab_cons eweqLease <| tab_cons eweqPlaceS <| tab_nil _
def fweqClusterC {ρ : Type} (a0 : Cluster) (a1 : Cluster) (k : Bool × Unit → Option ρ) : Option ρ :=
  br (!(a0.now == a1.now)) (k (false, ())) ((fweqServerS a0.servers a1.servers).bind fun y1 => br (!y1.1) (k (false, ())) ((fweqIntS a0.sides a1.sides).bind fun y2 => br (!y2.1) (k (false, ())) ((fweqMasterLog a0.master a1.master).bind fun y3 => br (!y3.1) (k (false, ())) (br (!(a0.masterUp == a1.masterUp)) (k (false, ())) ((fweqLease a0.lease a1.lease).bind fun y4 => br (!y4.1) (k (false, ())) ((fweqPlaceS a0.places a1.places).bind fun y5 => br (!y5.1) (k (false, ())) (k (true, ()))))))))
def fweqCluster (a0 : Cluster) (a1 : Cluster) : Option (Bool × Unit) := fweqClusterC a0 a1 some
theorem fweqCluster_k {ρ : Type} (a0 : Cluster) (a1 : Cluster) (k : Bool × Unit → Option ρ) : fweqClusterC a0 a1 k = (fweqCluster a0 a1).bind k := by
  simp only [fweqCluster, fweqClusterC, br_bind, Option.bind_assoc, Option.bind_some]
abbrev EweqCluster : Ent := entP [.ty (.st .cluster), .ty (.st .cluster)] [.b] fun x => fweqCluster x.1 x.2.1
theorem eweqCluster : EntOk Tryz.prog 17 EweqCluster :=
  entP_of (Λ := getL []) (fn := Tryz.f17) Θ_ok YweqCluster_ok mixed_ok (by kernel_rfl) (hL_of (by kernel_rfl : _ = []) loops_nil) (by kernel_rfl) (fun x => fweqCluster x.1 x.2.1)
    (fun x => Eq.trans (by kernel_rfl : _ = fweqClusterC x.1 x.2.1 (fun y => ret (pairs [.b] y) fun v g => some (v, g))) (fweqCluster_k x.1 x.2.1 _)) fun _ _ h => h
/-! loop.example/g01926/laws.FnExactLongestSurvivor -/
abbrev YwFnExactLongestSurvivor : List (Nat × Ent) := [(13, EwszCluster), (15, EwtoCluster), (24, EsLongestSurvivor), (25, EiLongestSurvivor), (17, EweqCluster)]
theorem YwFnExactLongestSurvivor_ok : TabOk Tryz.prog (getY YwFnExactLongestSurvivor) := tab_cons ewszCluster <| tab_cons ewtoCluster <| tab_cons esLongestSurvivor <| tab_cons eiLongestSurvivor <| tab_cons eweqCluster <| tab_nil _
def fwFnExactLongestSurvivorC {ρ : Type} (a0 : Cluster) (k : Bool × Unit → Option ρ) : Option ρ :=
  (fwszCluster a0 1048576).bind fun y1 => br (decide (y1.1 < 0)) (k (true, ())) ((fwtoCluster a0).bind fun y2 => (fsLongestSurvivor y2.1).bind fun y3 => (fwtoCluster a0).bind fun y4 => (fiLongestSurvivor y4.1).bind fun y5 => br (!(y5.1 == y3.1)) (k (false, ())) ((fwtoCluster a0).bind fun y6 => (fweqCluster y4.1 y6.1).bind fun y7 => br (!y7.1) (k (false, ())) (k (true, ()))))
def fwFnExactLongestSurvivor (a0 : Cluster) : Option (Bool × Unit) := fwFnExactLongestSurvivorC a0 some
theorem fwFnExactLongestSurvivor_k {ρ : Type} (a0 : Cluster) (k : Bool × Unit → Option ρ) : fwFnExactLongestSurvivorC a0 k = (fwFnExactLongestSurvivor a0).bind k := by
  simp only [fwFnExactLongestSurvivor, fwFnExactLongestSurvivorC, br_bind, Option.bind_assoc, Option.bind_some]
abbrev EwFnExactLongestSurvivor : Ent := entP [.ty (.st .cluster)] [.b] fun x => fwFnExactLongestSurvivor x.1
theorem ewFnExactLongestSurvivor : EntOk Tryz.prog 7 EwFnExactLongestSurvivor :=
  entP_of (Λ := getL []) (fn := Tryz.f7) Θ_ok YwFnExactLongestSurvivor_ok mixed_ok (by kernel_rfl) (hL_of (by kernel_rfl : _ = []) loops_nil) (by kernel_rfl) (fun x => fwFnExactLongestSurvivor x.1)
    (fun x => Eq.trans (by kernel_rfl : _ = fwFnExactLongestSurvivorC x.1 (fun y => ret (pairs [.b] y) fun v g => some (v, g))) (fwFnExactLongestSurvivor_k x.1 _)) fun _ _ h => h
end
end Go.Proofs.YtjenncacoddgmaaGreat.En
