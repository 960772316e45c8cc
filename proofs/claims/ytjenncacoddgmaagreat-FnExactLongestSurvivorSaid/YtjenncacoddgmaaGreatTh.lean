/- The seat's types (printed by wip/tools/gen_theta.py). -/
import Derived.Test.YtjenncacoddgmaaGreatProg
import Derived.Test.YtjenncacoddgmaaGreatX8
namespace Go.Proofs.YtjenncacoddgmaaGreat.En
open Go

def Θ : Tys := [(2, ⟨.i .i64, 0, [], 8⟩),
  (3, ⟨.i .i64, 0, [], 8⟩),
  (4, ⟨.b, 0, [], 1⟩),
  (5, ⟨.i .u8, 0, [], 1⟩),
  (9, ⟨.s, 0, [], 16⟩),
  (12, ⟨.i .u64, 0, [], 8⟩),
  (21, ⟨.i .i32, 0, [], 4⟩),
  (22, ⟨.ls (.st .server), 152, [], 24⟩),
  (23, ⟨.ls (.i .i64), 8, [], 24⟩),
  (24, ⟨.ls (.st .config), 64, [], 24⟩),
  (26, ⟨.st .masterLog, 0, [(0, 1, false), (1, 1, false)], 32⟩),
  (28, ⟨.st .lease, 0, [(0, 1, false), (1, 1, false), (2, 1, false)], 24⟩),
  (29, ⟨.ls (.st .place), 24, [], 24⟩),
  (31, ⟨.st .cluster, 0, [(0, 1, false), (1, 1, false), (2, 1, false), (3, 2, true), (5, 1, false), (6, 3, true), (9, 1, false)], 144⟩),
  (34, ⟨.ls (.st .server), 152, [], 24⟩),
  (35, ⟨.ls (.st .config), 64, [], 24⟩),
  (37, ⟨.st .masterLog, 0, [(0, 1, false), (1, 1, false)], 32⟩),
  (38, ⟨.st .lease, 0, [(0, 1, false), (1, 1, false), (2, 1, false)], 24⟩),
  (39, ⟨.ls (.st .place), 24, [], 24⟩),
  (41, ⟨.st .cluster, 0, [(0, 1, false), (1, 1, false), (2, 1, false), (3, 2, true), (5, 1, false), (6, 3, true), (9, 1, false)], 144⟩),
  (50, ⟨.ls (.st .entry), 56, [], 24⟩),
  (71, ⟨.st .config, 0, [(0, 1, false), (1, 1, false), (2, 1, false), (3, 1, false)], 64⟩),
  (73, ⟨.st .server, 0, [(0, 1, false), (1, 1, false), (2, 1, false), (3, 1, false), (4, 4, true), (8, 1, false), (9, 1, false), (10, 1, false), (11, 1, false)], 152⟩),
  (98, ⟨.st .op, 0, [(0, 1, false), (1, 1, false), (2, 1, false), (3, 1, false), (4, 1, false), (5, 1, false)], 48⟩),
  (100, ⟨.st .entry, 0, [(0, 1, false), (1, 6, true)], 56⟩),
  (107, ⟨.st .config, 0, [(0, 1, false), (1, 1, false), (2, 1, false), (3, 1, false)], 64⟩),
  (108, ⟨.ls (.st .entry), 56, [], 24⟩),
  (110, ⟨.st .server, 0, [(0, 1, false), (1, 1, false), (2, 1, false), (3, 1, false), (4, 4, true), (8, 1, false), (9, 1, false), (10, 1, false), (11, 1, false)], 152⟩),
  (123, ⟨.st .place, 0, [(0, 1, false), (1, 1, false), (2, 1, false)], 24⟩),
  (125, ⟨.st .place, 0, [(0, 1, false), (1, 1, false), (2, 1, false)], 24⟩),
  (132, ⟨.ls (.ls (.i .i64)), 24, [], 24⟩),
  (152, ⟨.st .op, 0, [(0, 1, false), (1, 1, false), (2, 1, false), (3, 1, false), (4, 1, false), (5, 1, false)], 48⟩),
  (154, ⟨.st .entry, 0, [(0, 1, false), (1, 6, true)], 56⟩),
  (159, ⟨.i .u64, 0, [], 8⟩),
  (171, ⟨.i .u32, 0, [], 4⟩),
  (173, ⟨.i .u64, 0, [], 8⟩)]
theorem ty_2 : TI.ok Tryz.prog 2 ⟨.i .i64, 0, [], 8⟩ := ti_sc (by kernel_rfl) (by kernel_rfl) (by kernel_rfl)
theorem ty_3 : TI.ok Tryz.prog 3 ⟨.i .i64, 0, [], 8⟩ := ti_sc (by kernel_rfl) (by kernel_rfl) (by kernel_rfl)
theorem ty_4 : TI.ok Tryz.prog 4 ⟨.b, 0, [], 1⟩ := ti_sc (by kernel_rfl) (by kernel_rfl) (by kernel_rfl)
theorem ty_5 : TI.ok Tryz.prog 5 ⟨.i .u8, 0, [], 1⟩ := ti_sc (by kernel_rfl) (by kernel_rfl) (by kernel_rfl)
theorem ty_9 : TI.ok Tryz.prog 9 ⟨.s, 0, [], 16⟩ := ti_sc (by kernel_rfl) (by kernel_rfl) (by kernel_rfl)
theorem ty_12 : TI.ok Tryz.prog 12 ⟨.i .u64, 0, [], 8⟩ := ti_sc (by kernel_rfl) (by kernel_rfl) (by kernel_rfl)
theorem ty_21 : TI.ok Tryz.prog 21 ⟨.i .i32, 0, [], 4⟩ := ti_sc (by kernel_rfl) (by kernel_rfl) (by kernel_rfl)
theorem ty_22 : TI.ok Tryz.prog 22 ⟨.ls (.st .server), 152, [], 24⟩ := ti_ls (u := 110) (by kernel_rfl) (by kernel_rfl) (by kernel_rfl) (by kernel_rfl) (by kernel_rfl) (by kernel_rfl) (by kernel_rfl) (by kernel_rfl)
theorem ty_23 : TI.ok Tryz.prog 23 ⟨.ls (.i .i64), 8, [], 24⟩ := ti_ls (u := 3) (by kernel_rfl) (by kernel_rfl) (by kernel_rfl) (by kernel_rfl) (by kernel_rfl) (by kernel_rfl) (by kernel_rfl) (by kernel_rfl)
theorem ty_24 : TI.ok Tryz.prog 24 ⟨.ls (.st .config), 64, [], 24⟩ := ti_ls (u := 107) (by kernel_rfl) (by kernel_rfl) (by kernel_rfl) (by kernel_rfl) (by kernel_rfl) (by kernel_rfl) (by kernel_rfl) (by kernel_rfl)
theorem ty_26 : TI.ok Tryz.prog 26 ⟨.st .masterLog, 0, [(0, 1, false), (1, 1, false)], 32⟩ := ti_st (by kernel_rfl) (by kernel_rfl) (by kernel_rfl) (by kernel_rfl) (by kernel_rfl) (by kernel_rfl) (fun h => absurd (show false = true from h) (by decide)) (fun _ xs => fits_slice xs (by kernel_rfl))
theorem ty_28 : TI.ok Tryz.prog 28 ⟨.st .lease, 0, [(0, 1, false), (1, 1, false), (2, 1, false)], 24⟩ := ti_st (by kernel_rfl) (by kernel_rfl) (by kernel_rfl) (by kernel_rfl) (by kernel_rfl) (by kernel_rfl) (fun _ => ⟨(by kernel_rfl), (by kernel_rfl)⟩) (fun h => absurd (show true = false from h) (by decide))
theorem ty_29 : TI.ok Tryz.prog 29 ⟨.ls (.st .place), 24, [], 24⟩ := ti_ls (u := 125) (by kernel_rfl) (by kernel_rfl) (by kernel_rfl) (by kernel_rfl) (by kernel_rfl) (by kernel_rfl) (by kernel_rfl) (by kernel_rfl)
theorem ty_31 : TI.ok Tryz.prog 31 ⟨.st .cluster, 0, [(0, 1, false), (1, 1, false), (2, 1, false), (3, 2, true), (5, 1, false), (6, 3, true), (9, 1, false)], 144⟩ := ti_st (by kernel_rfl) (by kernel_rfl) (by kernel_rfl) (by kernel_rfl) (by kernel_rfl) (by kernel_rfl) (fun h => absurd (show false = true from h) (by decide)) (fun _ xs => fits_slice xs (by kernel_rfl))
theorem ty_34 : TI.ok Tryz.prog 34 ⟨.ls (.st .server), 152, [], 24⟩ := ti_ls (u := 73) (by kernel_rfl) (by kernel_rfl) (by kernel_rfl) (by kernel_rfl) (by kernel_rfl) (by kernel_rfl) (by kernel_rfl) (by kernel_rfl)
theorem ty_35 : TI.ok Tryz.prog 35 ⟨.ls (.st .config), 64, [], 24⟩ := ti_ls (u := 71) (by kernel_rfl) (by kernel_rfl) (by kernel_rfl) (by kernel_rfl) (by kernel_rfl) (by kernel_rfl) (by kernel_rfl) (by kernel_rfl)
theorem ty_37 : TI.ok Tryz.prog 37 ⟨.st .masterLog, 0, [(0, 1, false), (1, 1, false)], 32⟩ := ti_st (by kernel_rfl) (by kernel_rfl) (by kernel_rfl) (by kernel_rfl) (by kernel_rfl) (by kernel_rfl) (fun h => absurd (show false = true from h) (by decide)) (fun _ xs => fits_slice xs (by kernel_rfl))
theorem ty_38 : TI.ok Tryz.prog 38 ⟨.st .lease, 0, [(0, 1, false), (1, 1, false), (2, 1, false)], 24⟩ := ti_st (by kernel_rfl) (by kernel_rfl) (by kernel_rfl) (by kernel_rfl) (by kernel_rfl) (by kernel_rfl) (fun _ => ⟨(by kernel_rfl), (by kernel_rfl)⟩) (fun h => absurd (show true = false from h) (by decide))
theorem ty_39 : TI.ok Tryz.prog 39 ⟨.ls (.st .place), 24, [], 24⟩ := ti_ls (u := 123) (by kernel_rfl) (by kernel_rfl) (by kernel_rfl) (by kernel_rfl) (by kernel_rfl) (by kernel_rfl) (by kernel_rfl) (by kernel_rfl)
theorem ty_41 : TI.ok Tryz.prog 41 ⟨.st .cluster, 0, [(0, 1, false), (1, 1, false), (2, 1, false), (3, 2, true), (5, 1, false), (6, 3, true), (9, 1, false)], 144⟩ := ti_st (by kernel_rfl) (by kernel_rfl) (by kernel_rfl) (by kernel_rfl) (by kernel_rfl) (by kernel_rfl) (fun h => absurd (show false = true from h) (by decide)) (fun _ xs => fits_slice xs (by kernel_rfl))
theorem ty_50 : TI.ok Tryz.prog 50 ⟨.ls (.st .entry), 56, [], 24⟩ := ti_ls (u := 100) (by kernel_rfl) (by kernel_rfl) (by kernel_rfl) (by kernel_rfl) (by kernel_rfl) (by kernel_rfl) (by kernel_rfl) (by kernel_rfl)
theorem ty_71 : TI.ok Tryz.prog 71 ⟨.st .config, 0, [(0, 1, false), (1, 1, false), (2, 1, false), (3, 1, false)], 64⟩ := ti_st (by kernel_rfl) (by kernel_rfl) (by kernel_rfl) (by kernel_rfl) (by kernel_rfl) (by kernel_rfl) (fun h => absurd (show false = true from h) (by decide)) (fun _ xs => fits_slice xs (by kernel_rfl))
theorem ty_73 : TI.ok Tryz.prog 73 ⟨.st .server, 0, [(0, 1, false), (1, 1, false), (2, 1, false), (3, 1, false), (4, 4, true), (8, 1, false), (9, 1, false), (10, 1, false), (11, 1, false)], 152⟩ := ti_st (by kernel_rfl) (by kernel_rfl) (by kernel_rfl) (by kernel_rfl) (by kernel_rfl) (by kernel_rfl) (fun h => absurd (show false = true from h) (by decide)) (fun _ xs => fits_slice xs (by kernel_rfl))
theorem ty_98 : TI.ok Tryz.prog 98 ⟨.st .op, 0, [(0, 1, false), (1, 1, false), (2, 1, false), (3, 1, false), (4, 1, false), (5, 1, false)], 48⟩ := ti_st (by kernel_rfl) (by kernel_rfl) (by kernel_rfl) (by kernel_rfl) (by kernel_rfl) (by kernel_rfl) (fun _ => ⟨(by kernel_rfl), (by kernel_rfl)⟩) (fun h => absurd (show true = false from h) (by decide))
theorem ty_100 : TI.ok Tryz.prog 100 ⟨.st .entry, 0, [(0, 1, false), (1, 6, true)], 56⟩ := ti_st (by kernel_rfl) (by kernel_rfl) (by kernel_rfl) (by kernel_rfl) (by kernel_rfl) (by kernel_rfl) (fun _ => ⟨(by kernel_rfl), (by kernel_rfl)⟩) (fun h => absurd (show true = false from h) (by decide))
theorem ty_107 : TI.ok Tryz.prog 107 ⟨.st .config, 0, [(0, 1, false), (1, 1, false), (2, 1, false), (3, 1, false)], 64⟩ := ti_st (by kernel_rfl) (by kernel_rfl) (by kernel_rfl) (by kernel_rfl) (by kernel_rfl) (by kernel_rfl) (fun h => absurd (show false = true from h) (by decide)) (fun _ xs => fits_slice xs (by kernel_rfl))
theorem ty_108 : TI.ok Tryz.prog 108 ⟨.ls (.st .entry), 56, [], 24⟩ := ti_ls (u := 154) (by kernel_rfl) (by kernel_rfl) (by kernel_rfl) (by kernel_rfl) (by kernel_rfl) (by kernel_rfl) (by kernel_rfl) (by kernel_rfl)
theorem ty_110 : TI.ok Tryz.prog 110 ⟨.st .server, 0, [(0, 1, false), (1, 1, false), (2, 1, false), (3, 1, false), (4, 4, true), (8, 1, false), (9, 1, false), (10, 1, false), (11, 1, false)], 152⟩ := ti_st (by kernel_rfl) (by kernel_rfl) (by kernel_rfl) (by kernel_rfl) (by kernel_rfl) (by kernel_rfl) (fun h => absurd (show false = true from h) (by decide)) (fun _ xs => fits_slice xs (by kernel_rfl))
theorem ty_123 : TI.ok Tryz.prog 123 ⟨.st .place, 0, [(0, 1, false), (1, 1, false), (2, 1, false)], 24⟩ := ti_st (by kernel_rfl) (by kernel_rfl) (by kernel_rfl) (by kernel_rfl) (by kernel_rfl) (by kernel_rfl) (fun _ => ⟨(by kernel_rfl), (by kernel_rfl)⟩) (fun h => absurd (show true = false from h) (by decide))
theorem ty_125 : TI.ok Tryz.prog 125 ⟨.st .place, 0, [(0, 1, false), (1, 1, false), (2, 1, false)], 24⟩ := ti_st (by kernel_rfl) (by kernel_rfl) (by kernel_rfl) (by kernel_rfl) (by kernel_rfl) (by kernel_rfl) (fun _ => ⟨(by kernel_rfl), (by kernel_rfl)⟩) (fun h => absurd (show true = false from h) (by decide))
theorem ty_132 : TI.ok Tryz.prog 132 ⟨.ls (.ls (.i .i64)), 24, [], 24⟩ := ti_ls (u := 23) (by kernel_rfl) (by kernel_rfl) (by kernel_rfl) (by kernel_rfl) (by kernel_rfl) (by kernel_rfl) (by kernel_rfl) (by kernel_rfl)
theorem ty_152 : TI.ok Tryz.prog 152 ⟨.st .op, 0, [(0, 1, false), (1, 1, false), (2, 1, false), (3, 1, false), (4, 1, false), (5, 1, false)], 48⟩ := ti_st (by kernel_rfl) (by kernel_rfl) (by kernel_rfl) (by kernel_rfl) (by kernel_rfl) (by kernel_rfl) (fun _ => ⟨(by kernel_rfl), (by kernel_rfl)⟩) (fun h => absurd (show true = false from h) (by decide))
theorem ty_154 : TI.ok Tryz.prog 154 ⟨.st .entry, 0, [(0, 1, false), (1, 6, true)], 56⟩ := ti_st (by kernel_rfl) (by kernel_rfl) (by kernel_rfl) (by kernel_rfl) (by kernel_rfl) (by kernel_rfl) (fun _ => ⟨(by kernel_rfl), (by kernel_rfl)⟩) (fun h => absurd (show true = false from h) (by decide))
theorem ty_159 : TI.ok Tryz.prog 159 ⟨.i .u64, 0, [], 8⟩ := ti_sc (by kernel_rfl) (by kernel_rfl) (by kernel_rfl)
theorem ty_171 : TI.ok Tryz.prog 171 ⟨.i .u32, 0, [], 4⟩ := ti_sc (by kernel_rfl) (by kernel_rfl) (by kernel_rfl)
theorem ty_173 : TI.ok Tryz.prog 173 ⟨.i .u64, 0, [], 8⟩ := ti_sc (by kernel_rfl) (by kernel_rfl) (by kernel_rfl)
theorem Θ_ok : TysOk Tryz.prog Θ :=
  tys_cons ty_2 <| tys_cons ty_3 <| tys_cons ty_4 <| tys_cons ty_5 <| tys_cons ty_9 <| tys_cons ty_12 <| tys_cons ty_21 <| tys_cons ty_22 <| tys_cons ty_23 <| tys_cons ty_24 <| tys_cons ty_26 <| tys_cons ty_28 <| tys_cons ty_29 <| tys_cons ty_31 <| tys_cons ty_34 <| tys_cons ty_35 <| tys_cons ty_37 <| tys_cons ty_38 <| tys_cons ty_39 <| tys_cons ty_41 <| tys_cons ty_50 <| tys_cons ty_71 <| tys_cons ty_73 <| tys_cons ty_98 <| tys_cons ty_100 <| tys_cons ty_107 <| tys_cons ty_108 <| tys_cons ty_110 <| tys_cons ty_123 <| tys_cons ty_125 <| tys_cons ty_132 <| tys_cons ty_152 <| tys_cons ty_154 <| tys_cons ty_159 <| tys_cons ty_171 <| tys_cons ty_173 <| tys_nil _
end Go.Proofs.YtjenncacoddgmaaGreat.En
