/- The seat's types (printed by wip/tools/gen_theta.py). -/
import Derived.Test.YtkifojmjcpdnoaaProg
import Derived.Test.YtkifojmjcpdnoaaX8
namespace Go.Proofs.Ytkifojmjcpdnoaa.En
open Go

def Θ : Tys := [(2, ⟨.i .i64, 0, [], 8⟩),
  (3, ⟨.i .i64, 0, [], 8⟩),
  (4, ⟨.b, 0, [], 1⟩),
  (5, ⟨.i .u8, 0, [], 1⟩),
  (9, ⟨.s, 0, [], 16⟩),
  (12, ⟨.i .u64, 0, [], 8⟩),
  (21, ⟨.i .i32, 0, [], 4⟩),
  (22, ⟨.ls (.st .entry), 56, [], 24⟩),
  (25, ⟨.ls (.st .entry), 56, [], 24⟩),
  (30, ⟨.st .op, 0, [(0, 1, false), (1, 1, false), (2, 1, false), (3, 1, false), (4, 1, false), (5, 1, false)], 48⟩),
  (32, ⟨.st .event, 0, [(0, 1, false), (1, 1, false), (2, 1, false), (3, 1, false), (4, 6, true)], 80⟩),
  (34, ⟨.st .op, 0, [(0, 1, false), (1, 1, false), (2, 1, false), (3, 1, false), (4, 1, false), (5, 1, false)], 48⟩),
  (36, ⟨.st .event, 0, [(0, 1, false), (1, 1, false), (2, 1, false), (3, 1, false), (4, 6, true)], 80⟩),
  (39, ⟨.ls (.st .ack), 56, [], 24⟩),
  (41, ⟨.ls (.st .ack), 56, [], 24⟩),
  (48, ⟨.ls (.st .event), 80, [], 24⟩),
  (49, ⟨.ls (.st .reply), 32, [], 24⟩),
  (52, ⟨.ls (.st .mark), 88, [], 24⟩),
  (54, ⟨.ls (.st .event), 80, [], 24⟩),
  (56, ⟨.ls (.st .reply), 32, [], 24⟩),
  (65, ⟨.ls (.st .mark), 88, [], 24⟩),
  (71, ⟨.st .entry, 0, [(0, 1, false), (1, 6, true)], 56⟩),
  (74, ⟨.st .entry, 0, [(0, 1, false), (1, 6, true)], 56⟩),
  (85, ⟨.st .ack, 0, [(0, 6, true), (6, 1, false)], 56⟩),
  (88, ⟨.st .ack, 0, [(0, 6, true), (6, 1, false)], 56⟩),
  (91, ⟨.st .result, 0, [(0, 1, false), (1, 1, false)], 16⟩),
  (93, ⟨.st .reply, 0, [(0, 1, false), (1, 2, true), (3, 1, false)], 32⟩),
  (95, ⟨.st .mark, 0, [(0, 1, false), (1, 1, false), (2, 1, false), (3, 1, false), (4, 1, false), (5, 6, true)], 88⟩),
  (97, ⟨.st .result, 0, [(0, 1, false), (1, 1, false)], 16⟩),
  (99, ⟨.st .reply, 0, [(0, 1, false), (1, 2, true), (3, 1, false)], 32⟩),
  (107, ⟨.st .mark, 0, [(0, 1, false), (1, 1, false), (2, 1, false), (3, 1, false), (4, 1, false), (5, 6, true)], 88⟩),
  (119, ⟨.ls (.i .i64), 8, [], 24⟩),
  (120, ⟨.ls (.st .session), 32, [], 24⟩),
  (122, ⟨.st .machine, 0, [(0, 1, false), (1, 1, false)], 48⟩),
  (134, ⟨.i .u64, 0, [], 8⟩),
  (137, ⟨.st .session, 0, [(0, 1, false), (1, 1, false), (2, 2, true)], 32⟩),
  (143, ⟨.i .u32, 0, [], 4⟩)]
theorem ty_2 : TI.ok Try.prog 2 ⟨.i .i64, 0, [], 8⟩ := ti_sc (by kernel_rfl) (by kernel_rfl) (by kernel_rfl)
theorem ty_3 : TI.ok Try.prog 3 ⟨.i .i64, 0, [], 8⟩ := ti_sc (by kernel_rfl) (by kernel_rfl) (by kernel_rfl)
theorem ty_4 : TI.ok Try.prog 4 ⟨.b, 0, [], 1⟩ := ti_sc (by kernel_rfl) (by kernel_rfl) (by kernel_rfl)
theorem ty_5 : TI.ok Try.prog 5 ⟨.i .u8, 0, [], 1⟩ := ti_sc (by kernel_rfl) (by kernel_rfl) (by kernel_rfl)
theorem ty_9 : TI.ok Try.prog 9 ⟨.s, 0, [], 16⟩ := ti_sc (by kernel_rfl) (by kernel_rfl) (by kernel_rfl)
theorem ty_12 : TI.ok Try.prog 12 ⟨.i .u64, 0, [], 8⟩ := ti_sc (by kernel_rfl) (by kernel_rfl) (by kernel_rfl)
theorem ty_21 : TI.ok Try.prog 21 ⟨.i .i32, 0, [], 4⟩ := ti_sc (by kernel_rfl) (by kernel_rfl) (by kernel_rfl)
theorem ty_22 : TI.ok Try.prog 22 ⟨.ls (.st .entry), 56, [], 24⟩ := ti_ls (u := 74) (by kernel_rfl) (by kernel_rfl) (by kernel_rfl) (by kernel_rfl) (by kernel_rfl) (by kernel_rfl) (by kernel_rfl) (by kernel_rfl)
theorem ty_25 : TI.ok Try.prog 25 ⟨.ls (.st .entry), 56, [], 24⟩ := ti_ls (u := 71) (by kernel_rfl) (by kernel_rfl) (by kernel_rfl) (by kernel_rfl) (by kernel_rfl) (by kernel_rfl) (by kernel_rfl) (by kernel_rfl)
theorem ty_30 : TI.ok Try.prog 30 ⟨.st .op, 0, [(0, 1, false), (1, 1, false), (2, 1, false), (3, 1, false), (4, 1, false), (5, 1, false)], 48⟩ := ti_st (by kernel_rfl) (by kernel_rfl) (by kernel_rfl) (by kernel_rfl) (by kernel_rfl) (by kernel_rfl) (fun _ => ⟨(by kernel_rfl), (by kernel_rfl)⟩) (fun h => absurd (show true = false from h) (by decide))
theorem ty_32 : TI.ok Try.prog 32 ⟨.st .event, 0, [(0, 1, false), (1, 1, false), (2, 1, false), (3, 1, false), (4, 6, true)], 80⟩ := ti_st (by kernel_rfl) (by kernel_rfl) (by kernel_rfl) (by kernel_rfl) (by kernel_rfl) (by kernel_rfl) (fun _ => ⟨(by kernel_rfl), (by kernel_rfl)⟩) (fun h => absurd (show true = false from h) (by decide))
theorem ty_34 : TI.ok Try.prog 34 ⟨.st .op, 0, [(0, 1, false), (1, 1, false), (2, 1, false), (3, 1, false), (4, 1, false), (5, 1, false)], 48⟩ := ti_st (by kernel_rfl) (by kernel_rfl) (by kernel_rfl) (by kernel_rfl) (by kernel_rfl) (by kernel_rfl) (fun _ => ⟨(by kernel_rfl), (by kernel_rfl)⟩) (fun h => absurd (show true = false from h) (by decide))
theorem ty_36 : TI.ok Try.prog 36 ⟨.st .event, 0, [(0, 1, false), (1, 1, false), (2, 1, false), (3, 1, false), (4, 6, true)], 80⟩ := ti_st (by kernel_rfl) (by kernel_rfl) (by kernel_rfl) (by kernel_rfl) (by kernel_rfl) (by kernel_rfl) (fun _ => ⟨(by kernel_rfl), (by kernel_rfl)⟩) (fun h => absurd (show true = false from h) (by decide))
theorem ty_39 : TI.ok Try.prog 39 ⟨.ls (.st .ack), 56, [], 24⟩ := ti_ls (u := 88) (by kernel_rfl) (by kernel_rfl) (by kernel_rfl) (by kernel_rfl) (by kernel_rfl) (by kernel_rfl) (by kernel_rfl) (by kernel_rfl)
theorem ty_41 : TI.ok Try.prog 41 ⟨.ls (.st .ack), 56, [], 24⟩ := ti_ls (u := 85) (by kernel_rfl) (by kernel_rfl) (by kernel_rfl) (by kernel_rfl) (by kernel_rfl) (by kernel_rfl) (by kernel_rfl) (by kernel_rfl)
theorem ty_48 : TI.ok Try.prog 48 ⟨.ls (.st .event), 80, [], 24⟩ := ti_ls (u := 32) (by kernel_rfl) (by kernel_rfl) (by kernel_rfl) (by kernel_rfl) (by kernel_rfl) (by kernel_rfl) (by kernel_rfl) (by kernel_rfl)
theorem ty_49 : TI.ok Try.prog 49 ⟨.ls (.st .reply), 32, [], 24⟩ := ti_ls (u := 99) (by kernel_rfl) (by kernel_rfl) (by kernel_rfl) (by kernel_rfl) (by kernel_rfl) (by kernel_rfl) (by kernel_rfl) (by kernel_rfl)
theorem ty_52 : TI.ok Try.prog 52 ⟨.ls (.st .mark), 88, [], 24⟩ := ti_ls (u := 95) (by kernel_rfl) (by kernel_rfl) (by kernel_rfl) (by kernel_rfl) (by kernel_rfl) (by kernel_rfl) (by kernel_rfl) (by kernel_rfl)
theorem ty_54 : TI.ok Try.prog 54 ⟨.ls (.st .event), 80, [], 24⟩ := ti_ls (u := 36) (by kernel_rfl) (by kernel_rfl) (by kernel_rfl) (by kernel_rfl) (by kernel_rfl) (by kernel_rfl) (by kernel_rfl) (by kernel_rfl)
theorem ty_56 : TI.ok Try.prog 56 ⟨.ls (.st .reply), 32, [], 24⟩ := ti_ls (u := 93) (by kernel_rfl) (by kernel_rfl) (by kernel_rfl) (by kernel_rfl) (by kernel_rfl) (by kernel_rfl) (by kernel_rfl) (by kernel_rfl)
theorem ty_65 : TI.ok Try.prog 65 ⟨.ls (.st .mark), 88, [], 24⟩ := ti_ls (u := 107) (by kernel_rfl) (by kernel_rfl) (by kernel_rfl) (by kernel_rfl) (by kernel_rfl) (by kernel_rfl) (by kernel_rfl) (by kernel_rfl)
theorem ty_71 : TI.ok Try.prog 71 ⟨.st .entry, 0, [(0, 1, false), (1, 6, true)], 56⟩ := ti_st (by kernel_rfl) (by kernel_rfl) (by kernel_rfl) (by kernel_rfl) (by kernel_rfl) (by kernel_rfl) (fun _ => ⟨(by kernel_rfl), (by kernel_rfl)⟩) (fun h => absurd (show true = false from h) (by decide))
theorem ty_74 : TI.ok Try.prog 74 ⟨.st .entry, 0, [(0, 1, false), (1, 6, true)], 56⟩ := ti_st (by kernel_rfl) (by kernel_rfl) (by kernel_rfl) (by kernel_rfl) (by kernel_rfl) (by kernel_rfl) (fun _ => ⟨(by kernel_rfl), (by kernel_rfl)⟩) (fun h => absurd (show true = false from h) (by decide))
theorem ty_85 : TI.ok Try.prog 85 ⟨.st .ack, 0, [(0, 6, true), (6, 1, false)], 56⟩ := ti_st (by kernel_rfl) (by kernel_rfl) (by kernel_rfl) (by kernel_rfl) (by kernel_rfl) (by kernel_rfl) (fun _ => ⟨(by kernel_rfl), (by kernel_rfl)⟩) (fun h => absurd (show true = false from h) (by decide))
theorem ty_88 : TI.ok Try.prog 88 ⟨.st .ack, 0, [(0, 6, true), (6, 1, false)], 56⟩ := ti_st (by kernel_rfl) (by kernel_rfl) (by kernel_rfl) (by kernel_rfl) (by kernel_rfl) (by kernel_rfl) (fun _ => ⟨(by kernel_rfl), (by kernel_rfl)⟩) (fun h => absurd (show true = false from h) (by decide))
theorem ty_91 : TI.ok Try.prog 91 ⟨.st .result, 0, [(0, 1, false), (1, 1, false)], 16⟩ := ti_st (by kernel_rfl) (by kernel_rfl) (by kernel_rfl) (by kernel_rfl) (by kernel_rfl) (by kernel_rfl) (fun _ => ⟨(by kernel_rfl), (by kernel_rfl)⟩) (fun h => absurd (show true = false from h) (by decide))
theorem ty_93 : TI.ok Try.prog 93 ⟨.st .reply, 0, [(0, 1, false), (1, 2, true), (3, 1, false)], 32⟩ := ti_st (by kernel_rfl) (by kernel_rfl) (by kernel_rfl) (by kernel_rfl) (by kernel_rfl) (by kernel_rfl) (fun _ => ⟨(by kernel_rfl), (by kernel_rfl)⟩) (fun h => absurd (show true = false from h) (by decide))
theorem ty_95 : TI.ok Try.prog 95 ⟨.st .mark, 0, [(0, 1, false), (1, 1, false), (2, 1, false), (3, 1, false), (4, 1, false), (5, 6, true)], 88⟩ := ti_st (by kernel_rfl) (by kernel_rfl) (by kernel_rfl) (by kernel_rfl) (by kernel_rfl) (by kernel_rfl) (fun _ => ⟨(by kernel_rfl), (by kernel_rfl)⟩) (fun h => absurd (show true = false from h) (by decide))
theorem ty_97 : TI.ok Try.prog 97 ⟨.st .result, 0, [(0, 1, false), (1, 1, false)], 16⟩ := ti_st (by kernel_rfl) (by kernel_rfl) (by kernel_rfl) (by kernel_rfl) (by kernel_rfl) (by kernel_rfl) (fun _ => ⟨(by kernel_rfl), (by kernel_rfl)⟩) (fun h => absurd (show true = false from h) (by decide))
theorem ty_99 : TI.ok Try.prog 99 ⟨.st .reply, 0, [(0, 1, false), (1, 2, true), (3, 1, false)], 32⟩ := ti_st (by kernel_rfl) (by kernel_rfl) (by kernel_rfl) (by kernel_rfl) (by kernel_rfl) (by kernel_rfl) (fun _ => ⟨(by kernel_rfl), (by kernel_rfl)⟩) (fun h => absurd (show true = false from h) (by decide))
theorem ty_107 : TI.ok Try.prog 107 ⟨.st .mark, 0, [(0, 1, false), (1, 1, false), (2, 1, false), (3, 1, false), (4, 1, false), (5, 6, true)], 88⟩ := ti_st (by kernel_rfl) (by kernel_rfl) (by kernel_rfl) (by kernel_rfl) (by kernel_rfl) (by kernel_rfl) (fun _ => ⟨(by kernel_rfl), (by kernel_rfl)⟩) (fun h => absurd (show true = false from h) (by decide))
theorem ty_119 : TI.ok Try.prog 119 ⟨.ls (.i .i64), 8, [], 24⟩ := ti_ls (u := 3) (by kernel_rfl) (by kernel_rfl) (by kernel_rfl) (by kernel_rfl) (by kernel_rfl) (by kernel_rfl) (by kernel_rfl) (by kernel_rfl)
theorem ty_120 : TI.ok Try.prog 120 ⟨.ls (.st .session), 32, [], 24⟩ := ti_ls (u := 137) (by kernel_rfl) (by kernel_rfl) (by kernel_rfl) (by kernel_rfl) (by kernel_rfl) (by kernel_rfl) (by kernel_rfl) (by kernel_rfl)
theorem ty_122 : TI.ok Try.prog 122 ⟨.st .machine, 0, [(0, 1, false), (1, 1, false)], 48⟩ := ti_st (by kernel_rfl) (by kernel_rfl) (by kernel_rfl) (by kernel_rfl) (by kernel_rfl) (by kernel_rfl) (fun h => absurd (show false = true from h) (by decide)) (fun _ xs => fits_slice xs (by kernel_rfl))
theorem ty_134 : TI.ok Try.prog 134 ⟨.i .u64, 0, [], 8⟩ := ti_sc (by kernel_rfl) (by kernel_rfl) (by kernel_rfl)
theorem ty_137 : TI.ok Try.prog 137 ⟨.st .session, 0, [(0, 1, false), (1, 1, false), (2, 2, true)], 32⟩ := ti_st (by kernel_rfl) (by kernel_rfl) (by kernel_rfl) (by kernel_rfl) (by kernel_rfl) (by kernel_rfl) (fun _ => ⟨(by kernel_rfl), (by kernel_rfl)⟩) (fun h => absurd (show true = false from h) (by decide))
theorem ty_143 : TI.ok Try.prog 143 ⟨.i .u32, 0, [], 4⟩ := ti_sc (by kernel_rfl) (by kernel_rfl) (by kernel_rfl)
theorem Θ_ok : TysOk Try.prog Θ :=
  tys_cons ty_2 <| tys_cons ty_3 <| tys_cons ty_4 <| tys_cons ty_5 <| tys_cons ty_9 <| tys_cons ty_12 <| tys_cons ty_21 <| tys_cons ty_22 <| tys_cons ty_25 <| tys_cons ty_30 <| tys_cons ty_32 <| tys_cons ty_34 <| tys_cons ty_36 <| tys_cons ty_39 <| tys_cons ty_41 <| tys_cons ty_48 <| tys_cons ty_49 <| tys_cons ty_52 <| tys_cons ty_54 <| tys_cons ty_56 <| tys_cons ty_65 <| tys_cons ty_71 <| tys_cons ty_74 <| tys_cons ty_85 <| tys_cons ty_88 <| tys_cons ty_91 <| tys_cons ty_93 <| tys_cons ty_95 <| tys_cons ty_97 <| tys_cons ty_99 <| tys_cons ty_107 <| tys_cons ty_119 <| tys_cons ty_120 <| tys_cons ty_122 <| tys_cons ty_134 <| tys_cons ty_137 <| tys_cons ty_143 <| tys_nil _
end Go.Proofs.Ytkifojmjcpdnoaa.En
