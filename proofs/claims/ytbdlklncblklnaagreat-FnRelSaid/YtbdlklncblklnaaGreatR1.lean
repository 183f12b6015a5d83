/- The tables tell the program. Printed by mkok.py. -/
import Derived.Test.YtbdlklncblklnaaGreatS3
import Derived.Test.YtbdlklncblklnaaGreatA5
import Derived.KernelRfl
set_option linter.unusedVariables false

namespace Go.Px.Seat
open Go
set_option maxRecDepth 100000
theorem TIOk.of {P : Program} {t : TypeId} {i : TI} {d : TypeDesc} (h1 : P.underlying t = some d) (h2 : DescOk i.d d) (h3 : (P.info? t).bind (fun j => j.zero.map fun z => (j.size, j.bytes, z.cells.toList)) = some (i.size, i.bytes, zeroVals i.ty))
    (h4 : i.ty.size = i.size) (h5 : i.eqf = true → EqOk P t i.ty) : TIOk P t i := by
  refine ⟨⟨d, h1, h2⟩, ?_, h4, h5⟩
  simp only [Option.bind_eq_some_iff, Option.map_eq_some_iff, Prod.mk.injEq] at h3
  obtain ⟨j, hj, z, hz, e1, e2, e3⟩ := h3
  exact ⟨j, hj, e1, e2, z, hz, e3⟩
def AllT (P : Program) : Types → Prop
  | [] => True
  | p :: l => (∀ i, p.2 = some i → TIOk P p.1 i) ∧ AllT P l
theorem AllT.mem {P : Program} : ∀ {l : Types}, AllT P l → ∀ t i, (t, some i) ∈ l → TIOk P t i
  | _ :: _, h, t, i, hm => by
    rcases List.mem_cons.1 hm with rfl | hm
    · exact h.1 i rfl
    · exact AllT.mem h.2 t i hm
def FOk (P : Program) (f : Nat) (fn : Func) : Prop := P.funcs[f]? = some fn ∧ fn.body.isNone = false ∧ (fn.name == "runtime.NumGoroutine") = false
def AllF (P : Program) : Funcs → Prop
  | [] => True
  | p :: l => (∀ fn, p.2 = some fn → FOk P p.1 fn) ∧ AllF P l
theorem AllF.mem {P : Program} : ∀ {l : Funcs}, AllF P l → ∀ t i, (t, some i) ∈ l → FOk P t i
  | _ :: _, h, t, i, hm => by
    rcases List.mem_cons.1 hm with rfl | hm
    · exact h.1 i rfl
    · exact AllF.mem h.2 t i hm
theorem tok_2 : ∀ i : TI, some (⟨(.int .i64), (.int .i64), 1, 8, false⟩ : TI) = some i → TIOk Go.Proofs.Tryz.prog 2 i := by
  intro i h; cases h
  exact TIOk.of Go.Proofs.Tryz.underlying2 (by first | rfl | trivial) (by kernel_rfl) rfl (fun h => by cases h)
theorem tok_3 : ∀ i : TI, some (⟨(.int .i64), (.int .i64), 1, 8, false⟩ : TI) = some i → TIOk Go.Proofs.Tryz.prog 3 i := by
  intro i h; cases h
  exact TIOk.of Go.Proofs.Tryz.underlying3 (by first | rfl | trivial) (by kernel_rfl) rfl (fun h => by cases h)
theorem tok_4 : ∀ i : TI, some (⟨.bool, .bool, 1, 1, false⟩ : TI) = some i → TIOk Go.Proofs.Tryz.prog 4 i := by
  intro i h; cases h
  exact TIOk.of Go.Proofs.Tryz.underlying4 (by first | rfl | trivial) (by kernel_rfl) rfl (fun h => by cases h)
theorem tok_5 : ∀ i : TI, some (⟨(.int .u8), (.int .u8), 1, 1, false⟩ : TI) = some i → TIOk Go.Proofs.Tryz.prog 5 i := by
  intro i h; cases h
  exact TIOk.of Go.Proofs.Tryz.underlying5 (by first | rfl | trivial) (by kernel_rfl) rfl (fun h => by cases h)
theorem tok_6 : ∀ i : TI, some (⟨(.int .u8), (.int .u8), 1, 1, false⟩ : TI) = some i → TIOk Go.Proofs.Tryz.prog 6 i := by
  intro i h; cases h
  exact TIOk.of Go.Proofs.Tryz.underlying6 (by first | rfl | trivial) (by kernel_rfl) rfl (fun h => by cases h)
theorem tok_7 : ∀ i : TI, some (⟨(.struct [(0, 2), (1, 3), (2, 4), (3, 6)]), (.cons (.int .i64) (.cons (.int .i64) (.cons .bool (.cons (.int .u8) .nil)))), 4, 24, true⟩ : TI) = some i → TIOk Go.Proofs.Tryz.prog 7 i := by
  intro i h; cases h
  exact TIOk.of Go.Proofs.Tryz.underlying7 rfl (by kernel_rfl) rfl (fun _ => eqOk_flat Go.Proofs.Tryz.underlying7 (by kernel_rfl) (by kernel_rfl) ⟨rfl, by decide, ⟨_, Go.Proofs.Tryz.underlying2⟩, ⟨rfl, by decide, ⟨_, Go.Proofs.Tryz.underlying3⟩, ⟨rfl, by decide, Go.Proofs.Tryz.underlying4, ⟨rfl, by decide, ⟨_, Go.Proofs.Tryz.underlying6⟩, trivial⟩⟩⟩⟩)
theorem tok_8 : ∀ i : TI, some (⟨(.struct [(0, 2), (1, 3), (2, 4), (3, 6)]), (.cons (.int .i64) (.cons (.int .i64) (.cons .bool (.cons (.int .u8) .nil)))), 4, 24, true⟩ : TI) = some i → TIOk Go.Proofs.Tryz.prog 8 i := by
  intro i h; cases h
  exact TIOk.of Go.Proofs.Tryz.underlying8 rfl (by kernel_rfl) rfl (fun _ => eqOk_flat Go.Proofs.Tryz.underlying8 (by kernel_rfl) (by kernel_rfl) ⟨rfl, by decide, ⟨_, Go.Proofs.Tryz.underlying2⟩, ⟨rfl, by decide, ⟨_, Go.Proofs.Tryz.underlying3⟩, ⟨rfl, by decide, Go.Proofs.Tryz.underlying4, ⟨rfl, by decide, ⟨_, Go.Proofs.Tryz.underlying6⟩, trivial⟩⟩⟩⟩)
theorem tok_9 : ∀ i : TI, some (⟨.string, .str, 1, 16, false⟩ : TI) = some i → TIOk Go.Proofs.Tryz.prog 9 i := by
  intro i h; cases h
  exact TIOk.of Go.Proofs.Tryz.underlying9 (by first | rfl | trivial) (by kernel_rfl) rfl (fun h => by cases h)
theorem tok_10 : ∀ i : TI, some (⟨.string, .str, 1, 16, false⟩ : TI) = some i → TIOk Go.Proofs.Tryz.prog 10 i := by
  intro i h; cases h
  exact TIOk.of Go.Proofs.Tryz.underlying10 (by first | rfl | trivial) (by kernel_rfl) rfl (fun h => by cases h)
theorem tok_11 : ∀ i : TI, some (⟨.string, .str, 1, 16, false⟩ : TI) = some i → TIOk Go.Proofs.Tryz.prog 11 i := by
  intro i h; cases h
  exact TIOk.of Go.Proofs.Tryz.underlying11 (by first | rfl | trivial) (by kernel_rfl) rfl (fun h => by cases h)
theorem tok_12 : ∀ i : TI, some (⟨(.int .u64), (.int .u64), 1, 8, false⟩ : TI) = some i → TIOk Go.Proofs.Tryz.prog 12 i := by
  intro i h; cases h
  exact TIOk.of Go.Proofs.Tryz.underlying12 (by first | rfl | trivial) (by kernel_rfl) rfl (fun h => by cases h)
theorem tok_13 : ∀ i : TI, some (⟨(.struct [(0, 9), (1, 12)]), (.cons .str (.cons (.int .u64) .nil)), 2, 24, false⟩ : TI) = some i → TIOk Go.Proofs.Tryz.prog 13 i := by
  intro i h; cases h
  exact TIOk.of Go.Proofs.Tryz.underlying13 (by first | rfl | trivial) (by kernel_rfl) rfl (fun h => by cases h)
theorem tok_14 : ∀ i : TI, some (⟨(.struct [(0, 9), (1, 12)]), (.cons .str (.cons (.int .u64) .nil)), 2, 24, false⟩ : TI) = some i → TIOk Go.Proofs.Tryz.prog 14 i := by
  intro i h; cases h
  exact TIOk.of Go.Proofs.Tryz.underlying14 (by first | rfl | trivial) (by kernel_rfl) rfl (fun h => by cases h)
theorem tok_21 : ∀ i : TI, some (⟨(.int .i32), (.int .i32), 1, 4, false⟩ : TI) = some i → TIOk Go.Proofs.Tryz.prog 21 i := by
  intro i h; cases h
  exact TIOk.of Go.Proofs.Tryz.underlying21 (by first | rfl | trivial) (by kernel_rfl) rfl (fun h => by cases h)
theorem tok_22 : ∀ i : TI, some (⟨(.slice 5), (.slice (.int .u8)), 1, 24, false⟩ : TI) = some i → TIOk Go.Proofs.Tryz.prog 22 i := by
  intro i h; cases h
  exact TIOk.of Go.Proofs.Tryz.underlying22 (by first | rfl | trivial) (by kernel_rfl) rfl (fun h => by cases h)
theorem tok_23 : ∀ i : TI, some (⟨(.struct [(0, 4), (1, 3), (2, 3)]), (.cons .bool (.cons (.int .i64) (.cons (.int .i64) .nil))), 3, 24, true⟩ : TI) = some i → TIOk Go.Proofs.Tryz.prog 23 i := by
  intro i h; cases h
  exact TIOk.of Go.Proofs.Tryz.underlying23 rfl (by kernel_rfl) rfl (fun _ => eqOk_flat Go.Proofs.Tryz.underlying23 (by kernel_rfl) (by kernel_rfl) ⟨rfl, by decide, Go.Proofs.Tryz.underlying4, ⟨rfl, by decide, ⟨_, Go.Proofs.Tryz.underlying3⟩, ⟨rfl, by decide, ⟨_, Go.Proofs.Tryz.underlying3⟩, trivial⟩⟩⟩)
theorem tok_24 : ∀ i : TI, some (⟨(.struct [(0, 4), (1, 3), (2, 3)]), (.cons .bool (.cons (.int .i64) (.cons (.int .i64) .nil))), 3, 24, true⟩ : TI) = some i → TIOk Go.Proofs.Tryz.prog 24 i := by
  intro i h; cases h
  exact TIOk.of Go.Proofs.Tryz.underlying24 rfl (by kernel_rfl) rfl (fun _ => eqOk_flat Go.Proofs.Tryz.underlying24 (by kernel_rfl) (by kernel_rfl) ⟨rfl, by decide, Go.Proofs.Tryz.underlying4, ⟨rfl, by decide, ⟨_, Go.Proofs.Tryz.underlying3⟩, ⟨rfl, by decide, ⟨_, Go.Proofs.Tryz.underlying3⟩, trivial⟩⟩⟩)
theorem tok_25 : ∀ i : TI, some (⟨(.slice 3), (.slice (.int .i64)), 1, 24, false⟩ : TI) = some i → TIOk Go.Proofs.Tryz.prog 25 i := by
  intro i h; cases h
  exact TIOk.of Go.Proofs.Tryz.underlying25 (by first | rfl | trivial) (by kernel_rfl) rfl (fun h => by cases h)
theorem tok_26 : ∀ i : TI, some (⟨(.struct [(0, 4), (1, 25), (2, 25)]), (.cons .bool (.cons (.slice (.int .i64)) (.cons (.slice (.int .i64)) .nil))), 3, 56, false⟩ : TI) = some i → TIOk Go.Proofs.Tryz.prog 26 i := by
  intro i h; cases h
  exact TIOk.of Go.Proofs.Tryz.underlying26 (by first | rfl | trivial) (by kernel_rfl) rfl (fun h => by cases h)
theorem tok_27 : ∀ i : TI, some (⟨(.struct [(0, 4), (1, 25), (2, 25)]), (.cons .bool (.cons (.slice (.int .i64)) (.cons (.slice (.int .i64)) .nil))), 3, 56, false⟩ : TI) = some i → TIOk Go.Proofs.Tryz.prog 27 i := by
  intro i h; cases h
  exact TIOk.of Go.Proofs.Tryz.underlying27 (by first | rfl | trivial) (by kernel_rfl) rfl (fun h => by cases h)
theorem tok_54 : ∀ i : TI, some (⟨(.struct [(0, 22), (1, 3)]), (.cons (.slice (.int .u8)) (.cons (.int .i64) .nil)), 2, 32, false⟩ : TI) = some i → TIOk Go.Proofs.Tryz.prog 54 i := by
  intro i h; cases h
  exact TIOk.of Go.Proofs.Tryz.underlying54 (by first | rfl | trivial) (by kernel_rfl) rfl (fun h => by cases h)
theorem tok_55 : ∀ i : TI, some (⟨(.struct [(0, 22), (1, 3)]), (.cons (.slice (.int .u8)) (.cons (.int .i64) .nil)), 2, 32, false⟩ : TI) = some i → TIOk Go.Proofs.Tryz.prog 55 i := by
  intro i h; cases h
  exact TIOk.of Go.Proofs.Tryz.underlying55 (by first | rfl | trivial) (by kernel_rfl) rfl (fun h => by cases h)
theorem tok_57 : ∀ i : TI, some (⟨(.struct [(0, 3), (1, 3)]), (.cons (.int .i64) (.cons (.int .i64) .nil)), 2, 16, true⟩ : TI) = some i → TIOk Go.Proofs.Tryz.prog 57 i := by
  intro i h; cases h
  exact TIOk.of Go.Proofs.Tryz.underlying57 rfl (by kernel_rfl) rfl (fun _ => eqOk_flat Go.Proofs.Tryz.underlying57 (by kernel_rfl) (by kernel_rfl) ⟨rfl, by decide, ⟨_, Go.Proofs.Tryz.underlying3⟩, ⟨rfl, by decide, ⟨_, Go.Proofs.Tryz.underlying3⟩, trivial⟩⟩)
theorem tok_58 : ∀ i : TI, some (⟨(.struct [(0, 3), (1, 3)]), (.cons (.int .i64) (.cons (.int .i64) .nil)), 2, 16, true⟩ : TI) = some i → TIOk Go.Proofs.Tryz.prog 58 i := by
  intro i h; cases h
  exact TIOk.of Go.Proofs.Tryz.underlying58 rfl (by kernel_rfl) rfl (fun _ => eqOk_flat Go.Proofs.Tryz.underlying58 (by kernel_rfl) (by kernel_rfl) ⟨rfl, by decide, ⟨_, Go.Proofs.Tryz.underlying3⟩, ⟨rfl, by decide, ⟨_, Go.Proofs.Tryz.underlying3⟩, trivial⟩⟩)
theorem tok_63 : ∀ i : TI, some (⟨(.int .u64), (.int .u64), 1, 8, false⟩ : TI) = some i → TIOk Go.Proofs.Tryz.prog 63 i := by
  intro i h; cases h
  exact TIOk.of Go.Proofs.Tryz.underlying63 (by first | rfl | trivial) (by kernel_rfl) rfl (fun h => by cases h)
theorem tok_67 : ∀ i : TI, some (⟨(.struct [(0, 3), (1, 3), (2, 3), (3, 3)]), (.cons (.int .i64) (.cons (.int .i64) (.cons (.int .i64) (.cons (.int .i64) .nil)))), 4, 32, true⟩ : TI) = some i → TIOk Go.Proofs.Tryz.prog 67 i := by
  intro i h; cases h
  exact TIOk.of Go.Proofs.Tryz.underlying67 rfl (by kernel_rfl) rfl (fun _ => eqOk_flat Go.Proofs.Tryz.underlying67 (by kernel_rfl) (by kernel_rfl) ⟨rfl, by decide, ⟨_, Go.Proofs.Tryz.underlying3⟩, ⟨rfl, by decide, ⟨_, Go.Proofs.Tryz.underlying3⟩, ⟨rfl, by decide, ⟨_, Go.Proofs.Tryz.underlying3⟩, ⟨rfl, by decide, ⟨_, Go.Proofs.Tryz.underlying3⟩, trivial⟩⟩⟩⟩)
theorem tok_68 : ∀ i : TI, some (⟨(.struct [(0, 3), (1, 3), (2, 3), (3, 3)]), (.cons (.int .i64) (.cons (.int .i64) (.cons (.int .i64) (.cons (.int .i64) .nil)))), 4, 32, true⟩ : TI) = some i → TIOk Go.Proofs.Tryz.prog 68 i := by
  intro i h; cases h
  exact TIOk.of Go.Proofs.Tryz.underlying68 rfl (by kernel_rfl) rfl (fun _ => eqOk_flat Go.Proofs.Tryz.underlying68 (by kernel_rfl) (by kernel_rfl) ⟨rfl, by decide, ⟨_, Go.Proofs.Tryz.underlying3⟩, ⟨rfl, by decide, ⟨_, Go.Proofs.Tryz.underlying3⟩, ⟨rfl, by decide, ⟨_, Go.Proofs.Tryz.underlying3⟩, ⟨rfl, by decide, ⟨_, Go.Proofs.Tryz.underlying3⟩, trivial⟩⟩⟩⟩)
theorem tok_71 : ∀ i : TI, some (⟨(.slice 27), (.slice (.cons .bool (.cons (.slice (.int .i64)) (.cons (.slice (.int .i64)) .nil)))), 1, 24, false⟩ : TI) = some i → TIOk Go.Proofs.Tryz.prog 71 i := by
  intro i h; cases h
  exact TIOk.of Go.Proofs.Tryz.underlying71 (by first | rfl | trivial) (by kernel_rfl) rfl (fun h => by cases h)
theorem tok_82 : ∀ i : TI, some (⟨(.slice 24), (.slice (.cons .bool (.cons (.int .i64) (.cons (.int .i64) .nil)))), 1, 24, false⟩ : TI) = some i → TIOk Go.Proofs.Tryz.prog 82 i := by
  intro i h; cases h
  exact TIOk.of Go.Proofs.Tryz.underlying82 (by first | rfl | trivial) (by kernel_rfl) rfl (fun h => by cases h)
theorem tok_86 : ∀ i : TI, some (⟨(.struct [(0, 4), (1, 25), (2, 25)]), (.cons .bool (.cons (.slice (.int .i64)) (.cons (.slice (.int .i64)) .nil))), 3, 56, false⟩ : TI) = some i → TIOk Go.Proofs.Tryz.prog 86 i := by
  intro i h; cases h
  exact TIOk.of Go.Proofs.Tryz.underlying86 (by first | rfl | trivial) (by kernel_rfl) rfl (fun h => by cases h)
theorem tok_87 : ∀ i : TI, some (⟨(.struct [(0, 4), (1, 25), (2, 25)]), (.cons .bool (.cons (.slice (.int .i64)) (.cons (.slice (.int .i64)) .nil))), 3, 56, false⟩ : TI) = some i → TIOk Go.Proofs.Tryz.prog 87 i := by
  intro i h; cases h
  exact TIOk.of Go.Proofs.Tryz.underlying87 (by first | rfl | trivial) (by kernel_rfl) rfl (fun h => by cases h)
theorem tok_88 : ∀ i : TI, some (⟨(.struct [(0, 4), (1, 63), (2, 3)]), (.cons .bool (.cons (.int .u64) (.cons (.int .i64) .nil))), 3, 24, true⟩ : TI) = some i → TIOk Go.Proofs.Tryz.prog 88 i := by
  intro i h; cases h
  exact TIOk.of Go.Proofs.Tryz.underlying88 rfl (by kernel_rfl) rfl (fun _ => eqOk_flat Go.Proofs.Tryz.underlying88 (by kernel_rfl) (by kernel_rfl) ⟨rfl, by decide, Go.Proofs.Tryz.underlying4, ⟨rfl, by decide, ⟨_, Go.Proofs.Tryz.underlying63⟩, ⟨rfl, by decide, ⟨_, Go.Proofs.Tryz.underlying3⟩, trivial⟩⟩⟩)
theorem tok_89 : ∀ i : TI, some (⟨(.struct [(0, 4), (1, 63), (2, 3)]), (.cons .bool (.cons (.int .u64) (.cons (.int .i64) .nil))), 3, 24, true⟩ : TI) = some i → TIOk Go.Proofs.Tryz.prog 89 i := by
  intro i h; cases h
  exact TIOk.of Go.Proofs.Tryz.underlying89 rfl (by kernel_rfl) rfl (fun _ => eqOk_flat Go.Proofs.Tryz.underlying89 (by kernel_rfl) (by kernel_rfl) ⟨rfl, by decide, Go.Proofs.Tryz.underlying4, ⟨rfl, by decide, ⟨_, Go.Proofs.Tryz.underlying63⟩, ⟨rfl, by decide, ⟨_, Go.Proofs.Tryz.underlying3⟩, trivial⟩⟩⟩)
theorem tok_96 : ∀ i : TI, some (⟨(.int .u64), (.int .u64), 1, 8, false⟩ : TI) = some i → TIOk Go.Proofs.Tryz.prog 96 i := by
  intro i h; cases h
  exact TIOk.of Go.Proofs.Tryz.underlying96 (by first | rfl | trivial) (by kernel_rfl) rfl (fun h => by cases h)
theorem tok_106 : ∀ i : TI, some (⟨(.slice 25), (.slice (.slice (.int .i64))), 1, 24, false⟩ : TI) = some i → TIOk Go.Proofs.Tryz.prog 106 i := by
  intro i h; cases h
  exact TIOk.of Go.Proofs.Tryz.underlying106 (by first | rfl | trivial) (by kernel_rfl) rfl (fun h => by cases h)
theorem tok_122 : ∀ i : TI, some (⟨(.int .u32), (.int .u32), 1, 4, false⟩ : TI) = some i → TIOk Go.Proofs.Tryz.prog 122 i := by
  intro i h; cases h
  exact TIOk.of Go.Proofs.Tryz.underlying122 (by first | rfl | trivial) (by kernel_rfl) rfl (fun h => by cases h)
theorem tok_130 : ∀ i : TI, some (⟨(.int .u8), (.int .u8), 1, 1, false⟩ : TI) = some i → TIOk Go.Proofs.Tryz.prog 130 i := by
  intro i h; cases h
  exact TIOk.of Go.Proofs.Tryz.underlying130 (by first | rfl | trivial) (by kernel_rfl) rfl (fun h => by cases h)
theorem tok_131 : ∀ i : TI, some (⟨(.int .u8), (.int .u8), 1, 1, false⟩ : TI) = some i → TIOk Go.Proofs.Tryz.prog 131 i := by
  intro i h; cases h
  exact TIOk.of Go.Proofs.Tryz.underlying131 (by first | rfl | trivial) (by kernel_rfl) rfl (fun h => by cases h)
theorem tok_134 : ∀ i : TI, some (⟨(.int .i32), (.int .i32), 1, 4, false⟩ : TI) = some i → TIOk Go.Proofs.Tryz.prog 134 i := by
  intro i h; cases h
  exact TIOk.of Go.Proofs.Tryz.underlying134 (by first | rfl | trivial) (by kernel_rfl) rfl (fun h => by cases h)
theorem tok_135 : ∀ i : TI, some (⟨(.int .i32), (.int .i32), 1, 4, false⟩ : TI) = some i → TIOk Go.Proofs.Tryz.prog 135 i := by
  intro i h; cases h
  exact TIOk.of Go.Proofs.Tryz.underlying135 (by first | rfl | trivial) (by kernel_rfl) rfl (fun h => by cases h)
theorem allT : AllT Go.Proofs.Tryz.prog T := ⟨tok_2, tok_3, tok_4, tok_5, tok_6, tok_7, tok_8, tok_9, tok_10, tok_11, tok_12, tok_13, tok_14, tok_21, tok_22, tok_23, tok_24, tok_25, tok_26, tok_27, tok_54, tok_55, tok_57, tok_58, tok_63, tok_67, tok_68, tok_71, tok_82, tok_86, tok_87, tok_88, tok_89, tok_96, tok_106, tok_122, tok_130, tok_131, tok_134, tok_135, trivial⟩
theorem seat_T : TOk Go.Proofs.Tryz.prog T := fun t i h => allT.mem t i (look_mem h)
theorem fok_3 : ∀ fn : Func, some Go.Proofs.Tryz.f3 = some fn → FOk Go.Proofs.Tryz.prog 3 fn := by
  intro fn h; cases h; exact ⟨Go.Proofs.Tryz.func3, by kernel_rfl, by kernel_rfl⟩
theorem fok_4 : ∀ fn : Func, some Go.Proofs.Tryz.f4 = some fn → FOk Go.Proofs.Tryz.prog 4 fn := by
  intro fn h; cases h; exact ⟨Go.Proofs.Tryz.func4, by kernel_rfl, by kernel_rfl⟩
theorem fok_5 : ∀ fn : Func, some Go.Proofs.Tryz.f5 = some fn → FOk Go.Proofs.Tryz.prog 5 fn := by
  intro fn h; cases h; exact ⟨Go.Proofs.Tryz.func5, by kernel_rfl, by kernel_rfl⟩
theorem fok_6 : ∀ fn : Func, some Go.Proofs.Tryz.f6 = some fn → FOk Go.Proofs.Tryz.prog 6 fn := by
  intro fn h; cases h; exact ⟨Go.Proofs.Tryz.func6, by kernel_rfl, by kernel_rfl⟩
theorem fok_7 : ∀ fn : Func, some Go.Proofs.Tryz.f7 = some fn → FOk Go.Proofs.Tryz.prog 7 fn := by
  intro fn h; cases h; exact ⟨Go.Proofs.Tryz.func7, by kernel_rfl, by kernel_rfl⟩
theorem fok_8 : ∀ fn : Func, some Go.Proofs.Tryz.f8 = some fn → FOk Go.Proofs.Tryz.prog 8 fn := by
  intro fn h; cases h; exact ⟨Go.Proofs.Tryz.func8, by kernel_rfl, by kernel_rfl⟩
theorem fok_9 : ∀ fn : Func, some Go.Proofs.Tryz.f9 = some fn → FOk Go.Proofs.Tryz.prog 9 fn := by
  intro fn h; cases h; exact ⟨Go.Proofs.Tryz.func9, by kernel_rfl, by kernel_rfl⟩
theorem fok_10 : ∀ fn : Func, some Go.Proofs.Tryz.f10 = some fn → FOk Go.Proofs.Tryz.prog 10 fn := by
  intro fn h; cases h; exact ⟨Go.Proofs.Tryz.func10, by kernel_rfl, by kernel_rfl⟩
theorem fok_11 : ∀ fn : Func, some Go.Proofs.Tryz.f11 = some fn → FOk Go.Proofs.Tryz.prog 11 fn := by
  intro fn h; cases h; exact ⟨Go.Proofs.Tryz.func11, by kernel_rfl, by kernel_rfl⟩
theorem fok_12 : ∀ fn : Func, some Go.Proofs.Tryz.f12 = some fn → FOk Go.Proofs.Tryz.prog 12 fn := by
  intro fn h; cases h; exact ⟨Go.Proofs.Tryz.func12, by kernel_rfl, by kernel_rfl⟩
theorem fok_13 : ∀ fn : Func, some Go.Proofs.Tryz.f13 = some fn → FOk Go.Proofs.Tryz.prog 13 fn := by
  intro fn h; cases h; exact ⟨Go.Proofs.Tryz.func13, by kernel_rfl, by kernel_rfl⟩
theorem fok_14 : ∀ fn : Func, some Go.Proofs.Tryz.f14 = some fn → FOk Go.Proofs.Tryz.prog 14 fn := by
  intro fn h; cases h; exact ⟨Go.Proofs.Tryz.func14, by kernel_rfl, by kernel_rfl⟩
theorem fok_15 : ∀ fn : Func, some Go.Proofs.Tryz.f15 = some fn → FOk Go.Proofs.Tryz.prog 15 fn := by
  intro fn h; cases h; exact ⟨Go.Proofs.Tryz.func15, by kernel_rfl, by kernel_rfl⟩
theorem fok_16 : ∀ fn : Func, some Go.Proofs.Tryz.f16 = some fn → FOk Go.Proofs.Tryz.prog 16 fn := by
  intro fn h; cases h; exact ⟨Go.Proofs.Tryz.func16, by kernel_rfl, by kernel_rfl⟩
theorem fok_17 : ∀ fn : Func, some Go.Proofs.Tryz.f17 = some fn → FOk Go.Proofs.Tryz.prog 17 fn := by
  intro fn h; cases h; exact ⟨Go.Proofs.Tryz.func17, by kernel_rfl, by kernel_rfl⟩
theorem fok_18 : ∀ fn : Func, some Go.Proofs.Tryz.f18 = some fn → FOk Go.Proofs.Tryz.prog 18 fn := by
  intro fn h; cases h; exact ⟨Go.Proofs.Tryz.func18, by kernel_rfl, by kernel_rfl⟩
theorem fok_19 : ∀ fn : Func, some Go.Proofs.Tryz.f19 = some fn → FOk Go.Proofs.Tryz.prog 19 fn := by
  intro fn h; cases h; exact ⟨Go.Proofs.Tryz.func19, by kernel_rfl, by kernel_rfl⟩
theorem fok_20 : ∀ fn : Func, some Go.Proofs.Tryz.f20 = some fn → FOk Go.Proofs.Tryz.prog 20 fn := by
  intro fn h; cases h; exact ⟨Go.Proofs.Tryz.func20, by kernel_rfl, by kernel_rfl⟩
theorem fok_21 : ∀ fn : Func, some Go.Proofs.Tryz.f21 = some fn → FOk Go.Proofs.Tryz.prog 21 fn := by
  intro fn h; cases h; exact ⟨Go.Proofs.Tryz.func21, by kernel_rfl, by kernel_rfl⟩
theorem fok_22 : ∀ fn : Func, some Go.Proofs.Tryz.f22 = some fn → FOk Go.Proofs.Tryz.prog 22 fn := by
  intro fn h; cases h; exact ⟨Go.Proofs.Tryz.func22, by kernel_rfl, by kernel_rfl⟩
theorem fok_23 : ∀ fn : Func, some Go.Proofs.Tryz.f23 = some fn → FOk Go.Proofs.Tryz.prog 23 fn := by
  intro fn h; cases h; exact ⟨Go.Proofs.Tryz.func23, by kernel_rfl, by kernel_rfl⟩
theorem fok_24 : ∀ fn : Func, some Go.Proofs.Tryz.f24 = some fn → FOk Go.Proofs.Tryz.prog 24 fn := by
  intro fn h; cases h; exact ⟨Go.Proofs.Tryz.func24, by kernel_rfl, by kernel_rfl⟩
theorem fok_25 : ∀ fn : Func, some Go.Proofs.Tryz.f25 = some fn → FOk Go.Proofs.Tryz.prog 25 fn := by
  intro fn h; cases h; exact ⟨Go.Proofs.Tryz.func25, by kernel_rfl, by kernel_rfl⟩
theorem fok_26 : ∀ fn : Func, some Go.Proofs.Tryz.f26 = some fn → FOk Go.Proofs.Tryz.prog 26 fn := by
  intro fn h; cases h; exact ⟨Go.Proofs.Tryz.func26, by kernel_rfl, by kernel_rfl⟩
theorem fok_27 : ∀ fn : Func, some Go.Proofs.Tryz.f27 = some fn → FOk Go.Proofs.Tryz.prog 27 fn := by
  intro fn h; cases h; exact ⟨Go.Proofs.Tryz.func27, by kernel_rfl, by kernel_rfl⟩
theorem fok_28 : ∀ fn : Func, some Go.Proofs.Tryz.f28 = some fn → FOk Go.Proofs.Tryz.prog 28 fn := by
  intro fn h; cases h; exact ⟨Go.Proofs.Tryz.func28, by kernel_rfl, by kernel_rfl⟩
theorem fok_29 : ∀ fn : Func, some Go.Proofs.Tryz.f29 = some fn → FOk Go.Proofs.Tryz.prog 29 fn := by
  intro fn h; cases h; exact ⟨Go.Proofs.Tryz.func29, by kernel_rfl, by kernel_rfl⟩
theorem fok_30 : ∀ fn : Func, some Go.Proofs.Tryz.f30 = some fn → FOk Go.Proofs.Tryz.prog 30 fn := by
  intro fn h; cases h; exact ⟨Go.Proofs.Tryz.func30, by kernel_rfl, by kernel_rfl⟩
theorem fok_31 : ∀ fn : Func, some Go.Proofs.Tryz.f31 = some fn → FOk Go.Proofs.Tryz.prog 31 fn := by
  intro fn h; cases h; exact ⟨Go.Proofs.Tryz.func31, by kernel_rfl, by kernel_rfl⟩
theorem fok_32 : ∀ fn : Func, some Go.Proofs.Tryz.f32 = some fn → FOk Go.Proofs.Tryz.prog 32 fn := by
  intro fn h; cases h; exact ⟨Go.Proofs.Tryz.func32, by kernel_rfl, by kernel_rfl⟩
theorem fok_33 : ∀ fn : Func, some Go.Proofs.Tryz.f33 = some fn → FOk Go.Proofs.Tryz.prog 33 fn := by
  intro fn h; cases h; exact ⟨Go.Proofs.Tryz.func33, by kernel_rfl, by kernel_rfl⟩
theorem fok_34 : ∀ fn : Func, some Go.Proofs.Tryz.f34 = some fn → FOk Go.Proofs.Tryz.prog 34 fn := by
  intro fn h; cases h; exact ⟨Go.Proofs.Tryz.func34, by kernel_rfl, by kernel_rfl⟩
theorem fok_35 : ∀ fn : Func, some Go.Proofs.Tryz.f35 = some fn → FOk Go.Proofs.Tryz.prog 35 fn := by
  intro fn h; cases h; exact ⟨Go.Proofs.Tryz.func35, by kernel_rfl, by kernel_rfl⟩
theorem fok_36 : ∀ fn : Func, some Go.Proofs.Tryz.f36 = some fn → FOk Go.Proofs.Tryz.prog 36 fn := by
  intro fn h; cases h; exact ⟨Go.Proofs.Tryz.func36, by kernel_rfl, by kernel_rfl⟩
theorem fok_37 : ∀ fn : Func, some Go.Proofs.Tryz.f37 = some fn → FOk Go.Proofs.Tryz.prog 37 fn := by
  intro fn h; cases h; exact ⟨Go.Proofs.Tryz.func37, by kernel_rfl, by kernel_rfl⟩
theorem fok_38 : ∀ fn : Func, some Go.Proofs.Tryz.f38 = some fn → FOk Go.Proofs.Tryz.prog 38 fn := by
  intro fn h; cases h; exact ⟨Go.Proofs.Tryz.func38, by kernel_rfl, by kernel_rfl⟩
theorem fok_39 : ∀ fn : Func, some Go.Proofs.Tryz.f39 = some fn → FOk Go.Proofs.Tryz.prog 39 fn := by
  intro fn h; cases h; exact ⟨Go.Proofs.Tryz.func39, by kernel_rfl, by kernel_rfl⟩
theorem fok_40 : ∀ fn : Func, some Go.Proofs.Tryz.f40 = some fn → FOk Go.Proofs.Tryz.prog 40 fn := by
  intro fn h; cases h; exact ⟨Go.Proofs.Tryz.func40, by kernel_rfl, by kernel_rfl⟩
theorem fok_41 : ∀ fn : Func, some Go.Proofs.Tryz.f41 = some fn → FOk Go.Proofs.Tryz.prog 41 fn := by
  intro fn h; cases h; exact ⟨Go.Proofs.Tryz.func41, by kernel_rfl, by kernel_rfl⟩
theorem fok_42 : ∀ fn : Func, some Go.Proofs.Tryz.f42 = some fn → FOk Go.Proofs.Tryz.prog 42 fn := by
  intro fn h; cases h; exact ⟨Go.Proofs.Tryz.func42, by kernel_rfl, by kernel_rfl⟩
theorem fok_43 : ∀ fn : Func, some Go.Proofs.Tryz.f43 = some fn → FOk Go.Proofs.Tryz.prog 43 fn := by
  intro fn h; cases h; exact ⟨Go.Proofs.Tryz.func43, by kernel_rfl, by kernel_rfl⟩
theorem fok_44 : ∀ fn : Func, some Go.Proofs.Tryz.f44 = some fn → FOk Go.Proofs.Tryz.prog 44 fn := by
  intro fn h; cases h; exact ⟨Go.Proofs.Tryz.func44, by kernel_rfl, by kernel_rfl⟩
theorem fok_45 : ∀ fn : Func, some Go.Proofs.Tryz.f45 = some fn → FOk Go.Proofs.Tryz.prog 45 fn := by
  intro fn h; cases h; exact ⟨Go.Proofs.Tryz.func45, by kernel_rfl, by kernel_rfl⟩
theorem fok_46 : ∀ fn : Func, some Go.Proofs.Tryz.f46 = some fn → FOk Go.Proofs.Tryz.prog 46 fn := by
  intro fn h; cases h; exact ⟨Go.Proofs.Tryz.func46, by kernel_rfl, by kernel_rfl⟩
theorem fok_47 : ∀ fn : Func, some Go.Proofs.Tryz.f47 = some fn → FOk Go.Proofs.Tryz.prog 47 fn := by
  intro fn h; cases h; exact ⟨Go.Proofs.Tryz.func47, by kernel_rfl, by kernel_rfl⟩
theorem fok_48 : ∀ fn : Func, some Go.Proofs.Tryz.f48 = some fn → FOk Go.Proofs.Tryz.prog 48 fn := by
  intro fn h; cases h; exact ⟨Go.Proofs.Tryz.func48, by kernel_rfl, by kernel_rfl⟩
theorem fok_49 : ∀ fn : Func, some Go.Proofs.Tryz.f49 = some fn → FOk Go.Proofs.Tryz.prog 49 fn := by
  intro fn h; cases h; exact ⟨Go.Proofs.Tryz.func49, by kernel_rfl, by kernel_rfl⟩
theorem fok_50 : ∀ fn : Func, some Go.Proofs.Tryz.f50 = some fn → FOk Go.Proofs.Tryz.prog 50 fn := by
  intro fn h; cases h; exact ⟨Go.Proofs.Tryz.func50, by kernel_rfl, by kernel_rfl⟩
theorem fok_51 : ∀ fn : Func, some Go.Proofs.Tryz.f51 = some fn → FOk Go.Proofs.Tryz.prog 51 fn := by
  intro fn h; cases h; exact ⟨Go.Proofs.Tryz.func51, by kernel_rfl, by kernel_rfl⟩
theorem fok_52 : ∀ fn : Func, some Go.Proofs.Tryz.f52 = some fn → FOk Go.Proofs.Tryz.prog 52 fn := by
  intro fn h; cases h; exact ⟨Go.Proofs.Tryz.func52, by kernel_rfl, by kernel_rfl⟩
theorem fok_53 : ∀ fn : Func, some Go.Proofs.Tryz.f53 = some fn → FOk Go.Proofs.Tryz.prog 53 fn := by
  intro fn h; cases h; exact ⟨Go.Proofs.Tryz.func53, by kernel_rfl, by kernel_rfl⟩
theorem fok_54 : ∀ fn : Func, some Go.Proofs.Tryz.f54 = some fn → FOk Go.Proofs.Tryz.prog 54 fn := by
  intro fn h; cases h; exact ⟨Go.Proofs.Tryz.func54, by kernel_rfl, by kernel_rfl⟩
theorem fok_55 : ∀ fn : Func, some Go.Proofs.Tryz.f55 = some fn → FOk Go.Proofs.Tryz.prog 55 fn := by
  intro fn h; cases h; exact ⟨Go.Proofs.Tryz.func55, by kernel_rfl, by kernel_rfl⟩
theorem fok_56 : ∀ fn : Func, some Go.Proofs.Tryz.f56 = some fn → FOk Go.Proofs.Tryz.prog 56 fn := by
  intro fn h; cases h; exact ⟨Go.Proofs.Tryz.func56, by kernel_rfl, by kernel_rfl⟩
theorem fok_57 : ∀ fn : Func, some Go.Proofs.Tryz.f57 = some fn → FOk Go.Proofs.Tryz.prog 57 fn := by
  intro fn h; cases h; exact ⟨Go.Proofs.Tryz.func57, by kernel_rfl, by kernel_rfl⟩
theorem fok_58 : ∀ fn : Func, some Go.Proofs.Tryz.f58 = some fn → FOk Go.Proofs.Tryz.prog 58 fn := by
  intro fn h; cases h; exact ⟨Go.Proofs.Tryz.func58, by kernel_rfl, by kernel_rfl⟩
theorem fok_59 : ∀ fn : Func, some Go.Proofs.Tryz.f59 = some fn → FOk Go.Proofs.Tryz.prog 59 fn := by
  intro fn h; cases h; exact ⟨Go.Proofs.Tryz.func59, by kernel_rfl, by kernel_rfl⟩
theorem fok_60 : ∀ fn : Func, some Go.Proofs.Tryz.f60 = some fn → FOk Go.Proofs.Tryz.prog 60 fn := by
  intro fn h; cases h; exact ⟨Go.Proofs.Tryz.func60, by kernel_rfl, by kernel_rfl⟩
theorem fok_61 : ∀ fn : Func, some Go.Proofs.Tryz.f61 = some fn → FOk Go.Proofs.Tryz.prog 61 fn := by
  intro fn h; cases h; exact ⟨Go.Proofs.Tryz.func61, by kernel_rfl, by kernel_rfl⟩
theorem fok_62 : ∀ fn : Func, some Go.Proofs.Tryz.f62 = some fn → FOk Go.Proofs.Tryz.prog 62 fn := by
  intro fn h; cases h; exact ⟨Go.Proofs.Tryz.func62, by kernel_rfl, by kernel_rfl⟩
theorem fok_63 : ∀ fn : Func, some Go.Proofs.Tryz.f63 = some fn → FOk Go.Proofs.Tryz.prog 63 fn := by
  intro fn h; cases h; exact ⟨Go.Proofs.Tryz.func63, by kernel_rfl, by kernel_rfl⟩
theorem fok_64 : ∀ fn : Func, some Go.Proofs.Tryz.f64 = some fn → FOk Go.Proofs.Tryz.prog 64 fn := by
  intro fn h; cases h; exact ⟨Go.Proofs.Tryz.func64, by kernel_rfl, by kernel_rfl⟩
theorem fok_65 : ∀ fn : Func, some Go.Proofs.Tryz.f65 = some fn → FOk Go.Proofs.Tryz.prog 65 fn := by
  intro fn h; cases h; exact ⟨Go.Proofs.Tryz.func65, by kernel_rfl, by kernel_rfl⟩
theorem fok_66 : ∀ fn : Func, some Go.Proofs.Tryz.f66 = some fn → FOk Go.Proofs.Tryz.prog 66 fn := by
  intro fn h; cases h; exact ⟨Go.Proofs.Tryz.func66, by kernel_rfl, by kernel_rfl⟩
theorem fok_67 : ∀ fn : Func, some Go.Proofs.Tryz.f67 = some fn → FOk Go.Proofs.Tryz.prog 67 fn := by
  intro fn h; cases h; exact ⟨Go.Proofs.Tryz.func67, by kernel_rfl, by kernel_rfl⟩
theorem fok_68 : ∀ fn : Func, some Go.Proofs.Tryz.f68 = some fn → FOk Go.Proofs.Tryz.prog 68 fn := by
  intro fn h; cases h; exact ⟨Go.Proofs.Tryz.func68, by kernel_rfl, by kernel_rfl⟩
theorem fok_69 : ∀ fn : Func, some Go.Proofs.Tryz.f69 = some fn → FOk Go.Proofs.Tryz.prog 69 fn := by
  intro fn h; cases h; exact ⟨Go.Proofs.Tryz.func69, by kernel_rfl, by kernel_rfl⟩
theorem fok_70 : ∀ fn : Func, some Go.Proofs.Tryz.f70 = some fn → FOk Go.Proofs.Tryz.prog 70 fn := by
  intro fn h; cases h; exact ⟨Go.Proofs.Tryz.func70, by kernel_rfl, by kernel_rfl⟩
theorem fok_71 : ∀ fn : Func, some Go.Proofs.Tryz.f71 = some fn → FOk Go.Proofs.Tryz.prog 71 fn := by
  intro fn h; cases h; exact ⟨Go.Proofs.Tryz.func71, by kernel_rfl, by kernel_rfl⟩
theorem fok_72 : ∀ fn : Func, some Go.Proofs.Tryz.f72 = some fn → FOk Go.Proofs.Tryz.prog 72 fn := by
  intro fn h; cases h; exact ⟨Go.Proofs.Tryz.func72, by kernel_rfl, by kernel_rfl⟩
theorem fok_73 : ∀ fn : Func, some Go.Proofs.Tryz.f73 = some fn → FOk Go.Proofs.Tryz.prog 73 fn := by
  intro fn h; cases h; exact ⟨Go.Proofs.Tryz.func73, by kernel_rfl, by kernel_rfl⟩
theorem fok_74 : ∀ fn : Func, some Go.Proofs.Tryz.f74 = some fn → FOk Go.Proofs.Tryz.prog 74 fn := by
  intro fn h; cases h; exact ⟨Go.Proofs.Tryz.func74, by kernel_rfl, by kernel_rfl⟩
theorem fok_75 : ∀ fn : Func, some Go.Proofs.Tryz.f75 = some fn → FOk Go.Proofs.Tryz.prog 75 fn := by
  intro fn h; cases h; exact ⟨Go.Proofs.Tryz.func75, by kernel_rfl, by kernel_rfl⟩
theorem fok_76 : ∀ fn : Func, some Go.Proofs.Tryz.f76 = some fn → FOk Go.Proofs.Tryz.prog 76 fn := by
  intro fn h; cases h; exact ⟨Go.Proofs.Tryz.func76, by kernel_rfl, by kernel_rfl⟩
theorem fok_77 : ∀ fn : Func, some Go.Proofs.Tryz.f77 = some fn → FOk Go.Proofs.Tryz.prog 77 fn := by
  intro fn h; cases h; exact ⟨Go.Proofs.Tryz.func77, by kernel_rfl, by kernel_rfl⟩
theorem fok_78 : ∀ fn : Func, some Go.Proofs.Tryz.f78 = some fn → FOk Go.Proofs.Tryz.prog 78 fn := by
  intro fn h; cases h; exact ⟨Go.Proofs.Tryz.func78, by kernel_rfl, by kernel_rfl⟩
theorem fok_79 : ∀ fn : Func, some Go.Proofs.Tryz.f79 = some fn → FOk Go.Proofs.Tryz.prog 79 fn := by
  intro fn h; cases h; exact ⟨Go.Proofs.Tryz.func79, by kernel_rfl, by kernel_rfl⟩
theorem fok_80 : ∀ fn : Func, some Go.Proofs.Tryz.f80 = some fn → FOk Go.Proofs.Tryz.prog 80 fn := by
  intro fn h; cases h; exact ⟨Go.Proofs.Tryz.func80, by kernel_rfl, by kernel_rfl⟩
theorem fok_81 : ∀ fn : Func, some Go.Proofs.Tryz.f81 = some fn → FOk Go.Proofs.Tryz.prog 81 fn := by
  intro fn h; cases h; exact ⟨Go.Proofs.Tryz.func81, by kernel_rfl, by kernel_rfl⟩
theorem fok_82 : ∀ fn : Func, some Go.Proofs.Tryz.f82 = some fn → FOk Go.Proofs.Tryz.prog 82 fn := by
  intro fn h; cases h; exact ⟨Go.Proofs.Tryz.func82, by kernel_rfl, by kernel_rfl⟩
theorem fok_83 : ∀ fn : Func, some Go.Proofs.Tryz.f83 = some fn → FOk Go.Proofs.Tryz.prog 83 fn := by
  intro fn h; cases h; exact ⟨Go.Proofs.Tryz.func83, by kernel_rfl, by kernel_rfl⟩
theorem fok_84 : ∀ fn : Func, some Go.Proofs.Tryz.f84 = some fn → FOk Go.Proofs.Tryz.prog 84 fn := by
  intro fn h; cases h; exact ⟨Go.Proofs.Tryz.func84, by kernel_rfl, by kernel_rfl⟩
theorem fok_85 : ∀ fn : Func, some Go.Proofs.Tryz.f85 = some fn → FOk Go.Proofs.Tryz.prog 85 fn := by
  intro fn h; cases h; exact ⟨Go.Proofs.Tryz.func85, by kernel_rfl, by kernel_rfl⟩
theorem fok_86 : ∀ fn : Func, some Go.Proofs.Tryz.f86 = some fn → FOk Go.Proofs.Tryz.prog 86 fn := by
  intro fn h; cases h; exact ⟨Go.Proofs.Tryz.func86, by kernel_rfl, by kernel_rfl⟩
theorem fok_87 : ∀ fn : Func, some Go.Proofs.Tryz.f87 = some fn → FOk Go.Proofs.Tryz.prog 87 fn := by
  intro fn h; cases h; exact ⟨Go.Proofs.Tryz.func87, by kernel_rfl, by kernel_rfl⟩
theorem fok_88 : ∀ fn : Func, some Go.Proofs.Tryz.f88 = some fn → FOk Go.Proofs.Tryz.prog 88 fn := by
  intro fn h; cases h; exact ⟨Go.Proofs.Tryz.func88, by kernel_rfl, by kernel_rfl⟩
theorem fok_89 : ∀ fn : Func, some Go.Proofs.Tryz.f89 = some fn → FOk Go.Proofs.Tryz.prog 89 fn := by
  intro fn h; cases h; exact ⟨Go.Proofs.Tryz.func89, by kernel_rfl, by kernel_rfl⟩
theorem fok_90 : ∀ fn : Func, some Go.Proofs.Tryz.f90 = some fn → FOk Go.Proofs.Tryz.prog 90 fn := by
  intro fn h; cases h; exact ⟨Go.Proofs.Tryz.func90, by kernel_rfl, by kernel_rfl⟩
theorem fok_91 : ∀ fn : Func, some Go.Proofs.Tryz.f91 = some fn → FOk Go.Proofs.Tryz.prog 91 fn := by
  intro fn h; cases h; exact ⟨Go.Proofs.Tryz.func91, by kernel_rfl, by kernel_rfl⟩
theorem fok_92 : ∀ fn : Func, some Go.Proofs.Tryz.f92 = some fn → FOk Go.Proofs.Tryz.prog 92 fn := by
  intro fn h; cases h; exact ⟨Go.Proofs.Tryz.func92, by kernel_rfl, by kernel_rfl⟩
theorem fok_93 : ∀ fn : Func, some Go.Proofs.Tryz.f93 = some fn → FOk Go.Proofs.Tryz.prog 93 fn := by
  intro fn h; cases h; exact ⟨Go.Proofs.Tryz.func93, by kernel_rfl, by kernel_rfl⟩
theorem fok_94 : ∀ fn : Func, some Go.Proofs.Tryz.f94 = some fn → FOk Go.Proofs.Tryz.prog 94 fn := by
  intro fn h; cases h; exact ⟨Go.Proofs.Tryz.func94, by kernel_rfl, by kernel_rfl⟩
theorem fok_95 : ∀ fn : Func, some Go.Proofs.Tryz.f95 = some fn → FOk Go.Proofs.Tryz.prog 95 fn := by
  intro fn h; cases h; exact ⟨Go.Proofs.Tryz.func95, by kernel_rfl, by kernel_rfl⟩
theorem fok_96 : ∀ fn : Func, some Go.Proofs.Tryz.f96 = some fn → FOk Go.Proofs.Tryz.prog 96 fn := by
  intro fn h; cases h; exact ⟨Go.Proofs.Tryz.func96, by kernel_rfl, by kernel_rfl⟩
theorem fok_97 : ∀ fn : Func, some Go.Proofs.Tryz.f97 = some fn → FOk Go.Proofs.Tryz.prog 97 fn := by
  intro fn h; cases h; exact ⟨Go.Proofs.Tryz.func97, by kernel_rfl, by kernel_rfl⟩
theorem fok_98 : ∀ fn : Func, some Go.Proofs.Tryz.f98 = some fn → FOk Go.Proofs.Tryz.prog 98 fn := by
  intro fn h; cases h; exact ⟨Go.Proofs.Tryz.func98, by kernel_rfl, by kernel_rfl⟩
theorem fok_99 : ∀ fn : Func, some Go.Proofs.Tryz.f99 = some fn → FOk Go.Proofs.Tryz.prog 99 fn := by
  intro fn h; cases h; exact ⟨Go.Proofs.Tryz.func99, by kernel_rfl, by kernel_rfl⟩
theorem fok_100 : ∀ fn : Func, some Go.Proofs.Tryz.f100 = some fn → FOk Go.Proofs.Tryz.prog 100 fn := by
  intro fn h; cases h; exact ⟨Go.Proofs.Tryz.func100, by kernel_rfl, by kernel_rfl⟩
theorem fok_101 : ∀ fn : Func, some Go.Proofs.Tryz.f101 = some fn → FOk Go.Proofs.Tryz.prog 101 fn := by
  intro fn h; cases h; exact ⟨Go.Proofs.Tryz.func101, by kernel_rfl, by kernel_rfl⟩
theorem fok_102 : ∀ fn : Func, some Go.Proofs.Tryz.f102 = some fn → FOk Go.Proofs.Tryz.prog 102 fn := by
  intro fn h; cases h; exact ⟨Go.Proofs.Tryz.func102, by kernel_rfl, by kernel_rfl⟩
theorem fok_103 : ∀ fn : Func, some Go.Proofs.Tryz.f103 = some fn → FOk Go.Proofs.Tryz.prog 103 fn := by
  intro fn h; cases h; exact ⟨Go.Proofs.Tryz.func103, by kernel_rfl, by kernel_rfl⟩
theorem fok_104 : ∀ fn : Func, some Go.Proofs.Tryz.f104 = some fn → FOk Go.Proofs.Tryz.prog 104 fn := by
  intro fn h; cases h; exact ⟨Go.Proofs.Tryz.func104, by kernel_rfl, by kernel_rfl⟩
theorem fok_106 : ∀ fn : Func, some Go.Proofs.Tryz.f106 = some fn → FOk Go.Proofs.Tryz.prog 106 fn := by
  intro fn h; cases h; exact ⟨Go.Proofs.Tryz.func106, by kernel_rfl, by kernel_rfl⟩
theorem fok_107 : ∀ fn : Func, some Go.Proofs.Tryz.f107 = some fn → FOk Go.Proofs.Tryz.prog 107 fn := by
  intro fn h; cases h; exact ⟨Go.Proofs.Tryz.func107, by kernel_rfl, by kernel_rfl⟩
theorem fok_108 : ∀ fn : Func, some Go.Proofs.Tryz.f108 = some fn → FOk Go.Proofs.Tryz.prog 108 fn := by
  intro fn h; cases h; exact ⟨Go.Proofs.Tryz.func108, by kernel_rfl, by kernel_rfl⟩
theorem allF : AllF Go.Proofs.Tryz.prog F := ⟨fok_3, fok_4, fok_5, fok_6, fok_7, fok_8, fok_9, fok_10, fok_11, fok_12, fok_13, fok_14, fok_15, fok_16, fok_17, fok_18, fok_19, fok_20, fok_21, fok_22, fok_23, fok_24, fok_25, fok_26, fok_27, fok_28, fok_29, fok_30, fok_31, fok_32, fok_33, fok_34, fok_35, fok_36, fok_37, fok_38, fok_39, fok_40, fok_41, fok_42, fok_43, fok_44, fok_45, fok_46, fok_47, fok_48, fok_49, fok_50, fok_51, fok_52, fok_53, fok_54, fok_55, fok_56, fok_57, fok_58, fok_59, fok_60, fok_61, fok_62, fok_63, fok_64, fok_65, fok_66, fok_67, fok_68, fok_69, fok_70, fok_71, fok_72, fok_73, fok_74, fok_75, fok_76, fok_77, fok_78, fok_79, fok_80, fok_81, fok_82, fok_83, fok_84, fok_85, fok_86, fok_87, fok_88, fok_89, fok_90, fok_91, fok_92, fok_93, fok_94, fok_95, fok_96, fok_97, fok_98, fok_99, fok_100, fok_101, fok_102, fok_103, fok_104, fok_106, fok_107, fok_108, trivial⟩
theorem seat_F : ∀ f fn, look F f = some fn → FOk Go.Proofs.Tryz.prog f fn := fun t i h => allF.mem t i (look_mem h)
end Go.Px.Seat
