/- The tables tell the program. Printed by mkok.py. -/
import Derived.Test.YtbdlklncblklnaaGreatDoorS3
import Derived.Test.YtbdlklncblklnaaGreatDoorA5
import Derived.KernelRfl
set_option linter.unusedVariables false

namespace Go.Px.Seat
open Go
set_option maxRecDepth 100000
theorem TIOk.of {P : Program} {t : TypeId} {i : TI} {d : TypeDesc} (h1 : P.underlying t = some d) (h2 : DescOk i.d d) (h3 : (P.info? t).bind (fun j => j.zero.map fun z => (j.size, j.bytes, z.cells.toList)) = some (i.size, i.bytes, zeroVals i.ty))
    (h4 : i.ty.size = i.size) (h5 : i.eqf = true → EqOk P t i.ty) : TIOk P t i := by
  refine ⟨⟨d, h1, h2⟩, ?_, h4, h5⟩
  simp only [Option.bind_eq_some_iff, Option.map_eq_some_iff, Prod.mk.injEq] at h3
  obtain ⟨j, hj, z, hz, e1, e2, e3⟩ := h3
  exact ⟨j, hj, e1, e2, z, hz, e3⟩
def AllT (P : Program) : Types → Prop
  | [] => True
  | p :: l => (∀ i, p.2 = some i → TIOk P p.1 i) ∧ AllT P l
theorem AllT.mem {P : Program} : ∀ {l : Types}, AllT P l → ∀ t i, (t, some i) ∈ l → TIOk P t i
  | _ :: _, h, t, i, hm => by
    rcases List.mem_cons.1 hm with rfl | hm
    · exact h.1 i rfl
    · exact AllT.mem h.2 t i hm
def FOk (P : Program) (f : Nat) (fn : Func) : Prop := P.funcs[f]? = some fn ∧ fn.body.isNone = false ∧ (fn.name == "runtime.NumGoroutine") = false
def AllF (P : Program) : Funcs → Prop
  | [] => True
  | p :: l => (∀ fn, p.2 = some fn → FOk P p.1 fn) ∧ AllF P l
theorem AllF.mem {P : Program} : ∀ {l : Funcs}, AllF P l → ∀ t i, (t, some i) ∈ l → FOk P t i
  | _ :: _, h, t, i, hm => by
    rcases List.mem_cons.1 hm with rfl | hm
    · exact h.1 i rfl
    · exact AllF.mem h.2 t i hm
theorem tok_2 : ∀ i : TI, some (⟨(.int .i64), (.int .i64), 1, 8, false⟩ : TI) = some i → TIOk Go.Proofs.Tryz.prog 2 i := by
  intro i h; cases h
  exact TIOk.of Go.Proofs.Tryz.underlying2 (by first | rfl | trivial) (by kernel_rfl) rfl (fun h => by cases h)
theorem tok_3 : ∀ i : TI, some (⟨(.int .i64), (.int .i64), 1, 8, false⟩ : TI) = some i → TIOk Go.Proofs.Tryz.prog 3 i := by
  intro i h; cases h
  exact TIOk.of Go.Proofs.Tryz.underlying3 (by first | rfl | trivial) (by kernel_rfl) rfl (fun h => by cases h)
theorem tok_4 : ∀ i : TI, some (⟨.bool, .bool, 1, 1, false⟩ : TI) = some i → TIOk Go.Proofs.Tryz.prog 4 i := by
  intro i h; cases h
  exact TIOk.of Go.Proofs.Tryz.underlying4 (by first | rfl | trivial) (by kernel_rfl) rfl (fun h => by cases h)
theorem tok_5 : ∀ i : TI, some (⟨(.int .u8), (.int .u8), 1, 1, false⟩ : TI) = some i → TIOk Go.Proofs.Tryz.prog 5 i := by
  intro i h; cases h
  exact TIOk.of Go.Proofs.Tryz.underlying5 (by first | rfl | trivial) (by kernel_rfl) rfl (fun h => by cases h)
theorem tok_6 : ∀ i : TI, some (⟨(.int .u8), (.int .u8), 1, 1, false⟩ : TI) = some i → TIOk Go.Proofs.Tryz.prog 6 i := by
  intro i h; cases h
  exact TIOk.of Go.Proofs.Tryz.underlying6 (by first | rfl | trivial) (by kernel_rfl) rfl (fun h => by cases h)
theorem tok_7 : ∀ i : TI, some (⟨(.struct [(0, 2), (1, 3), (2, 4), (3, 6)]), (.cons (.int .i64) (.cons (.int .i64) (.cons .bool (.cons (.int .u8) .nil)))), 4, 24, true⟩ : TI) = some i → TIOk Go.Proofs.Tryz.prog 7 i := by
  intro i h; cases h
  exact TIOk.of Go.Proofs.Tryz.underlying7 rfl (by kernel_rfl) rfl (fun _ => eqOk_flat Go.Proofs.Tryz.underlying7 (by kernel_rfl) (by kernel_rfl) ⟨rfl, by decide, ⟨_, Go.Proofs.Tryz.underlying2⟩, ⟨rfl, by decide, ⟨_, Go.Proofs.Tryz.underlying3⟩, ⟨rfl, by decide, Go.Proofs.Tryz.underlying4, ⟨rfl, by decide, ⟨_, Go.Proofs.Tryz.underlying6⟩, trivial⟩⟩⟩⟩)
theorem tok_8 : ∀ i : TI, some (⟨(.struct [(0, 2), (1, 3), (2, 4), (3, 6)]), (.cons (.int .i64) (.cons (.int .i64) (.cons .bool (.cons (.int .u8) .nil)))), 4, 24, true⟩ : TI) = some i → TIOk Go.Proofs.Tryz.prog 8 i := by
  intro i h; cases h
  exact TIOk.of Go.Proofs.Tryz.underlying8 rfl (by kernel_rfl) rfl (fun _ => eqOk_flat Go.Proofs.Tryz.underlying8 (by kernel_rfl) (by kernel_rfl) ⟨rfl, by decide, ⟨_, Go.Proofs.Tryz.underlying2⟩, ⟨rfl, by decide, ⟨_, Go.Proofs.Tryz.underlying3⟩, ⟨rfl, by decide, Go.Proofs.Tryz.underlying4, ⟨rfl, by decide, ⟨_, Go.Proofs.Tryz.underlying6⟩, trivial⟩⟩⟩⟩)
theorem tok_9 : ∀ i : TI, some (⟨.string, .str, 1, 16, false⟩ : TI) = some i → TIOk Go.Proofs.Tryz.prog 9 i := by
  intro i h; cases h
  exact TIOk.of Go.Proofs.Tryz.underlying9 (by first | rfl | trivial) (by kernel_rfl) rfl (fun h => by cases h)
theorem tok_10 : ∀ i : TI, some (⟨.string, .str, 1, 16, false⟩ : TI) = some i → TIOk Go.Proofs.Tryz.prog 10 i := by
  intro i h; cases h
  exact TIOk.of Go.Proofs.Tryz.underlying10 (by first | rfl | trivial) (by kernel_rfl) rfl (fun h => by cases h)
theorem tok_11 : ∀ i : TI, some (⟨.string, .str, 1, 16, false⟩ : TI) = some i → TIOk Go.Proofs.Tryz.prog 11 i := by
  intro i h; cases h
  exact TIOk.of Go.Proofs.Tryz.underlying11 (by first | rfl | trivial) (by kernel_rfl) rfl (fun h => by cases h)
theorem tok_12 : ∀ i : TI, some (⟨(.int .u64), (.int .u64), 1, 8, false⟩ : TI) = some i → TIOk Go.Proofs.Tryz.prog 12 i := by
  intro i h; cases h
  exact TIOk.of Go.Proofs.Tryz.underlying12 (by first | rfl | trivial) (by kernel_rfl) rfl (fun h => by cases h)
theorem tok_13 : ∀ i : TI, some (⟨(.struct [(0, 9), (1, 12)]), (.cons .str (.cons (.int .u64) .nil)), 2, 24, false⟩ : TI) = some i → TIOk Go.Proofs.Tryz.prog 13 i := by
  intro i h; cases h
  exact TIOk.of Go.Proofs.Tryz.underlying13 (by first | rfl | trivial) (by kernel_rfl) rfl (fun h => by cases h)
theorem tok_14 : ∀ i : TI, some (⟨(.struct [(0, 9), (1, 12)]), (.cons .str (.cons (.int .u64) .nil)), 2, 24, false⟩ : TI) = some i → TIOk Go.Proofs.Tryz.prog 14 i := by
  intro i h; cases h
  exact TIOk.of Go.Proofs.Tryz.underlying14 (by first | rfl | trivial) (by kernel_rfl) rfl (fun h => by cases h)
theorem tok_21 : ∀ i : TI, some (⟨(.int .i32), (.int .i32), 1, 4, false⟩ : TI) = some i → TIOk Go.Proofs.Tryz.prog 21 i := by
  intro i h; cases h
  exact TIOk.of Go.Proofs.Tryz.underlying21 (by first | rfl | trivial) (by kernel_rfl) rfl (fun h => by cases h)
theorem tok_22 : ∀ i : TI, some (⟨(.slice 5), (.slice (.int .u8)), 1, 24, false⟩ : TI) = some i → TIOk Go.Proofs.Tryz.prog 22 i := by
  intro i h; cases h
  exact TIOk.of Go.Proofs.Tryz.underlying22 (by first | rfl | trivial) (by kernel_rfl) rfl (fun h => by cases h)
theorem tok_23 : ∀ i : TI, some (⟨(.struct [(0, 4), (1, 3), (2, 3)]), (.cons .bool (.cons (.int .i64) (.cons (.int .i64) .nil))), 3, 24, true⟩ : TI) = some i → TIOk Go.Proofs.Tryz.prog 23 i := by
  intro i h; cases h
  exact TIOk.of Go.Proofs.Tryz.underlying23 rfl (by kernel_rfl) rfl (fun _ => eqOk_flat Go.Proofs.Tryz.underlying23 (by kernel_rfl) (by kernel_rfl) ⟨rfl, by decide, Go.Proofs.Tryz.underlying4, ⟨rfl, by decide, ⟨_, Go.Proofs.Tryz.underlying3⟩, ⟨rfl, by decide, ⟨_, Go.Proofs.Tryz.underlying3⟩, trivial⟩⟩⟩)
theorem tok_24 : ∀ i : TI, some (⟨(.struct [(0, 4), (1, 3), (2, 3)]), (.cons .bool (.cons (.int .i64) (.cons (.int .i64) .nil))), 3, 24, true⟩ : TI) = some i → TIOk Go.Proofs.Tryz.prog 24 i := by
  intro i h; cases h
  exact TIOk.of Go.Proofs.Tryz.underlying24 rfl (by kernel_rfl) rfl (fun _ => eqOk_flat Go.Proofs.Tryz.underlying24 (by kernel_rfl) (by kernel_rfl) ⟨rfl, by decide, Go.Proofs.Tryz.underlying4, ⟨rfl, by decide, ⟨_, Go.Proofs.Tryz.underlying3⟩, ⟨rfl, by decide, ⟨_, Go.Proofs.Tryz.underlying3⟩, trivial⟩⟩⟩)
theorem tok_25 : ∀ i : TI, some (⟨(.slice 3), (.slice (.int .i64)), 1, 24, false⟩ : TI) = some i → TIOk Go.Proofs.Tryz.prog 25 i := by
  intro i h; cases h
  exact TIOk.of Go.Proofs.Tryz.underlying25 (by first | rfl | trivial) (by kernel_rfl) rfl (fun h => by cases h)
theorem tok_26 : ∀ i : TI, some (⟨(.struct [(0, 4), (1, 25), (2, 25)]), (.cons .bool (.cons (.slice (.int .i64)) (.cons (.slice (.int .i64)) .nil))), 3, 56, false⟩ : TI) = some i → TIOk Go.Proofs.Tryz.prog 26 i := by
  intro i h; cases h
  exact TIOk.of Go.Proofs.Tryz.underlying26 (by first | rfl | trivial) (by kernel_rfl) rfl (fun h => by cases h)
theorem tok_27 : ∀ i : TI, some (⟨(.struct [(0, 4), (1, 25), (2, 25)]), (.cons .bool (.cons (.slice (.int .i64)) (.cons (.slice (.int .i64)) .nil))), 3, 56, false⟩ : TI) = some i → TIOk Go.Proofs.Tryz.prog 27 i := by
  intro i h; cases h
  exact TIOk.of Go.Proofs.Tryz.underlying27 (by first | rfl | trivial) (by kernel_rfl) rfl (fun h => by cases h)
theorem tok_37 : ∀ i : TI, some (⟨(.slice 27), (.slice (.cons .bool (.cons (.slice (.int .i64)) (.cons (.slice (.int .i64)) .nil)))), 1, 24, false⟩ : TI) = some i → TIOk Go.Proofs.Tryz.prog 37 i := by
  intro i h; cases h
  exact TIOk.of Go.Proofs.Tryz.underlying37 (by first | rfl | trivial) (by kernel_rfl) rfl (fun h => by cases h)
theorem tok_45 : ∀ i : TI, some (⟨(.struct [(0, 3), (1, 3)]), (.cons (.int .i64) (.cons (.int .i64) .nil)), 2, 16, true⟩ : TI) = some i → TIOk Go.Proofs.Tryz.prog 45 i := by
  intro i h; cases h
  exact TIOk.of Go.Proofs.Tryz.underlying45 rfl (by kernel_rfl) rfl (fun _ => eqOk_flat Go.Proofs.Tryz.underlying45 (by kernel_rfl) (by kernel_rfl) ⟨rfl, by decide, ⟨_, Go.Proofs.Tryz.underlying3⟩, ⟨rfl, by decide, ⟨_, Go.Proofs.Tryz.underlying3⟩, trivial⟩⟩)
theorem tok_46 : ∀ i : TI, some (⟨(.struct [(0, 3), (1, 3)]), (.cons (.int .i64) (.cons (.int .i64) .nil)), 2, 16, true⟩ : TI) = some i → TIOk Go.Proofs.Tryz.prog 46 i := by
  intro i h; cases h
  exact TIOk.of Go.Proofs.Tryz.underlying46 rfl (by kernel_rfl) rfl (fun _ => eqOk_flat Go.Proofs.Tryz.underlying46 (by kernel_rfl) (by kernel_rfl) ⟨rfl, by decide, ⟨_, Go.Proofs.Tryz.underlying3⟩, ⟨rfl, by decide, ⟨_, Go.Proofs.Tryz.underlying3⟩, trivial⟩⟩)
theorem tok_71 : ∀ i : TI, some (⟨(.int .u64), (.int .u64), 1, 8, false⟩ : TI) = some i → TIOk Go.Proofs.Tryz.prog 71 i := by
  intro i h; cases h
  exact TIOk.of Go.Proofs.Tryz.underlying71 (by first | rfl | trivial) (by kernel_rfl) rfl (fun h => by cases h)
theorem tok_72 : ∀ i : TI, some (⟨(.struct [(0, 4), (1, 71), (2, 3)]), (.cons .bool (.cons (.int .u64) (.cons (.int .i64) .nil))), 3, 24, true⟩ : TI) = some i → TIOk Go.Proofs.Tryz.prog 72 i := by
  intro i h; cases h
  exact TIOk.of Go.Proofs.Tryz.underlying72 rfl (by kernel_rfl) rfl (fun _ => eqOk_flat Go.Proofs.Tryz.underlying72 (by kernel_rfl) (by kernel_rfl) ⟨rfl, by decide, Go.Proofs.Tryz.underlying4, ⟨rfl, by decide, ⟨_, Go.Proofs.Tryz.underlying71⟩, ⟨rfl, by decide, ⟨_, Go.Proofs.Tryz.underlying3⟩, trivial⟩⟩⟩)
theorem tok_73 : ∀ i : TI, some (⟨(.struct [(0, 4), (1, 71), (2, 3)]), (.cons .bool (.cons (.int .u64) (.cons (.int .i64) .nil))), 3, 24, true⟩ : TI) = some i → TIOk Go.Proofs.Tryz.prog 73 i := by
  intro i h; cases h
  exact TIOk.of Go.Proofs.Tryz.underlying73 rfl (by kernel_rfl) rfl (fun _ => eqOk_flat Go.Proofs.Tryz.underlying73 (by kernel_rfl) (by kernel_rfl) ⟨rfl, by decide, Go.Proofs.Tryz.underlying4, ⟨rfl, by decide, ⟨_, Go.Proofs.Tryz.underlying71⟩, ⟨rfl, by decide, ⟨_, Go.Proofs.Tryz.underlying3⟩, trivial⟩⟩⟩)
theorem tok_76 : ∀ i : TI, some (⟨(.struct [(0, 4), (1, 25), (2, 25)]), (.cons .bool (.cons (.slice (.int .i64)) (.cons (.slice (.int .i64)) .nil))), 3, 56, false⟩ : TI) = some i → TIOk Go.Proofs.Tryz.prog 76 i := by
  intro i h; cases h
  exact TIOk.of Go.Proofs.Tryz.underlying76 (by first | rfl | trivial) (by kernel_rfl) rfl (fun h => by cases h)
theorem tok_77 : ∀ i : TI, some (⟨(.struct [(0, 4), (1, 25), (2, 25)]), (.cons .bool (.cons (.slice (.int .i64)) (.cons (.slice (.int .i64)) .nil))), 3, 56, false⟩ : TI) = some i → TIOk Go.Proofs.Tryz.prog 77 i := by
  intro i h; cases h
  exact TIOk.of Go.Proofs.Tryz.underlying77 (by first | rfl | trivial) (by kernel_rfl) rfl (fun h => by cases h)
theorem tok_81 : ∀ i : TI, some (⟨(.struct [(0, 3), (1, 27)]), (.cons (.int .i64) (.cons (.cons .bool (.cons (.slice (.int .i64)) (.cons (.slice (.int .i64)) .nil))) .nil)), 4, 64, false⟩ : TI) = some i → TIOk Go.Proofs.Tryz.prog 81 i := by
  intro i h; cases h
  exact TIOk.of Go.Proofs.Tryz.underlying81 (by first | rfl | trivial) (by kernel_rfl) rfl (fun h => by cases h)
theorem tok_82 : ∀ i : TI, some (⟨(.struct [(0, 3), (1, 27)]), (.cons (.int .i64) (.cons (.cons .bool (.cons (.slice (.int .i64)) (.cons (.slice (.int .i64)) .nil))) .nil)), 4, 64, false⟩ : TI) = some i → TIOk Go.Proofs.Tryz.prog 82 i := by
  intro i h; cases h
  exact TIOk.of Go.Proofs.Tryz.underlying82 (by first | rfl | trivial) (by kernel_rfl) rfl (fun h => by cases h)
theorem tok_121 : ∀ i : TI, some (⟨(.struct [(0, 22), (1, 3)]), (.cons (.slice (.int .u8)) (.cons (.int .i64) .nil)), 2, 32, false⟩ : TI) = some i → TIOk Go.Proofs.Tryz.prog 121 i := by
  intro i h; cases h
  exact TIOk.of Go.Proofs.Tryz.underlying121 (by first | rfl | trivial) (by kernel_rfl) rfl (fun h => by cases h)
theorem tok_122 : ∀ i : TI, some (⟨(.struct [(0, 22), (1, 3)]), (.cons (.slice (.int .u8)) (.cons (.int .i64) .nil)), 2, 32, false⟩ : TI) = some i → TIOk Go.Proofs.Tryz.prog 122 i := by
  intro i h; cases h
  exact TIOk.of Go.Proofs.Tryz.underlying122 (by first | rfl | trivial) (by kernel_rfl) rfl (fun h => by cases h)
theorem tok_124 : ∀ i : TI, some (⟨(.int .u64), (.int .u64), 1, 8, false⟩ : TI) = some i → TIOk Go.Proofs.Tryz.prog 124 i := by
  intro i h; cases h
  exact TIOk.of Go.Proofs.Tryz.underlying124 (by first | rfl | trivial) (by kernel_rfl) rfl (fun h => by cases h)
theorem tok_128 : ∀ i : TI, some (⟨(.slice 24), (.slice (.cons .bool (.cons (.int .i64) (.cons (.int .i64) .nil)))), 1, 24, false⟩ : TI) = some i → TIOk Go.Proofs.Tryz.prog 128 i := by
  intro i h; cases h
  exact TIOk.of Go.Proofs.Tryz.underlying128 (by first | rfl | trivial) (by kernel_rfl) rfl (fun h => by cases h)
theorem tok_142 : ∀ i : TI, some (⟨(.struct [(0, 3), (1, 3), (2, 3), (3, 3)]), (.cons (.int .i64) (.cons (.int .i64) (.cons (.int .i64) (.cons (.int .i64) .nil)))), 4, 32, true⟩ : TI) = some i → TIOk Go.Proofs.Tryz.prog 142 i := by
  intro i h; cases h
  exact TIOk.of Go.Proofs.Tryz.underlying142 rfl (by kernel_rfl) rfl (fun _ => eqOk_flat Go.Proofs.Tryz.underlying142 (by kernel_rfl) (by kernel_rfl) ⟨rfl, by decide, ⟨_, Go.Proofs.Tryz.underlying3⟩, ⟨rfl, by decide, ⟨_, Go.Proofs.Tryz.underlying3⟩, ⟨rfl, by decide, ⟨_, Go.Proofs.Tryz.underlying3⟩, ⟨rfl, by decide, ⟨_, Go.Proofs.Tryz.underlying3⟩, trivial⟩⟩⟩⟩)
theorem tok_143 : ∀ i : TI, some (⟨(.struct [(0, 3), (1, 3), (2, 3), (3, 3)]), (.cons (.int .i64) (.cons (.int .i64) (.cons (.int .i64) (.cons (.int .i64) .nil)))), 4, 32, true⟩ : TI) = some i → TIOk Go.Proofs.Tryz.prog 143 i := by
  intro i h; cases h
  exact TIOk.of Go.Proofs.Tryz.underlying143 rfl (by kernel_rfl) rfl (fun _ => eqOk_flat Go.Proofs.Tryz.underlying143 (by kernel_rfl) (by kernel_rfl) ⟨rfl, by decide, ⟨_, Go.Proofs.Tryz.underlying3⟩, ⟨rfl, by decide, ⟨_, Go.Proofs.Tryz.underlying3⟩, ⟨rfl, by decide, ⟨_, Go.Proofs.Tryz.underlying3⟩, ⟨rfl, by decide, ⟨_, Go.Proofs.Tryz.underlying3⟩, trivial⟩⟩⟩⟩)
theorem tok_180 : ∀ i : TI, some (⟨(.int .u32), (.int .u32), 1, 4, false⟩ : TI) = some i → TIOk Go.Proofs.Tryz.prog 180 i := by
  intro i h; cases h
  exact TIOk.of Go.Proofs.Tryz.underlying180 (by first | rfl | trivial) (by kernel_rfl) rfl (fun h => by cases h)
theorem tok_190 : ∀ i : TI, some (⟨.err, .err, 1, 16, false⟩ : TI) = some i → TIOk Go.Proofs.Tryz.prog 190 i := by
  intro i h; cases h
  exact TIOk.of Go.Proofs.Tryz.underlying190 (by first | rfl | trivial) (by kernel_rfl) rfl (fun h => by cases h)
theorem tok_199 : ∀ i : TI, some (⟨(.slice 25), (.slice (.slice (.int .i64))), 1, 24, false⟩ : TI) = some i → TIOk Go.Proofs.Tryz.prog 199 i := by
  intro i h; cases h
  exact TIOk.of Go.Proofs.Tryz.underlying199 (by first | rfl | trivial) (by kernel_rfl) rfl (fun h => by cases h)
theorem tok_201 : ∀ i : TI, some (⟨(.array 64 5), (.cons (.int .u8) (.cons (.int .u8) (.cons (.int .u8) (.cons (.int .u8) (.cons (.int .u8) (.cons (.int .u8) (.cons (.int .u8) (.cons (.int .u8) (.cons (.int .u8) (.cons (.int .u8) (.cons (.int .u8) (.cons (.int .u8) (.cons (.int .u8) (.cons (.int .u8) (.cons (.int .u8) (.cons (.int .u8) (.cons (.int .u8) (.cons (.int .u8) (.cons (.int .u8) (.cons (.int .u8) (.cons (.int .u8) (.cons (.int .u8) (.cons (.int .u8) (.cons (.int .u8) (.cons (.int .u8) (.cons (.int .u8) (.cons (.int .u8) (.cons (.int .u8) (.cons (.int .u8) (.cons (.int .u8) (.cons (.int .u8) (.cons (.int .u8) (.cons (.int .u8) (.cons (.int .u8) (.cons (.int .u8) (.cons (.int .u8) (.cons (.int .u8) (.cons (.int .u8) (.cons (.int .u8) (.cons (.int .u8) (.cons (.int .u8) (.cons (.int .u8) (.cons (.int .u8) (.cons (.int .u8) (.cons (.int .u8) (.cons (.int .u8) (.cons (.int .u8) (.cons (.int .u8) (.cons (.int .u8) (.cons (.int .u8) (.cons (.int .u8) (.cons (.int .u8) (.cons (.int .u8) (.cons (.int .u8) (.cons (.int .u8) (.cons (.int .u8) (.cons (.int .u8) (.cons (.int .u8) (.cons (.int .u8) (.cons (.int .u8) (.cons (.int .u8) (.cons (.int .u8) (.cons (.int .u8) (.cons (.int .u8) .nil)))))))))))))))))))))))))))))))))))))))))))))))))))))))))))))))), 64, 64, false⟩ : TI) = some i → TIOk Go.Proofs.Tryz.prog 201 i := by
  intro i h; cases h
  exact TIOk.of Go.Proofs.Tryz.underlying201 (by first | rfl | trivial) (by kernel_rfl) rfl (fun h => by cases h)
theorem tok_208 : ∀ i : TI, some (⟨(.array 24 5), (.cons (.int .u8) (.cons (.int .u8) (.cons (.int .u8) (.cons (.int .u8) (.cons (.int .u8) (.cons (.int .u8) (.cons (.int .u8) (.cons (.int .u8) (.cons (.int .u8) (.cons (.int .u8) (.cons (.int .u8) (.cons (.int .u8) (.cons (.int .u8) (.cons (.int .u8) (.cons (.int .u8) (.cons (.int .u8) (.cons (.int .u8) (.cons (.int .u8) (.cons (.int .u8) (.cons (.int .u8) (.cons (.int .u8) (.cons (.int .u8) (.cons (.int .u8) (.cons (.int .u8) .nil)))))))))))))))))))))))), 24, 24, false⟩ : TI) = some i → TIOk Go.Proofs.Tryz.prog 208 i := by
  intro i h; cases h
  exact TIOk.of Go.Proofs.Tryz.underlying208 (by first | rfl | trivial) (by kernel_rfl) rfl (fun h => by cases h)
theorem tok_221 : ∀ i : TI, some (⟨(.array 20 71), (.cons (.int .u64) (.cons (.int .u64) (.cons (.int .u64) (.cons (.int .u64) (.cons (.int .u64) (.cons (.int .u64) (.cons (.int .u64) (.cons (.int .u64) (.cons (.int .u64) (.cons (.int .u64) (.cons (.int .u64) (.cons (.int .u64) (.cons (.int .u64) (.cons (.int .u64) (.cons (.int .u64) (.cons (.int .u64) (.cons (.int .u64) (.cons (.int .u64) (.cons (.int .u64) (.cons (.int .u64) .nil)))))))))))))))))))), 20, 160, false⟩ : TI) = some i → TIOk Go.Proofs.Tryz.prog 221 i := by
  intro i h; cases h
  exact TIOk.of Go.Proofs.Tryz.underlying221 (by first | rfl | trivial) (by kernel_rfl) rfl (fun h => by cases h)
theorem tok_225 : ∀ i : TI, some (⟨(.struct [(0, 5), (1, 5)]), (.cons (.int .u8) (.cons (.int .u8) .nil)), 2, 2, true⟩ : TI) = some i → TIOk Go.Proofs.Tryz.prog 225 i := by
  intro i h; cases h
  exact TIOk.of Go.Proofs.Tryz.underlying225 rfl (by kernel_rfl) rfl (fun _ => eqOk_flat Go.Proofs.Tryz.underlying225 (by kernel_rfl) (by kernel_rfl) ⟨rfl, by decide, ⟨_, Go.Proofs.Tryz.underlying5⟩, ⟨rfl, by decide, ⟨_, Go.Proofs.Tryz.underlying5⟩, trivial⟩⟩)
theorem tok_226 : ∀ i : TI, some (⟨(.struct [(0, 5), (1, 5)]), (.cons (.int .u8) (.cons (.int .u8) .nil)), 2, 2, true⟩ : TI) = some i → TIOk Go.Proofs.Tryz.prog 226 i := by
  intro i h; cases h
  exact TIOk.of Go.Proofs.Tryz.underlying226 rfl (by kernel_rfl) rfl (fun _ => eqOk_flat Go.Proofs.Tryz.underlying226 (by kernel_rfl) (by kernel_rfl) ⟨rfl, by decide, ⟨_, Go.Proofs.Tryz.underlying5⟩, ⟨rfl, by decide, ⟨_, Go.Proofs.Tryz.underlying5⟩, trivial⟩⟩)
theorem tok_227 : ∀ i : TI, some (⟨(.array 16 226), (.cons (.cons (.int .u8) (.cons (.int .u8) .nil)) (.cons (.cons (.int .u8) (.cons (.int .u8) .nil)) (.cons (.cons (.int .u8) (.cons (.int .u8) .nil)) (.cons (.cons (.int .u8) (.cons (.int .u8) .nil)) (.cons (.cons (.int .u8) (.cons (.int .u8) .nil)) (.cons (.cons (.int .u8) (.cons (.int .u8) .nil)) (.cons (.cons (.int .u8) (.cons (.int .u8) .nil)) (.cons (.cons (.int .u8) (.cons (.int .u8) .nil)) (.cons (.cons (.int .u8) (.cons (.int .u8) .nil)) (.cons (.cons (.int .u8) (.cons (.int .u8) .nil)) (.cons (.cons (.int .u8) (.cons (.int .u8) .nil)) (.cons (.cons (.int .u8) (.cons (.int .u8) .nil)) (.cons (.cons (.int .u8) (.cons (.int .u8) .nil)) (.cons (.cons (.int .u8) (.cons (.int .u8) .nil)) (.cons (.cons (.int .u8) (.cons (.int .u8) .nil)) (.cons (.cons (.int .u8) (.cons (.int .u8) .nil)) .nil)))))))))))))))), 32, 32, false⟩ : TI) = some i → TIOk Go.Proofs.Tryz.prog 227 i := by
  intro i h; cases h
  exact TIOk.of Go.Proofs.Tryz.underlying227 (by first | rfl | trivial) (by kernel_rfl) rfl (fun h => by cases h)
theorem tok_228 : ∀ i : TI, some (⟨(.array 32 5), (.cons (.int .u8) (.cons (.int .u8) (.cons (.int .u8) (.cons (.int .u8) (.cons (.int .u8) (.cons (.int .u8) (.cons (.int .u8) (.cons (.int .u8) (.cons (.int .u8) (.cons (.int .u8) (.cons (.int .u8) (.cons (.int .u8) (.cons (.int .u8) (.cons (.int .u8) (.cons (.int .u8) (.cons (.int .u8) (.cons (.int .u8) (.cons (.int .u8) (.cons (.int .u8) (.cons (.int .u8) (.cons (.int .u8) (.cons (.int .u8) (.cons (.int .u8) (.cons (.int .u8) (.cons (.int .u8) (.cons (.int .u8) (.cons (.int .u8) (.cons (.int .u8) (.cons (.int .u8) (.cons (.int .u8) (.cons (.int .u8) (.cons (.int .u8) .nil)))))))))))))))))))))))))))))))), 32, 32, false⟩ : TI) = some i → TIOk Go.Proofs.Tryz.prog 228 i := by
  intro i h; cases h
  exact TIOk.of Go.Proofs.Tryz.underlying228 (by first | rfl | trivial) (by kernel_rfl) rfl (fun h => by cases h)
theorem tok_234 : ∀ i : TI, some (⟨(.int .u8), (.int .u8), 1, 1, false⟩ : TI) = some i → TIOk Go.Proofs.Tryz.prog 234 i := by
  intro i h; cases h
  exact TIOk.of Go.Proofs.Tryz.underlying234 (by first | rfl | trivial) (by kernel_rfl) rfl (fun h => by cases h)
theorem tok_235 : ∀ i : TI, some (⟨(.int .u8), (.int .u8), 1, 1, false⟩ : TI) = some i → TIOk Go.Proofs.Tryz.prog 235 i := by
  intro i h; cases h
  exact TIOk.of Go.Proofs.Tryz.underlying235 (by first | rfl | trivial) (by kernel_rfl) rfl (fun h => by cases h)
theorem tok_237 : ∀ i : TI, some (⟨(.int .i32), (.int .i32), 1, 4, false⟩ : TI) = some i → TIOk Go.Proofs.Tryz.prog 237 i := by
  intro i h; cases h
  exact TIOk.of Go.Proofs.Tryz.underlying237 (by first | rfl | trivial) (by kernel_rfl) rfl (fun h => by cases h)
theorem tok_238 : ∀ i : TI, some (⟨(.int .i32), (.int .i32), 1, 4, false⟩ : TI) = some i → TIOk Go.Proofs.Tryz.prog 238 i := by
  intro i h; cases h
  exact TIOk.of Go.Proofs.Tryz.underlying238 (by first | rfl | trivial) (by kernel_rfl) rfl (fun h => by cases h)
theorem allT : AllT Go.Proofs.Tryz.prog T := ⟨tok_2, tok_3, tok_4, tok_5, tok_6, tok_7, tok_8, tok_9, tok_10, tok_11, tok_12, tok_13, tok_14, tok_21, tok_22, tok_23, tok_24, tok_25, tok_26, tok_27, tok_37, tok_45, tok_46, tok_71, tok_72, tok_73, tok_76, tok_77, tok_81, tok_82, tok_121, tok_122, tok_124, tok_128, tok_142, tok_143, tok_180, tok_190, tok_199, tok_201, tok_208, tok_221, tok_225, tok_226, tok_227, tok_228, tok_234, tok_235, tok_237, tok_238, trivial⟩
theorem seat_T : TOk Go.Proofs.Tryz.prog T := fun t i h => allT.mem t i (look_mem h)
theorem fok_11 : ∀ fn : Func, some Go.Proofs.Tryz.f11 = some fn → FOk Go.Proofs.Tryz.prog 11 fn := by
  intro fn h; cases h; exact ⟨Go.Proofs.Tryz.func11, by kernel_rfl, by kernel_rfl⟩
theorem fok_12 : ∀ fn : Func, some Go.Proofs.Tryz.f12 = some fn → FOk Go.Proofs.Tryz.prog 12 fn := by
  intro fn h; cases h; exact ⟨Go.Proofs.Tryz.func12, by kernel_rfl, by kernel_rfl⟩
theorem fok_13 : ∀ fn : Func, some Go.Proofs.Tryz.f13 = some fn → FOk Go.Proofs.Tryz.prog 13 fn := by
  intro fn h; cases h; exact ⟨Go.Proofs.Tryz.func13, by kernel_rfl, by kernel_rfl⟩
theorem fok_14 : ∀ fn : Func, some Go.Proofs.Tryz.f14 = some fn → FOk Go.Proofs.Tryz.prog 14 fn := by
  intro fn h; cases h; exact ⟨Go.Proofs.Tryz.func14, by kernel_rfl, by kernel_rfl⟩
theorem fok_16 : ∀ fn : Func, some Go.Proofs.Tryz.f16 = some fn → FOk Go.Proofs.Tryz.prog 16 fn := by
  intro fn h; cases h; exact ⟨Go.Proofs.Tryz.func16, by kernel_rfl, by kernel_rfl⟩
theorem fok_19 : ∀ fn : Func, some Go.Proofs.Tryz.f19 = some fn → FOk Go.Proofs.Tryz.prog 19 fn := by
  intro fn h; cases h; exact ⟨Go.Proofs.Tryz.func19, by kernel_rfl, by kernel_rfl⟩
theorem fok_20 : ∀ fn : Func, some Go.Proofs.Tryz.f20 = some fn → FOk Go.Proofs.Tryz.prog 20 fn := by
  intro fn h; cases h; exact ⟨Go.Proofs.Tryz.func20, by kernel_rfl, by kernel_rfl⟩
theorem fok_21 : ∀ fn : Func, some Go.Proofs.Tryz.f21 = some fn → FOk Go.Proofs.Tryz.prog 21 fn := by
  intro fn h; cases h; exact ⟨Go.Proofs.Tryz.func21, by kernel_rfl, by kernel_rfl⟩
theorem fok_22 : ∀ fn : Func, some Go.Proofs.Tryz.f22 = some fn → FOk Go.Proofs.Tryz.prog 22 fn := by
  intro fn h; cases h; exact ⟨Go.Proofs.Tryz.func22, by kernel_rfl, by kernel_rfl⟩
theorem fok_23 : ∀ fn : Func, some Go.Proofs.Tryz.f23 = some fn → FOk Go.Proofs.Tryz.prog 23 fn := by
  intro fn h; cases h; exact ⟨Go.Proofs.Tryz.func23, by kernel_rfl, by kernel_rfl⟩
theorem fok_24 : ∀ fn : Func, some Go.Proofs.Tryz.f24 = some fn → FOk Go.Proofs.Tryz.prog 24 fn := by
  intro fn h; cases h; exact ⟨Go.Proofs.Tryz.func24, by kernel_rfl, by kernel_rfl⟩
theorem fok_26 : ∀ fn : Func, some Go.Proofs.Tryz.f26 = some fn → FOk Go.Proofs.Tryz.prog 26 fn := by
  intro fn h; cases h; exact ⟨Go.Proofs.Tryz.func26, by kernel_rfl, by kernel_rfl⟩
theorem fok_28 : ∀ fn : Func, some Go.Proofs.Tryz.f28 = some fn → FOk Go.Proofs.Tryz.prog 28 fn := by
  intro fn h; cases h; exact ⟨Go.Proofs.Tryz.func28, by kernel_rfl, by kernel_rfl⟩
theorem fok_29 : ∀ fn : Func, some Go.Proofs.Tryz.f29 = some fn → FOk Go.Proofs.Tryz.prog 29 fn := by
  intro fn h; cases h; exact ⟨Go.Proofs.Tryz.func29, by kernel_rfl, by kernel_rfl⟩
theorem fok_32 : ∀ fn : Func, some Go.Proofs.Tryz.f32 = some fn → FOk Go.Proofs.Tryz.prog 32 fn := by
  intro fn h; cases h; exact ⟨Go.Proofs.Tryz.func32, by kernel_rfl, by kernel_rfl⟩
theorem fok_33 : ∀ fn : Func, some Go.Proofs.Tryz.f33 = some fn → FOk Go.Proofs.Tryz.prog 33 fn := by
  intro fn h; cases h; exact ⟨Go.Proofs.Tryz.func33, by kernel_rfl, by kernel_rfl⟩
theorem fok_36 : ∀ fn : Func, some Go.Proofs.Tryz.f36 = some fn → FOk Go.Proofs.Tryz.prog 36 fn := by
  intro fn h; cases h; exact ⟨Go.Proofs.Tryz.func36, by kernel_rfl, by kernel_rfl⟩
theorem fok_37 : ∀ fn : Func, some Go.Proofs.Tryz.f37 = some fn → FOk Go.Proofs.Tryz.prog 37 fn := by
  intro fn h; cases h; exact ⟨Go.Proofs.Tryz.func37, by kernel_rfl, by kernel_rfl⟩
theorem fok_39 : ∀ fn : Func, some Go.Proofs.Tryz.f39 = some fn → FOk Go.Proofs.Tryz.prog 39 fn := by
  intro fn h; cases h; exact ⟨Go.Proofs.Tryz.func39, by kernel_rfl, by kernel_rfl⟩
theorem fok_44 : ∀ fn : Func, some Go.Proofs.Tryz.f44 = some fn → FOk Go.Proofs.Tryz.prog 44 fn := by
  intro fn h; cases h; exact ⟨Go.Proofs.Tryz.func44, by kernel_rfl, by kernel_rfl⟩
theorem fok_45 : ∀ fn : Func, some Go.Proofs.Tryz.f45 = some fn → FOk Go.Proofs.Tryz.prog 45 fn := by
  intro fn h; cases h; exact ⟨Go.Proofs.Tryz.func45, by kernel_rfl, by kernel_rfl⟩
theorem fok_46 : ∀ fn : Func, some Go.Proofs.Tryz.f46 = some fn → FOk Go.Proofs.Tryz.prog 46 fn := by
  intro fn h; cases h; exact ⟨Go.Proofs.Tryz.func46, by kernel_rfl, by kernel_rfl⟩
theorem fok_48 : ∀ fn : Func, some Go.Proofs.Tryz.f48 = some fn → FOk Go.Proofs.Tryz.prog 48 fn := by
  intro fn h; cases h; exact ⟨Go.Proofs.Tryz.func48, by kernel_rfl, by kernel_rfl⟩
theorem fok_49 : ∀ fn : Func, some Go.Proofs.Tryz.f49 = some fn → FOk Go.Proofs.Tryz.prog 49 fn := by
  intro fn h; cases h; exact ⟨Go.Proofs.Tryz.func49, by kernel_rfl, by kernel_rfl⟩
theorem fok_51 : ∀ fn : Func, some Go.Proofs.Tryz.f51 = some fn → FOk Go.Proofs.Tryz.prog 51 fn := by
  intro fn h; cases h; exact ⟨Go.Proofs.Tryz.func51, by kernel_rfl, by kernel_rfl⟩
theorem fok_53 : ∀ fn : Func, some Go.Proofs.Tryz.f53 = some fn → FOk Go.Proofs.Tryz.prog 53 fn := by
  intro fn h; cases h; exact ⟨Go.Proofs.Tryz.func53, by kernel_rfl, by kernel_rfl⟩
theorem fok_54 : ∀ fn : Func, some Go.Proofs.Tryz.f54 = some fn → FOk Go.Proofs.Tryz.prog 54 fn := by
  intro fn h; cases h; exact ⟨Go.Proofs.Tryz.func54, by kernel_rfl, by kernel_rfl⟩
theorem fok_55 : ∀ fn : Func, some Go.Proofs.Tryz.f55 = some fn → FOk Go.Proofs.Tryz.prog 55 fn := by
  intro fn h; cases h; exact ⟨Go.Proofs.Tryz.func55, by kernel_rfl, by kernel_rfl⟩
theorem fok_56 : ∀ fn : Func, some Go.Proofs.Tryz.f56 = some fn → FOk Go.Proofs.Tryz.prog 56 fn := by
  intro fn h; cases h; exact ⟨Go.Proofs.Tryz.func56, by kernel_rfl, by kernel_rfl⟩
theorem fok_57 : ∀ fn : Func, some Go.Proofs.Tryz.f57 = some fn → FOk Go.Proofs.Tryz.prog 57 fn := by
  intro fn h; cases h; exact ⟨Go.Proofs.Tryz.func57, by kernel_rfl, by kernel_rfl⟩
theorem fok_58 : ∀ fn : Func, some Go.Proofs.Tryz.f58 = some fn → FOk Go.Proofs.Tryz.prog 58 fn := by
  intro fn h; cases h; exact ⟨Go.Proofs.Tryz.func58, by kernel_rfl, by kernel_rfl⟩
theorem fok_59 : ∀ fn : Func, some Go.Proofs.Tryz.f59 = some fn → FOk Go.Proofs.Tryz.prog 59 fn := by
  intro fn h; cases h; exact ⟨Go.Proofs.Tryz.func59, by kernel_rfl, by kernel_rfl⟩
theorem fok_60 : ∀ fn : Func, some Go.Proofs.Tryz.f60 = some fn → FOk Go.Proofs.Tryz.prog 60 fn := by
  intro fn h; cases h; exact ⟨Go.Proofs.Tryz.func60, by kernel_rfl, by kernel_rfl⟩
theorem fok_61 : ∀ fn : Func, some Go.Proofs.Tryz.f61 = some fn → FOk Go.Proofs.Tryz.prog 61 fn := by
  intro fn h; cases h; exact ⟨Go.Proofs.Tryz.func61, by kernel_rfl, by kernel_rfl⟩
theorem fok_62 : ∀ fn : Func, some Go.Proofs.Tryz.f62 = some fn → FOk Go.Proofs.Tryz.prog 62 fn := by
  intro fn h; cases h; exact ⟨Go.Proofs.Tryz.func62, by kernel_rfl, by kernel_rfl⟩
theorem fok_63 : ∀ fn : Func, some Go.Proofs.Tryz.f63 = some fn → FOk Go.Proofs.Tryz.prog 63 fn := by
  intro fn h; cases h; exact ⟨Go.Proofs.Tryz.func63, by kernel_rfl, by kernel_rfl⟩
theorem fok_64 : ∀ fn : Func, some Go.Proofs.Tryz.f64 = some fn → FOk Go.Proofs.Tryz.prog 64 fn := by
  intro fn h; cases h; exact ⟨Go.Proofs.Tryz.func64, by kernel_rfl, by kernel_rfl⟩
theorem fok_65 : ∀ fn : Func, some Go.Proofs.Tryz.f65 = some fn → FOk Go.Proofs.Tryz.prog 65 fn := by
  intro fn h; cases h; exact ⟨Go.Proofs.Tryz.func65, by kernel_rfl, by kernel_rfl⟩
theorem fok_66 : ∀ fn : Func, some Go.Proofs.Tryz.f66 = some fn → FOk Go.Proofs.Tryz.prog 66 fn := by
  intro fn h; cases h; exact ⟨Go.Proofs.Tryz.func66, by kernel_rfl, by kernel_rfl⟩
theorem fok_67 : ∀ fn : Func, some Go.Proofs.Tryz.f67 = some fn → FOk Go.Proofs.Tryz.prog 67 fn := by
  intro fn h; cases h; exact ⟨Go.Proofs.Tryz.func67, by kernel_rfl, by kernel_rfl⟩
theorem fok_68 : ∀ fn : Func, some Go.Proofs.Tryz.f68 = some fn → FOk Go.Proofs.Tryz.prog 68 fn := by
  intro fn h; cases h; exact ⟨Go.Proofs.Tryz.func68, by kernel_rfl, by kernel_rfl⟩
theorem fok_69 : ∀ fn : Func, some Go.Proofs.Tryz.f69 = some fn → FOk Go.Proofs.Tryz.prog 69 fn := by
  intro fn h; cases h; exact ⟨Go.Proofs.Tryz.func69, by kernel_rfl, by kernel_rfl⟩
theorem fok_70 : ∀ fn : Func, some Go.Proofs.Tryz.f70 = some fn → FOk Go.Proofs.Tryz.prog 70 fn := by
  intro fn h; cases h; exact ⟨Go.Proofs.Tryz.func70, by kernel_rfl, by kernel_rfl⟩
theorem fok_71 : ∀ fn : Func, some Go.Proofs.Tryz.f71 = some fn → FOk Go.Proofs.Tryz.prog 71 fn := by
  intro fn h; cases h; exact ⟨Go.Proofs.Tryz.func71, by kernel_rfl, by kernel_rfl⟩
theorem fok_72 : ∀ fn : Func, some Go.Proofs.Tryz.f72 = some fn → FOk Go.Proofs.Tryz.prog 72 fn := by
  intro fn h; cases h; exact ⟨Go.Proofs.Tryz.func72, by kernel_rfl, by kernel_rfl⟩
theorem fok_74 : ∀ fn : Func, some Go.Proofs.Tryz.f74 = some fn → FOk Go.Proofs.Tryz.prog 74 fn := by
  intro fn h; cases h; exact ⟨Go.Proofs.Tryz.func74, by kernel_rfl, by kernel_rfl⟩
theorem fok_76 : ∀ fn : Func, some Go.Proofs.Tryz.f76 = some fn → FOk Go.Proofs.Tryz.prog 76 fn := by
  intro fn h; cases h; exact ⟨Go.Proofs.Tryz.func76, by kernel_rfl, by kernel_rfl⟩
theorem fok_77 : ∀ fn : Func, some Go.Proofs.Tryz.f77 = some fn → FOk Go.Proofs.Tryz.prog 77 fn := by
  intro fn h; cases h; exact ⟨Go.Proofs.Tryz.func77, by kernel_rfl, by kernel_rfl⟩
theorem fok_78 : ∀ fn : Func, some Go.Proofs.Tryz.f78 = some fn → FOk Go.Proofs.Tryz.prog 78 fn := by
  intro fn h; cases h; exact ⟨Go.Proofs.Tryz.func78, by kernel_rfl, by kernel_rfl⟩
theorem fok_79 : ∀ fn : Func, some Go.Proofs.Tryz.f79 = some fn → FOk Go.Proofs.Tryz.prog 79 fn := by
  intro fn h; cases h; exact ⟨Go.Proofs.Tryz.func79, by kernel_rfl, by kernel_rfl⟩
theorem fok_82 : ∀ fn : Func, some Go.Proofs.Tryz.f82 = some fn → FOk Go.Proofs.Tryz.prog 82 fn := by
  intro fn h; cases h; exact ⟨Go.Proofs.Tryz.func82, by kernel_rfl, by kernel_rfl⟩
theorem fok_83 : ∀ fn : Func, some Go.Proofs.Tryz.f83 = some fn → FOk Go.Proofs.Tryz.prog 83 fn := by
  intro fn h; cases h; exact ⟨Go.Proofs.Tryz.func83, by kernel_rfl, by kernel_rfl⟩
theorem fok_84 : ∀ fn : Func, some Go.Proofs.Tryz.f84 = some fn → FOk Go.Proofs.Tryz.prog 84 fn := by
  intro fn h; cases h; exact ⟨Go.Proofs.Tryz.func84, by kernel_rfl, by kernel_rfl⟩
theorem fok_85 : ∀ fn : Func, some Go.Proofs.Tryz.f85 = some fn → FOk Go.Proofs.Tryz.prog 85 fn := by
  intro fn h; cases h; exact ⟨Go.Proofs.Tryz.func85, by kernel_rfl, by kernel_rfl⟩
theorem fok_86 : ∀ fn : Func, some Go.Proofs.Tryz.f86 = some fn → FOk Go.Proofs.Tryz.prog 86 fn := by
  intro fn h; cases h; exact ⟨Go.Proofs.Tryz.func86, by kernel_rfl, by kernel_rfl⟩
theorem fok_87 : ∀ fn : Func, some Go.Proofs.Tryz.f87 = some fn → FOk Go.Proofs.Tryz.prog 87 fn := by
  intro fn h; cases h; exact ⟨Go.Proofs.Tryz.func87, by kernel_rfl, by kernel_rfl⟩
theorem fok_88 : ∀ fn : Func, some Go.Proofs.Tryz.f88 = some fn → FOk Go.Proofs.Tryz.prog 88 fn := by
  intro fn h; cases h; exact ⟨Go.Proofs.Tryz.func88, by kernel_rfl, by kernel_rfl⟩
theorem fok_89 : ∀ fn : Func, some Go.Proofs.Tryz.f89 = some fn → FOk Go.Proofs.Tryz.prog 89 fn := by
  intro fn h; cases h; exact ⟨Go.Proofs.Tryz.func89, by kernel_rfl, by kernel_rfl⟩
theorem fok_90 : ∀ fn : Func, some Go.Proofs.Tryz.f90 = some fn → FOk Go.Proofs.Tryz.prog 90 fn := by
  intro fn h; cases h; exact ⟨Go.Proofs.Tryz.func90, by kernel_rfl, by kernel_rfl⟩
theorem fok_91 : ∀ fn : Func, some Go.Proofs.Tryz.f91 = some fn → FOk Go.Proofs.Tryz.prog 91 fn := by
  intro fn h; cases h; exact ⟨Go.Proofs.Tryz.func91, by kernel_rfl, by kernel_rfl⟩
theorem fok_92 : ∀ fn : Func, some Go.Proofs.Tryz.f92 = some fn → FOk Go.Proofs.Tryz.prog 92 fn := by
  intro fn h; cases h; exact ⟨Go.Proofs.Tryz.func92, by kernel_rfl, by kernel_rfl⟩
theorem fok_93 : ∀ fn : Func, some Go.Proofs.Tryz.f93 = some fn → FOk Go.Proofs.Tryz.prog 93 fn := by
  intro fn h; cases h; exact ⟨Go.Proofs.Tryz.func93, by kernel_rfl, by kernel_rfl⟩
theorem fok_94 : ∀ fn : Func, some Go.Proofs.Tryz.f94 = some fn → FOk Go.Proofs.Tryz.prog 94 fn := by
  intro fn h; cases h; exact ⟨Go.Proofs.Tryz.func94, by kernel_rfl, by kernel_rfl⟩
theorem fok_95 : ∀ fn : Func, some Go.Proofs.Tryz.f95 = some fn → FOk Go.Proofs.Tryz.prog 95 fn := by
  intro fn h; cases h; exact ⟨Go.Proofs.Tryz.func95, by kernel_rfl, by kernel_rfl⟩
theorem fok_96 : ∀ fn : Func, some Go.Proofs.Tryz.f96 = some fn → FOk Go.Proofs.Tryz.prog 96 fn := by
  intro fn h; cases h; exact ⟨Go.Proofs.Tryz.func96, by kernel_rfl, by kernel_rfl⟩
theorem fok_99 : ∀ fn : Func, some Go.Proofs.Tryz.f99 = some fn → FOk Go.Proofs.Tryz.prog 99 fn := by
  intro fn h; cases h; exact ⟨Go.Proofs.Tryz.func99, by kernel_rfl, by kernel_rfl⟩
theorem fok_101 : ∀ fn : Func, some Go.Proofs.Tryz.f101 = some fn → FOk Go.Proofs.Tryz.prog 101 fn := by
  intro fn h; cases h; exact ⟨Go.Proofs.Tryz.func101, by kernel_rfl, by kernel_rfl⟩
theorem fok_103 : ∀ fn : Func, some Go.Proofs.Tryz.f103 = some fn → FOk Go.Proofs.Tryz.prog 103 fn := by
  intro fn h; cases h; exact ⟨Go.Proofs.Tryz.func103, by kernel_rfl, by kernel_rfl⟩
theorem fok_104 : ∀ fn : Func, some Go.Proofs.Tryz.f104 = some fn → FOk Go.Proofs.Tryz.prog 104 fn := by
  intro fn h; cases h; exact ⟨Go.Proofs.Tryz.func104, by kernel_rfl, by kernel_rfl⟩
theorem fok_105 : ∀ fn : Func, some Go.Proofs.Tryz.f105 = some fn → FOk Go.Proofs.Tryz.prog 105 fn := by
  intro fn h; cases h; exact ⟨Go.Proofs.Tryz.func105, by kernel_rfl, by kernel_rfl⟩
theorem fok_106 : ∀ fn : Func, some Go.Proofs.Tryz.f106 = some fn → FOk Go.Proofs.Tryz.prog 106 fn := by
  intro fn h; cases h; exact ⟨Go.Proofs.Tryz.func106, by kernel_rfl, by kernel_rfl⟩
theorem fok_107 : ∀ fn : Func, some Go.Proofs.Tryz.f107 = some fn → FOk Go.Proofs.Tryz.prog 107 fn := by
  intro fn h; cases h; exact ⟨Go.Proofs.Tryz.func107, by kernel_rfl, by kernel_rfl⟩
theorem fok_108 : ∀ fn : Func, some Go.Proofs.Tryz.f108 = some fn → FOk Go.Proofs.Tryz.prog 108 fn := by
  intro fn h; cases h; exact ⟨Go.Proofs.Tryz.func108, by kernel_rfl, by kernel_rfl⟩
theorem fok_109 : ∀ fn : Func, some Go.Proofs.Tryz.f109 = some fn → FOk Go.Proofs.Tryz.prog 109 fn := by
  intro fn h; cases h; exact ⟨Go.Proofs.Tryz.func109, by kernel_rfl, by kernel_rfl⟩
theorem fok_110 : ∀ fn : Func, some Go.Proofs.Tryz.f110 = some fn → FOk Go.Proofs.Tryz.prog 110 fn := by
  intro fn h; cases h; exact ⟨Go.Proofs.Tryz.func110, by kernel_rfl, by kernel_rfl⟩
theorem fok_111 : ∀ fn : Func, some Go.Proofs.Tryz.f111 = some fn → FOk Go.Proofs.Tryz.prog 111 fn := by
  intro fn h; cases h; exact ⟨Go.Proofs.Tryz.func111, by kernel_rfl, by kernel_rfl⟩
theorem fok_112 : ∀ fn : Func, some Go.Proofs.Tryz.f112 = some fn → FOk Go.Proofs.Tryz.prog 112 fn := by
  intro fn h; cases h; exact ⟨Go.Proofs.Tryz.func112, by kernel_rfl, by kernel_rfl⟩
theorem fok_113 : ∀ fn : Func, some Go.Proofs.Tryz.f113 = some fn → FOk Go.Proofs.Tryz.prog 113 fn := by
  intro fn h; cases h; exact ⟨Go.Proofs.Tryz.func113, by kernel_rfl, by kernel_rfl⟩
theorem fok_116 : ∀ fn : Func, some Go.Proofs.Tryz.f116 = some fn → FOk Go.Proofs.Tryz.prog 116 fn := by
  intro fn h; cases h; exact ⟨Go.Proofs.Tryz.func116, by kernel_rfl, by kernel_rfl⟩
theorem fok_117 : ∀ fn : Func, some Go.Proofs.Tryz.f117 = some fn → FOk Go.Proofs.Tryz.prog 117 fn := by
  intro fn h; cases h; exact ⟨Go.Proofs.Tryz.func117, by kernel_rfl, by kernel_rfl⟩
theorem fok_118 : ∀ fn : Func, some Go.Proofs.Tryz.f118 = some fn → FOk Go.Proofs.Tryz.prog 118 fn := by
  intro fn h; cases h; exact ⟨Go.Proofs.Tryz.func118, by kernel_rfl, by kernel_rfl⟩
theorem fok_120 : ∀ fn : Func, some Go.Proofs.Tryz.f120 = some fn → FOk Go.Proofs.Tryz.prog 120 fn := by
  intro fn h; cases h; exact ⟨Go.Proofs.Tryz.func120, by kernel_rfl, by kernel_rfl⟩
theorem fok_121 : ∀ fn : Func, some Go.Proofs.Tryz.f121 = some fn → FOk Go.Proofs.Tryz.prog 121 fn := by
  intro fn h; cases h; exact ⟨Go.Proofs.Tryz.func121, by kernel_rfl, by kernel_rfl⟩
theorem fok_122 : ∀ fn : Func, some Go.Proofs.Tryz.f122 = some fn → FOk Go.Proofs.Tryz.prog 122 fn := by
  intro fn h; cases h; exact ⟨Go.Proofs.Tryz.func122, by kernel_rfl, by kernel_rfl⟩
theorem fok_123 : ∀ fn : Func, some Go.Proofs.Tryz.f123 = some fn → FOk Go.Proofs.Tryz.prog 123 fn := by
  intro fn h; cases h; exact ⟨Go.Proofs.Tryz.func123, by kernel_rfl, by kernel_rfl⟩
theorem fok_125 : ∀ fn : Func, some Go.Proofs.Tryz.f125 = some fn → FOk Go.Proofs.Tryz.prog 125 fn := by
  intro fn h; cases h; exact ⟨Go.Proofs.Tryz.func125, by kernel_rfl, by kernel_rfl⟩
theorem fok_126 : ∀ fn : Func, some Go.Proofs.Tryz.f126 = some fn → FOk Go.Proofs.Tryz.prog 126 fn := by
  intro fn h; cases h; exact ⟨Go.Proofs.Tryz.func126, by kernel_rfl, by kernel_rfl⟩
theorem fok_127 : ∀ fn : Func, some Go.Proofs.Tryz.f127 = some fn → FOk Go.Proofs.Tryz.prog 127 fn := by
  intro fn h; cases h; exact ⟨Go.Proofs.Tryz.func127, by kernel_rfl, by kernel_rfl⟩
theorem fok_128 : ∀ fn : Func, some Go.Proofs.Tryz.f128 = some fn → FOk Go.Proofs.Tryz.prog 128 fn := by
  intro fn h; cases h; exact ⟨Go.Proofs.Tryz.func128, by kernel_rfl, by kernel_rfl⟩
theorem fok_129 : ∀ fn : Func, some Go.Proofs.Tryz.f129 = some fn → FOk Go.Proofs.Tryz.prog 129 fn := by
  intro fn h; cases h; exact ⟨Go.Proofs.Tryz.func129, by kernel_rfl, by kernel_rfl⟩
theorem fok_130 : ∀ fn : Func, some Go.Proofs.Tryz.f130 = some fn → FOk Go.Proofs.Tryz.prog 130 fn := by
  intro fn h; cases h; exact ⟨Go.Proofs.Tryz.func130, by kernel_rfl, by kernel_rfl⟩
theorem fok_131 : ∀ fn : Func, some Go.Proofs.Tryz.f131 = some fn → FOk Go.Proofs.Tryz.prog 131 fn := by
  intro fn h; cases h; exact ⟨Go.Proofs.Tryz.func131, by kernel_rfl, by kernel_rfl⟩
theorem fok_132 : ∀ fn : Func, some Go.Proofs.Tryz.f132 = some fn → FOk Go.Proofs.Tryz.prog 132 fn := by
  intro fn h; cases h; exact ⟨Go.Proofs.Tryz.func132, by kernel_rfl, by kernel_rfl⟩
theorem fok_133 : ∀ fn : Func, some Go.Proofs.Tryz.f133 = some fn → FOk Go.Proofs.Tryz.prog 133 fn := by
  intro fn h; cases h; exact ⟨Go.Proofs.Tryz.func133, by kernel_rfl, by kernel_rfl⟩
theorem fok_134 : ∀ fn : Func, some Go.Proofs.Tryz.f134 = some fn → FOk Go.Proofs.Tryz.prog 134 fn := by
  intro fn h; cases h; exact ⟨Go.Proofs.Tryz.func134, by kernel_rfl, by kernel_rfl⟩
theorem fok_135 : ∀ fn : Func, some Go.Proofs.Tryz.f135 = some fn → FOk Go.Proofs.Tryz.prog 135 fn := by
  intro fn h; cases h; exact ⟨Go.Proofs.Tryz.func135, by kernel_rfl, by kernel_rfl⟩
theorem fok_136 : ∀ fn : Func, some Go.Proofs.Tryz.f136 = some fn → FOk Go.Proofs.Tryz.prog 136 fn := by
  intro fn h; cases h; exact ⟨Go.Proofs.Tryz.func136, by kernel_rfl, by kernel_rfl⟩
theorem fok_137 : ∀ fn : Func, some Go.Proofs.Tryz.f137 = some fn → FOk Go.Proofs.Tryz.prog 137 fn := by
  intro fn h; cases h; exact ⟨Go.Proofs.Tryz.func137, by kernel_rfl, by kernel_rfl⟩
theorem fok_138 : ∀ fn : Func, some Go.Proofs.Tryz.f138 = some fn → FOk Go.Proofs.Tryz.prog 138 fn := by
  intro fn h; cases h; exact ⟨Go.Proofs.Tryz.func138, by kernel_rfl, by kernel_rfl⟩
theorem fok_139 : ∀ fn : Func, some Go.Proofs.Tryz.f139 = some fn → FOk Go.Proofs.Tryz.prog 139 fn := by
  intro fn h; cases h; exact ⟨Go.Proofs.Tryz.func139, by kernel_rfl, by kernel_rfl⟩
theorem fok_140 : ∀ fn : Func, some Go.Proofs.Tryz.f140 = some fn → FOk Go.Proofs.Tryz.prog 140 fn := by
  intro fn h; cases h; exact ⟨Go.Proofs.Tryz.func140, by kernel_rfl, by kernel_rfl⟩
theorem fok_141 : ∀ fn : Func, some Go.Proofs.Tryz.f141 = some fn → FOk Go.Proofs.Tryz.prog 141 fn := by
  intro fn h; cases h; exact ⟨Go.Proofs.Tryz.func141, by kernel_rfl, by kernel_rfl⟩
theorem fok_142 : ∀ fn : Func, some Go.Proofs.Tryz.f142 = some fn → FOk Go.Proofs.Tryz.prog 142 fn := by
  intro fn h; cases h; exact ⟨Go.Proofs.Tryz.func142, by kernel_rfl, by kernel_rfl⟩
theorem fok_143 : ∀ fn : Func, some Go.Proofs.Tryz.f143 = some fn → FOk Go.Proofs.Tryz.prog 143 fn := by
  intro fn h; cases h; exact ⟨Go.Proofs.Tryz.func143, by kernel_rfl, by kernel_rfl⟩
theorem fok_144 : ∀ fn : Func, some Go.Proofs.Tryz.f144 = some fn → FOk Go.Proofs.Tryz.prog 144 fn := by
  intro fn h; cases h; exact ⟨Go.Proofs.Tryz.func144, by kernel_rfl, by kernel_rfl⟩
theorem fok_145 : ∀ fn : Func, some Go.Proofs.Tryz.f145 = some fn → FOk Go.Proofs.Tryz.prog 145 fn := by
  intro fn h; cases h; exact ⟨Go.Proofs.Tryz.func145, by kernel_rfl, by kernel_rfl⟩
theorem fok_146 : ∀ fn : Func, some Go.Proofs.Tryz.f146 = some fn → FOk Go.Proofs.Tryz.prog 146 fn := by
  intro fn h; cases h; exact ⟨Go.Proofs.Tryz.func146, by kernel_rfl, by kernel_rfl⟩
theorem fok_148 : ∀ fn : Func, some Go.Proofs.Tryz.f148 = some fn → FOk Go.Proofs.Tryz.prog 148 fn := by
  intro fn h; cases h; exact ⟨Go.Proofs.Tryz.func148, by kernel_rfl, by kernel_rfl⟩
theorem fok_150 : ∀ fn : Func, some Go.Proofs.Tryz.f150 = some fn → FOk Go.Proofs.Tryz.prog 150 fn := by
  intro fn h; cases h; exact ⟨Go.Proofs.Tryz.func150, by kernel_rfl, by kernel_rfl⟩
theorem fok_151 : ∀ fn : Func, some Go.Proofs.Tryz.f151 = some fn → FOk Go.Proofs.Tryz.prog 151 fn := by
  intro fn h; cases h; exact ⟨Go.Proofs.Tryz.func151, by kernel_rfl, by kernel_rfl⟩
theorem fok_152 : ∀ fn : Func, some Go.Proofs.Tryz.f152 = some fn → FOk Go.Proofs.Tryz.prog 152 fn := by
  intro fn h; cases h; exact ⟨Go.Proofs.Tryz.func152, by kernel_rfl, by kernel_rfl⟩
theorem fok_153 : ∀ fn : Func, some Go.Proofs.Tryz.f153 = some fn → FOk Go.Proofs.Tryz.prog 153 fn := by
  intro fn h; cases h; exact ⟨Go.Proofs.Tryz.func153, by kernel_rfl, by kernel_rfl⟩
theorem fok_154 : ∀ fn : Func, some Go.Proofs.Tryz.f154 = some fn → FOk Go.Proofs.Tryz.prog 154 fn := by
  intro fn h; cases h; exact ⟨Go.Proofs.Tryz.func154, by kernel_rfl, by kernel_rfl⟩
theorem fok_155 : ∀ fn : Func, some Go.Proofs.Tryz.f155 = some fn → FOk Go.Proofs.Tryz.prog 155 fn := by
  intro fn h; cases h; exact ⟨Go.Proofs.Tryz.func155, by kernel_rfl, by kernel_rfl⟩
theorem fok_156 : ∀ fn : Func, some Go.Proofs.Tryz.f156 = some fn → FOk Go.Proofs.Tryz.prog 156 fn := by
  intro fn h; cases h; exact ⟨Go.Proofs.Tryz.func156, by kernel_rfl, by kernel_rfl⟩
theorem fok_157 : ∀ fn : Func, some Go.Proofs.Tryz.f157 = some fn → FOk Go.Proofs.Tryz.prog 157 fn := by
  intro fn h; cases h; exact ⟨Go.Proofs.Tryz.func157, by kernel_rfl, by kernel_rfl⟩
theorem fok_158 : ∀ fn : Func, some Go.Proofs.Tryz.f158 = some fn → FOk Go.Proofs.Tryz.prog 158 fn := by
  intro fn h; cases h; exact ⟨Go.Proofs.Tryz.func158, by kernel_rfl, by kernel_rfl⟩
theorem fok_159 : ∀ fn : Func, some Go.Proofs.Tryz.f159 = some fn → FOk Go.Proofs.Tryz.prog 159 fn := by
  intro fn h; cases h; exact ⟨Go.Proofs.Tryz.func159, by kernel_rfl, by kernel_rfl⟩
theorem fok_160 : ∀ fn : Func, some Go.Proofs.Tryz.f160 = some fn → FOk Go.Proofs.Tryz.prog 160 fn := by
  intro fn h; cases h; exact ⟨Go.Proofs.Tryz.func160, by kernel_rfl, by kernel_rfl⟩
theorem fok_161 : ∀ fn : Func, some Go.Proofs.Tryz.f161 = some fn → FOk Go.Proofs.Tryz.prog 161 fn := by
  intro fn h; cases h; exact ⟨Go.Proofs.Tryz.func161, by kernel_rfl, by kernel_rfl⟩
theorem fok_162 : ∀ fn : Func, some Go.Proofs.Tryz.f162 = some fn → FOk Go.Proofs.Tryz.prog 162 fn := by
  intro fn h; cases h; exact ⟨Go.Proofs.Tryz.func162, by kernel_rfl, by kernel_rfl⟩
theorem fok_163 : ∀ fn : Func, some Go.Proofs.Tryz.f163 = some fn → FOk Go.Proofs.Tryz.prog 163 fn := by
  intro fn h; cases h; exact ⟨Go.Proofs.Tryz.func163, by kernel_rfl, by kernel_rfl⟩
theorem fok_164 : ∀ fn : Func, some Go.Proofs.Tryz.f164 = some fn → FOk Go.Proofs.Tryz.prog 164 fn := by
  intro fn h; cases h; exact ⟨Go.Proofs.Tryz.func164, by kernel_rfl, by kernel_rfl⟩
theorem fok_169 : ∀ fn : Func, some Go.Proofs.Tryz.f169 = some fn → FOk Go.Proofs.Tryz.prog 169 fn := by
  intro fn h; cases h; exact ⟨Go.Proofs.Tryz.func169, by kernel_rfl, by kernel_rfl⟩
theorem fok_171 : ∀ fn : Func, some Go.Proofs.Tryz.f171 = some fn → FOk Go.Proofs.Tryz.prog 171 fn := by
  intro fn h; cases h; exact ⟨Go.Proofs.Tryz.func171, by kernel_rfl, by kernel_rfl⟩
theorem fok_172 : ∀ fn : Func, some Go.Proofs.Tryz.f172 = some fn → FOk Go.Proofs.Tryz.prog 172 fn := by
  intro fn h; cases h; exact ⟨Go.Proofs.Tryz.func172, by kernel_rfl, by kernel_rfl⟩
theorem fok_173 : ∀ fn : Func, some Go.Proofs.Tryz.f173 = some fn → FOk Go.Proofs.Tryz.prog 173 fn := by
  intro fn h; cases h; exact ⟨Go.Proofs.Tryz.func173, by kernel_rfl, by kernel_rfl⟩
theorem fok_174 : ∀ fn : Func, some Go.Proofs.Tryz.f174 = some fn → FOk Go.Proofs.Tryz.prog 174 fn := by
  intro fn h; cases h; exact ⟨Go.Proofs.Tryz.func174, by kernel_rfl, by kernel_rfl⟩
theorem fok_178 : ∀ fn : Func, some Go.Proofs.Tryz.f178 = some fn → FOk Go.Proofs.Tryz.prog 178 fn := by
  intro fn h; cases h; exact ⟨Go.Proofs.Tryz.func178, by kernel_rfl, by kernel_rfl⟩
theorem fok_180 : ∀ fn : Func, some Go.Proofs.Tryz.f180 = some fn → FOk Go.Proofs.Tryz.prog 180 fn := by
  intro fn h; cases h; exact ⟨Go.Proofs.Tryz.func180, by kernel_rfl, by kernel_rfl⟩
theorem fok_182 : ∀ fn : Func, some Go.Proofs.Tryz.f182 = some fn → FOk Go.Proofs.Tryz.prog 182 fn := by
  intro fn h; cases h; exact ⟨Go.Proofs.Tryz.func182, by kernel_rfl, by kernel_rfl⟩
theorem fok_183 : ∀ fn : Func, some Go.Proofs.Tryz.f183 = some fn → FOk Go.Proofs.Tryz.prog 183 fn := by
  intro fn h; cases h; exact ⟨Go.Proofs.Tryz.func183, by kernel_rfl, by kernel_rfl⟩
theorem fok_184 : ∀ fn : Func, some Go.Proofs.Tryz.f184 = some fn → FOk Go.Proofs.Tryz.prog 184 fn := by
  intro fn h; cases h; exact ⟨Go.Proofs.Tryz.func184, by kernel_rfl, by kernel_rfl⟩
theorem fok_185 : ∀ fn : Func, some Go.Proofs.Tryz.f185 = some fn → FOk Go.Proofs.Tryz.prog 185 fn := by
  intro fn h; cases h; exact ⟨Go.Proofs.Tryz.func185, by kernel_rfl, by kernel_rfl⟩
theorem fok_186 : ∀ fn : Func, some Go.Proofs.Tryz.f186 = some fn → FOk Go.Proofs.Tryz.prog 186 fn := by
  intro fn h; cases h; exact ⟨Go.Proofs.Tryz.func186, by kernel_rfl, by kernel_rfl⟩
theorem fok_187 : ∀ fn : Func, some Go.Proofs.Tryz.f187 = some fn → FOk Go.Proofs.Tryz.prog 187 fn := by
  intro fn h; cases h; exact ⟨Go.Proofs.Tryz.func187, by kernel_rfl, by kernel_rfl⟩
theorem fok_188 : ∀ fn : Func, some Go.Proofs.Tryz.f188 = some fn → FOk Go.Proofs.Tryz.prog 188 fn := by
  intro fn h; cases h; exact ⟨Go.Proofs.Tryz.func188, by kernel_rfl, by kernel_rfl⟩
theorem fok_189 : ∀ fn : Func, some Go.Proofs.Tryz.f189 = some fn → FOk Go.Proofs.Tryz.prog 189 fn := by
  intro fn h; cases h; exact ⟨Go.Proofs.Tryz.func189, by kernel_rfl, by kernel_rfl⟩
theorem fok_190 : ∀ fn : Func, some Go.Proofs.Tryz.f190 = some fn → FOk Go.Proofs.Tryz.prog 190 fn := by
  intro fn h; cases h; exact ⟨Go.Proofs.Tryz.func190, by kernel_rfl, by kernel_rfl⟩
theorem fok_191 : ∀ fn : Func, some Go.Proofs.Tryz.f191 = some fn → FOk Go.Proofs.Tryz.prog 191 fn := by
  intro fn h; cases h; exact ⟨Go.Proofs.Tryz.func191, by kernel_rfl, by kernel_rfl⟩
theorem fok_192 : ∀ fn : Func, some Go.Proofs.Tryz.f192 = some fn → FOk Go.Proofs.Tryz.prog 192 fn := by
  intro fn h; cases h; exact ⟨Go.Proofs.Tryz.func192, by kernel_rfl, by kernel_rfl⟩
theorem fok_193 : ∀ fn : Func, some Go.Proofs.Tryz.f193 = some fn → FOk Go.Proofs.Tryz.prog 193 fn := by
  intro fn h; cases h; exact ⟨Go.Proofs.Tryz.func193, by kernel_rfl, by kernel_rfl⟩
theorem fok_194 : ∀ fn : Func, some Go.Proofs.Tryz.f194 = some fn → FOk Go.Proofs.Tryz.prog 194 fn := by
  intro fn h; cases h; exact ⟨Go.Proofs.Tryz.func194, by kernel_rfl, by kernel_rfl⟩
theorem fok_195 : ∀ fn : Func, some Go.Proofs.Tryz.f195 = some fn → FOk Go.Proofs.Tryz.prog 195 fn := by
  intro fn h; cases h; exact ⟨Go.Proofs.Tryz.func195, by kernel_rfl, by kernel_rfl⟩
theorem fok_197 : ∀ fn : Func, some Go.Proofs.Tryz.f197 = some fn → FOk Go.Proofs.Tryz.prog 197 fn := by
  intro fn h; cases h; exact ⟨Go.Proofs.Tryz.func197, by kernel_rfl, by kernel_rfl⟩
theorem fok_198 : ∀ fn : Func, some Go.Proofs.Tryz.f198 = some fn → FOk Go.Proofs.Tryz.prog 198 fn := by
  intro fn h; cases h; exact ⟨Go.Proofs.Tryz.func198, by kernel_rfl, by kernel_rfl⟩
theorem fok_199 : ∀ fn : Func, some Go.Proofs.Tryz.f199 = some fn → FOk Go.Proofs.Tryz.prog 199 fn := by
  intro fn h; cases h; exact ⟨Go.Proofs.Tryz.func199, by kernel_rfl, by kernel_rfl⟩
theorem fok_200 : ∀ fn : Func, some Go.Proofs.Tryz.f200 = some fn → FOk Go.Proofs.Tryz.prog 200 fn := by
  intro fn h; cases h; exact ⟨Go.Proofs.Tryz.func200, by kernel_rfl, by kernel_rfl⟩
theorem fok_201 : ∀ fn : Func, some Go.Proofs.Tryz.f201 = some fn → FOk Go.Proofs.Tryz.prog 201 fn := by
  intro fn h; cases h; exact ⟨Go.Proofs.Tryz.func201, by kernel_rfl, by kernel_rfl⟩
theorem fok_207 : ∀ fn : Func, some Go.Proofs.Tryz.f207 = some fn → FOk Go.Proofs.Tryz.prog 207 fn := by
  intro fn h; cases h; exact ⟨Go.Proofs.Tryz.func207, by kernel_rfl, by kernel_rfl⟩
theorem fok_208 : ∀ fn : Func, some Go.Proofs.Tryz.f208 = some fn → FOk Go.Proofs.Tryz.prog 208 fn := by
  intro fn h; cases h; exact ⟨Go.Proofs.Tryz.func208, by kernel_rfl, by kernel_rfl⟩
theorem fok_209 : ∀ fn : Func, some Go.Proofs.Tryz.f209 = some fn → FOk Go.Proofs.Tryz.prog 209 fn := by
  intro fn h; cases h; exact ⟨Go.Proofs.Tryz.func209, by kernel_rfl, by kernel_rfl⟩
theorem fok_212 : ∀ fn : Func, some Go.Proofs.Tryz.f212 = some fn → FOk Go.Proofs.Tryz.prog 212 fn := by
  intro fn h; cases h; exact ⟨Go.Proofs.Tryz.func212, by kernel_rfl, by kernel_rfl⟩
theorem fok_213 : ∀ fn : Func, some Go.Proofs.Tryz.f213 = some fn → FOk Go.Proofs.Tryz.prog 213 fn := by
  intro fn h; cases h; exact ⟨Go.Proofs.Tryz.func213, by kernel_rfl, by kernel_rfl⟩
theorem fok_214 : ∀ fn : Func, some Go.Proofs.Tryz.f214 = some fn → FOk Go.Proofs.Tryz.prog 214 fn := by
  intro fn h; cases h; exact ⟨Go.Proofs.Tryz.func214, by kernel_rfl, by kernel_rfl⟩
theorem fok_215 : ∀ fn : Func, some Go.Proofs.Tryz.f215 = some fn → FOk Go.Proofs.Tryz.prog 215 fn := by
  intro fn h; cases h; exact ⟨Go.Proofs.Tryz.func215, by kernel_rfl, by kernel_rfl⟩
theorem fok_216 : ∀ fn : Func, some Go.Proofs.Tryz.f216 = some fn → FOk Go.Proofs.Tryz.prog 216 fn := by
  intro fn h; cases h; exact ⟨Go.Proofs.Tryz.func216, by kernel_rfl, by kernel_rfl⟩
theorem fok_217 : ∀ fn : Func, some Go.Proofs.Tryz.f217 = some fn → FOk Go.Proofs.Tryz.prog 217 fn := by
  intro fn h; cases h; exact ⟨Go.Proofs.Tryz.func217, by kernel_rfl, by kernel_rfl⟩
theorem fok_218 : ∀ fn : Func, some Go.Proofs.Tryz.f218 = some fn → FOk Go.Proofs.Tryz.prog 218 fn := by
  intro fn h; cases h; exact ⟨Go.Proofs.Tryz.func218, by kernel_rfl, by kernel_rfl⟩
theorem fok_226 : ∀ fn : Func, some Go.Proofs.Tryz.f226 = some fn → FOk Go.Proofs.Tryz.prog 226 fn := by
  intro fn h; cases h; exact ⟨Go.Proofs.Tryz.func226, by kernel_rfl, by kernel_rfl⟩
theorem fok_228 : ∀ fn : Func, some Go.Proofs.Tryz.f228 = some fn → FOk Go.Proofs.Tryz.prog 228 fn := by
  intro fn h; cases h; exact ⟨Go.Proofs.Tryz.func228, by kernel_rfl, by kernel_rfl⟩
theorem fok_240 : ∀ fn : Func, some Go.Proofs.Tryz.f240 = some fn → FOk Go.Proofs.Tryz.prog 240 fn := by
  intro fn h; cases h; exact ⟨Go.Proofs.Tryz.func240, by kernel_rfl, by kernel_rfl⟩
theorem fok_241 : ∀ fn : Func, some Go.Proofs.Tryz.f241 = some fn → FOk Go.Proofs.Tryz.prog 241 fn := by
  intro fn h; cases h; exact ⟨Go.Proofs.Tryz.func241, by kernel_rfl, by kernel_rfl⟩
theorem fok_242 : ∀ fn : Func, some Go.Proofs.Tryz.f242 = some fn → FOk Go.Proofs.Tryz.prog 242 fn := by
  intro fn h; cases h; exact ⟨Go.Proofs.Tryz.func242, by kernel_rfl, by kernel_rfl⟩
theorem fok_255 : ∀ fn : Func, some Go.Proofs.Tryz.f255 = some fn → FOk Go.Proofs.Tryz.prog 255 fn := by
  intro fn h; cases h; exact ⟨Go.Proofs.Tryz.func255, by kernel_rfl, by kernel_rfl⟩
theorem fok_256 : ∀ fn : Func, some Go.Proofs.Tryz.f256 = some fn → FOk Go.Proofs.Tryz.prog 256 fn := by
  intro fn h; cases h; exact ⟨Go.Proofs.Tryz.func256, by kernel_rfl, by kernel_rfl⟩
theorem fok_257 : ∀ fn : Func, some Go.Proofs.Tryz.f257 = some fn → FOk Go.Proofs.Tryz.prog 257 fn := by
  intro fn h; cases h; exact ⟨Go.Proofs.Tryz.func257, by kernel_rfl, by kernel_rfl⟩
theorem fok_269 : ∀ fn : Func, some Go.Proofs.Tryz.f269 = some fn → FOk Go.Proofs.Tryz.prog 269 fn := by
  intro fn h; cases h; exact ⟨Go.Proofs.Tryz.func269, by kernel_rfl, by kernel_rfl⟩
theorem allF : AllF Go.Proofs.Tryz.prog F := ⟨fok_11, fok_12, fok_13, fok_14, fok_16, fok_19, fok_20, fok_21, fok_22, fok_23, fok_24, fok_26, fok_28, fok_29, fok_32, fok_33, fok_36, fok_37, fok_39, fok_44, fok_45, fok_46, fok_48, fok_49, fok_51, fok_53, fok_54, fok_55, fok_56, fok_57, fok_58, fok_59, fok_60, fok_61, fok_62, fok_63, fok_64, fok_65, fok_66, fok_67, fok_68, fok_69, fok_70, fok_71, fok_72, fok_74, fok_76, fok_77, fok_78, fok_79, fok_82, fok_83, fok_84, fok_85, fok_86, fok_87, fok_88, fok_89, fok_90, fok_91, fok_92, fok_93, fok_94, fok_95, fok_96, fok_99, fok_101, fok_103, fok_104, fok_105, fok_106, fok_107, fok_108, fok_109, fok_110, fok_111, fok_112, fok_113, fok_116, fok_117, fok_118, fok_120, fok_121, fok_122, fok_123, fok_125, fok_126, fok_127, fok_128, fok_129, fok_130, fok_131, fok_132, fok_133, fok_134, fok_135, fok_136, fok_137, fok_138, fok_139, fok_140, fok_141, fok_142, fok_143, fok_144, fok_145, fok_146, fok_148, fok_150, fok_151, fok_152, fok_153, fok_154, fok_155, fok_156, fok_157, fok_158, fok_159, fok_160, fok_161, fok_162, fok_163, fok_164, fok_169, fok_171, fok_172, fok_173, fok_174, fok_178, fok_180, fok_182, fok_183, fok_184, fok_185, fok_186, fok_187, fok_188, fok_189, fok_190, fok_191, fok_192, fok_193, fok_194, fok_195, fok_197, fok_198, fok_199, fok_200, fok_201, fok_207, fok_208, fok_209, fok_212, fok_213, fok_214, fok_215, fok_216, fok_217, fok_218, fok_226, fok_228, fok_240, fok_241, fok_242, fok_255, fok_256, fok_257, fok_269, trivial⟩
theorem seat_F : ∀ f fn, look F f = some fn → FOk Go.Proofs.Tryz.prog f fn := fun t i h => allF.mem t i (look_mem h)
end Go.Px.Seat
