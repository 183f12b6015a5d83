/- The tables tell the program. Printed by mkok.py. -/
import Derived.Test.YtbdlklncblklnaaGreatDoorS3
import Derived.Test.YtbdlklncblklnaaGreatDoorA5
import Derived.KernelRfl
set_option linter.unusedVariables false

namespace Go.Px.Seat
open Go
set_option maxRecDepth 100000
theorem TIOk.of {P : Program} {t : TypeId} {i : TI} {d : TypeDesc} (h1 : P.underlying t = some d) (h2 : DescOk i.d d) (h3 : (P.info? t).bind (fun j => j.zero.map fun z => (j.size, j.bytes, z.cells.toList)) = some (i.size, i.bytes, zeroVals i.ty))
    (h4 : i.ty.size = i.size) (h5 : i.eqf = true → EqOk P t i.ty) : TIOk P t i := by
  refine ⟨⟨d, h1, h2⟩, ?_, h4, h5⟩
  simp only [Option.bind_eq_some_iff, Option.map_eq_some_iff, Prod.mk.injEq] at h3
  obtain ⟨j, hj, z, hz, e1, e2, e3⟩ := h3
  exact ⟨j, hj, e1, e2, z, hz, e3⟩
def AllT (P : Program) : Types → Prop
  | [] => True
  | p :: l => (∀ i, p.2 = some i → TIOk P p.1 i) ∧ AllT P l
theorem AllT.mem {P : Program} : ∀ {l : Types}, AllT P l → ∀ t i, (t, some i) ∈ l → TIOk P t i
  | _ :: _, h, t, i, hm => by
    rcases List.mem_cons.1 hm with rfl | hm
    · exact h.1 i rfl
    · exact AllT.mem h.2 t i hm
def FOk (P : Program) (f : Nat) (fn : Func) : Prop := P.funcs[f]? = some fn ∧ fn.body.isNone = false ∧ (fn.name == "runtime.NumGoroutine") = false
def AllF (P : Program) : Funcs → Prop
  | [] => True
  | p :: l => (∀ fn, p.2 = some fn → FOk P p.1 fn) ∧ AllF P l
theorem AllF.mem {P : Program} : ∀ {l : Funcs}, AllF P l → ∀ t i, (t, some i) ∈ l → FOk P t i
  | _ :: _, h, t, i, hm => by
    rcases List.mem_cons.1 hm with rfl | hm
    · exact h.1 i rfl
    · exact AllF.mem h.2 t i hm
theorem tok_2 : ∀ i : TI, some (⟨(.int .i64), (.int .i64), 1, 8, false⟩ : TI) = some i → TIOk Go.Proofs.Tryz.prog 2 i := by
  intro i h; cases h
  exact TIOk.of Go.Proofs.Tryz.underlying2 (by first | rfl | trivial) (by kernel_rfl) rfl (fun h => by cases h)
theorem tok_3 : ∀ i : TI, some (⟨(.int .i64), (.int .i64), 1, 8, false⟩ : TI) = some i → TIOk Go.Proofs.Tryz.prog 3 i := by
  intro i h; cases h
  exact TIOk.of Go.Proofs.Tryz.underlying3 (by first | rfl | trivial) (by kernel_rfl) rfl (fun h => by cases h)
theorem tok_4 : ∀ i : TI, some (⟨.bool, .bool, 1, 1, false⟩ : TI) = some i → TIOk Go.Proofs.Tryz.prog 4 i := by
  intro i h; cases h
  exact TIOk.of Go.Proofs.Tryz.underlying4 (by first | rfl | trivial) (by kernel_rfl) rfl (fun h => by cases h)
theorem tok_5 : ∀ i : TI, some (⟨(.int .u8), (.int .u8), 1, 1, false⟩ : TI) = some i → TIOk Go.Proofs.Tryz.prog 5 i := by
  intro i h; cases h
  exact TIOk.of Go.Proofs.Tryz.underlying5 (by first | rfl | trivial) (by kernel_rfl) rfl (fun h => by cases h)
theorem tok_6 : ∀ i : TI, some (⟨(.int .u8), (.int .u8), 1, 1, false⟩ : TI) = some i → TIOk Go.Proofs.Tryz.prog 6 i := by
  intro i h; cases h
  exact TIOk.of Go.Proofs.Tryz.underlying6 (by first | rfl | trivial) (by kernel_rfl) rfl (fun h => by cases h)
theorem tok_7 : ∀ i : TI, some (⟨(.struct [(0, 2), (1, 3), (2, 4), (3, 6)]), (.cons (.int .i64) (.cons (.int .i64) (.cons .bool (.cons (.int .u8) .nil)))), 4, 24, true⟩ : TI) = some i → TIOk Go.Proofs.Tryz.prog 7 i := by
  intro i h; cases h
  exact TIOk.of Go.Proofs.Tryz.underlying7 rfl (by kernel_rfl) rfl (fun _ => eqOk_flat Go.Proofs.Tryz.underlying7 (by kernel_rfl) (by kernel_rfl) ⟨rfl, by decide, ⟨_, Go.Proofs.Tryz.underlying2⟩, ⟨rfl, by decide, ⟨_, Go.Proofs.Tryz.underlying3⟩, ⟨rfl, by decide, Go.Proofs.Tryz.underlying4, ⟨rfl, by decide, ⟨_, Go.Proofs.Tryz.underlying6⟩, trivial⟩⟩⟩⟩)
theorem tok_8 : ∀ i : TI, some (⟨(.struct [(0, 2), (1, 3), (2, 4), (3, 6)]), (.cons (.int .i64) (.cons (.int .i64) (.cons .bool (.cons (.int .u8) .nil)))), 4, 24, true⟩ : TI) = some i → TIOk Go.Proofs.Tryz.prog 8 i := by
  intro i h; cases h
  exact TIOk.of Go.Proofs.Tryz.underlying8 rfl (by kernel_rfl) rfl (fun _ => eqOk_flat Go.Proofs.Tryz.underlying8 (by kernel_rfl) (by kernel_rfl) ⟨rfl, by decide, ⟨_, Go.Proofs.Tryz.underlying2⟩, ⟨rfl, by decide, ⟨_, Go.Proofs.Tryz.underlying3⟩, ⟨rfl, by decide, Go.Proofs.Tryz.underlying4, ⟨rfl, by decide, ⟨_, Go.Proofs.Tryz.underlying6⟩, trivial⟩⟩⟩⟩)
theorem tok_9 : ∀ i : TI, some (⟨.string, .str, 1, 16, false⟩ : TI) = some i → TIOk Go.Proofs.Tryz.prog 9 i := by
  intro i h; cases h
  exact TIOk.of Go.Proofs.Tryz.underlying9 (by first | rfl | trivial) (by kernel_rfl) rfl (fun h => by cases h)
theorem tok_10 : ∀ i : TI, some (⟨.string, .str, 1, 16, false⟩ : TI) = some i → TIOk Go.Proofs.Tryz.prog 10 i := by
  intro i h; cases h
  exact TIOk.of Go.Proofs.Tryz.underlying10 (by first | rfl | trivial) (by kernel_rfl) rfl (fun h => by cases h)
theorem tok_11 : ∀ i : TI, some (⟨.string, .str, 1, 16, false⟩ : TI) = some i → TIOk Go.Proofs.Tryz.prog 11 i := by
  intro i h; cases h
  exact TIOk.of Go.Proofs.Tryz.underlying11 (by first | rfl | trivial) (by kernel_rfl) rfl (fun h => by cases h)
theorem tok_12 : ∀ i : TI, some (⟨(.int .u64), (.int .u64), 1, 8, false⟩ : TI) = some i → TIOk Go.Proofs.Tryz.prog 12 i := by
  intro i h; cases h
  exact TIOk.of Go.Proofs.Tryz.underlying12 (by first | rfl | trivial) (by kernel_rfl) rfl (fun h => by cases h)
theorem tok_13 : ∀ i : TI, some (⟨(.struct [(0, 9), (1, 12)]), (.cons .str (.cons (.int .u64) .nil)), 2, 24, false⟩ : TI) = some i → TIOk Go.Proofs.Tryz.prog 13 i := by
  intro i h; cases h
  exact TIOk.of Go.Proofs.Tryz.underlying13 (by first | rfl | trivial) (by kernel_rfl) rfl (fun h => by cases h)
theorem tok_14 : ∀ i : TI, some (⟨(.struct [(0, 9), (1, 12)]), (.cons .str (.cons (.int .u64) .nil)), 2, 24, false⟩ : TI) = some i → TIOk Go.Proofs.Tryz.prog 14 i := by
  intro i h; cases h
  exact TIOk.of Go.Proofs.Tryz.underlying14 (by first | rfl | trivial) (by kernel_rfl) rfl (fun h => by cases h)
theorem tok_21 : ∀ i : TI, some (⟨(.int .i32), (.int .i32), 1, 4, false⟩ : TI) = some i → TIOk Go.Proofs.Tryz.prog 21 i := by
  intro i h; cases h
  exact TIOk.of Go.Proofs.Tryz.underlying21 (by first | rfl | trivial) (by kernel_rfl) rfl (fun h => by cases h)
theorem tok_22 : ∀ i : TI, some (⟨(.slice 5), (.slice (.int .u8)), 1, 24, false⟩ : TI) = some i → TIOk Go.Proofs.Tryz.prog 22 i := by
  intro i h; cases h
  exact TIOk.of Go.Proofs.Tryz.underlying22 (by first | rfl | trivial) (by kernel_rfl) rfl (fun h => by cases h)
theorem tok_23 : ∀ i : TI, some (⟨(.struct [(0, 4), (1, 3), (2, 3)]), (.cons .bool (.cons (.int .i64) (.cons (.int .i64) .nil))), 3, 24, true⟩ : TI) = some i → TIOk Go.Proofs.Tryz.prog 23 i := by
  intro i h; cases h
  exact TIOk.of Go.Proofs.Tryz.underlying23 rfl (by kernel_rfl) rfl (fun _ => eqOk_flat Go.Proofs.Tryz.underlying23 (by kernel_rfl) (by kernel_rfl) ⟨rfl, by decide, Go.Proofs.Tryz.underlying4, ⟨rfl, by decide, ⟨_, Go.Proofs.Tryz.underlying3⟩, ⟨rfl, by decide, ⟨_, Go.Proofs.Tryz.underlying3⟩, trivial⟩⟩⟩)
theorem tok_24 : ∀ i : TI, some (⟨(.struct [(0, 4), (1, 3), (2, 3)]), (.cons .bool (.cons (.int .i64) (.cons (.int .i64) .nil))), 3, 24, true⟩ : TI) = some i → TIOk Go.Proofs.Tryz.prog 24 i := by
  intro i h; cases h
  exact TIOk.of Go.Proofs.Tryz.underlying24 rfl (by kernel_rfl) rfl (fun _ => eqOk_flat Go.Proofs.Tryz.underlying24 (by kernel_rfl) (by kernel_rfl) ⟨rfl, by decide, Go.Proofs.Tryz.underlying4, ⟨rfl, by decide, ⟨_, Go.Proofs.Tryz.underlying3⟩, ⟨rfl, by decide, ⟨_, Go.Proofs.Tryz.underlying3⟩, trivial⟩⟩⟩)
theorem tok_25 : ∀ i : TI, some (⟨(.slice 3), (.slice (.int .i64)), 1, 24, false⟩ : TI) = some i → TIOk Go.Proofs.Tryz.prog 25 i := by
  intro i h; cases h
  exact TIOk.of Go.Proofs.Tryz.underlying25 (by first | rfl | trivial) (by kernel_rfl) rfl (fun h => by cases h)
theorem tok_26 : ∀ i : TI, some (⟨(.struct [(0, 4), (1, 25), (2, 25)]), (.cons .bool (.cons (.slice (.int .i64)) (.cons (.slice (.int .i64)) .nil))), 3, 56, false⟩ : TI) = some i → TIOk Go.Proofs.Tryz.prog 26 i := by
  intro i h; cases h
  exact TIOk.of Go.Proofs.Tryz.underlying26 (by first | rfl | trivial) (by kernel_rfl) rfl (fun h => by cases h)
theorem tok_27 : ∀ i : TI, some (⟨(.struct [(0, 4), (1, 25), (2, 25)]), (.cons .bool (.cons (.slice (.int .i64)) (.cons (.slice (.int .i64)) .nil))), 3, 56, false⟩ : TI) = some i → TIOk Go.Proofs.Tryz.prog 27 i := by
  intro i h; cases h
  exact TIOk.of Go.Proofs.Tryz.underlying27 (by first | rfl | trivial) (by kernel_rfl) rfl (fun h => by cases h)
theorem tok_37 : ∀ i : TI, some (⟨(.slice 27), (.slice (.cons .bool (.cons (.slice (.int .i64)) (.cons (.slice (.int .i64)) .nil)))), 1, 24, false⟩ : TI) = some i → TIOk Go.Proofs.Tryz.prog 37 i := by
  intro i h; cases h
  exact TIOk.of Go.Proofs.Tryz.underlying37 (by first | rfl | trivial) (by kernel_rfl) rfl (fun h => by cases h)
theorem tok_45 : ∀ i : TI, some (⟨(.struct [(0, 3), (1, 3)]), (.cons (.int .i64) (.cons (.int .i64) .nil)), 2, 16, true⟩ : TI) = some i → TIOk Go.Proofs.Tryz.prog 45 i := by
  intro i h; cases h
  exact TIOk.of Go.Proofs.Tryz.underlying45 rfl (by kernel_rfl) rfl (fun _ => eqOk_flat Go.Proofs.Tryz.underlying45 (by kernel_rfl) (by kernel_rfl) ⟨rfl, by decide, ⟨_, Go.Proofs.Tryz.underlying3⟩, ⟨rfl, by decide, ⟨_, Go.Proofs.Tryz.underlying3⟩, trivial⟩⟩)
theorem tok_46 : ∀ i : TI, some (⟨(.struct [(0, 3), (1, 3)]), (.cons (.int .i64) (.cons (.int .i64) .nil)), 2, 16, true⟩ : TI) = some i → TIOk Go.Proofs.Tryz.prog 46 i := by
  intro i h; cases h
  exact TIOk.of Go.Proofs.Tryz.underlying46 rfl (by kernel_rfl) rfl (fun _ => eqOk_flat Go.Proofs.Tryz.underlying46 (by kernel_rfl) (by kernel_rfl) ⟨rfl, by decide, ⟨_, Go.Proofs.Tryz.underlying3⟩, ⟨rfl, by decide, ⟨_, Go.Proofs.Tryz.underlying3⟩, trivial⟩⟩)
theorem tok_71 : ∀ i : TI, some (⟨(.int .u64), (.int .u64), 1, 8, false⟩ : TI) = some i → TIOk Go.Proofs.Tryz.prog 71 i := by
  intro i h; cases h
  exact TIOk.of Go.Proofs.Tryz.underlying71 (by first | rfl | trivial) (by kernel_rfl) rfl (fun h => by cases h)
theorem tok_72 : ∀ i : TI, some (⟨(.struct [(0, 4), (1, 71), (2, 3)]), (.cons .bool (.cons (.int .u64) (.cons (.int .i64) .nil))), 3, 24, true⟩ : TI) = some i → TIOk Go.Proofs.Tryz.prog 72 i := by
  intro i h; cases h
  exact TIOk.of Go.Proofs.Tryz.underlying72 rfl (by kernel_rfl) rfl (fun _ => eqOk_flat Go.Proofs.Tryz.underlying72 (by kernel_rfl) (by kernel_rfl) ⟨rfl, by decide, Go.Proofs.Tryz.underlying4, ⟨rfl, by decide, ⟨_, Go.Proofs.Tryz.underlying71⟩, ⟨rfl, by decide, ⟨_, Go.Proofs.Tryz.underlying3⟩, trivial⟩⟩⟩)
theorem tok_73 : ∀ i : TI, some (⟨(.struct [(0, 4), (1, 71), (2, 3)]), (.cons .bool (.cons (.int .u64) (.cons (.int .i64) .nil))), 3, 24, true⟩ : TI) = some i → TIOk Go.Proofs.Tryz.prog 73 i := by
  intro i h; cases h
  exact TIOk.of Go.Proofs.Tryz.underlying73 rfl (by kernel_rfl) rfl (fun _ => eqOk_flat Go.Proofs.Tryz.underlying73 (by kernel_rfl) (by kernel_rfl) ⟨rfl, by decide, Go.Proofs.Tryz.underlying4, ⟨rfl, by decide, ⟨_, Go.Proofs.Tryz.underlying71⟩, ⟨rfl, by decide, ⟨_, Go.Proofs.Tryz.underlying3⟩, trivial⟩⟩⟩)
theorem tok_76 : ∀ i : TI, some (⟨(.struct [(0, 4), (1, 25), (2, 25)]), (.cons .bool (.cons (.slice (.int .i64)) (.cons (.slice (.int .i64)) .nil))), 3, 56, false⟩ : TI) = some i → TIOk Go.Proofs.Tryz.prog 76 i := by
  intro i h; cases h
  exact TIOk.of Go.Proofs.Tryz.underlying76 (by first | rfl | trivial) (by kernel_rfl) rfl (fun h => by cases h)
theorem tok_77 : ∀ i : TI, some (⟨(.struct [(0, 4), (1, 25), (2, 25)]), (.cons .bool (.cons (.slice (.int .i64)) (.cons (.slice (.int .i64)) .nil))), 3, 56, false⟩ : TI) = some i → TIOk Go.Proofs.Tryz.prog 77 i := by
  intro i h; cases h
  exact TIOk.of Go.Proofs.Tryz.underlying77 (by first | rfl | trivial) (by kernel_rfl) rfl (fun h => by cases h)
theorem tok_81 : ∀ i : TI, some (⟨(.struct [(0, 3), (1, 27)]), (.cons (.int .i64) (.cons (.cons .bool (.cons (.slice (.int .i64)) (.cons (.slice (.int .i64)) .nil))) .nil)), 4, 64, false⟩ : TI) = some i → TIOk Go.Proofs.Tryz.prog 81 i := by
  intro i h; cases h
  exact TIOk.of Go.Proofs.Tryz.underlying81 (by first | rfl | trivial) (by kernel_rfl) rfl (fun h => by cases h)
theorem tok_82 : ∀ i : TI, some (⟨(.struct [(0, 3), (1, 27)]), (.cons (.int .i64) (.cons (.cons .bool (.cons (.slice (.int .i64)) (.cons (.slice (.int .i64)) .nil))) .nil)), 4, 64, false⟩ : TI) = some i → TIOk Go.Proofs.Tryz.prog 82 i := by
  intro i h; cases h
  exact TIOk.of Go.Proofs.Tryz.underlying82 (by first | rfl | trivial) (by kernel_rfl) rfl (fun h => by cases h)
theorem tok_121 : ∀ i : TI, some (⟨(.struct [(0, 22), (1, 3)]), (.cons (.slice (.int .u8)) (.cons (.int .i64) .nil)), 2, 32, false⟩ : TI) = some i → TIOk Go.Proofs.Tryz.prog 121 i := by
  intro i h; cases h
  exact TIOk.of Go.Proofs.Tryz.underlying121 (by first | rfl | trivial) (by kernel_rfl) rfl (fun h => by cases h)
theorem tok_122 : ∀ i : TI, some (⟨(.struct [(0, 22), (1, 3)]), (.cons (.slice (.int .u8)) (.cons (.int .i64) .nil)), 2, 32, false⟩ : TI) = some i → TIOk Go.Proofs.Tryz.prog 122 i := by
  intro i h; cases h
  exact TIOk.of Go.Proofs.Tryz.underlying122 (by first | rfl | trivial) (by kernel_rfl) rfl (fun h => by cases h)
theorem tok_124 : ∀ i : TI, some (⟨(.int .u64), (.int .u64), 1, 8, false⟩ : TI) = some i → TIOk Go.Proofs.Tryz.prog 124 i := by
  intro i h; cases h
  exact TIOk.of Go.Proofs.Tryz.underlying124 (by first | rfl | trivial) (by kernel_rfl) rfl (fun h => by cases h)
theorem tok_128 : ∀ i : TI, some (⟨(.slice 24), (.slice (.cons .bool (.cons (.int .i64) (.cons (.int .i64) .nil)))), 1, 24, false⟩ : TI) = some i → TIOk Go.Proofs.Tryz.prog 128 i := by
  intro i h; cases h
  exact TIOk.of Go.Proofs.Tryz.underlying128 (by first | rfl | trivial) (by kernel_rfl) rfl (fun h => by cases h)
theorem tok_142 : ∀ i : TI, some (⟨(.struct [(0, 3), (1, 3), (2, 3), (3, 3)]), (.cons (.int .i64) (.cons (.int .i64) (.cons (.int .i64) (.cons (.int .i64) .nil)))), 4, 32, true⟩ : TI) = some i → TIOk Go.Proofs.Tryz.prog 142 i := by
  intro i h; cases h
  exact TIOk.of Go.Proofs.Tryz.underlying142 rfl (by kernel_rfl) rfl (fun _ => eqOk_flat Go.Proofs.Tryz.underlying142 (by kernel_rfl) (by kernel_rfl) ⟨rfl, by decide, ⟨_, Go.Proofs.Tryz.underlying3⟩, ⟨rfl, by decide, ⟨_, Go.Proofs.Tryz.underlying3⟩, ⟨rfl, by decide, ⟨_, Go.Proofs.Tryz.underlying3⟩, ⟨rfl, by decide, ⟨_, Go.Proofs.Tryz.underlying3⟩, trivial⟩⟩⟩⟩)
theorem tok_143 : ∀ i : TI, some (⟨(.struct [(0, 3), (1, 3), (2, 3), (3, 3)]), (.cons (.int .i64) (.cons (.int .i64) (.cons (.int .i64) (.cons (.int .i64) .nil)))), 4, 32, true⟩ : TI) = some i → TIOk Go.Proofs.Tryz.prog 143 i := by
  intro i h; cases h
  exact TIOk.of Go.Proofs.Tryz.underlying143 rfl (by kernel_rfl) rfl (fun _ => eqOk_flat Go.Proofs.Tryz.underlying143 (by kernel_rfl) (by kernel_rfl) ⟨rfl, by decide, ⟨_, Go.Proofs.Tryz.underlying3⟩, ⟨rfl, by decide, ⟨_, Go.Proofs.Tryz.underlying3⟩, ⟨rfl, by decide, ⟨_, Go.Proofs.Tryz.underlying3⟩, ⟨rfl, by decide, ⟨_, Go.Proofs.Tryz.underlying3⟩, trivial⟩⟩⟩⟩)
theorem tok_180 : ∀ i : TI, some (⟨(.int .u32), (.int .u32), 1, 4, false⟩ : TI) = some i → TIOk Go.Proofs.Tryz.prog 180 i := by
  intro i h; cases h
  exact TIOk.of Go.Proofs.Tryz.underlying180 (by first | rfl | trivial) (by kernel_rfl) rfl (fun h => by cases h)
theorem tok_190 : ∀ i : TI, some (⟨.err, .err, 1, 16, false⟩ : TI) = some i → TIOk Go.Proofs.Tryz.prog 190 i := by
  intro i h; cases h
  exact TIOk.of Go.Proofs.Tryz.underlying190 (by first | rfl | trivial) (by kernel_rfl) rfl (fun h => by cases h)
theorem tok_199 : ∀ i : TI, some (⟨(.slice 25), (.slice (.slice (.int .i64))), 1, 24, false⟩ : TI) = some i → TIOk Go.Proofs.Tryz.prog 199 i := by
  intro i h; cases h
  exact TIOk.of Go.Proofs.Tryz.underlying199 (by first | rfl | trivial) (by kernel_rfl) rfl (fun h => by cases h)
theorem tok_201 : ∀ i : TI, some (⟨(.array 64 5), (.cons (.int .u8) (.cons (.int .u8) (.cons (.int .u8) (.cons (.int .u8) (.cons (.int .u8) (.cons (.int .u8) (.cons (.int .u8) (.cons (.int .u8) (.cons (.int .u8) (.cons (.int .u8) (.cons (.int .u8) (.cons (.int .u8) (.cons (.int .u8) (.cons (.int .u8) (.cons (.int .u8) (.cons (.int .u8) (.cons (.int .u8) (.cons (.int .u8) (.cons (.int .u8) (.cons (.int .u8) (.cons (.int .u8) (.cons (.int .u8) (.cons (.int .u8) (.cons (.int .u8) (.cons (.int .u8) (.cons (.int .u8) (.cons (.int .u8) (.cons (.int .u8) (.cons (.int .u8) (.cons (.int .u8) (.cons (.int .u8) (.cons (.int .u8) (.cons (.int .u8) (.cons (.int .u8) (.cons (.int .u8) (.cons (.int .u8) (.cons (.int .u8) (.cons (.int .u8) (.cons (.int .u8) (.cons (.int .u8) (.cons (.int .u8) (.cons (.int .u8) (.cons (.int .u8) (.cons (.int .u8) (.cons (.int .u8) (.cons (.int .u8) (.cons (.int .u8) (.cons (.int .u8) (.cons (.int .u8) (.cons (.int .u8) (.cons (.int .u8) (.cons (.int .u8) (.cons (.int .u8) (.cons (.int .u8) (.cons (.int .u8) (.cons (.int .u8) (.cons (.int .u8) (.cons (.int .u8) (.cons (.int .u8) (.cons (.int .u8) (.cons (.int .u8) (.cons (.int .u8) (.cons (.int .u8) (.cons (.int .u8) .nil)))))))))))))))))))))))))))))))))))))))))))))))))))))))))))))))), 64, 64, false⟩ : TI) = some i → TIOk Go.Proofs.Tryz.prog 201 i := by
  intro i h; cases h
  exact TIOk.of Go.Proofs.Tryz.underlying201 (by first | rfl | trivial) (by kernel_rfl) rfl (fun h => by cases h)
theorem tok_208 : ∀ i : TI, some (⟨(.array 24 5), (.cons (.int .u8) (.cons (.int .u8) (.cons (.int .u8) (.cons (.int .u8) (.cons (.int .u8) (.cons (.int .u8) (.cons (.int .u8) (.cons (.int .u8) (.cons (.int .u8) (.cons (.int .u8) (.cons (.int .u8) (.cons (.int .u8) (.cons (.int .u8) (.cons (.int .u8) (.cons (.int .u8) (.cons (.int .u8) (.cons (.int .u8) (.cons (.int .u8) (.cons (.int .u8) (.cons (.int .u8) (.cons (.int .u8) (.cons (.int .u8) (.cons (.int .u8) (.cons (.int .u8) .nil)))))))))))))))))))))))), 24, 24, false⟩ : TI) = some i → TIOk Go.Proofs.Tryz.prog 208 i := by
  intro i h; cases h
  exact TIOk.of Go.Proofs.Tryz.underlying208 (by first | rfl | trivial) (by kernel_rfl) rfl (fun h => by cases h)
theorem tok_221 : ∀ i : TI, some (⟨(.array 20 71), (.cons (.int .u64) (.cons (.int .u64) (.cons (.int .u64) (.cons (.int .u64) (.cons (.int .u64) (.cons (.int .u64) (.cons (.int .u64) (.cons (.int .u64) (.cons (.int .u64) (.cons (.int .u64) (.cons (.int .u64) (.cons (.int .u64) (.cons (.int .u64) (.cons (.int .u64) (.cons (.int .u64) (.cons (.int .u64) (.cons (.int .u64) (.cons (.int .u64) (.cons (.int .u64) (.cons (.int .u64) .nil)))))))))))))))))))), 20, 160, false⟩ : TI) = some i → TIOk Go.Proofs.Tryz.prog 221 i := by
  intro i h; cases h
  exact TIOk.of Go.Proofs.Tryz.underlying221 (by first | rfl | trivial) (by kernel_rfl) rfl (fun h => by cases h)
theorem tok_225 : ∀ i : TI, some (⟨(.struct [(0, 5), (1, 5)]), (.cons (.int .u8) (.cons (.int .u8) .nil)), 2, 2, true⟩ : TI) = some i → TIOk Go.Proofs.Tryz.prog 225 i := by
  intro i h; cases h
  exact TIOk.of Go.Proofs.Tryz.underlying225 rfl (by kernel_rfl) rfl (fun _ => eqOk_flat Go.Proofs.Tryz.underlying225 (by kernel_rfl) (by kernel_rfl) ⟨rfl, by decide, ⟨_, Go.Proofs.Tryz.underlying5⟩, ⟨rfl, by decide, ⟨_, Go.Proofs.Tryz.underlying5⟩, trivial⟩⟩)
theorem tok_226 : ∀ i : TI, some (⟨(.struct [(0, 5), (1, 5)]), (.cons (.int .u8) (.cons (.int .u8) .nil)), 2, 2, true⟩ : TI) = some i → TIOk Go.Proofs.Tryz.prog 226 i := by
  intro i h; cases h
  exact TIOk.of Go.Proofs.Tryz.underlying226 rfl (by kernel_rfl) rfl (fun _ => eqOk_flat Go.Proofs.Tryz.underlying226 (by kernel_rfl) (by kernel_rfl) ⟨rfl, by decide, ⟨_, Go.Proofs.Tryz.underlying5⟩, ⟨rfl, by decide, ⟨_, Go.Proofs.Tryz.underlying5⟩, trivial⟩⟩)
theorem tok_227 : ∀ i : TI, some (⟨(.array 16 226), (.cons (.cons (.int .u8) (.cons (.int .u8) .nil)) (.cons (.cons (.int .u8) (.cons (.int .u8) .nil)) (.cons (.cons (.int .u8) (.cons (.int .u8) .nil)) (.cons (.cons (.int .u8) (.cons (.int .u8) .nil)) (.cons (.cons (.int .u8) (.cons (.int .u8) .nil)) (.cons (.cons (.int .u8) (.cons (.int .u8) .nil)) (.cons (.cons (.int .u8) (.cons (.int .u8) .nil)) (.cons (.cons (.int .u8) (.cons (.int .u8) .nil)) (.cons (.cons (.int .u8) (.cons (.int .u8) .nil)) (.cons (.cons (.int .u8) (.cons (.int .u8) .nil)) (.cons (.cons (.int .u8) (.cons (.int .u8) .nil)) (.cons (.cons (.int .u8) (.cons (.int .u8) .nil)) (.cons (.cons (.int .u8) (.cons (.int .u8) .nil)) (.cons (.cons (.int .u8) (.cons (.int .u8) .nil)) (.cons (.cons (.int .u8) (.cons (.int .u8) .nil)) (.cons (.cons (.int .u8) (.cons (.int .u8) .nil)) .nil)))))))))))))))), 32, 32, false⟩ : TI) = some i → TIOk Go.Proofs.Tryz.prog 227 i := by
  intro i h; cases h
  exact TIOk.of Go.Proofs.Tryz.underlying227 (by first | rfl | trivial) (by kernel_rfl) rfl (fun h => by cases h)
theorem tok_228 : ∀ i : TI, some (⟨(.array 32 5), (.cons (.int .u8) (.cons (.int .u8) (.cons (.int .u8) (.cons (.int .u8) (.cons (.int .u8) (.cons (.int .u8) (.cons (.int .u8) (.cons (.int .u8) (.cons (.int .u8) (.cons (.int .u8) (.cons (.int .u8) (.cons (.int .u8) (.cons (.int .u8) (.cons (.int .u8) (.cons (.int .u8) (.cons (.int .u8) (.cons (.int .u8) (.cons (.int .u8) (.cons (.int .u8) (.cons (.int .u8) (.cons (.int .u8) (.cons (.int .u8) (.cons (.int .u8) (.cons (.int .u8) (.cons (.int .u8) (.cons (.int .u8) (.cons (.int .u8) (.cons (.int .u8) (.cons (.int .u8) (.cons (.int .u8) (.cons (.int .u8) (.cons (.int .u8) .nil)))))))))))))))))))))))))))))))), 32, 32, false⟩ : TI) = some i → TIOk Go.Proofs.Tryz.prog 228 i := by
  intro i h; cases h
  exact TIOk.of Go.Proofs.Tryz.underlying228 (by first | rfl | trivial) (by kernel_rfl) rfl (fun h => by cases h)
theorem tok_234 : ∀ i : TI, some (⟨(.int .u8), (.int .u8), 1, 1, false⟩ : TI) = some i → TIOk Go.Proofs.Tryz.prog 234 i := by
  intro i h; cases h
  exact TIOk.of Go.Proofs.Tryz.underlying234 (by first | rfl | trivial) (by kernel_rfl) rfl (fun h => by cases h)
theorem tok_235 : ∀ i : TI, some (⟨(.int .u8), (.int .u8), 1, 1, false⟩ : TI) = some i → TIOk Go.Proofs.Tryz.prog 235 i := by
  intro i h; cases h
  exact TIOk.of Go.Proofs.Tryz.underlying235 (by first | rfl | trivial) (by kernel_rfl) rfl (fun h => by cases h)
theorem tok_237 : ∀ i : TI, some (⟨(.int .i32), (.int .i32), 1, 4, false⟩ : TI) = some i → TIOk Go.Proofs.Tryz.prog 237 i := by
  intro i h; cases h
  exact TIOk.of Go.Proofs.Tryz.underlying237 (by first | rfl | trivial) (by kernel_rfl) rfl (fun h => by cases h)
theorem tok_238 : ∀ i : TI, some (⟨(.int .i32), (.int .i32), 1, 4, false⟩ : TI) = some i → TIOk Go.Proofs.Tryz.prog 238 i := by
  intro i h; cases h
  exact TIOk.of Go.Proofs.Tryz.underlying238 (by first | rfl | trivial) (by kernel_rfl) rfl (fun h => by cases h)
theorem allT : AllT Go.Proofs.Tryz.prog T := ⟨tok_2, tok_3, tok_4, tok_5, tok_6, tok_7, tok_8, tok_9, tok_10, tok_11, tok_12, tok_13, tok_14, tok_21, tok_22, tok_23, tok_24, tok_25, tok_26, tok_27, tok_37, tok_45, tok_46, tok_71, tok_72, tok_73, tok_76, tok_77, tok_81, tok_82, tok_121, tok_122, tok_124, tok_128, tok_142, tok_143, tok_180, tok_190, tok_199, tok_201, tok_208, tok_221, tok_225, tok_226, tok_227, tok_228, tok_234, tok_235, tok_237, tok_238, trivial⟩
theorem seat_T : TOk Go.Proofs.Tryz.prog T := fun t i h => allT.mem t i (look_mem h)
theorem fok_10 : ∀ fn : Func, some Go.Proofs.Tryz.f10 = some fn → FOk Go.Proofs.Tryz.prog 10 fn := by
  intro fn h; cases h; exact ⟨Go.Proofs.Tryz.func10, by kernel_rfl, by kernel_rfl⟩
theorem fok_14 : ∀ fn : Func, some Go.Proofs.Tryz.f14 = some fn → FOk Go.Proofs.Tryz.prog 14 fn := by
  intro fn h; cases h; exact ⟨Go.Proofs.Tryz.func14, by kernel_rfl, by kernel_rfl⟩
theorem fok_16 : ∀ fn : Func, some Go.Proofs.Tryz.f16 = some fn → FOk Go.Proofs.Tryz.prog 16 fn := by
  intro fn h; cases h; exact ⟨Go.Proofs.Tryz.func16, by kernel_rfl, by kernel_rfl⟩
theorem fok_19 : ∀ fn : Func, some Go.Proofs.Tryz.f19 = some fn → FOk Go.Proofs.Tryz.prog 19 fn := by
  intro fn h; cases h; exact ⟨Go.Proofs.Tryz.func19, by kernel_rfl, by kernel_rfl⟩
theorem fok_22 : ∀ fn : Func, some Go.Proofs.Tryz.f22 = some fn → FOk Go.Proofs.Tryz.prog 22 fn := by
  intro fn h; cases h; exact ⟨Go.Proofs.Tryz.func22, by kernel_rfl, by kernel_rfl⟩
theorem fok_27 : ∀ fn : Func, some Go.Proofs.Tryz.f27 = some fn → FOk Go.Proofs.Tryz.prog 27 fn := by
  intro fn h; cases h; exact ⟨Go.Proofs.Tryz.func27, by kernel_rfl, by kernel_rfl⟩
theorem fok_34 : ∀ fn : Func, some Go.Proofs.Tryz.f34 = some fn → FOk Go.Proofs.Tryz.prog 34 fn := by
  intro fn h; cases h; exact ⟨Go.Proofs.Tryz.func34, by kernel_rfl, by kernel_rfl⟩
theorem fok_35 : ∀ fn : Func, some Go.Proofs.Tryz.f35 = some fn → FOk Go.Proofs.Tryz.prog 35 fn := by
  intro fn h; cases h; exact ⟨Go.Proofs.Tryz.func35, by kernel_rfl, by kernel_rfl⟩
theorem fok_44 : ∀ fn : Func, some Go.Proofs.Tryz.f44 = some fn → FOk Go.Proofs.Tryz.prog 44 fn := by
  intro fn h; cases h; exact ⟨Go.Proofs.Tryz.func44, by kernel_rfl, by kernel_rfl⟩
theorem fok_46 : ∀ fn : Func, some Go.Proofs.Tryz.f46 = some fn → FOk Go.Proofs.Tryz.prog 46 fn := by
  intro fn h; cases h; exact ⟨Go.Proofs.Tryz.func46, by kernel_rfl, by kernel_rfl⟩
theorem fok_47 : ∀ fn : Func, some Go.Proofs.Tryz.f47 = some fn → FOk Go.Proofs.Tryz.prog 47 fn := by
  intro fn h; cases h; exact ⟨Go.Proofs.Tryz.func47, by kernel_rfl, by kernel_rfl⟩
theorem fok_50 : ∀ fn : Func, some Go.Proofs.Tryz.f50 = some fn → FOk Go.Proofs.Tryz.prog 50 fn := by
  intro fn h; cases h; exact ⟨Go.Proofs.Tryz.func50, by kernel_rfl, by kernel_rfl⟩
theorem fok_51 : ∀ fn : Func, some Go.Proofs.Tryz.f51 = some fn → FOk Go.Proofs.Tryz.prog 51 fn := by
  intro fn h; cases h; exact ⟨Go.Proofs.Tryz.func51, by kernel_rfl, by kernel_rfl⟩
theorem fok_52 : ∀ fn : Func, some Go.Proofs.Tryz.f52 = some fn → FOk Go.Proofs.Tryz.prog 52 fn := by
  intro fn h; cases h; exact ⟨Go.Proofs.Tryz.func52, by kernel_rfl, by kernel_rfl⟩
theorem fok_53 : ∀ fn : Func, some Go.Proofs.Tryz.f53 = some fn → FOk Go.Proofs.Tryz.prog 53 fn := by
  intro fn h; cases h; exact ⟨Go.Proofs.Tryz.func53, by kernel_rfl, by kernel_rfl⟩
theorem fok_65 : ∀ fn : Func, some Go.Proofs.Tryz.f65 = some fn → FOk Go.Proofs.Tryz.prog 65 fn := by
  intro fn h; cases h; exact ⟨Go.Proofs.Tryz.func65, by kernel_rfl, by kernel_rfl⟩
theorem fok_69 : ∀ fn : Func, some Go.Proofs.Tryz.f69 = some fn → FOk Go.Proofs.Tryz.prog 69 fn := by
  intro fn h; cases h; exact ⟨Go.Proofs.Tryz.func69, by kernel_rfl, by kernel_rfl⟩
theorem fok_70 : ∀ fn : Func, some Go.Proofs.Tryz.f70 = some fn → FOk Go.Proofs.Tryz.prog 70 fn := by
  intro fn h; cases h; exact ⟨Go.Proofs.Tryz.func70, by kernel_rfl, by kernel_rfl⟩
theorem fok_71 : ∀ fn : Func, some Go.Proofs.Tryz.f71 = some fn → FOk Go.Proofs.Tryz.prog 71 fn := by
  intro fn h; cases h; exact ⟨Go.Proofs.Tryz.func71, by kernel_rfl, by kernel_rfl⟩
theorem fok_78 : ∀ fn : Func, some Go.Proofs.Tryz.f78 = some fn → FOk Go.Proofs.Tryz.prog 78 fn := by
  intro fn h; cases h; exact ⟨Go.Proofs.Tryz.func78, by kernel_rfl, by kernel_rfl⟩
theorem fok_79 : ∀ fn : Func, some Go.Proofs.Tryz.f79 = some fn → FOk Go.Proofs.Tryz.prog 79 fn := by
  intro fn h; cases h; exact ⟨Go.Proofs.Tryz.func79, by kernel_rfl, by kernel_rfl⟩
theorem fok_82 : ∀ fn : Func, some Go.Proofs.Tryz.f82 = some fn → FOk Go.Proofs.Tryz.prog 82 fn := by
  intro fn h; cases h; exact ⟨Go.Proofs.Tryz.func82, by kernel_rfl, by kernel_rfl⟩
theorem fok_84 : ∀ fn : Func, some Go.Proofs.Tryz.f84 = some fn → FOk Go.Proofs.Tryz.prog 84 fn := by
  intro fn h; cases h; exact ⟨Go.Proofs.Tryz.func84, by kernel_rfl, by kernel_rfl⟩
theorem fok_93 : ∀ fn : Func, some Go.Proofs.Tryz.f93 = some fn → FOk Go.Proofs.Tryz.prog 93 fn := by
  intro fn h; cases h; exact ⟨Go.Proofs.Tryz.func93, by kernel_rfl, by kernel_rfl⟩
theorem fok_99 : ∀ fn : Func, some Go.Proofs.Tryz.f99 = some fn → FOk Go.Proofs.Tryz.prog 99 fn := by
  intro fn h; cases h; exact ⟨Go.Proofs.Tryz.func99, by kernel_rfl, by kernel_rfl⟩
theorem fok_100 : ∀ fn : Func, some Go.Proofs.Tryz.f100 = some fn → FOk Go.Proofs.Tryz.prog 100 fn := by
  intro fn h; cases h; exact ⟨Go.Proofs.Tryz.func100, by kernel_rfl, by kernel_rfl⟩
theorem fok_101 : ∀ fn : Func, some Go.Proofs.Tryz.f101 = some fn → FOk Go.Proofs.Tryz.prog 101 fn := by
  intro fn h; cases h; exact ⟨Go.Proofs.Tryz.func101, by kernel_rfl, by kernel_rfl⟩
theorem fok_102 : ∀ fn : Func, some Go.Proofs.Tryz.f102 = some fn → FOk Go.Proofs.Tryz.prog 102 fn := by
  intro fn h; cases h; exact ⟨Go.Proofs.Tryz.func102, by kernel_rfl, by kernel_rfl⟩
theorem fok_107 : ∀ fn : Func, some Go.Proofs.Tryz.f107 = some fn → FOk Go.Proofs.Tryz.prog 107 fn := by
  intro fn h; cases h; exact ⟨Go.Proofs.Tryz.func107, by kernel_rfl, by kernel_rfl⟩
theorem fok_113 : ∀ fn : Func, some Go.Proofs.Tryz.f113 = some fn → FOk Go.Proofs.Tryz.prog 113 fn := by
  intro fn h; cases h; exact ⟨Go.Proofs.Tryz.func113, by kernel_rfl, by kernel_rfl⟩
theorem fok_117 : ∀ fn : Func, some Go.Proofs.Tryz.f117 = some fn → FOk Go.Proofs.Tryz.prog 117 fn := by
  intro fn h; cases h; exact ⟨Go.Proofs.Tryz.func117, by kernel_rfl, by kernel_rfl⟩
theorem fok_119 : ∀ fn : Func, some Go.Proofs.Tryz.f119 = some fn → FOk Go.Proofs.Tryz.prog 119 fn := by
  intro fn h; cases h; exact ⟨Go.Proofs.Tryz.func119, by kernel_rfl, by kernel_rfl⟩
theorem fok_120 : ∀ fn : Func, some Go.Proofs.Tryz.f120 = some fn → FOk Go.Proofs.Tryz.prog 120 fn := by
  intro fn h; cases h; exact ⟨Go.Proofs.Tryz.func120, by kernel_rfl, by kernel_rfl⟩
theorem fok_121 : ∀ fn : Func, some Go.Proofs.Tryz.f121 = some fn → FOk Go.Proofs.Tryz.prog 121 fn := by
  intro fn h; cases h; exact ⟨Go.Proofs.Tryz.func121, by kernel_rfl, by kernel_rfl⟩
theorem fok_122 : ∀ fn : Func, some Go.Proofs.Tryz.f122 = some fn → FOk Go.Proofs.Tryz.prog 122 fn := by
  intro fn h; cases h; exact ⟨Go.Proofs.Tryz.func122, by kernel_rfl, by kernel_rfl⟩
theorem fok_123 : ∀ fn : Func, some Go.Proofs.Tryz.f123 = some fn → FOk Go.Proofs.Tryz.prog 123 fn := by
  intro fn h; cases h; exact ⟨Go.Proofs.Tryz.func123, by kernel_rfl, by kernel_rfl⟩
theorem fok_124 : ∀ fn : Func, some Go.Proofs.Tryz.f124 = some fn → FOk Go.Proofs.Tryz.prog 124 fn := by
  intro fn h; cases h; exact ⟨Go.Proofs.Tryz.func124, by kernel_rfl, by kernel_rfl⟩
theorem fok_125 : ∀ fn : Func, some Go.Proofs.Tryz.f125 = some fn → FOk Go.Proofs.Tryz.prog 125 fn := by
  intro fn h; cases h; exact ⟨Go.Proofs.Tryz.func125, by kernel_rfl, by kernel_rfl⟩
theorem fok_132 : ∀ fn : Func, some Go.Proofs.Tryz.f132 = some fn → FOk Go.Proofs.Tryz.prog 132 fn := by
  intro fn h; cases h; exact ⟨Go.Proofs.Tryz.func132, by kernel_rfl, by kernel_rfl⟩
theorem fok_137 : ∀ fn : Func, some Go.Proofs.Tryz.f137 = some fn → FOk Go.Proofs.Tryz.prog 137 fn := by
  intro fn h; cases h; exact ⟨Go.Proofs.Tryz.func137, by kernel_rfl, by kernel_rfl⟩
theorem fok_138 : ∀ fn : Func, some Go.Proofs.Tryz.f138 = some fn → FOk Go.Proofs.Tryz.prog 138 fn := by
  intro fn h; cases h; exact ⟨Go.Proofs.Tryz.func138, by kernel_rfl, by kernel_rfl⟩
theorem fok_139 : ∀ fn : Func, some Go.Proofs.Tryz.f139 = some fn → FOk Go.Proofs.Tryz.prog 139 fn := by
  intro fn h; cases h; exact ⟨Go.Proofs.Tryz.func139, by kernel_rfl, by kernel_rfl⟩
theorem fok_140 : ∀ fn : Func, some Go.Proofs.Tryz.f140 = some fn → FOk Go.Proofs.Tryz.prog 140 fn := by
  intro fn h; cases h; exact ⟨Go.Proofs.Tryz.func140, by kernel_rfl, by kernel_rfl⟩
theorem fok_141 : ∀ fn : Func, some Go.Proofs.Tryz.f141 = some fn → FOk Go.Proofs.Tryz.prog 141 fn := by
  intro fn h; cases h; exact ⟨Go.Proofs.Tryz.func141, by kernel_rfl, by kernel_rfl⟩
theorem fok_142 : ∀ fn : Func, some Go.Proofs.Tryz.f142 = some fn → FOk Go.Proofs.Tryz.prog 142 fn := by
  intro fn h; cases h; exact ⟨Go.Proofs.Tryz.func142, by kernel_rfl, by kernel_rfl⟩
theorem fok_143 : ∀ fn : Func, some Go.Proofs.Tryz.f143 = some fn → FOk Go.Proofs.Tryz.prog 143 fn := by
  intro fn h; cases h; exact ⟨Go.Proofs.Tryz.func143, by kernel_rfl, by kernel_rfl⟩
theorem fok_144 : ∀ fn : Func, some Go.Proofs.Tryz.f144 = some fn → FOk Go.Proofs.Tryz.prog 144 fn := by
  intro fn h; cases h; exact ⟨Go.Proofs.Tryz.func144, by kernel_rfl, by kernel_rfl⟩
theorem fok_145 : ∀ fn : Func, some Go.Proofs.Tryz.f145 = some fn → FOk Go.Proofs.Tryz.prog 145 fn := by
  intro fn h; cases h; exact ⟨Go.Proofs.Tryz.func145, by kernel_rfl, by kernel_rfl⟩
theorem fok_146 : ∀ fn : Func, some Go.Proofs.Tryz.f146 = some fn → FOk Go.Proofs.Tryz.prog 146 fn := by
  intro fn h; cases h; exact ⟨Go.Proofs.Tryz.func146, by kernel_rfl, by kernel_rfl⟩
theorem fok_147 : ∀ fn : Func, some Go.Proofs.Tryz.f147 = some fn → FOk Go.Proofs.Tryz.prog 147 fn := by
  intro fn h; cases h; exact ⟨Go.Proofs.Tryz.func147, by kernel_rfl, by kernel_rfl⟩
theorem fok_148 : ∀ fn : Func, some Go.Proofs.Tryz.f148 = some fn → FOk Go.Proofs.Tryz.prog 148 fn := by
  intro fn h; cases h; exact ⟨Go.Proofs.Tryz.func148, by kernel_rfl, by kernel_rfl⟩
theorem fok_151 : ∀ fn : Func, some Go.Proofs.Tryz.f151 = some fn → FOk Go.Proofs.Tryz.prog 151 fn := by
  intro fn h; cases h; exact ⟨Go.Proofs.Tryz.func151, by kernel_rfl, by kernel_rfl⟩
theorem fok_152 : ∀ fn : Func, some Go.Proofs.Tryz.f152 = some fn → FOk Go.Proofs.Tryz.prog 152 fn := by
  intro fn h; cases h; exact ⟨Go.Proofs.Tryz.func152, by kernel_rfl, by kernel_rfl⟩
theorem fok_153 : ∀ fn : Func, some Go.Proofs.Tryz.f153 = some fn → FOk Go.Proofs.Tryz.prog 153 fn := by
  intro fn h; cases h; exact ⟨Go.Proofs.Tryz.func153, by kernel_rfl, by kernel_rfl⟩
theorem fok_154 : ∀ fn : Func, some Go.Proofs.Tryz.f154 = some fn → FOk Go.Proofs.Tryz.prog 154 fn := by
  intro fn h; cases h; exact ⟨Go.Proofs.Tryz.func154, by kernel_rfl, by kernel_rfl⟩
theorem fok_155 : ∀ fn : Func, some Go.Proofs.Tryz.f155 = some fn → FOk Go.Proofs.Tryz.prog 155 fn := by
  intro fn h; cases h; exact ⟨Go.Proofs.Tryz.func155, by kernel_rfl, by kernel_rfl⟩
theorem fok_156 : ∀ fn : Func, some Go.Proofs.Tryz.f156 = some fn → FOk Go.Proofs.Tryz.prog 156 fn := by
  intro fn h; cases h; exact ⟨Go.Proofs.Tryz.func156, by kernel_rfl, by kernel_rfl⟩
theorem fok_157 : ∀ fn : Func, some Go.Proofs.Tryz.f157 = some fn → FOk Go.Proofs.Tryz.prog 157 fn := by
  intro fn h; cases h; exact ⟨Go.Proofs.Tryz.func157, by kernel_rfl, by kernel_rfl⟩
theorem fok_165 : ∀ fn : Func, some Go.Proofs.Tryz.f165 = some fn → FOk Go.Proofs.Tryz.prog 165 fn := by
  intro fn h; cases h; exact ⟨Go.Proofs.Tryz.func165, by kernel_rfl, by kernel_rfl⟩
theorem fok_166 : ∀ fn : Func, some Go.Proofs.Tryz.f166 = some fn → FOk Go.Proofs.Tryz.prog 166 fn := by
  intro fn h; cases h; exact ⟨Go.Proofs.Tryz.func166, by kernel_rfl, by kernel_rfl⟩
theorem fok_167 : ∀ fn : Func, some Go.Proofs.Tryz.f167 = some fn → FOk Go.Proofs.Tryz.prog 167 fn := by
  intro fn h; cases h; exact ⟨Go.Proofs.Tryz.func167, by kernel_rfl, by kernel_rfl⟩
theorem fok_168 : ∀ fn : Func, some Go.Proofs.Tryz.f168 = some fn → FOk Go.Proofs.Tryz.prog 168 fn := by
  intro fn h; cases h; exact ⟨Go.Proofs.Tryz.func168, by kernel_rfl, by kernel_rfl⟩
theorem fok_169 : ∀ fn : Func, some Go.Proofs.Tryz.f169 = some fn → FOk Go.Proofs.Tryz.prog 169 fn := by
  intro fn h; cases h; exact ⟨Go.Proofs.Tryz.func169, by kernel_rfl, by kernel_rfl⟩
theorem fok_170 : ∀ fn : Func, some Go.Proofs.Tryz.f170 = some fn → FOk Go.Proofs.Tryz.prog 170 fn := by
  intro fn h; cases h; exact ⟨Go.Proofs.Tryz.func170, by kernel_rfl, by kernel_rfl⟩
theorem fok_172 : ∀ fn : Func, some Go.Proofs.Tryz.f172 = some fn → FOk Go.Proofs.Tryz.prog 172 fn := by
  intro fn h; cases h; exact ⟨Go.Proofs.Tryz.func172, by kernel_rfl, by kernel_rfl⟩
theorem fok_179 : ∀ fn : Func, some Go.Proofs.Tryz.f179 = some fn → FOk Go.Proofs.Tryz.prog 179 fn := by
  intro fn h; cases h; exact ⟨Go.Proofs.Tryz.func179, by kernel_rfl, by kernel_rfl⟩
theorem fok_180 : ∀ fn : Func, some Go.Proofs.Tryz.f180 = some fn → FOk Go.Proofs.Tryz.prog 180 fn := by
  intro fn h; cases h; exact ⟨Go.Proofs.Tryz.func180, by kernel_rfl, by kernel_rfl⟩
theorem fok_181 : ∀ fn : Func, some Go.Proofs.Tryz.f181 = some fn → FOk Go.Proofs.Tryz.prog 181 fn := by
  intro fn h; cases h; exact ⟨Go.Proofs.Tryz.func181, by kernel_rfl, by kernel_rfl⟩
theorem fok_186 : ∀ fn : Func, some Go.Proofs.Tryz.f186 = some fn → FOk Go.Proofs.Tryz.prog 186 fn := by
  intro fn h; cases h; exact ⟨Go.Proofs.Tryz.func186, by kernel_rfl, by kernel_rfl⟩
theorem fok_187 : ∀ fn : Func, some Go.Proofs.Tryz.f187 = some fn → FOk Go.Proofs.Tryz.prog 187 fn := by
  intro fn h; cases h; exact ⟨Go.Proofs.Tryz.func187, by kernel_rfl, by kernel_rfl⟩
theorem fok_188 : ∀ fn : Func, some Go.Proofs.Tryz.f188 = some fn → FOk Go.Proofs.Tryz.prog 188 fn := by
  intro fn h; cases h; exact ⟨Go.Proofs.Tryz.func188, by kernel_rfl, by kernel_rfl⟩
theorem fok_189 : ∀ fn : Func, some Go.Proofs.Tryz.f189 = some fn → FOk Go.Proofs.Tryz.prog 189 fn := by
  intro fn h; cases h; exact ⟨Go.Proofs.Tryz.func189, by kernel_rfl, by kernel_rfl⟩
theorem fok_190 : ∀ fn : Func, some Go.Proofs.Tryz.f190 = some fn → FOk Go.Proofs.Tryz.prog 190 fn := by
  intro fn h; cases h; exact ⟨Go.Proofs.Tryz.func190, by kernel_rfl, by kernel_rfl⟩
theorem fok_191 : ∀ fn : Func, some Go.Proofs.Tryz.f191 = some fn → FOk Go.Proofs.Tryz.prog 191 fn := by
  intro fn h; cases h; exact ⟨Go.Proofs.Tryz.func191, by kernel_rfl, by kernel_rfl⟩
theorem fok_192 : ∀ fn : Func, some Go.Proofs.Tryz.f192 = some fn → FOk Go.Proofs.Tryz.prog 192 fn := by
  intro fn h; cases h; exact ⟨Go.Proofs.Tryz.func192, by kernel_rfl, by kernel_rfl⟩
theorem fok_193 : ∀ fn : Func, some Go.Proofs.Tryz.f193 = some fn → FOk Go.Proofs.Tryz.prog 193 fn := by
  intro fn h; cases h; exact ⟨Go.Proofs.Tryz.func193, by kernel_rfl, by kernel_rfl⟩
theorem fok_194 : ∀ fn : Func, some Go.Proofs.Tryz.f194 = some fn → FOk Go.Proofs.Tryz.prog 194 fn := by
  intro fn h; cases h; exact ⟨Go.Proofs.Tryz.func194, by kernel_rfl, by kernel_rfl⟩
theorem fok_195 : ∀ fn : Func, some Go.Proofs.Tryz.f195 = some fn → FOk Go.Proofs.Tryz.prog 195 fn := by
  intro fn h; cases h; exact ⟨Go.Proofs.Tryz.func195, by kernel_rfl, by kernel_rfl⟩
theorem fok_198 : ∀ fn : Func, some Go.Proofs.Tryz.f198 = some fn → FOk Go.Proofs.Tryz.prog 198 fn := by
  intro fn h; cases h; exact ⟨Go.Proofs.Tryz.func198, by kernel_rfl, by kernel_rfl⟩
theorem fok_201 : ∀ fn : Func, some Go.Proofs.Tryz.f201 = some fn → FOk Go.Proofs.Tryz.prog 201 fn := by
  intro fn h; cases h; exact ⟨Go.Proofs.Tryz.func201, by kernel_rfl, by kernel_rfl⟩
theorem fok_202 : ∀ fn : Func, some Go.Proofs.Tryz.f202 = some fn → FOk Go.Proofs.Tryz.prog 202 fn := by
  intro fn h; cases h; exact ⟨Go.Proofs.Tryz.func202, by kernel_rfl, by kernel_rfl⟩
theorem fok_203 : ∀ fn : Func, some Go.Proofs.Tryz.f203 = some fn → FOk Go.Proofs.Tryz.prog 203 fn := by
  intro fn h; cases h; exact ⟨Go.Proofs.Tryz.func203, by kernel_rfl, by kernel_rfl⟩
theorem fok_204 : ∀ fn : Func, some Go.Proofs.Tryz.f204 = some fn → FOk Go.Proofs.Tryz.prog 204 fn := by
  intro fn h; cases h; exact ⟨Go.Proofs.Tryz.func204, by kernel_rfl, by kernel_rfl⟩
theorem fok_211 : ∀ fn : Func, some Go.Proofs.Tryz.f211 = some fn → FOk Go.Proofs.Tryz.prog 211 fn := by
  intro fn h; cases h; exact ⟨Go.Proofs.Tryz.func211, by kernel_rfl, by kernel_rfl⟩
theorem fok_213 : ∀ fn : Func, some Go.Proofs.Tryz.f213 = some fn → FOk Go.Proofs.Tryz.prog 213 fn := by
  intro fn h; cases h; exact ⟨Go.Proofs.Tryz.func213, by kernel_rfl, by kernel_rfl⟩
theorem fok_214 : ∀ fn : Func, some Go.Proofs.Tryz.f214 = some fn → FOk Go.Proofs.Tryz.prog 214 fn := by
  intro fn h; cases h; exact ⟨Go.Proofs.Tryz.func214, by kernel_rfl, by kernel_rfl⟩
theorem fok_217 : ∀ fn : Func, some Go.Proofs.Tryz.f217 = some fn → FOk Go.Proofs.Tryz.prog 217 fn := by
  intro fn h; cases h; exact ⟨Go.Proofs.Tryz.func217, by kernel_rfl, by kernel_rfl⟩
theorem fok_218 : ∀ fn : Func, some Go.Proofs.Tryz.f218 = some fn → FOk Go.Proofs.Tryz.prog 218 fn := by
  intro fn h; cases h; exact ⟨Go.Proofs.Tryz.func218, by kernel_rfl, by kernel_rfl⟩
theorem fok_228 : ∀ fn : Func, some Go.Proofs.Tryz.f228 = some fn → FOk Go.Proofs.Tryz.prog 228 fn := by
  intro fn h; cases h; exact ⟨Go.Proofs.Tryz.func228, by kernel_rfl, by kernel_rfl⟩
theorem allF : AllF Go.Proofs.Tryz.prog F := ⟨fok_10, fok_14, fok_16, fok_19, fok_22, fok_27, fok_34, fok_35, fok_44, fok_46, fok_47, fok_50, fok_51, fok_52, fok_53, fok_65, fok_69, fok_70, fok_71, fok_78, fok_79, fok_82, fok_84, fok_93, fok_99, fok_100, fok_101, fok_102, fok_107, fok_113, fok_117, fok_119, fok_120, fok_121, fok_122, fok_123, fok_124, fok_125, fok_132, fok_137, fok_138, fok_139, fok_140, fok_141, fok_142, fok_143, fok_144, fok_145, fok_146, fok_147, fok_148, fok_151, fok_152, fok_153, fok_154, fok_155, fok_156, fok_157, fok_165, fok_166, fok_167, fok_168, fok_169, fok_170, fok_172, fok_179, fok_180, fok_181, fok_186, fok_187, fok_188, fok_189, fok_190, fok_191, fok_192, fok_193, fok_194, fok_195, fok_198, fok_201, fok_202, fok_203, fok_204, fok_211, fok_213, fok_214, fok_217, fok_218, fok_228, trivial⟩
theorem seat_F : ∀ f fn, look F f = some fn → FOk Go.Proofs.Tryz.prog f fn := fun t i h => allF.mem t i (look_mem h)
end Go.Px.Seat
