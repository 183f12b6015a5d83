/- The tables tell the program. Printed by mkok.py. -/
import Derived.Test.YthallaeafilbbaaGreatDoorS3
import Derived.Test.YthallaeafilbbaaGreatDoorA5
import Derived.KernelRfl
set_option linter.unusedVariables false

namespace Go.Px.Seat
open Go
set_option maxRecDepth 100000
theorem TIOk.of {P : Program} {t : TypeId} {i : TI} {d : TypeDesc} (h1 : P.underlying t = some d) (h2 : DescOk i.d d) (h3 : (P.info? t).bind (fun j => j.zero.map fun z => (j.size, j.bytes, z.cells.toList)) = some (i.size, i.bytes, zeroVals i.ty))
    (h4 : i.ty.size = i.size) (h5 : i.eqf = true → EqOk P t i.ty) : TIOk P t i := by
  refine ⟨⟨d, h1, h2⟩, ?_, h4, h5⟩
  simp only [Option.bind_eq_some_iff, Option.map_eq_some_iff, Prod.mk.injEq] at h3
  obtain ⟨j, hj, z, hz, e1, e2, e3⟩ := h3
  exact ⟨j, hj, e1, e2, z, hz, e3⟩
def AllT (P : Program) : Types → Prop
  | [] => True
  | p :: l => (∀ i, p.2 = some i → TIOk P p.1 i) ∧ AllT P l
theorem AllT.mem {P : Program} : ∀ {l : Types}, AllT P l → ∀ t i, (t, some i) ∈ l → TIOk P t i
  | _ :: _, h, t, i, hm => by
    rcases List.mem_cons.1 hm with rfl | hm
    · exact h.1 i rfl
    · exact AllT.mem h.2 t i hm
def FOk (P : Program) (f : Nat) (fn : Func) : Prop := P.funcs[f]? = some fn ∧ fn.body.isNone = false ∧ (fn.name == "runtime.NumGoroutine") = false
def AllF (P : Program) : Funcs → Prop
  | [] => True
  | p :: l => (∀ fn, p.2 = some fn → FOk P p.1 fn) ∧ AllF P l
theorem AllF.mem {P : Program} : ∀ {l : Funcs}, AllF P l → ∀ t i, (t, some i) ∈ l → FOk P t i
  | _ :: _, h, t, i, hm => by
    rcases List.mem_cons.1 hm with rfl | hm
    · exact h.1 i rfl
    · exact AllF.mem h.2 t i hm
theorem tok_2 : ∀ i : TI, some (⟨(.int .i64), (.int .i64), 1, 8, false⟩ : TI) = some i → TIOk Go.Proofs.Tryz.prog 2 i := by
  intro i h; cases h
  exact TIOk.of Go.Proofs.Tryz.underlying2 (by first | rfl | trivial) (by kernel_rfl) rfl (fun h => by cases h)
theorem tok_3 : ∀ i : TI, some (⟨(.int .i64), (.int .i64), 1, 8, false⟩ : TI) = some i → TIOk Go.Proofs.Tryz.prog 3 i := by
  intro i h; cases h
  exact TIOk.of Go.Proofs.Tryz.underlying3 (by first | rfl | trivial) (by kernel_rfl) rfl (fun h => by cases h)
theorem tok_4 : ∀ i : TI, some (⟨.bool, .bool, 1, 1, false⟩ : TI) = some i → TIOk Go.Proofs.Tryz.prog 4 i := by
  intro i h; cases h
  exact TIOk.of Go.Proofs.Tryz.underlying4 (by first | rfl | trivial) (by kernel_rfl) rfl (fun h => by cases h)
theorem tok_5 : ∀ i : TI, some (⟨(.int .u8), (.int .u8), 1, 1, false⟩ : TI) = some i → TIOk Go.Proofs.Tryz.prog 5 i := by
  intro i h; cases h
  exact TIOk.of Go.Proofs.Tryz.underlying5 (by first | rfl | trivial) (by kernel_rfl) rfl (fun h => by cases h)
theorem tok_6 : ∀ i : TI, some (⟨(.int .u8), (.int .u8), 1, 1, false⟩ : TI) = some i → TIOk Go.Proofs.Tryz.prog 6 i := by
  intro i h; cases h
  exact TIOk.of Go.Proofs.Tryz.underlying6 (by first | rfl | trivial) (by kernel_rfl) rfl (fun h => by cases h)
theorem tok_7 : ∀ i : TI, some (⟨(.struct [(0, 2), (1, 3), (2, 4), (3, 6)]), (.cons (.int .i64) (.cons (.int .i64) (.cons .bool (.cons (.int .u8) .nil)))), 4, 24, false⟩ : TI) = some i → TIOk Go.Proofs.Tryz.prog 7 i := by
  intro i h; cases h
  exact TIOk.of Go.Proofs.Tryz.underlying7 (by first | rfl | trivial) (by kernel_rfl) rfl (fun h => by cases h)
theorem tok_8 : ∀ i : TI, some (⟨(.struct [(0, 2), (1, 3), (2, 4), (3, 6)]), (.cons (.int .i64) (.cons (.int .i64) (.cons .bool (.cons (.int .u8) .nil)))), 4, 24, false⟩ : TI) = some i → TIOk Go.Proofs.Tryz.prog 8 i := by
  intro i h; cases h
  exact TIOk.of Go.Proofs.Tryz.underlying8 (by first | rfl | trivial) (by kernel_rfl) rfl (fun h => by cases h)
theorem tok_9 : ∀ i : TI, some (⟨.string, .str, 1, 16, false⟩ : TI) = some i → TIOk Go.Proofs.Tryz.prog 9 i := by
  intro i h; cases h
  exact TIOk.of Go.Proofs.Tryz.underlying9 (by first | rfl | trivial) (by kernel_rfl) rfl (fun h => by cases h)
theorem tok_10 : ∀ i : TI, some (⟨.string, .str, 1, 16, false⟩ : TI) = some i → TIOk Go.Proofs.Tryz.prog 10 i := by
  intro i h; cases h
  exact TIOk.of Go.Proofs.Tryz.underlying10 (by first | rfl | trivial) (by kernel_rfl) rfl (fun h => by cases h)
theorem tok_11 : ∀ i : TI, some (⟨.string, .str, 1, 16, false⟩ : TI) = some i → TIOk Go.Proofs.Tryz.prog 11 i := by
  intro i h; cases h
  exact TIOk.of Go.Proofs.Tryz.underlying11 (by first | rfl | trivial) (by kernel_rfl) rfl (fun h => by cases h)
theorem tok_12 : ∀ i : TI, some (⟨(.int .u64), (.int .u64), 1, 8, false⟩ : TI) = some i → TIOk Go.Proofs.Tryz.prog 12 i := by
  intro i h; cases h
  exact TIOk.of Go.Proofs.Tryz.underlying12 (by first | rfl | trivial) (by kernel_rfl) rfl (fun h => by cases h)
theorem tok_13 : ∀ i : TI, some (⟨(.struct [(0, 9), (1, 12)]), (.cons .str (.cons (.int .u64) .nil)), 2, 24, false⟩ : TI) = some i → TIOk Go.Proofs.Tryz.prog 13 i := by
  intro i h; cases h
  exact TIOk.of Go.Proofs.Tryz.underlying13 (by first | rfl | trivial) (by kernel_rfl) rfl (fun h => by cases h)
theorem tok_14 : ∀ i : TI, some (⟨(.struct [(0, 9), (1, 12)]), (.cons .str (.cons (.int .u64) .nil)), 2, 24, false⟩ : TI) = some i → TIOk Go.Proofs.Tryz.prog 14 i := by
  intro i h; cases h
  exact TIOk.of Go.Proofs.Tryz.underlying14 (by first | rfl | trivial) (by kernel_rfl) rfl (fun h => by cases h)
theorem tok_21 : ∀ i : TI, some (⟨(.int .i32), (.int .i32), 1, 4, false⟩ : TI) = some i → TIOk Go.Proofs.Tryz.prog 21 i := by
  intro i h; cases h
  exact TIOk.of Go.Proofs.Tryz.underlying21 (by first | rfl | trivial) (by kernel_rfl) rfl (fun h => by cases h)
theorem tok_22 : ∀ i : TI, some (⟨(.slice 83), (.slice (.cons (.int .i64) (.cons (.int .i64) .nil))), 1, 24, false⟩ : TI) = some i → TIOk Go.Proofs.Tryz.prog 22 i := by
  intro i h; cases h
  exact TIOk.of Go.Proofs.Tryz.underlying22 (by first | rfl | trivial) (by kernel_rfl) rfl (fun h => by cases h)
theorem tok_23 : ∀ i : TI, some (⟨(.struct [(0, 22)]), (.cons (.slice (.cons (.int .i64) (.cons (.int .i64) .nil))) .nil), 1, 24, false⟩ : TI) = some i → TIOk Go.Proofs.Tryz.prog 23 i := by
  intro i h; cases h
  exact TIOk.of Go.Proofs.Tryz.underlying23 (by first | rfl | trivial) (by kernel_rfl) rfl (fun h => by cases h)
theorem tok_24 : ∀ i : TI, some (⟨(.struct [(0, 22)]), (.cons (.slice (.cons (.int .i64) (.cons (.int .i64) .nil))) .nil), 1, 24, false⟩ : TI) = some i → TIOk Go.Proofs.Tryz.prog 24 i := by
  intro i h; cases h
  exact TIOk.of Go.Proofs.Tryz.underlying24 (by first | rfl | trivial) (by kernel_rfl) rfl (fun h => by cases h)
theorem tok_25 : ∀ i : TI, some (⟨(.slice 9), (.slice .str), 1, 24, false⟩ : TI) = some i → TIOk Go.Proofs.Tryz.prog 25 i := by
  intro i h; cases h
  exact TIOk.of Go.Proofs.Tryz.underlying25 (by first | rfl | trivial) (by kernel_rfl) rfl (fun h => by cases h)
theorem tok_29 : ∀ i : TI, some (⟨(.slice 54), (.slice (.cons (.int .i64) (.cons (.int .i64) .nil))), 1, 24, false⟩ : TI) = some i → TIOk Go.Proofs.Tryz.prog 29 i := by
  intro i h; cases h
  exact TIOk.of Go.Proofs.Tryz.underlying29 (by first | rfl | trivial) (by kernel_rfl) rfl (fun h => by cases h)
theorem tok_30 : ∀ i : TI, some (⟨(.struct [(0, 29)]), (.cons (.slice (.cons (.int .i64) (.cons (.int .i64) .nil))) .nil), 1, 24, false⟩ : TI) = some i → TIOk Go.Proofs.Tryz.prog 30 i := by
  intro i h; cases h
  exact TIOk.of Go.Proofs.Tryz.underlying30 (by first | rfl | trivial) (by kernel_rfl) rfl (fun h => by cases h)
theorem tok_31 : ∀ i : TI, some (⟨(.struct [(0, 29)]), (.cons (.slice (.cons (.int .i64) (.cons (.int .i64) .nil))) .nil), 1, 24, false⟩ : TI) = some i → TIOk Go.Proofs.Tryz.prog 31 i := by
  intro i h; cases h
  exact TIOk.of Go.Proofs.Tryz.underlying31 (by first | rfl | trivial) (by kernel_rfl) rfl (fun h => by cases h)
theorem tok_37 : ∀ i : TI, some (⟨(.slice 5), (.slice (.int .u8)), 1, 24, false⟩ : TI) = some i → TIOk Go.Proofs.Tryz.prog 37 i := by
  intro i h; cases h
  exact TIOk.of Go.Proofs.Tryz.underlying37 (by first | rfl | trivial) (by kernel_rfl) rfl (fun h => by cases h)
theorem tok_38 : ∀ i : TI, some (⟨(.slice 73), (.slice (.cons (.int .i64) (.cons (.int .i64) (.cons .str .nil)))), 1, 24, false⟩ : TI) = some i → TIOk Go.Proofs.Tryz.prog 38 i := by
  intro i h; cases h
  exact TIOk.of Go.Proofs.Tryz.underlying38 (by first | rfl | trivial) (by kernel_rfl) rfl (fun h => by cases h)
theorem tok_39 : ∀ i : TI, some (⟨(.struct [(0, 38)]), (.cons (.slice (.cons (.int .i64) (.cons (.int .i64) (.cons .str .nil)))) .nil), 1, 24, false⟩ : TI) = some i → TIOk Go.Proofs.Tryz.prog 39 i := by
  intro i h; cases h
  exact TIOk.of Go.Proofs.Tryz.underlying39 (by first | rfl | trivial) (by kernel_rfl) rfl (fun h => by cases h)
theorem tok_40 : ∀ i : TI, some (⟨(.struct [(0, 38)]), (.cons (.slice (.cons (.int .i64) (.cons (.int .i64) (.cons .str .nil)))) .nil), 1, 24, false⟩ : TI) = some i → TIOk Go.Proofs.Tryz.prog 40 i := by
  intro i h; cases h
  exact TIOk.of Go.Proofs.Tryz.underlying40 (by first | rfl | trivial) (by kernel_rfl) rfl (fun h => by cases h)
theorem tok_53 : ∀ i : TI, some (⟨(.struct [(0, 3), (1, 3)]), (.cons (.int .i64) (.cons (.int .i64) .nil)), 2, 16, true⟩ : TI) = some i → TIOk Go.Proofs.Tryz.prog 53 i := by
  intro i h; cases h
  exact TIOk.of Go.Proofs.Tryz.underlying53 rfl (by kernel_rfl) rfl (fun _ => eqOk_flat Go.Proofs.Tryz.underlying53 (by kernel_rfl) (by kernel_rfl) ⟨rfl, by decide, ⟨_, Go.Proofs.Tryz.underlying3⟩, ⟨rfl, by decide, ⟨_, Go.Proofs.Tryz.underlying3⟩, trivial⟩⟩)
theorem tok_54 : ∀ i : TI, some (⟨(.struct [(0, 3), (1, 3)]), (.cons (.int .i64) (.cons (.int .i64) .nil)), 2, 16, true⟩ : TI) = some i → TIOk Go.Proofs.Tryz.prog 54 i := by
  intro i h; cases h
  exact TIOk.of Go.Proofs.Tryz.underlying54 rfl (by kernel_rfl) rfl (fun _ => eqOk_flat Go.Proofs.Tryz.underlying54 (by kernel_rfl) (by kernel_rfl) ⟨rfl, by decide, ⟨_, Go.Proofs.Tryz.underlying3⟩, ⟨rfl, by decide, ⟨_, Go.Proofs.Tryz.underlying3⟩, trivial⟩⟩)
theorem tok_61 : ∀ i : TI, some (⟨(.struct [(0, 9), (1, 3)]), (.cons .str (.cons (.int .i64) .nil)), 2, 24, true⟩ : TI) = some i → TIOk Go.Proofs.Tryz.prog 61 i := by
  intro i h; cases h
  exact TIOk.of Go.Proofs.Tryz.underlying61 rfl (by kernel_rfl) rfl (fun _ => eqOk_flat Go.Proofs.Tryz.underlying61 (by kernel_rfl) (by kernel_rfl) ⟨rfl, by decide, Go.Proofs.Tryz.underlying9, ⟨rfl, by decide, ⟨_, Go.Proofs.Tryz.underlying3⟩, trivial⟩⟩)
theorem tok_62 : ∀ i : TI, some (⟨(.struct [(0, 9), (1, 3)]), (.cons .str (.cons (.int .i64) .nil)), 2, 24, true⟩ : TI) = some i → TIOk Go.Proofs.Tryz.prog 62 i := by
  intro i h; cases h
  exact TIOk.of Go.Proofs.Tryz.underlying62 rfl (by kernel_rfl) rfl (fun _ => eqOk_flat Go.Proofs.Tryz.underlying62 (by kernel_rfl) (by kernel_rfl) ⟨rfl, by decide, Go.Proofs.Tryz.underlying9, ⟨rfl, by decide, ⟨_, Go.Proofs.Tryz.underlying3⟩, trivial⟩⟩)
theorem tok_63 : ∀ i : TI, some (⟨(.slice 62), (.slice (.cons .str (.cons (.int .i64) .nil))), 1, 24, false⟩ : TI) = some i → TIOk Go.Proofs.Tryz.prog 63 i := by
  intro i h; cases h
  exact TIOk.of Go.Proofs.Tryz.underlying63 (by first | rfl | trivial) (by kernel_rfl) rfl (fun h => by cases h)
theorem tok_68 : ∀ i : TI, some (⟨(.slice 104), (.slice (.cons (.int .i64) (.cons .str .nil))), 1, 24, false⟩ : TI) = some i → TIOk Go.Proofs.Tryz.prog 68 i := by
  intro i h; cases h
  exact TIOk.of Go.Proofs.Tryz.underlying68 (by first | rfl | trivial) (by kernel_rfl) rfl (fun h => by cases h)
theorem tok_72 : ∀ i : TI, some (⟨(.struct [(0, 3), (1, 3), (2, 9)]), (.cons (.int .i64) (.cons (.int .i64) (.cons .str .nil))), 3, 32, true⟩ : TI) = some i → TIOk Go.Proofs.Tryz.prog 72 i := by
  intro i h; cases h
  exact TIOk.of Go.Proofs.Tryz.underlying72 rfl (by kernel_rfl) rfl (fun _ => eqOk_flat Go.Proofs.Tryz.underlying72 (by kernel_rfl) (by kernel_rfl) ⟨rfl, by decide, ⟨_, Go.Proofs.Tryz.underlying3⟩, ⟨rfl, by decide, ⟨_, Go.Proofs.Tryz.underlying3⟩, ⟨rfl, by decide, Go.Proofs.Tryz.underlying9, trivial⟩⟩⟩)
theorem tok_73 : ∀ i : TI, some (⟨(.struct [(0, 3), (1, 3), (2, 9)]), (.cons (.int .i64) (.cons (.int .i64) (.cons .str .nil))), 3, 32, true⟩ : TI) = some i → TIOk Go.Proofs.Tryz.prog 73 i := by
  intro i h; cases h
  exact TIOk.of Go.Proofs.Tryz.underlying73 rfl (by kernel_rfl) rfl (fun _ => eqOk_flat Go.Proofs.Tryz.underlying73 (by kernel_rfl) (by kernel_rfl) ⟨rfl, by decide, ⟨_, Go.Proofs.Tryz.underlying3⟩, ⟨rfl, by decide, ⟨_, Go.Proofs.Tryz.underlying3⟩, ⟨rfl, by decide, Go.Proofs.Tryz.underlying9, trivial⟩⟩⟩)
theorem tok_78 : ∀ i : TI, some (⟨(.slice 3), (.slice (.int .i64)), 1, 24, false⟩ : TI) = some i → TIOk Go.Proofs.Tryz.prog 78 i := by
  intro i h; cases h
  exact TIOk.of Go.Proofs.Tryz.underlying78 (by first | rfl | trivial) (by kernel_rfl) rfl (fun h => by cases h)
theorem tok_79 : ∀ i : TI, some (⟨(.struct [(0, 4), (1, 78), (2, 78)]), (.cons .bool (.cons (.slice (.int .i64)) (.cons (.slice (.int .i64)) .nil))), 3, 56, false⟩ : TI) = some i → TIOk Go.Proofs.Tryz.prog 79 i := by
  intro i h; cases h
  exact TIOk.of Go.Proofs.Tryz.underlying79 (by first | rfl | trivial) (by kernel_rfl) rfl (fun h => by cases h)
theorem tok_80 : ∀ i : TI, some (⟨(.struct [(0, 4), (1, 78), (2, 78)]), (.cons .bool (.cons (.slice (.int .i64)) (.cons (.slice (.int .i64)) .nil))), 3, 56, false⟩ : TI) = some i → TIOk Go.Proofs.Tryz.prog 80 i := by
  intro i h; cases h
  exact TIOk.of Go.Proofs.Tryz.underlying80 (by first | rfl | trivial) (by kernel_rfl) rfl (fun h => by cases h)
theorem tok_83 : ∀ i : TI, some (⟨(.struct [(0, 3), (1, 3)]), (.cons (.int .i64) (.cons (.int .i64) .nil)), 2, 16, true⟩ : TI) = some i → TIOk Go.Proofs.Tryz.prog 83 i := by
  intro i h; cases h
  exact TIOk.of Go.Proofs.Tryz.underlying83 rfl (by kernel_rfl) rfl (fun _ => eqOk_flat Go.Proofs.Tryz.underlying83 (by kernel_rfl) (by kernel_rfl) ⟨rfl, by decide, ⟨_, Go.Proofs.Tryz.underlying3⟩, ⟨rfl, by decide, ⟨_, Go.Proofs.Tryz.underlying3⟩, trivial⟩⟩)
theorem tok_91 : ∀ i : TI, some (⟨(.struct [(0, 37), (1, 3)]), (.cons (.slice (.int .u8)) (.cons (.int .i64) .nil)), 2, 32, false⟩ : TI) = some i → TIOk Go.Proofs.Tryz.prog 91 i := by
  intro i h; cases h
  exact TIOk.of Go.Proofs.Tryz.underlying91 (by first | rfl | trivial) (by kernel_rfl) rfl (fun h => by cases h)
theorem tok_92 : ∀ i : TI, some (⟨(.struct [(0, 37), (1, 3)]), (.cons (.slice (.int .u8)) (.cons (.int .i64) .nil)), 2, 32, false⟩ : TI) = some i → TIOk Go.Proofs.Tryz.prog 92 i := by
  intro i h; cases h
  exact TIOk.of Go.Proofs.Tryz.underlying92 (by first | rfl | trivial) (by kernel_rfl) rfl (fun h => by cases h)
theorem tok_95 : ∀ i : TI, some (⟨(.struct [(0, 9), (1, 3)]), (.cons .str (.cons (.int .i64) .nil)), 2, 24, true⟩ : TI) = some i → TIOk Go.Proofs.Tryz.prog 95 i := by
  intro i h; cases h
  exact TIOk.of Go.Proofs.Tryz.underlying95 rfl (by kernel_rfl) rfl (fun _ => eqOk_flat Go.Proofs.Tryz.underlying95 (by kernel_rfl) (by kernel_rfl) ⟨rfl, by decide, Go.Proofs.Tryz.underlying9, ⟨rfl, by decide, ⟨_, Go.Proofs.Tryz.underlying3⟩, trivial⟩⟩)
theorem tok_96 : ∀ i : TI, some (⟨(.struct [(0, 9), (1, 3)]), (.cons .str (.cons (.int .i64) .nil)), 2, 24, true⟩ : TI) = some i → TIOk Go.Proofs.Tryz.prog 96 i := by
  intro i h; cases h
  exact TIOk.of Go.Proofs.Tryz.underlying96 rfl (by kernel_rfl) rfl (fun _ => eqOk_flat Go.Proofs.Tryz.underlying96 (by kernel_rfl) (by kernel_rfl) ⟨rfl, by decide, Go.Proofs.Tryz.underlying9, ⟨rfl, by decide, ⟨_, Go.Proofs.Tryz.underlying3⟩, trivial⟩⟩)
theorem tok_103 : ∀ i : TI, some (⟨(.struct [(0, 3), (1, 9)]), (.cons (.int .i64) (.cons .str .nil)), 2, 24, true⟩ : TI) = some i → TIOk Go.Proofs.Tryz.prog 103 i := by
  intro i h; cases h
  exact TIOk.of Go.Proofs.Tryz.underlying103 rfl (by kernel_rfl) rfl (fun _ => eqOk_flat Go.Proofs.Tryz.underlying103 (by kernel_rfl) (by kernel_rfl) ⟨rfl, by decide, ⟨_, Go.Proofs.Tryz.underlying3⟩, ⟨rfl, by decide, Go.Proofs.Tryz.underlying9, trivial⟩⟩)
theorem tok_104 : ∀ i : TI, some (⟨(.struct [(0, 3), (1, 9)]), (.cons (.int .i64) (.cons .str .nil)), 2, 24, true⟩ : TI) = some i → TIOk Go.Proofs.Tryz.prog 104 i := by
  intro i h; cases h
  exact TIOk.of Go.Proofs.Tryz.underlying104 rfl (by kernel_rfl) rfl (fun _ => eqOk_flat Go.Proofs.Tryz.underlying104 (by kernel_rfl) (by kernel_rfl) ⟨rfl, by decide, ⟨_, Go.Proofs.Tryz.underlying3⟩, ⟨rfl, by decide, Go.Proofs.Tryz.underlying9, trivial⟩⟩)
theorem tok_112 : ∀ i : TI, some (⟨(.struct [(0, 68), (1, 38), (2, 4), (3, 4)]), (.cons (.slice (.cons (.int .i64) (.cons .str .nil))) (.cons (.slice (.cons (.int .i64) (.cons (.int .i64) (.cons .str .nil)))) (.cons .bool (.cons .bool .nil)))), 4, 56, false⟩ : TI) = some i → TIOk Go.Proofs.Tryz.prog 112 i := by
  intro i h; cases h
  exact TIOk.of Go.Proofs.Tryz.underlying112 (by first | rfl | trivial) (by kernel_rfl) rfl (fun h => by cases h)
theorem tok_113 : ∀ i : TI, some (⟨(.struct [(0, 68), (1, 38), (2, 4), (3, 4)]), (.cons (.slice (.cons (.int .i64) (.cons .str .nil))) (.cons (.slice (.cons (.int .i64) (.cons (.int .i64) (.cons .str .nil)))) (.cons .bool (.cons .bool .nil)))), 4, 56, false⟩ : TI) = some i → TIOk Go.Proofs.Tryz.prog 113 i := by
  intro i h; cases h
  exact TIOk.of Go.Proofs.Tryz.underlying113 (by first | rfl | trivial) (by kernel_rfl) rfl (fun h => by cases h)
theorem tok_117 : ∀ i : TI, some (⟨(.struct [(0, 68), (1, 3), (2, 38), (3, 4), (4, 4)]), (.cons (.slice (.cons (.int .i64) (.cons .str .nil))) (.cons (.int .i64) (.cons (.slice (.cons (.int .i64) (.cons (.int .i64) (.cons .str .nil)))) (.cons .bool (.cons .bool .nil))))), 5, 64, false⟩ : TI) = some i → TIOk Go.Proofs.Tryz.prog 117 i := by
  intro i h; cases h
  exact TIOk.of Go.Proofs.Tryz.underlying117 (by first | rfl | trivial) (by kernel_rfl) rfl (fun h => by cases h)
theorem tok_118 : ∀ i : TI, some (⟨(.struct [(0, 68), (1, 3), (2, 38), (3, 4), (4, 4)]), (.cons (.slice (.cons (.int .i64) (.cons .str .nil))) (.cons (.int .i64) (.cons (.slice (.cons (.int .i64) (.cons (.int .i64) (.cons .str .nil)))) (.cons .bool (.cons .bool .nil))))), 5, 64, false⟩ : TI) = some i → TIOk Go.Proofs.Tryz.prog 118 i := by
  intro i h; cases h
  exact TIOk.of Go.Proofs.Tryz.underlying118 (by first | rfl | trivial) (by kernel_rfl) rfl (fun h => by cases h)
theorem tok_127 : ∀ i : TI, some (⟨(.int .u64), (.int .u64), 1, 8, false⟩ : TI) = some i → TIOk Go.Proofs.Tryz.prog 127 i := by
  intro i h; cases h
  exact TIOk.of Go.Proofs.Tryz.underlying127 (by first | rfl | trivial) (by kernel_rfl) rfl (fun h => by cases h)
theorem tok_128 : ∀ i : TI, some (⟨(.struct [(0, 4), (1, 127), (2, 3)]), (.cons .bool (.cons (.int .u64) (.cons (.int .i64) .nil))), 3, 24, true⟩ : TI) = some i → TIOk Go.Proofs.Tryz.prog 128 i := by
  intro i h; cases h
  exact TIOk.of Go.Proofs.Tryz.underlying128 rfl (by kernel_rfl) rfl (fun _ => eqOk_flat Go.Proofs.Tryz.underlying128 (by kernel_rfl) (by kernel_rfl) ⟨rfl, by decide, Go.Proofs.Tryz.underlying4, ⟨rfl, by decide, ⟨_, Go.Proofs.Tryz.underlying127⟩, ⟨rfl, by decide, ⟨_, Go.Proofs.Tryz.underlying3⟩, trivial⟩⟩⟩)
theorem tok_129 : ∀ i : TI, some (⟨(.struct [(0, 4), (1, 127), (2, 3)]), (.cons .bool (.cons (.int .u64) (.cons (.int .i64) .nil))), 3, 24, true⟩ : TI) = some i → TIOk Go.Proofs.Tryz.prog 129 i := by
  intro i h; cases h
  exact TIOk.of Go.Proofs.Tryz.underlying129 rfl (by kernel_rfl) rfl (fun _ => eqOk_flat Go.Proofs.Tryz.underlying129 (by kernel_rfl) (by kernel_rfl) ⟨rfl, by decide, Go.Proofs.Tryz.underlying4, ⟨rfl, by decide, ⟨_, Go.Proofs.Tryz.underlying127⟩, ⟨rfl, by decide, ⟨_, Go.Proofs.Tryz.underlying3⟩, trivial⟩⟩⟩)
theorem tok_136 : ∀ i : TI, some (⟨(.struct [(0, 4), (1, 78), (2, 78)]), (.cons .bool (.cons (.slice (.int .i64)) (.cons (.slice (.int .i64)) .nil))), 3, 56, false⟩ : TI) = some i → TIOk Go.Proofs.Tryz.prog 136 i := by
  intro i h; cases h
  exact TIOk.of Go.Proofs.Tryz.underlying136 (by first | rfl | trivial) (by kernel_rfl) rfl (fun h => by cases h)
theorem tok_137 : ∀ i : TI, some (⟨(.struct [(0, 4), (1, 78), (2, 78)]), (.cons .bool (.cons (.slice (.int .i64)) (.cons (.slice (.int .i64)) .nil))), 3, 56, false⟩ : TI) = some i → TIOk Go.Proofs.Tryz.prog 137 i := by
  intro i h; cases h
  exact TIOk.of Go.Proofs.Tryz.underlying137 (by first | rfl | trivial) (by kernel_rfl) rfl (fun h => by cases h)
theorem tok_144 : ∀ i : TI, some (⟨.err, .err, 1, 16, false⟩ : TI) = some i → TIOk Go.Proofs.Tryz.prog 144 i := by
  intro i h; cases h
  exact TIOk.of Go.Proofs.Tryz.underlying144 (by first | rfl | trivial) (by kernel_rfl) rfl (fun h => by cases h)
theorem tok_147 : ∀ i : TI, some (⟨(.slice 96), (.slice (.cons .str (.cons (.int .i64) .nil))), 1, 24, false⟩ : TI) = some i → TIOk Go.Proofs.Tryz.prog 147 i := by
  intro i h; cases h
  exact TIOk.of Go.Proofs.Tryz.underlying147 (by first | rfl | trivial) (by kernel_rfl) rfl (fun h => by cases h)
theorem tok_166 : ∀ i : TI, some (⟨(.int .u64), (.int .u64), 1, 8, false⟩ : TI) = some i → TIOk Go.Proofs.Tryz.prog 166 i := by
  intro i h; cases h
  exact TIOk.of Go.Proofs.Tryz.underlying166 (by first | rfl | trivial) (by kernel_rfl) rfl (fun h => by cases h)
theorem tok_167 : ∀ i : TI, some (⟨(.struct [(0, 3), (1, 3), (2, 3), (3, 3)]), (.cons (.int .i64) (.cons (.int .i64) (.cons (.int .i64) (.cons (.int .i64) .nil)))), 4, 32, true⟩ : TI) = some i → TIOk Go.Proofs.Tryz.prog 167 i := by
  intro i h; cases h
  exact TIOk.of Go.Proofs.Tryz.underlying167 rfl (by kernel_rfl) rfl (fun _ => eqOk_flat Go.Proofs.Tryz.underlying167 (by kernel_rfl) (by kernel_rfl) ⟨rfl, by decide, ⟨_, Go.Proofs.Tryz.underlying3⟩, ⟨rfl, by decide, ⟨_, Go.Proofs.Tryz.underlying3⟩, ⟨rfl, by decide, ⟨_, Go.Proofs.Tryz.underlying3⟩, ⟨rfl, by decide, ⟨_, Go.Proofs.Tryz.underlying3⟩, trivial⟩⟩⟩⟩)
theorem tok_168 : ∀ i : TI, some (⟨(.struct [(0, 3), (1, 3), (2, 3), (3, 3)]), (.cons (.int .i64) (.cons (.int .i64) (.cons (.int .i64) (.cons (.int .i64) .nil)))), 4, 32, true⟩ : TI) = some i → TIOk Go.Proofs.Tryz.prog 168 i := by
  intro i h; cases h
  exact TIOk.of Go.Proofs.Tryz.underlying168 rfl (by kernel_rfl) rfl (fun _ => eqOk_flat Go.Proofs.Tryz.underlying168 (by kernel_rfl) (by kernel_rfl) ⟨rfl, by decide, ⟨_, Go.Proofs.Tryz.underlying3⟩, ⟨rfl, by decide, ⟨_, Go.Proofs.Tryz.underlying3⟩, ⟨rfl, by decide, ⟨_, Go.Proofs.Tryz.underlying3⟩, ⟨rfl, by decide, ⟨_, Go.Proofs.Tryz.underlying3⟩, trivial⟩⟩⟩⟩)
theorem tok_195 : ∀ i : TI, some (⟨(.int .u32), (.int .u32), 1, 4, false⟩ : TI) = some i → TIOk Go.Proofs.Tryz.prog 195 i := by
  intro i h; cases h
  exact TIOk.of Go.Proofs.Tryz.underlying195 (by first | rfl | trivial) (by kernel_rfl) rfl (fun h => by cases h)
theorem tok_202 : ∀ i : TI, some (⟨(.array 24 5), (.cons (.int .u8) (.cons (.int .u8) (.cons (.int .u8) (.cons (.int .u8) (.cons (.int .u8) (.cons (.int .u8) (.cons (.int .u8) (.cons (.int .u8) (.cons (.int .u8) (.cons (.int .u8) (.cons (.int .u8) (.cons (.int .u8) (.cons (.int .u8) (.cons (.int .u8) (.cons (.int .u8) (.cons (.int .u8) (.cons (.int .u8) (.cons (.int .u8) (.cons (.int .u8) (.cons (.int .u8) (.cons (.int .u8) (.cons (.int .u8) (.cons (.int .u8) (.cons (.int .u8) .nil)))))))))))))))))))))))), 24, 24, false⟩ : TI) = some i → TIOk Go.Proofs.Tryz.prog 202 i := by
  intro i h; cases h
  exact TIOk.of Go.Proofs.Tryz.underlying202 (by first | rfl | trivial) (by kernel_rfl) rfl (fun h => by cases h)
theorem tok_217 : ∀ i : TI, some (⟨(.array 20 127), (.cons (.int .u64) (.cons (.int .u64) (.cons (.int .u64) (.cons (.int .u64) (.cons (.int .u64) (.cons (.int .u64) (.cons (.int .u64) (.cons (.int .u64) (.cons (.int .u64) (.cons (.int .u64) (.cons (.int .u64) (.cons (.int .u64) (.cons (.int .u64) (.cons (.int .u64) (.cons (.int .u64) (.cons (.int .u64) (.cons (.int .u64) (.cons (.int .u64) (.cons (.int .u64) (.cons (.int .u64) .nil)))))))))))))))))))), 20, 160, false⟩ : TI) = some i → TIOk Go.Proofs.Tryz.prog 217 i := by
  intro i h; cases h
  exact TIOk.of Go.Proofs.Tryz.underlying217 (by first | rfl | trivial) (by kernel_rfl) rfl (fun h => by cases h)
theorem tok_219 : ∀ i : TI, some (⟨(.int .i64), (.int .i64), 1, 8, false⟩ : TI) = some i → TIOk Go.Proofs.Tryz.prog 219 i := by
  intro i h; cases h
  exact TIOk.of Go.Proofs.Tryz.underlying219 (by first | rfl | trivial) (by kernel_rfl) rfl (fun h => by cases h)
theorem tok_228 : ∀ i : TI, some (⟨(.struct [(0, 9), (1, 9), (2, 144)]), (.cons .str (.cons .str (.cons .err .nil))), 3, 48, false⟩ : TI) = some i → TIOk Go.Proofs.Tryz.prog 228 i := by
  intro i h; cases h
  exact TIOk.of Go.Proofs.Tryz.underlying228 (by first | rfl | trivial) (by kernel_rfl) rfl (fun h => by cases h)
theorem tok_229 : ∀ i : TI, some (⟨(.struct [(0, 9), (1, 9), (2, 144)]), (.cons .str (.cons .str (.cons .err .nil))), 3, 48, false⟩ : TI) = some i → TIOk Go.Proofs.Tryz.prog 229 i := by
  intro i h; cases h
  exact TIOk.of Go.Proofs.Tryz.underlying229 (by first | rfl | trivial) (by kernel_rfl) rfl (fun h => by cases h)
theorem tok_232 : ∀ i : TI, some (⟨(.struct [(0, 5), (1, 5)]), (.cons (.int .u8) (.cons (.int .u8) .nil)), 2, 2, true⟩ : TI) = some i → TIOk Go.Proofs.Tryz.prog 232 i := by
  intro i h; cases h
  exact TIOk.of Go.Proofs.Tryz.underlying232 rfl (by kernel_rfl) rfl (fun _ => eqOk_flat Go.Proofs.Tryz.underlying232 (by kernel_rfl) (by kernel_rfl) ⟨rfl, by decide, ⟨_, Go.Proofs.Tryz.underlying5⟩, ⟨rfl, by decide, ⟨_, Go.Proofs.Tryz.underlying5⟩, trivial⟩⟩)
theorem tok_233 : ∀ i : TI, some (⟨(.struct [(0, 5), (1, 5)]), (.cons (.int .u8) (.cons (.int .u8) .nil)), 2, 2, true⟩ : TI) = some i → TIOk Go.Proofs.Tryz.prog 233 i := by
  intro i h; cases h
  exact TIOk.of Go.Proofs.Tryz.underlying233 rfl (by kernel_rfl) rfl (fun _ => eqOk_flat Go.Proofs.Tryz.underlying233 (by kernel_rfl) (by kernel_rfl) ⟨rfl, by decide, ⟨_, Go.Proofs.Tryz.underlying5⟩, ⟨rfl, by decide, ⟨_, Go.Proofs.Tryz.underlying5⟩, trivial⟩⟩)
theorem tok_234 : ∀ i : TI, some (⟨(.array 16 233), (.cons (.cons (.int .u8) (.cons (.int .u8) .nil)) (.cons (.cons (.int .u8) (.cons (.int .u8) .nil)) (.cons (.cons (.int .u8) (.cons (.int .u8) .nil)) (.cons (.cons (.int .u8) (.cons (.int .u8) .nil)) (.cons (.cons (.int .u8) (.cons (.int .u8) .nil)) (.cons (.cons (.int .u8) (.cons (.int .u8) .nil)) (.cons (.cons (.int .u8) (.cons (.int .u8) .nil)) (.cons (.cons (.int .u8) (.cons (.int .u8) .nil)) (.cons (.cons (.int .u8) (.cons (.int .u8) .nil)) (.cons (.cons (.int .u8) (.cons (.int .u8) .nil)) (.cons (.cons (.int .u8) (.cons (.int .u8) .nil)) (.cons (.cons (.int .u8) (.cons (.int .u8) .nil)) (.cons (.cons (.int .u8) (.cons (.int .u8) .nil)) (.cons (.cons (.int .u8) (.cons (.int .u8) .nil)) (.cons (.cons (.int .u8) (.cons (.int .u8) .nil)) (.cons (.cons (.int .u8) (.cons (.int .u8) .nil)) .nil)))))))))))))))), 32, 32, false⟩ : TI) = some i → TIOk Go.Proofs.Tryz.prog 234 i := by
  intro i h; cases h
  exact TIOk.of Go.Proofs.Tryz.underlying234 (by first | rfl | trivial) (by kernel_rfl) rfl (fun h => by cases h)
theorem tok_235 : ∀ i : TI, some (⟨(.array 32 5), (.cons (.int .u8) (.cons (.int .u8) (.cons (.int .u8) (.cons (.int .u8) (.cons (.int .u8) (.cons (.int .u8) (.cons (.int .u8) (.cons (.int .u8) (.cons (.int .u8) (.cons (.int .u8) (.cons (.int .u8) (.cons (.int .u8) (.cons (.int .u8) (.cons (.int .u8) (.cons (.int .u8) (.cons (.int .u8) (.cons (.int .u8) (.cons (.int .u8) (.cons (.int .u8) (.cons (.int .u8) (.cons (.int .u8) (.cons (.int .u8) (.cons (.int .u8) (.cons (.int .u8) (.cons (.int .u8) (.cons (.int .u8) (.cons (.int .u8) (.cons (.int .u8) (.cons (.int .u8) (.cons (.int .u8) (.cons (.int .u8) (.cons (.int .u8) .nil)))))))))))))))))))))))))))))))), 32, 32, false⟩ : TI) = some i → TIOk Go.Proofs.Tryz.prog 235 i := by
  intro i h; cases h
  exact TIOk.of Go.Proofs.Tryz.underlying235 (by first | rfl | trivial) (by kernel_rfl) rfl (fun h => by cases h)
theorem tok_236 : ∀ i : TI, some (⟨(.array 64 5), (.cons (.int .u8) (.cons (.int .u8) (.cons (.int .u8) (.cons (.int .u8) (.cons (.int .u8) (.cons (.int .u8) (.cons (.int .u8) (.cons (.int .u8) (.cons (.int .u8) (.cons (.int .u8) (.cons (.int .u8) (.cons (.int .u8) (.cons (.int .u8) (.cons (.int .u8) (.cons (.int .u8) (.cons (.int .u8) (.cons (.int .u8) (.cons (.int .u8) (.cons (.int .u8) (.cons (.int .u8) (.cons (.int .u8) (.cons (.int .u8) (.cons (.int .u8) (.cons (.int .u8) (.cons (.int .u8) (.cons (.int .u8) (.cons (.int .u8) (.cons (.int .u8) (.cons (.int .u8) (.cons (.int .u8) (.cons (.int .u8) (.cons (.int .u8) (.cons (.int .u8) (.cons (.int .u8) (.cons (.int .u8) (.cons (.int .u8) (.cons (.int .u8) (.cons (.int .u8) (.cons (.int .u8) (.cons (.int .u8) (.cons (.int .u8) (.cons (.int .u8) (.cons (.int .u8) (.cons (.int .u8) (.cons (.int .u8) (.cons (.int .u8) (.cons (.int .u8) (.cons (.int .u8) (.cons (.int .u8) (.cons (.int .u8) (.cons (.int .u8) (.cons (.int .u8) (.cons (.int .u8) (.cons (.int .u8) (.cons (.int .u8) (.cons (.int .u8) (.cons (.int .u8) (.cons (.int .u8) (.cons (.int .u8) (.cons (.int .u8) (.cons (.int .u8) (.cons (.int .u8) (.cons (.int .u8) (.cons (.int .u8) .nil)))))))))))))))))))))))))))))))))))))))))))))))))))))))))))))))), 64, 64, false⟩ : TI) = some i → TIOk Go.Proofs.Tryz.prog 236 i := by
  intro i h; cases h
  exact TIOk.of Go.Proofs.Tryz.underlying236 (by first | rfl | trivial) (by kernel_rfl) rfl (fun h => by cases h)
theorem tok_239 : ∀ i : TI, some (⟨(.struct [(0, 9)]), (.cons .str .nil), 1, 16, true⟩ : TI) = some i → TIOk Go.Proofs.Tryz.prog 239 i := by
  intro i h; cases h
  exact TIOk.of Go.Proofs.Tryz.underlying239 rfl (by kernel_rfl) rfl (fun _ => eqOk_flat Go.Proofs.Tryz.underlying239 (by kernel_rfl) (by kernel_rfl) ⟨rfl, by decide, Go.Proofs.Tryz.underlying9, trivial⟩)
theorem tok_240 : ∀ i : TI, some (⟨(.struct [(0, 9)]), (.cons .str .nil), 1, 16, true⟩ : TI) = some i → TIOk Go.Proofs.Tryz.prog 240 i := by
  intro i h; cases h
  exact TIOk.of Go.Proofs.Tryz.underlying240 rfl (by kernel_rfl) rfl (fun _ => eqOk_flat Go.Proofs.Tryz.underlying240 (by kernel_rfl) (by kernel_rfl) ⟨rfl, by decide, Go.Proofs.Tryz.underlying9, trivial⟩)
theorem tok_246 : ∀ i : TI, some (⟨(.int .u8), (.int .u8), 1, 1, false⟩ : TI) = some i → TIOk Go.Proofs.Tryz.prog 246 i := by
  intro i h; cases h
  exact TIOk.of Go.Proofs.Tryz.underlying246 (by first | rfl | trivial) (by kernel_rfl) rfl (fun h => by cases h)
theorem tok_247 : ∀ i : TI, some (⟨(.int .u8), (.int .u8), 1, 1, false⟩ : TI) = some i → TIOk Go.Proofs.Tryz.prog 247 i := by
  intro i h; cases h
  exact TIOk.of Go.Proofs.Tryz.underlying247 (by first | rfl | trivial) (by kernel_rfl) rfl (fun h => by cases h)
theorem tok_249 : ∀ i : TI, some (⟨(.int .i32), (.int .i32), 1, 4, false⟩ : TI) = some i → TIOk Go.Proofs.Tryz.prog 249 i := by
  intro i h; cases h
  exact TIOk.of Go.Proofs.Tryz.underlying249 (by first | rfl | trivial) (by kernel_rfl) rfl (fun h => by cases h)
theorem tok_250 : ∀ i : TI, some (⟨(.int .i32), (.int .i32), 1, 4, false⟩ : TI) = some i → TIOk Go.Proofs.Tryz.prog 250 i := by
  intro i h; cases h
  exact TIOk.of Go.Proofs.Tryz.underlying250 (by first | rfl | trivial) (by kernel_rfl) rfl (fun h => by cases h)
theorem allT : AllT Go.Proofs.Tryz.prog T := ⟨tok_2, tok_3, tok_4, tok_5, tok_6, tok_7, tok_8, tok_9, tok_10, tok_11, tok_12, tok_13, tok_14, tok_21, tok_22, tok_23, tok_24, tok_25, tok_29, tok_30, tok_31, tok_37, tok_38, tok_39, tok_40, tok_53, tok_54, tok_61, tok_62, tok_63, tok_68, tok_72, tok_73, tok_78, tok_79, tok_80, tok_83, tok_91, tok_92, tok_95, tok_96, tok_103, tok_104, tok_112, tok_113, tok_117, tok_118, tok_127, tok_128, tok_129, tok_136, tok_137, tok_144, tok_147, tok_166, tok_167, tok_168, tok_195, tok_202, tok_217, tok_219, tok_228, tok_229, tok_232, tok_233, tok_234, tok_235, tok_236, tok_239, tok_240, tok_246, tok_247, tok_249, tok_250, trivial⟩
theorem seat_T : TOk Go.Proofs.Tryz.prog T := fun t i h => allT.mem t i (look_mem h)
theorem fok_3 : ∀ fn : Func, some Go.Proofs.Tryz.f3 = some fn → FOk Go.Proofs.Tryz.prog 3 fn := by
  intro fn h; cases h; exact ⟨Go.Proofs.Tryz.func3, by kernel_rfl, by kernel_rfl⟩
theorem fok_5 : ∀ fn : Func, some Go.Proofs.Tryz.f5 = some fn → FOk Go.Proofs.Tryz.prog 5 fn := by
  intro fn h; cases h; exact ⟨Go.Proofs.Tryz.func5, by kernel_rfl, by kernel_rfl⟩
theorem fok_6 : ∀ fn : Func, some Go.Proofs.Tryz.f6 = some fn → FOk Go.Proofs.Tryz.prog 6 fn := by
  intro fn h; cases h; exact ⟨Go.Proofs.Tryz.func6, by kernel_rfl, by kernel_rfl⟩
theorem fok_7 : ∀ fn : Func, some Go.Proofs.Tryz.f7 = some fn → FOk Go.Proofs.Tryz.prog 7 fn := by
  intro fn h; cases h; exact ⟨Go.Proofs.Tryz.func7, by kernel_rfl, by kernel_rfl⟩
theorem fok_8 : ∀ fn : Func, some Go.Proofs.Tryz.f8 = some fn → FOk Go.Proofs.Tryz.prog 8 fn := by
  intro fn h; cases h; exact ⟨Go.Proofs.Tryz.func8, by kernel_rfl, by kernel_rfl⟩
theorem fok_9 : ∀ fn : Func, some Go.Proofs.Tryz.f9 = some fn → FOk Go.Proofs.Tryz.prog 9 fn := by
  intro fn h; cases h; exact ⟨Go.Proofs.Tryz.func9, by kernel_rfl, by kernel_rfl⟩
theorem fok_10 : ∀ fn : Func, some Go.Proofs.Tryz.f10 = some fn → FOk Go.Proofs.Tryz.prog 10 fn := by
  intro fn h; cases h; exact ⟨Go.Proofs.Tryz.func10, by kernel_rfl, by kernel_rfl⟩
theorem fok_11 : ∀ fn : Func, some Go.Proofs.Tryz.f11 = some fn → FOk Go.Proofs.Tryz.prog 11 fn := by
  intro fn h; cases h; exact ⟨Go.Proofs.Tryz.func11, by kernel_rfl, by kernel_rfl⟩
theorem fok_12 : ∀ fn : Func, some Go.Proofs.Tryz.f12 = some fn → FOk Go.Proofs.Tryz.prog 12 fn := by
  intro fn h; cases h; exact ⟨Go.Proofs.Tryz.func12, by kernel_rfl, by kernel_rfl⟩
theorem fok_22 : ∀ fn : Func, some Go.Proofs.Tryz.f22 = some fn → FOk Go.Proofs.Tryz.prog 22 fn := by
  intro fn h; cases h; exact ⟨Go.Proofs.Tryz.func22, by kernel_rfl, by kernel_rfl⟩
theorem fok_23 : ∀ fn : Func, some Go.Proofs.Tryz.f23 = some fn → FOk Go.Proofs.Tryz.prog 23 fn := by
  intro fn h; cases h; exact ⟨Go.Proofs.Tryz.func23, by kernel_rfl, by kernel_rfl⟩
theorem fok_24 : ∀ fn : Func, some Go.Proofs.Tryz.f24 = some fn → FOk Go.Proofs.Tryz.prog 24 fn := by
  intro fn h; cases h; exact ⟨Go.Proofs.Tryz.func24, by kernel_rfl, by kernel_rfl⟩
theorem fok_25 : ∀ fn : Func, some Go.Proofs.Tryz.f25 = some fn → FOk Go.Proofs.Tryz.prog 25 fn := by
  intro fn h; cases h; exact ⟨Go.Proofs.Tryz.func25, by kernel_rfl, by kernel_rfl⟩
theorem fok_26 : ∀ fn : Func, some Go.Proofs.Tryz.f26 = some fn → FOk Go.Proofs.Tryz.prog 26 fn := by
  intro fn h; cases h; exact ⟨Go.Proofs.Tryz.func26, by kernel_rfl, by kernel_rfl⟩
theorem fok_27 : ∀ fn : Func, some Go.Proofs.Tryz.f27 = some fn → FOk Go.Proofs.Tryz.prog 27 fn := by
  intro fn h; cases h; exact ⟨Go.Proofs.Tryz.func27, by kernel_rfl, by kernel_rfl⟩
theorem fok_28 : ∀ fn : Func, some Go.Proofs.Tryz.f28 = some fn → FOk Go.Proofs.Tryz.prog 28 fn := by
  intro fn h; cases h; exact ⟨Go.Proofs.Tryz.func28, by kernel_rfl, by kernel_rfl⟩
theorem fok_29 : ∀ fn : Func, some Go.Proofs.Tryz.f29 = some fn → FOk Go.Proofs.Tryz.prog 29 fn := by
  intro fn h; cases h; exact ⟨Go.Proofs.Tryz.func29, by kernel_rfl, by kernel_rfl⟩
theorem fok_30 : ∀ fn : Func, some Go.Proofs.Tryz.f30 = some fn → FOk Go.Proofs.Tryz.prog 30 fn := by
  intro fn h; cases h; exact ⟨Go.Proofs.Tryz.func30, by kernel_rfl, by kernel_rfl⟩
theorem fok_32 : ∀ fn : Func, some Go.Proofs.Tryz.f32 = some fn → FOk Go.Proofs.Tryz.prog 32 fn := by
  intro fn h; cases h; exact ⟨Go.Proofs.Tryz.func32, by kernel_rfl, by kernel_rfl⟩
theorem fok_33 : ∀ fn : Func, some Go.Proofs.Tryz.f33 = some fn → FOk Go.Proofs.Tryz.prog 33 fn := by
  intro fn h; cases h; exact ⟨Go.Proofs.Tryz.func33, by kernel_rfl, by kernel_rfl⟩
theorem fok_46 : ∀ fn : Func, some Go.Proofs.Tryz.f46 = some fn → FOk Go.Proofs.Tryz.prog 46 fn := by
  intro fn h; cases h; exact ⟨Go.Proofs.Tryz.func46, by kernel_rfl, by kernel_rfl⟩
theorem fok_47 : ∀ fn : Func, some Go.Proofs.Tryz.f47 = some fn → FOk Go.Proofs.Tryz.prog 47 fn := by
  intro fn h; cases h; exact ⟨Go.Proofs.Tryz.func47, by kernel_rfl, by kernel_rfl⟩
theorem fok_48 : ∀ fn : Func, some Go.Proofs.Tryz.f48 = some fn → FOk Go.Proofs.Tryz.prog 48 fn := by
  intro fn h; cases h; exact ⟨Go.Proofs.Tryz.func48, by kernel_rfl, by kernel_rfl⟩
theorem fok_49 : ∀ fn : Func, some Go.Proofs.Tryz.f49 = some fn → FOk Go.Proofs.Tryz.prog 49 fn := by
  intro fn h; cases h; exact ⟨Go.Proofs.Tryz.func49, by kernel_rfl, by kernel_rfl⟩
theorem fok_50 : ∀ fn : Func, some Go.Proofs.Tryz.f50 = some fn → FOk Go.Proofs.Tryz.prog 50 fn := by
  intro fn h; cases h; exact ⟨Go.Proofs.Tryz.func50, by kernel_rfl, by kernel_rfl⟩
theorem fok_51 : ∀ fn : Func, some Go.Proofs.Tryz.f51 = some fn → FOk Go.Proofs.Tryz.prog 51 fn := by
  intro fn h; cases h; exact ⟨Go.Proofs.Tryz.func51, by kernel_rfl, by kernel_rfl⟩
theorem fok_52 : ∀ fn : Func, some Go.Proofs.Tryz.f52 = some fn → FOk Go.Proofs.Tryz.prog 52 fn := by
  intro fn h; cases h; exact ⟨Go.Proofs.Tryz.func52, by kernel_rfl, by kernel_rfl⟩
theorem fok_53 : ∀ fn : Func, some Go.Proofs.Tryz.f53 = some fn → FOk Go.Proofs.Tryz.prog 53 fn := by
  intro fn h; cases h; exact ⟨Go.Proofs.Tryz.func53, by kernel_rfl, by kernel_rfl⟩
theorem fok_54 : ∀ fn : Func, some Go.Proofs.Tryz.f54 = some fn → FOk Go.Proofs.Tryz.prog 54 fn := by
  intro fn h; cases h; exact ⟨Go.Proofs.Tryz.func54, by kernel_rfl, by kernel_rfl⟩
theorem fok_55 : ∀ fn : Func, some Go.Proofs.Tryz.f55 = some fn → FOk Go.Proofs.Tryz.prog 55 fn := by
  intro fn h; cases h; exact ⟨Go.Proofs.Tryz.func55, by kernel_rfl, by kernel_rfl⟩
theorem fok_56 : ∀ fn : Func, some Go.Proofs.Tryz.f56 = some fn → FOk Go.Proofs.Tryz.prog 56 fn := by
  intro fn h; cases h; exact ⟨Go.Proofs.Tryz.func56, by kernel_rfl, by kernel_rfl⟩
theorem fok_57 : ∀ fn : Func, some Go.Proofs.Tryz.f57 = some fn → FOk Go.Proofs.Tryz.prog 57 fn := by
  intro fn h; cases h; exact ⟨Go.Proofs.Tryz.func57, by kernel_rfl, by kernel_rfl⟩
theorem fok_58 : ∀ fn : Func, some Go.Proofs.Tryz.f58 = some fn → FOk Go.Proofs.Tryz.prog 58 fn := by
  intro fn h; cases h; exact ⟨Go.Proofs.Tryz.func58, by kernel_rfl, by kernel_rfl⟩
theorem fok_59 : ∀ fn : Func, some Go.Proofs.Tryz.f59 = some fn → FOk Go.Proofs.Tryz.prog 59 fn := by
  intro fn h; cases h; exact ⟨Go.Proofs.Tryz.func59, by kernel_rfl, by kernel_rfl⟩
theorem fok_60 : ∀ fn : Func, some Go.Proofs.Tryz.f60 = some fn → FOk Go.Proofs.Tryz.prog 60 fn := by
  intro fn h; cases h; exact ⟨Go.Proofs.Tryz.func60, by kernel_rfl, by kernel_rfl⟩
theorem fok_61 : ∀ fn : Func, some Go.Proofs.Tryz.f61 = some fn → FOk Go.Proofs.Tryz.prog 61 fn := by
  intro fn h; cases h; exact ⟨Go.Proofs.Tryz.func61, by kernel_rfl, by kernel_rfl⟩
theorem fok_63 : ∀ fn : Func, some Go.Proofs.Tryz.f63 = some fn → FOk Go.Proofs.Tryz.prog 63 fn := by
  intro fn h; cases h; exact ⟨Go.Proofs.Tryz.func63, by kernel_rfl, by kernel_rfl⟩
theorem fok_71 : ∀ fn : Func, some Go.Proofs.Tryz.f71 = some fn → FOk Go.Proofs.Tryz.prog 71 fn := by
  intro fn h; cases h; exact ⟨Go.Proofs.Tryz.func71, by kernel_rfl, by kernel_rfl⟩
theorem fok_72 : ∀ fn : Func, some Go.Proofs.Tryz.f72 = some fn → FOk Go.Proofs.Tryz.prog 72 fn := by
  intro fn h; cases h; exact ⟨Go.Proofs.Tryz.func72, by kernel_rfl, by kernel_rfl⟩
theorem fok_75 : ∀ fn : Func, some Go.Proofs.Tryz.f75 = some fn → FOk Go.Proofs.Tryz.prog 75 fn := by
  intro fn h; cases h; exact ⟨Go.Proofs.Tryz.func75, by kernel_rfl, by kernel_rfl⟩
theorem fok_79 : ∀ fn : Func, some Go.Proofs.Tryz.f79 = some fn → FOk Go.Proofs.Tryz.prog 79 fn := by
  intro fn h; cases h; exact ⟨Go.Proofs.Tryz.func79, by kernel_rfl, by kernel_rfl⟩
theorem fok_80 : ∀ fn : Func, some Go.Proofs.Tryz.f80 = some fn → FOk Go.Proofs.Tryz.prog 80 fn := by
  intro fn h; cases h; exact ⟨Go.Proofs.Tryz.func80, by kernel_rfl, by kernel_rfl⟩
theorem fok_89 : ∀ fn : Func, some Go.Proofs.Tryz.f89 = some fn → FOk Go.Proofs.Tryz.prog 89 fn := by
  intro fn h; cases h; exact ⟨Go.Proofs.Tryz.func89, by kernel_rfl, by kernel_rfl⟩
theorem fok_90 : ∀ fn : Func, some Go.Proofs.Tryz.f90 = some fn → FOk Go.Proofs.Tryz.prog 90 fn := by
  intro fn h; cases h; exact ⟨Go.Proofs.Tryz.func90, by kernel_rfl, by kernel_rfl⟩
theorem fok_91 : ∀ fn : Func, some Go.Proofs.Tryz.f91 = some fn → FOk Go.Proofs.Tryz.prog 91 fn := by
  intro fn h; cases h; exact ⟨Go.Proofs.Tryz.func91, by kernel_rfl, by kernel_rfl⟩
theorem fok_92 : ∀ fn : Func, some Go.Proofs.Tryz.f92 = some fn → FOk Go.Proofs.Tryz.prog 92 fn := by
  intro fn h; cases h; exact ⟨Go.Proofs.Tryz.func92, by kernel_rfl, by kernel_rfl⟩
theorem fok_93 : ∀ fn : Func, some Go.Proofs.Tryz.f93 = some fn → FOk Go.Proofs.Tryz.prog 93 fn := by
  intro fn h; cases h; exact ⟨Go.Proofs.Tryz.func93, by kernel_rfl, by kernel_rfl⟩
theorem fok_94 : ∀ fn : Func, some Go.Proofs.Tryz.f94 = some fn → FOk Go.Proofs.Tryz.prog 94 fn := by
  intro fn h; cases h; exact ⟨Go.Proofs.Tryz.func94, by kernel_rfl, by kernel_rfl⟩
theorem fok_95 : ∀ fn : Func, some Go.Proofs.Tryz.f95 = some fn → FOk Go.Proofs.Tryz.prog 95 fn := by
  intro fn h; cases h; exact ⟨Go.Proofs.Tryz.func95, by kernel_rfl, by kernel_rfl⟩
theorem fok_96 : ∀ fn : Func, some Go.Proofs.Tryz.f96 = some fn → FOk Go.Proofs.Tryz.prog 96 fn := by
  intro fn h; cases h; exact ⟨Go.Proofs.Tryz.func96, by kernel_rfl, by kernel_rfl⟩
theorem fok_97 : ∀ fn : Func, some Go.Proofs.Tryz.f97 = some fn → FOk Go.Proofs.Tryz.prog 97 fn := by
  intro fn h; cases h; exact ⟨Go.Proofs.Tryz.func97, by kernel_rfl, by kernel_rfl⟩
theorem fok_98 : ∀ fn : Func, some Go.Proofs.Tryz.f98 = some fn → FOk Go.Proofs.Tryz.prog 98 fn := by
  intro fn h; cases h; exact ⟨Go.Proofs.Tryz.func98, by kernel_rfl, by kernel_rfl⟩
theorem fok_99 : ∀ fn : Func, some Go.Proofs.Tryz.f99 = some fn → FOk Go.Proofs.Tryz.prog 99 fn := by
  intro fn h; cases h; exact ⟨Go.Proofs.Tryz.func99, by kernel_rfl, by kernel_rfl⟩
theorem fok_100 : ∀ fn : Func, some Go.Proofs.Tryz.f100 = some fn → FOk Go.Proofs.Tryz.prog 100 fn := by
  intro fn h; cases h; exact ⟨Go.Proofs.Tryz.func100, by kernel_rfl, by kernel_rfl⟩
theorem fok_101 : ∀ fn : Func, some Go.Proofs.Tryz.f101 = some fn → FOk Go.Proofs.Tryz.prog 101 fn := by
  intro fn h; cases h; exact ⟨Go.Proofs.Tryz.func101, by kernel_rfl, by kernel_rfl⟩
theorem fok_102 : ∀ fn : Func, some Go.Proofs.Tryz.f102 = some fn → FOk Go.Proofs.Tryz.prog 102 fn := by
  intro fn h; cases h; exact ⟨Go.Proofs.Tryz.func102, by kernel_rfl, by kernel_rfl⟩
theorem fok_103 : ∀ fn : Func, some Go.Proofs.Tryz.f103 = some fn → FOk Go.Proofs.Tryz.prog 103 fn := by
  intro fn h; cases h; exact ⟨Go.Proofs.Tryz.func103, by kernel_rfl, by kernel_rfl⟩
theorem fok_104 : ∀ fn : Func, some Go.Proofs.Tryz.f104 = some fn → FOk Go.Proofs.Tryz.prog 104 fn := by
  intro fn h; cases h; exact ⟨Go.Proofs.Tryz.func104, by kernel_rfl, by kernel_rfl⟩
theorem fok_105 : ∀ fn : Func, some Go.Proofs.Tryz.f105 = some fn → FOk Go.Proofs.Tryz.prog 105 fn := by
  intro fn h; cases h; exact ⟨Go.Proofs.Tryz.func105, by kernel_rfl, by kernel_rfl⟩
theorem fok_106 : ∀ fn : Func, some Go.Proofs.Tryz.f106 = some fn → FOk Go.Proofs.Tryz.prog 106 fn := by
  intro fn h; cases h; exact ⟨Go.Proofs.Tryz.func106, by kernel_rfl, by kernel_rfl⟩
theorem fok_133 : ∀ fn : Func, some Go.Proofs.Tryz.f133 = some fn → FOk Go.Proofs.Tryz.prog 133 fn := by
  intro fn h; cases h; exact ⟨Go.Proofs.Tryz.func133, by kernel_rfl, by kernel_rfl⟩
theorem fok_134 : ∀ fn : Func, some Go.Proofs.Tryz.f134 = some fn → FOk Go.Proofs.Tryz.prog 134 fn := by
  intro fn h; cases h; exact ⟨Go.Proofs.Tryz.func134, by kernel_rfl, by kernel_rfl⟩
theorem fok_135 : ∀ fn : Func, some Go.Proofs.Tryz.f135 = some fn → FOk Go.Proofs.Tryz.prog 135 fn := by
  intro fn h; cases h; exact ⟨Go.Proofs.Tryz.func135, by kernel_rfl, by kernel_rfl⟩
theorem fok_136 : ∀ fn : Func, some Go.Proofs.Tryz.f136 = some fn → FOk Go.Proofs.Tryz.prog 136 fn := by
  intro fn h; cases h; exact ⟨Go.Proofs.Tryz.func136, by kernel_rfl, by kernel_rfl⟩
theorem fok_137 : ∀ fn : Func, some Go.Proofs.Tryz.f137 = some fn → FOk Go.Proofs.Tryz.prog 137 fn := by
  intro fn h; cases h; exact ⟨Go.Proofs.Tryz.func137, by kernel_rfl, by kernel_rfl⟩
theorem fok_138 : ∀ fn : Func, some Go.Proofs.Tryz.f138 = some fn → FOk Go.Proofs.Tryz.prog 138 fn := by
  intro fn h; cases h; exact ⟨Go.Proofs.Tryz.func138, by kernel_rfl, by kernel_rfl⟩
theorem fok_139 : ∀ fn : Func, some Go.Proofs.Tryz.f139 = some fn → FOk Go.Proofs.Tryz.prog 139 fn := by
  intro fn h; cases h; exact ⟨Go.Proofs.Tryz.func139, by kernel_rfl, by kernel_rfl⟩
theorem fok_140 : ∀ fn : Func, some Go.Proofs.Tryz.f140 = some fn → FOk Go.Proofs.Tryz.prog 140 fn := by
  intro fn h; cases h; exact ⟨Go.Proofs.Tryz.func140, by kernel_rfl, by kernel_rfl⟩
theorem fok_141 : ∀ fn : Func, some Go.Proofs.Tryz.f141 = some fn → FOk Go.Proofs.Tryz.prog 141 fn := by
  intro fn h; cases h; exact ⟨Go.Proofs.Tryz.func141, by kernel_rfl, by kernel_rfl⟩
theorem fok_142 : ∀ fn : Func, some Go.Proofs.Tryz.f142 = some fn → FOk Go.Proofs.Tryz.prog 142 fn := by
  intro fn h; cases h; exact ⟨Go.Proofs.Tryz.func142, by kernel_rfl, by kernel_rfl⟩
theorem fok_143 : ∀ fn : Func, some Go.Proofs.Tryz.f143 = some fn → FOk Go.Proofs.Tryz.prog 143 fn := by
  intro fn h; cases h; exact ⟨Go.Proofs.Tryz.func143, by kernel_rfl, by kernel_rfl⟩
theorem fok_144 : ∀ fn : Func, some Go.Proofs.Tryz.f144 = some fn → FOk Go.Proofs.Tryz.prog 144 fn := by
  intro fn h; cases h; exact ⟨Go.Proofs.Tryz.func144, by kernel_rfl, by kernel_rfl⟩
theorem fok_145 : ∀ fn : Func, some Go.Proofs.Tryz.f145 = some fn → FOk Go.Proofs.Tryz.prog 145 fn := by
  intro fn h; cases h; exact ⟨Go.Proofs.Tryz.func145, by kernel_rfl, by kernel_rfl⟩
theorem fok_146 : ∀ fn : Func, some Go.Proofs.Tryz.f146 = some fn → FOk Go.Proofs.Tryz.prog 146 fn := by
  intro fn h; cases h; exact ⟨Go.Proofs.Tryz.func146, by kernel_rfl, by kernel_rfl⟩
theorem fok_147 : ∀ fn : Func, some Go.Proofs.Tryz.f147 = some fn → FOk Go.Proofs.Tryz.prog 147 fn := by
  intro fn h; cases h; exact ⟨Go.Proofs.Tryz.func147, by kernel_rfl, by kernel_rfl⟩
theorem fok_148 : ∀ fn : Func, some Go.Proofs.Tryz.f148 = some fn → FOk Go.Proofs.Tryz.prog 148 fn := by
  intro fn h; cases h; exact ⟨Go.Proofs.Tryz.func148, by kernel_rfl, by kernel_rfl⟩
theorem fok_149 : ∀ fn : Func, some Go.Proofs.Tryz.f149 = some fn → FOk Go.Proofs.Tryz.prog 149 fn := by
  intro fn h; cases h; exact ⟨Go.Proofs.Tryz.func149, by kernel_rfl, by kernel_rfl⟩
theorem fok_150 : ∀ fn : Func, some Go.Proofs.Tryz.f150 = some fn → FOk Go.Proofs.Tryz.prog 150 fn := by
  intro fn h; cases h; exact ⟨Go.Proofs.Tryz.func150, by kernel_rfl, by kernel_rfl⟩
theorem fok_151 : ∀ fn : Func, some Go.Proofs.Tryz.f151 = some fn → FOk Go.Proofs.Tryz.prog 151 fn := by
  intro fn h; cases h; exact ⟨Go.Proofs.Tryz.func151, by kernel_rfl, by kernel_rfl⟩
theorem fok_152 : ∀ fn : Func, some Go.Proofs.Tryz.f152 = some fn → FOk Go.Proofs.Tryz.prog 152 fn := by
  intro fn h; cases h; exact ⟨Go.Proofs.Tryz.func152, by kernel_rfl, by kernel_rfl⟩
theorem fok_153 : ∀ fn : Func, some Go.Proofs.Tryz.f153 = some fn → FOk Go.Proofs.Tryz.prog 153 fn := by
  intro fn h; cases h; exact ⟨Go.Proofs.Tryz.func153, by kernel_rfl, by kernel_rfl⟩
theorem fok_154 : ∀ fn : Func, some Go.Proofs.Tryz.f154 = some fn → FOk Go.Proofs.Tryz.prog 154 fn := by
  intro fn h; cases h; exact ⟨Go.Proofs.Tryz.func154, by kernel_rfl, by kernel_rfl⟩
theorem fok_156 : ∀ fn : Func, some Go.Proofs.Tryz.f156 = some fn → FOk Go.Proofs.Tryz.prog 156 fn := by
  intro fn h; cases h; exact ⟨Go.Proofs.Tryz.func156, by kernel_rfl, by kernel_rfl⟩
theorem fok_157 : ∀ fn : Func, some Go.Proofs.Tryz.f157 = some fn → FOk Go.Proofs.Tryz.prog 157 fn := by
  intro fn h; cases h; exact ⟨Go.Proofs.Tryz.func157, by kernel_rfl, by kernel_rfl⟩
theorem fok_158 : ∀ fn : Func, some Go.Proofs.Tryz.f158 = some fn → FOk Go.Proofs.Tryz.prog 158 fn := by
  intro fn h; cases h; exact ⟨Go.Proofs.Tryz.func158, by kernel_rfl, by kernel_rfl⟩
theorem fok_159 : ∀ fn : Func, some Go.Proofs.Tryz.f159 = some fn → FOk Go.Proofs.Tryz.prog 159 fn := by
  intro fn h; cases h; exact ⟨Go.Proofs.Tryz.func159, by kernel_rfl, by kernel_rfl⟩
theorem fok_160 : ∀ fn : Func, some Go.Proofs.Tryz.f160 = some fn → FOk Go.Proofs.Tryz.prog 160 fn := by
  intro fn h; cases h; exact ⟨Go.Proofs.Tryz.func160, by kernel_rfl, by kernel_rfl⟩
theorem fok_171 : ∀ fn : Func, some Go.Proofs.Tryz.f171 = some fn → FOk Go.Proofs.Tryz.prog 171 fn := by
  intro fn h; cases h; exact ⟨Go.Proofs.Tryz.func171, by kernel_rfl, by kernel_rfl⟩
theorem fok_172 : ∀ fn : Func, some Go.Proofs.Tryz.f172 = some fn → FOk Go.Proofs.Tryz.prog 172 fn := by
  intro fn h; cases h; exact ⟨Go.Proofs.Tryz.func172, by kernel_rfl, by kernel_rfl⟩
theorem fok_173 : ∀ fn : Func, some Go.Proofs.Tryz.f173 = some fn → FOk Go.Proofs.Tryz.prog 173 fn := by
  intro fn h; cases h; exact ⟨Go.Proofs.Tryz.func173, by kernel_rfl, by kernel_rfl⟩
theorem fok_174 : ∀ fn : Func, some Go.Proofs.Tryz.f174 = some fn → FOk Go.Proofs.Tryz.prog 174 fn := by
  intro fn h; cases h; exact ⟨Go.Proofs.Tryz.func174, by kernel_rfl, by kernel_rfl⟩
theorem fok_181 : ∀ fn : Func, some Go.Proofs.Tryz.f181 = some fn → FOk Go.Proofs.Tryz.prog 181 fn := by
  intro fn h; cases h; exact ⟨Go.Proofs.Tryz.func181, by kernel_rfl, by kernel_rfl⟩
theorem fok_182 : ∀ fn : Func, some Go.Proofs.Tryz.f182 = some fn → FOk Go.Proofs.Tryz.prog 182 fn := by
  intro fn h; cases h; exact ⟨Go.Proofs.Tryz.func182, by kernel_rfl, by kernel_rfl⟩
theorem fok_197 : ∀ fn : Func, some Go.Proofs.Tryz.f197 = some fn → FOk Go.Proofs.Tryz.prog 197 fn := by
  intro fn h; cases h; exact ⟨Go.Proofs.Tryz.func197, by kernel_rfl, by kernel_rfl⟩
theorem fok_199 : ∀ fn : Func, some Go.Proofs.Tryz.f199 = some fn → FOk Go.Proofs.Tryz.prog 199 fn := by
  intro fn h; cases h; exact ⟨Go.Proofs.Tryz.func199, by kernel_rfl, by kernel_rfl⟩
theorem allF : AllF Go.Proofs.Tryz.prog F := ⟨fok_3, fok_5, fok_6, fok_7, fok_8, fok_9, fok_10, fok_11, fok_12, fok_22, fok_23, fok_24, fok_25, fok_26, fok_27, fok_28, fok_29, fok_30, fok_32, fok_33, fok_46, fok_47, fok_48, fok_49, fok_50, fok_51, fok_52, fok_53, fok_54, fok_55, fok_56, fok_57, fok_58, fok_59, fok_60, fok_61, fok_63, fok_71, fok_72, fok_75, fok_79, fok_80, fok_89, fok_90, fok_91, fok_92, fok_93, fok_94, fok_95, fok_96, fok_97, fok_98, fok_99, fok_100, fok_101, fok_102, fok_103, fok_104, fok_105, fok_106, fok_133, fok_134, fok_135, fok_136, fok_137, fok_138, fok_139, fok_140, fok_141, fok_142, fok_143, fok_144, fok_145, fok_146, fok_147, fok_148, fok_149, fok_150, fok_151, fok_152, fok_153, fok_154, fok_156, fok_157, fok_158, fok_159, fok_160, fok_171, fok_172, fok_173, fok_174, fok_181, fok_182, fok_197, fok_199, trivial⟩
theorem seat_F : ∀ f fn, look F f = some fn → FOk Go.Proofs.Tryz.prog f fn := fun t i h => allF.mem t i (look_mem h)
end Go.Px.Seat
