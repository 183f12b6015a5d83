/- The tables tell the program. Printed by mkok.py. -/
import Derived.Test.YthallaeafilbbaaGreatDoorS3
import Derived.Test.YthallaeafilbbaaGreatDoorA5
import Derived.KernelRfl
set_option linter.unusedVariables false

namespace Go.Px.Seat
open Go
set_option maxRecDepth 100000
theorem TIOk.of {P : Program} {t : TypeId} {i : TI} {d : TypeDesc} (h1 : P.underlying t = some d) (h2 : DescOk i.d d) (h3 : (P.info? t).bind (fun j => j.zero.map fun z => (j.size, j.bytes, z.cells.toList)) = some (i.size, i.bytes, zeroVals i.ty))
    (h4 : i.ty.size = i.size) (h5 : i.eqf = true → EqOk P t i.ty) : TIOk P t i := by
  refine ⟨⟨d, h1, h2⟩, ?_, h4, h5⟩
  simp only [Option.bind_eq_some_iff, Option.map_eq_some_iff, Prod.mk.injEq] at h3
  obtain ⟨j, hj, z, hz, e1, e2, e3⟩ := h3
  exact ⟨j, hj, e1, e2, z, hz, e3⟩
def AllT (P : Program) : Types → Prop
  | [] => True
  | p :: l => (∀ i, p.2 = some i → TIOk P p.1 i) ∧ AllT P l
theorem AllT.mem {P : Program} : ∀ {l : Types}, AllT P l → ∀ t i, (t, some i) ∈ l → TIOk P t i
  | _ :: _, h, t, i, hm => by
    rcases List.mem_cons.1 hm with rfl | hm
    · exact h.1 i rfl
    · exact AllT.mem h.2 t i hm
def FOk (P : Program) (f : Nat) (fn : Func) : Prop := P.funcs[f]? = some fn ∧ fn.body.isNone = false ∧ (fn.name == "runtime.NumGoroutine") = false
def AllF (P : Program) : Funcs → Prop
  | [] => True
  | p :: l => (∀ fn, p.2 = some fn → FOk P p.1 fn) ∧ AllF P l
theorem AllF.mem {P : Program} : ∀ {l : Funcs}, AllF P l → ∀ t i, (t, some i) ∈ l → FOk P t i
  | _ :: _, h, t, i, hm => by
    rcases List.mem_cons.1 hm with rfl | hm
    · exact h.1 i rfl
    · exact AllF.mem h.2 t i hm
theorem tok_2 : ∀ i : TI, some (⟨(.int .i64), (.int .i64), 1, 8, false⟩ : TI) = some i → TIOk Go.Proofs.Tryz.prog 2 i := by
  intro i h; cases h
  exact TIOk.of Go.Proofs.Tryz.underlying2 (by first | rfl | trivial) (by kernel_rfl) rfl (fun h => by cases h)
theorem tok_3 : ∀ i : TI, some (⟨(.int .i64), (.int .i64), 1, 8, false⟩ : TI) = some i → TIOk Go.Proofs.Tryz.prog 3 i := by
  intro i h; cases h
  exact TIOk.of Go.Proofs.Tryz.underlying3 (by first | rfl | trivial) (by kernel_rfl) rfl (fun h => by cases h)
theorem tok_4 : ∀ i : TI, some (⟨.bool, .bool, 1, 1, false⟩ : TI) = some i → TIOk Go.Proofs.Tryz.prog 4 i := by
  intro i h; cases h
  exact TIOk.of Go.Proofs.Tryz.underlying4 (by first | rfl | trivial) (by kernel_rfl) rfl (fun h => by cases h)
theorem tok_5 : ∀ i : TI, some (⟨(.int .u8), (.int .u8), 1, 1, false⟩ : TI) = some i → TIOk Go.Proofs.Tryz.prog 5 i := by
  intro i h; cases h
  exact TIOk.of Go.Proofs.Tryz.underlying5 (by first | rfl | trivial) (by kernel_rfl) rfl (fun h => by cases h)
theorem tok_6 : ∀ i : TI, some (⟨(.int .u8), (.int .u8), 1, 1, false⟩ : TI) = some i → TIOk Go.Proofs.Tryz.prog 6 i := by
  intro i h; cases h
  exact TIOk.of Go.Proofs.Tryz.underlying6 (by first | rfl | trivial) (by kernel_rfl) rfl (fun h => by cases h)
theorem tok_7 : ∀ i : TI, some (⟨(.struct [(0, 2), (1, 3), (2, 4), (3, 6)]), (.cons (.int .i64) (.cons (.int .i64) (.cons .bool (.cons (.int .u8) .nil)))), 4, 24, false⟩ : TI) = some i → TIOk Go.Proofs.Tryz.prog 7 i := by
  intro i h; cases h
  exact TIOk.of Go.Proofs.Tryz.underlying7 (by first | rfl | trivial) (by kernel_rfl) rfl (fun h => by cases h)
theorem tok_8 : ∀ i : TI, some (⟨(.struct [(0, 2), (1, 3), (2, 4), (3, 6)]), (.cons (.int .i64) (.cons (.int .i64) (.cons .bool (.cons (.int .u8) .nil)))), 4, 24, false⟩ : TI) = some i → TIOk Go.Proofs.Tryz.prog 8 i := by
  intro i h; cases h
  exact TIOk.of Go.Proofs.Tryz.underlying8 (by first | rfl | trivial) (by kernel_rfl) rfl (fun h => by cases h)
theorem tok_9 : ∀ i : TI, some (⟨.string, .str, 1, 16, false⟩ : TI) = some i → TIOk Go.Proofs.Tryz.prog 9 i := by
  intro i h; cases h
  exact TIOk.of Go.Proofs.Tryz.underlying9 (by first | rfl | trivial) (by kernel_rfl) rfl (fun h => by cases h)
theorem tok_10 : ∀ i : TI, some (⟨.string, .str, 1, 16, false⟩ : TI) = some i → TIOk Go.Proofs.Tryz.prog 10 i := by
  intro i h; cases h
  exact TIOk.of Go.Proofs.Tryz.underlying10 (by first | rfl | trivial) (by kernel_rfl) rfl (fun h => by cases h)
theorem tok_11 : ∀ i : TI, some (⟨.string, .str, 1, 16, false⟩ : TI) = some i → TIOk Go.Proofs.Tryz.prog 11 i := by
  intro i h; cases h
  exact TIOk.of Go.Proofs.Tryz.underlying11 (by first | rfl | trivial) (by kernel_rfl) rfl (fun h => by cases h)
theorem tok_12 : ∀ i : TI, some (⟨(.int .u64), (.int .u64), 1, 8, false⟩ : TI) = some i → TIOk Go.Proofs.Tryz.prog 12 i := by
  intro i h; cases h
  exact TIOk.of Go.Proofs.Tryz.underlying12 (by first | rfl | trivial) (by kernel_rfl) rfl (fun h => by cases h)
theorem tok_13 : ∀ i : TI, some (⟨(.struct [(0, 9), (1, 12)]), (.cons .str (.cons (.int .u64) .nil)), 2, 24, false⟩ : TI) = some i → TIOk Go.Proofs.Tryz.prog 13 i := by
  intro i h; cases h
  exact TIOk.of Go.Proofs.Tryz.underlying13 (by first | rfl | trivial) (by kernel_rfl) rfl (fun h => by cases h)
theorem tok_14 : ∀ i : TI, some (⟨(.struct [(0, 9), (1, 12)]), (.cons .str (.cons (.int .u64) .nil)), 2, 24, false⟩ : TI) = some i → TIOk Go.Proofs.Tryz.prog 14 i := by
  intro i h; cases h
  exact TIOk.of Go.Proofs.Tryz.underlying14 (by first | rfl | trivial) (by kernel_rfl) rfl (fun h => by cases h)
theorem tok_21 : ∀ i : TI, some (⟨(.int .i32), (.int .i32), 1, 4, false⟩ : TI) = some i → TIOk Go.Proofs.Tryz.prog 21 i := by
  intro i h; cases h
  exact TIOk.of Go.Proofs.Tryz.underlying21 (by first | rfl | trivial) (by kernel_rfl) rfl (fun h => by cases h)
theorem tok_22 : ∀ i : TI, some (⟨(.slice 83), (.slice (.cons (.int .i64) (.cons (.int .i64) .nil))), 1, 24, false⟩ : TI) = some i → TIOk Go.Proofs.Tryz.prog 22 i := by
  intro i h; cases h
  exact TIOk.of Go.Proofs.Tryz.underlying22 (by first | rfl | trivial) (by kernel_rfl) rfl (fun h => by cases h)
theorem tok_23 : ∀ i : TI, some (⟨(.struct [(0, 22)]), (.cons (.slice (.cons (.int .i64) (.cons (.int .i64) .nil))) .nil), 1, 24, false⟩ : TI) = some i → TIOk Go.Proofs.Tryz.prog 23 i := by
  intro i h; cases h
  exact TIOk.of Go.Proofs.Tryz.underlying23 (by first | rfl | trivial) (by kernel_rfl) rfl (fun h => by cases h)
theorem tok_24 : ∀ i : TI, some (⟨(.struct [(0, 22)]), (.cons (.slice (.cons (.int .i64) (.cons (.int .i64) .nil))) .nil), 1, 24, false⟩ : TI) = some i → TIOk Go.Proofs.Tryz.prog 24 i := by
  intro i h; cases h
  exact TIOk.of Go.Proofs.Tryz.underlying24 (by first | rfl | trivial) (by kernel_rfl) rfl (fun h => by cases h)
theorem tok_25 : ∀ i : TI, some (⟨(.slice 9), (.slice .str), 1, 24, false⟩ : TI) = some i → TIOk Go.Proofs.Tryz.prog 25 i := by
  intro i h; cases h
  exact TIOk.of Go.Proofs.Tryz.underlying25 (by first | rfl | trivial) (by kernel_rfl) rfl (fun h => by cases h)
theorem tok_29 : ∀ i : TI, some (⟨(.slice 54), (.slice (.cons (.int .i64) (.cons (.int .i64) .nil))), 1, 24, false⟩ : TI) = some i → TIOk Go.Proofs.Tryz.prog 29 i := by
  intro i h; cases h
  exact TIOk.of Go.Proofs.Tryz.underlying29 (by first | rfl | trivial) (by kernel_rfl) rfl (fun h => by cases h)
theorem tok_30 : ∀ i : TI, some (⟨(.struct [(0, 29)]), (.cons (.slice (.cons (.int .i64) (.cons (.int .i64) .nil))) .nil), 1, 24, false⟩ : TI) = some i → TIOk Go.Proofs.Tryz.prog 30 i := by
  intro i h; cases h
  exact TIOk.of Go.Proofs.Tryz.underlying30 (by first | rfl | trivial) (by kernel_rfl) rfl (fun h => by cases h)
theorem tok_31 : ∀ i : TI, some (⟨(.struct [(0, 29)]), (.cons (.slice (.cons (.int .i64) (.cons (.int .i64) .nil))) .nil), 1, 24, false⟩ : TI) = some i → TIOk Go.Proofs.Tryz.prog 31 i := by
  intro i h; cases h
  exact TIOk.of Go.Proofs.Tryz.underlying31 (by first | rfl | trivial) (by kernel_rfl) rfl (fun h => by cases h)
theorem tok_37 : ∀ i : TI, some (⟨(.slice 5), (.slice (.int .u8)), 1, 24, false⟩ : TI) = some i → TIOk Go.Proofs.Tryz.prog 37 i := by
  intro i h; cases h
  exact TIOk.of Go.Proofs.Tryz.underlying37 (by first | rfl | trivial) (by kernel_rfl) rfl (fun h => by cases h)
theorem tok_38 : ∀ i : TI, some (⟨(.slice 73), (.slice (.cons (.int .i64) (.cons (.int .i64) (.cons .str .nil)))), 1, 24, false⟩ : TI) = some i → TIOk Go.Proofs.Tryz.prog 38 i := by
  intro i h; cases h
  exact TIOk.of Go.Proofs.Tryz.underlying38 (by first | rfl | trivial) (by kernel_rfl) rfl (fun h => by cases h)
theorem tok_39 : ∀ i : TI, some (⟨(.struct [(0, 38)]), (.cons (.slice (.cons (.int .i64) (.cons (.int .i64) (.cons .str .nil)))) .nil), 1, 24, false⟩ : TI) = some i → TIOk Go.Proofs.Tryz.prog 39 i := by
  intro i h; cases h
  exact TIOk.of Go.Proofs.Tryz.underlying39 (by first | rfl | trivial) (by kernel_rfl) rfl (fun h => by cases h)
theorem tok_40 : ∀ i : TI, some (⟨(.struct [(0, 38)]), (.cons (.slice (.cons (.int .i64) (.cons (.int .i64) (.cons .str .nil)))) .nil), 1, 24, false⟩ : TI) = some i → TIOk Go.Proofs.Tryz.prog 40 i := by
  intro i h; cases h
  exact TIOk.of Go.Proofs.Tryz.underlying40 (by first | rfl | trivial) (by kernel_rfl) rfl (fun h => by cases h)
theorem tok_53 : ∀ i : TI, some (⟨(.struct [(0, 3), (1, 3)]), (.cons (.int .i64) (.cons (.int .i64) .nil)), 2, 16, true⟩ : TI) = some i → TIOk Go.Proofs.Tryz.prog 53 i := by
  intro i h; cases h
  exact TIOk.of Go.Proofs.Tryz.underlying53 rfl (by kernel_rfl) rfl (fun _ => eqOk_flat Go.Proofs.Tryz.underlying53 (by kernel_rfl) (by kernel_rfl) ⟨rfl, by decide, ⟨_, Go.Proofs.Tryz.underlying3⟩, ⟨rfl, by decide, ⟨_, Go.Proofs.Tryz.underlying3⟩, trivial⟩⟩)
theorem tok_54 : ∀ i : TI, some (⟨(.struct [(0, 3), (1, 3)]), (.cons (.int .i64) (.cons (.int .i64) .nil)), 2, 16, true⟩ : TI) = some i → TIOk Go.Proofs.Tryz.prog 54 i := by
  intro i h; cases h
  exact TIOk.of Go.Proofs.Tryz.underlying54 rfl (by kernel_rfl) rfl (fun _ => eqOk_flat Go.Proofs.Tryz.underlying54 (by kernel_rfl) (by kernel_rfl) ⟨rfl, by decide, ⟨_, Go.Proofs.Tryz.underlying3⟩, ⟨rfl, by decide, ⟨_, Go.Proofs.Tryz.underlying3⟩, trivial⟩⟩)
theorem tok_61 : ∀ i : TI, some (⟨(.struct [(0, 9), (1, 3)]), (.cons .str (.cons (.int .i64) .nil)), 2, 24, true⟩ : TI) = some i → TIOk Go.Proofs.Tryz.prog 61 i := by
  intro i h; cases h
  exact TIOk.of Go.Proofs.Tryz.underlying61 rfl (by kernel_rfl) rfl (fun _ => eqOk_flat Go.Proofs.Tryz.underlying61 (by kernel_rfl) (by kernel_rfl) ⟨rfl, by decide, Go.Proofs.Tryz.underlying9, ⟨rfl, by decide, ⟨_, Go.Proofs.Tryz.underlying3⟩, trivial⟩⟩)
theorem tok_62 : ∀ i : TI, some (⟨(.struct [(0, 9), (1, 3)]), (.cons .str (.cons (.int .i64) .nil)), 2, 24, true⟩ : TI) = some i → TIOk Go.Proofs.Tryz.prog 62 i := by
  intro i h; cases h
  exact TIOk.of Go.Proofs.Tryz.underlying62 rfl (by kernel_rfl) rfl (fun _ => eqOk_flat Go.Proofs.Tryz.underlying62 (by kernel_rfl) (by kernel_rfl) ⟨rfl, by decide, Go.Proofs.Tryz.underlying9, ⟨rfl, by decide, ⟨_, Go.Proofs.Tryz.underlying3⟩, trivial⟩⟩)
theorem tok_63 : ∀ i : TI, some (⟨(.slice 62), (.slice (.cons .str (.cons (.int .i64) .nil))), 1, 24, false⟩ : TI) = some i → TIOk Go.Proofs.Tryz.prog 63 i := by
  intro i h; cases h
  exact TIOk.of Go.Proofs.Tryz.underlying63 (by first | rfl | trivial) (by kernel_rfl) rfl (fun h => by cases h)
theorem tok_68 : ∀ i : TI, some (⟨(.slice 104), (.slice (.cons (.int .i64) (.cons .str .nil))), 1, 24, false⟩ : TI) = some i → TIOk Go.Proofs.Tryz.prog 68 i := by
  intro i h; cases h
  exact TIOk.of Go.Proofs.Tryz.underlying68 (by first | rfl | trivial) (by kernel_rfl) rfl (fun h => by cases h)
theorem tok_72 : ∀ i : TI, some (⟨(.struct [(0, 3), (1, 3), (2, 9)]), (.cons (.int .i64) (.cons (.int .i64) (.cons .str .nil))), 3, 32, true⟩ : TI) = some i → TIOk Go.Proofs.Tryz.prog 72 i := by
  intro i h; cases h
  exact TIOk.of Go.Proofs.Tryz.underlying72 rfl (by kernel_rfl) rfl (fun _ => eqOk_flat Go.Proofs.Tryz.underlying72 (by kernel_rfl) (by kernel_rfl) ⟨rfl, by decide, ⟨_, Go.Proofs.Tryz.underlying3⟩, ⟨rfl, by decide, ⟨_, Go.Proofs.Tryz.underlying3⟩, ⟨rfl, by decide, Go.Proofs.Tryz.underlying9, trivial⟩⟩⟩)
theorem tok_73 : ∀ i : TI, some (⟨(.struct [(0, 3), (1, 3), (2, 9)]), (.cons (.int .i64) (.cons (.int .i64) (.cons .str .nil))), 3, 32, true⟩ : TI) = some i → TIOk Go.Proofs.Tryz.prog 73 i := by
  intro i h; cases h
  exact TIOk.of Go.Proofs.Tryz.underlying73 rfl (by kernel_rfl) rfl (fun _ => eqOk_flat Go.Proofs.Tryz.underlying73 (by kernel_rfl) (by kernel_rfl) ⟨rfl, by decide, ⟨_, Go.Proofs.Tryz.underlying3⟩, ⟨rfl, by decide, ⟨_, Go.Proofs.Tryz.underlying3⟩, ⟨rfl, by decide, Go.Proofs.Tryz.underlying9, trivial⟩⟩⟩)
theorem tok_78 : ∀ i : TI, some (⟨(.slice 3), (.slice (.int .i64)), 1, 24, false⟩ : TI) = some i → TIOk Go.Proofs.Tryz.prog 78 i := by
  intro i h; cases h
  exact TIOk.of Go.Proofs.Tryz.underlying78 (by first | rfl | trivial) (by kernel_rfl) rfl (fun h => by cases h)
theorem tok_79 : ∀ i : TI, some (⟨(.struct [(0, 4), (1, 78), (2, 78)]), (.cons .bool (.cons (.slice (.int .i64)) (.cons (.slice (.int .i64)) .nil))), 3, 56, false⟩ : TI) = some i → TIOk Go.Proofs.Tryz.prog 79 i := by
  intro i h; cases h
  exact TIOk.of Go.Proofs.Tryz.underlying79 (by first | rfl | trivial) (by kernel_rfl) rfl (fun h => by cases h)
theorem tok_80 : ∀ i : TI, some (⟨(.struct [(0, 4), (1, 78), (2, 78)]), (.cons .bool (.cons (.slice (.int .i64)) (.cons (.slice (.int .i64)) .nil))), 3, 56, false⟩ : TI) = some i → TIOk Go.Proofs.Tryz.prog 80 i := by
  intro i h; cases h
  exact TIOk.of Go.Proofs.Tryz.underlying80 (by first | rfl | trivial) (by kernel_rfl) rfl (fun h => by cases h)
theorem tok_83 : ∀ i : TI, some (⟨(.struct [(0, 3), (1, 3)]), (.cons (.int .i64) (.cons (.int .i64) .nil)), 2, 16, true⟩ : TI) = some i → TIOk Go.Proofs.Tryz.prog 83 i := by
  intro i h; cases h
  exact TIOk.of Go.Proofs.Tryz.underlying83 rfl (by kernel_rfl) rfl (fun _ => eqOk_flat Go.Proofs.Tryz.underlying83 (by kernel_rfl) (by kernel_rfl) ⟨rfl, by decide, ⟨_, Go.Proofs.Tryz.underlying3⟩, ⟨rfl, by decide, ⟨_, Go.Proofs.Tryz.underlying3⟩, trivial⟩⟩)
theorem tok_91 : ∀ i : TI, some (⟨(.struct [(0, 37), (1, 3)]), (.cons (.slice (.int .u8)) (.cons (.int .i64) .nil)), 2, 32, false⟩ : TI) = some i → TIOk Go.Proofs.Tryz.prog 91 i := by
  intro i h; cases h
  exact TIOk.of Go.Proofs.Tryz.underlying91 (by first | rfl | trivial) (by kernel_rfl) rfl (fun h => by cases h)
theorem tok_92 : ∀ i : TI, some (⟨(.struct [(0, 37), (1, 3)]), (.cons (.slice (.int .u8)) (.cons (.int .i64) .nil)), 2, 32, false⟩ : TI) = some i → TIOk Go.Proofs.Tryz.prog 92 i := by
  intro i h; cases h
  exact TIOk.of Go.Proofs.Tryz.underlying92 (by first | rfl | trivial) (by kernel_rfl) rfl (fun h => by cases h)
theorem tok_95 : ∀ i : TI, some (⟨(.struct [(0, 9), (1, 3)]), (.cons .str (.cons (.int .i64) .nil)), 2, 24, true⟩ : TI) = some i → TIOk Go.Proofs.Tryz.prog 95 i := by
  intro i h; cases h
  exact TIOk.of Go.Proofs.Tryz.underlying95 rfl (by kernel_rfl) rfl (fun _ => eqOk_flat Go.Proofs.Tryz.underlying95 (by kernel_rfl) (by kernel_rfl) ⟨rfl, by decide, Go.Proofs.Tryz.underlying9, ⟨rfl, by decide, ⟨_, Go.Proofs.Tryz.underlying3⟩, trivial⟩⟩)
theorem tok_96 : ∀ i : TI, some (⟨(.struct [(0, 9), (1, 3)]), (.cons .str (.cons (.int .i64) .nil)), 2, 24, true⟩ : TI) = some i → TIOk Go.Proofs.Tryz.prog 96 i := by
  intro i h; cases h
  exact TIOk.of Go.Proofs.Tryz.underlying96 rfl (by kernel_rfl) rfl (fun _ => eqOk_flat Go.Proofs.Tryz.underlying96 (by kernel_rfl) (by kernel_rfl) ⟨rfl, by decide, Go.Proofs.Tryz.underlying9, ⟨rfl, by decide, ⟨_, Go.Proofs.Tryz.underlying3⟩, trivial⟩⟩)
theorem tok_103 : ∀ i : TI, some (⟨(.struct [(0, 3), (1, 9)]), (.cons (.int .i64) (.cons .str .nil)), 2, 24, true⟩ : TI) = some i → TIOk Go.Proofs.Tryz.prog 103 i := by
  intro i h; cases h
  exact TIOk.of Go.Proofs.Tryz.underlying103 rfl (by kernel_rfl) rfl (fun _ => eqOk_flat Go.Proofs.Tryz.underlying103 (by kernel_rfl) (by kernel_rfl) ⟨rfl, by decide, ⟨_, Go.Proofs.Tryz.underlying3⟩, ⟨rfl, by decide, Go.Proofs.Tryz.underlying9, trivial⟩⟩)
theorem tok_104 : ∀ i : TI, some (⟨(.struct [(0, 3), (1, 9)]), (.cons (.int .i64) (.cons .str .nil)), 2, 24, true⟩ : TI) = some i → TIOk Go.Proofs.Tryz.prog 104 i := by
  intro i h; cases h
  exact TIOk.of Go.Proofs.Tryz.underlying104 rfl (by kernel_rfl) rfl (fun _ => eqOk_flat Go.Proofs.Tryz.underlying104 (by kernel_rfl) (by kernel_rfl) ⟨rfl, by decide, ⟨_, Go.Proofs.Tryz.underlying3⟩, ⟨rfl, by decide, Go.Proofs.Tryz.underlying9, trivial⟩⟩)
theorem tok_112 : ∀ i : TI, some (⟨(.struct [(0, 68), (1, 38), (2, 4), (3, 4)]), (.cons (.slice (.cons (.int .i64) (.cons .str .nil))) (.cons (.slice (.cons (.int .i64) (.cons (.int .i64) (.cons .str .nil)))) (.cons .bool (.cons .bool .nil)))), 4, 56, false⟩ : TI) = some i → TIOk Go.Proofs.Tryz.prog 112 i := by
  intro i h; cases h
  exact TIOk.of Go.Proofs.Tryz.underlying112 (by first | rfl | trivial) (by kernel_rfl) rfl (fun h => by cases h)
theorem tok_113 : ∀ i : TI, some (⟨(.struct [(0, 68), (1, 38), (2, 4), (3, 4)]), (.cons (.slice (.cons (.int .i64) (.cons .str .nil))) (.cons (.slice (.cons (.int .i64) (.cons (.int .i64) (.cons .str .nil)))) (.cons .bool (.cons .bool .nil)))), 4, 56, false⟩ : TI) = some i → TIOk Go.Proofs.Tryz.prog 113 i := by
  intro i h; cases h
  exact TIOk.of Go.Proofs.Tryz.underlying113 (by first | rfl | trivial) (by kernel_rfl) rfl (fun h => by cases h)
theorem tok_117 : ∀ i : TI, some (⟨(.struct [(0, 68), (1, 3), (2, 38), (3, 4), (4, 4)]), (.cons (.slice (.cons (.int .i64) (.cons .str .nil))) (.cons (.int .i64) (.cons (.slice (.cons (.int .i64) (.cons (.int .i64) (.cons .str .nil)))) (.cons .bool (.cons .bool .nil))))), 5, 64, false⟩ : TI) = some i → TIOk Go.Proofs.Tryz.prog 117 i := by
  intro i h; cases h
  exact TIOk.of Go.Proofs.Tryz.underlying117 (by first | rfl | trivial) (by kernel_rfl) rfl (fun h => by cases h)
theorem tok_118 : ∀ i : TI, some (⟨(.struct [(0, 68), (1, 3), (2, 38), (3, 4), (4, 4)]), (.cons (.slice (.cons (.int .i64) (.cons .str .nil))) (.cons (.int .i64) (.cons (.slice (.cons (.int .i64) (.cons (.int .i64) (.cons .str .nil)))) (.cons .bool (.cons .bool .nil))))), 5, 64, false⟩ : TI) = some i → TIOk Go.Proofs.Tryz.prog 118 i := by
  intro i h; cases h
  exact TIOk.of Go.Proofs.Tryz.underlying118 (by first | rfl | trivial) (by kernel_rfl) rfl (fun h => by cases h)
theorem tok_127 : ∀ i : TI, some (⟨(.int .u64), (.int .u64), 1, 8, false⟩ : TI) = some i → TIOk Go.Proofs.Tryz.prog 127 i := by
  intro i h; cases h
  exact TIOk.of Go.Proofs.Tryz.underlying127 (by first | rfl | trivial) (by kernel_rfl) rfl (fun h => by cases h)
theorem tok_128 : ∀ i : TI, some (⟨(.struct [(0, 4), (1, 127), (2, 3)]), (.cons .bool (.cons (.int .u64) (.cons (.int .i64) .nil))), 3, 24, true⟩ : TI) = some i → TIOk Go.Proofs.Tryz.prog 128 i := by
  intro i h; cases h
  exact TIOk.of Go.Proofs.Tryz.underlying128 rfl (by kernel_rfl) rfl (fun _ => eqOk_flat Go.Proofs.Tryz.underlying128 (by kernel_rfl) (by kernel_rfl) ⟨rfl, by decide, Go.Proofs.Tryz.underlying4, ⟨rfl, by decide, ⟨_, Go.Proofs.Tryz.underlying127⟩, ⟨rfl, by decide, ⟨_, Go.Proofs.Tryz.underlying3⟩, trivial⟩⟩⟩)
theorem tok_129 : ∀ i : TI, some (⟨(.struct [(0, 4), (1, 127), (2, 3)]), (.cons .bool (.cons (.int .u64) (.cons (.int .i64) .nil))), 3, 24, true⟩ : TI) = some i → TIOk Go.Proofs.Tryz.prog 129 i := by
  intro i h; cases h
  exact TIOk.of Go.Proofs.Tryz.underlying129 rfl (by kernel_rfl) rfl (fun _ => eqOk_flat Go.Proofs.Tryz.underlying129 (by kernel_rfl) (by kernel_rfl) ⟨rfl, by decide, Go.Proofs.Tryz.underlying4, ⟨rfl, by decide, ⟨_, Go.Proofs.Tryz.underlying127⟩, ⟨rfl, by decide, ⟨_, Go.Proofs.Tryz.underlying3⟩, trivial⟩⟩⟩)
theorem tok_136 : ∀ i : TI, some (⟨(.struct [(0, 4), (1, 78), (2, 78)]), (.cons .bool (.cons (.slice (.int .i64)) (.cons (.slice (.int .i64)) .nil))), 3, 56, false⟩ : TI) = some i → TIOk Go.Proofs.Tryz.prog 136 i := by
  intro i h; cases h
  exact TIOk.of Go.Proofs.Tryz.underlying136 (by first | rfl | trivial) (by kernel_rfl) rfl (fun h => by cases h)
theorem tok_137 : ∀ i : TI, some (⟨(.struct [(0, 4), (1, 78), (2, 78)]), (.cons .bool (.cons (.slice (.int .i64)) (.cons (.slice (.int .i64)) .nil))), 3, 56, false⟩ : TI) = some i → TIOk Go.Proofs.Tryz.prog 137 i := by
  intro i h; cases h
  exact TIOk.of Go.Proofs.Tryz.underlying137 (by first | rfl | trivial) (by kernel_rfl) rfl (fun h => by cases h)
theorem tok_144 : ∀ i : TI, some (⟨.err, .err, 1, 16, false⟩ : TI) = some i → TIOk Go.Proofs.Tryz.prog 144 i := by
  intro i h; cases h
  exact TIOk.of Go.Proofs.Tryz.underlying144 (by first | rfl | trivial) (by kernel_rfl) rfl (fun h => by cases h)
theorem tok_147 : ∀ i : TI, some (⟨(.slice 96), (.slice (.cons .str (.cons (.int .i64) .nil))), 1, 24, false⟩ : TI) = some i → TIOk Go.Proofs.Tryz.prog 147 i := by
  intro i h; cases h
  exact TIOk.of Go.Proofs.Tryz.underlying147 (by first | rfl | trivial) (by kernel_rfl) rfl (fun h => by cases h)
theorem tok_166 : ∀ i : TI, some (⟨(.int .u64), (.int .u64), 1, 8, false⟩ : TI) = some i → TIOk Go.Proofs.Tryz.prog 166 i := by
  intro i h; cases h
  exact TIOk.of Go.Proofs.Tryz.underlying166 (by first | rfl | trivial) (by kernel_rfl) rfl (fun h => by cases h)
theorem tok_167 : ∀ i : TI, some (⟨(.struct [(0, 3), (1, 3), (2, 3), (3, 3)]), (.cons (.int .i64) (.cons (.int .i64) (.cons (.int .i64) (.cons (.int .i64) .nil)))), 4, 32, true⟩ : TI) = some i → TIOk Go.Proofs.Tryz.prog 167 i := by
  intro i h; cases h
  exact TIOk.of Go.Proofs.Tryz.underlying167 rfl (by kernel_rfl) rfl (fun _ => eqOk_flat Go.Proofs.Tryz.underlying167 (by kernel_rfl) (by kernel_rfl) ⟨rfl, by decide, ⟨_, Go.Proofs.Tryz.underlying3⟩, ⟨rfl, by decide, ⟨_, Go.Proofs.Tryz.underlying3⟩, ⟨rfl, by decide, ⟨_, Go.Proofs.Tryz.underlying3⟩, ⟨rfl, by decide, ⟨_, Go.Proofs.Tryz.underlying3⟩, trivial⟩⟩⟩⟩)
theorem tok_168 : ∀ i : TI, some (⟨(.struct [(0, 3), (1, 3), (2, 3), (3, 3)]), (.cons (.int .i64) (.cons (.int .i64) (.cons (.int .i64) (.cons (.int .i64) .nil)))), 4, 32, true⟩ : TI) = some i → TIOk Go.Proofs.Tryz.prog 168 i := by
  intro i h; cases h
  exact TIOk.of Go.Proofs.Tryz.underlying168 rfl (by kernel_rfl) rfl (fun _ => eqOk_flat Go.Proofs.Tryz.underlying168 (by kernel_rfl) (by kernel_rfl) ⟨rfl, by decide, ⟨_, Go.Proofs.Tryz.underlying3⟩, ⟨rfl, by decide, ⟨_, Go.Proofs.Tryz.underlying3⟩, ⟨rfl, by decide, ⟨_, Go.Proofs.Tryz.underlying3⟩, ⟨rfl, by decide, ⟨_, Go.Proofs.Tryz.underlying3⟩, trivial⟩⟩⟩⟩)
theorem tok_195 : ∀ i : TI, some (⟨(.int .u32), (.int .u32), 1, 4, false⟩ : TI) = some i → TIOk Go.Proofs.Tryz.prog 195 i := by
  intro i h; cases h
  exact TIOk.of Go.Proofs.Tryz.underlying195 (by first | rfl | trivial) (by kernel_rfl) rfl (fun h => by cases h)
theorem tok_202 : ∀ i : TI, some (⟨(.array 24 5), (.cons (.int .u8) (.cons (.int .u8) (.cons (.int .u8) (.cons (.int .u8) (.cons (.int .u8) (.cons (.int .u8) (.cons (.int .u8) (.cons (.int .u8) (.cons (.int .u8) (.cons (.int .u8) (.cons (.int .u8) (.cons (.int .u8) (.cons (.int .u8) (.cons (.int .u8) (.cons (.int .u8) (.cons (.int .u8) (.cons (.int .u8) (.cons (.int .u8) (.cons (.int .u8) (.cons (.int .u8) (.cons (.int .u8) (.cons (.int .u8) (.cons (.int .u8) (.cons (.int .u8) .nil)))))))))))))))))))))))), 24, 24, false⟩ : TI) = some i → TIOk Go.Proofs.Tryz.prog 202 i := by
  intro i h; cases h
  exact TIOk.of Go.Proofs.Tryz.underlying202 (by first | rfl | trivial) (by kernel_rfl) rfl (fun h => by cases h)
theorem tok_209 : ∀ i : TI, some (⟨(.map 9 3), .mp, 1, 8, false⟩ : TI) = some i → TIOk Go.Proofs.Tryz.prog 209 i := by
  intro i h; cases h
  exact TIOk.of Go.Proofs.Tryz.underlying209 (by first | rfl | trivial) (by kernel_rfl) rfl (fun h => by cases h)
theorem tok_217 : ∀ i : TI, some (⟨(.array 20 127), (.cons (.int .u64) (.cons (.int .u64) (.cons (.int .u64) (.cons (.int .u64) (.cons (.int .u64) (.cons (.int .u64) (.cons (.int .u64) (.cons (.int .u64) (.cons (.int .u64) (.cons (.int .u64) (.cons (.int .u64) (.cons (.int .u64) (.cons (.int .u64) (.cons (.int .u64) (.cons (.int .u64) (.cons (.int .u64) (.cons (.int .u64) (.cons (.int .u64) (.cons (.int .u64) (.cons (.int .u64) .nil)))))))))))))))))))), 20, 160, false⟩ : TI) = some i → TIOk Go.Proofs.Tryz.prog 217 i := by
  intro i h; cases h
  exact TIOk.of Go.Proofs.Tryz.underlying217 (by first | rfl | trivial) (by kernel_rfl) rfl (fun h => by cases h)
theorem tok_219 : ∀ i : TI, some (⟨(.int .i64), (.int .i64), 1, 8, false⟩ : TI) = some i → TIOk Go.Proofs.Tryz.prog 219 i := by
  intro i h; cases h
  exact TIOk.of Go.Proofs.Tryz.underlying219 (by first | rfl | trivial) (by kernel_rfl) rfl (fun h => by cases h)
theorem tok_228 : ∀ i : TI, some (⟨(.struct [(0, 9), (1, 9), (2, 144)]), (.cons .str (.cons .str (.cons .err .nil))), 3, 48, false⟩ : TI) = some i → TIOk Go.Proofs.Tryz.prog 228 i := by
  intro i h; cases h
  exact TIOk.of Go.Proofs.Tryz.underlying228 (by first | rfl | trivial) (by kernel_rfl) rfl (fun h => by cases h)
theorem tok_229 : ∀ i : TI, some (⟨(.struct [(0, 9), (1, 9), (2, 144)]), (.cons .str (.cons .str (.cons .err .nil))), 3, 48, false⟩ : TI) = some i → TIOk Go.Proofs.Tryz.prog 229 i := by
  intro i h; cases h
  exact TIOk.of Go.Proofs.Tryz.underlying229 (by first | rfl | trivial) (by kernel_rfl) rfl (fun h => by cases h)
theorem tok_232 : ∀ i : TI, some (⟨(.struct [(0, 5), (1, 5)]), (.cons (.int .u8) (.cons (.int .u8) .nil)), 2, 2, true⟩ : TI) = some i → TIOk Go.Proofs.Tryz.prog 232 i := by
  intro i h; cases h
  exact TIOk.of Go.Proofs.Tryz.underlying232 rfl (by kernel_rfl) rfl (fun _ => eqOk_flat Go.Proofs.Tryz.underlying232 (by kernel_rfl) (by kernel_rfl) ⟨rfl, by decide, ⟨_, Go.Proofs.Tryz.underlying5⟩, ⟨rfl, by decide, ⟨_, Go.Proofs.Tryz.underlying5⟩, trivial⟩⟩)
theorem tok_233 : ∀ i : TI, some (⟨(.struct [(0, 5), (1, 5)]), (.cons (.int .u8) (.cons (.int .u8) .nil)), 2, 2, true⟩ : TI) = some i → TIOk Go.Proofs.Tryz.prog 233 i := by
  intro i h; cases h
  exact TIOk.of Go.Proofs.Tryz.underlying233 rfl (by kernel_rfl) rfl (fun _ => eqOk_flat Go.Proofs.Tryz.underlying233 (by kernel_rfl) (by kernel_rfl) ⟨rfl, by decide, ⟨_, Go.Proofs.Tryz.underlying5⟩, ⟨rfl, by decide, ⟨_, Go.Proofs.Tryz.underlying5⟩, trivial⟩⟩)
theorem tok_234 : ∀ i : TI, some (⟨(.array 16 233), (.cons (.cons (.int .u8) (.cons (.int .u8) .nil)) (.cons (.cons (.int .u8) (.cons (.int .u8) .nil)) (.cons (.cons (.int .u8) (.cons (.int .u8) .nil)) (.cons (.cons (.int .u8) (.cons (.int .u8) .nil)) (.cons (.cons (.int .u8) (.cons (.int .u8) .nil)) (.cons (.cons (.int .u8) (.cons (.int .u8) .nil)) (.cons (.cons (.int .u8) (.cons (.int .u8) .nil)) (.cons (.cons (.int .u8) (.cons (.int .u8) .nil)) (.cons (.cons (.int .u8) (.cons (.int .u8) .nil)) (.cons (.cons (.int .u8) (.cons (.int .u8) .nil)) (.cons (.cons (.int .u8) (.cons (.int .u8) .nil)) (.cons (.cons (.int .u8) (.cons (.int .u8) .nil)) (.cons (.cons (.int .u8) (.cons (.int .u8) .nil)) (.cons (.cons (.int .u8) (.cons (.int .u8) .nil)) (.cons (.cons (.int .u8) (.cons (.int .u8) .nil)) (.cons (.cons (.int .u8) (.cons (.int .u8) .nil)) .nil)))))))))))))))), 32, 32, false⟩ : TI) = some i → TIOk Go.Proofs.Tryz.prog 234 i := by
  intro i h; cases h
  exact TIOk.of Go.Proofs.Tryz.underlying234 (by first | rfl | trivial) (by kernel_rfl) rfl (fun h => by cases h)
theorem tok_235 : ∀ i : TI, some (⟨(.array 32 5), (.cons (.int .u8) (.cons (.int .u8) (.cons (.int .u8) (.cons (.int .u8) (.cons (.int .u8) (.cons (.int .u8) (.cons (.int .u8) (.cons (.int .u8) (.cons (.int .u8) (.cons (.int .u8) (.cons (.int .u8) (.cons (.int .u8) (.cons (.int .u8) (.cons (.int .u8) (.cons (.int .u8) (.cons (.int .u8) (.cons (.int .u8) (.cons (.int .u8) (.cons (.int .u8) (.cons (.int .u8) (.cons (.int .u8) (.cons (.int .u8) (.cons (.int .u8) (.cons (.int .u8) (.cons (.int .u8) (.cons (.int .u8) (.cons (.int .u8) (.cons (.int .u8) (.cons (.int .u8) (.cons (.int .u8) (.cons (.int .u8) (.cons (.int .u8) .nil)))))))))))))))))))))))))))))))), 32, 32, false⟩ : TI) = some i → TIOk Go.Proofs.Tryz.prog 235 i := by
  intro i h; cases h
  exact TIOk.of Go.Proofs.Tryz.underlying235 (by first | rfl | trivial) (by kernel_rfl) rfl (fun h => by cases h)
theorem tok_236 : ∀ i : TI, some (⟨(.array 64 5), (.cons (.int .u8) (.cons (.int .u8) (.cons (.int .u8) (.cons (.int .u8) (.cons (.int .u8) (.cons (.int .u8) (.cons (.int .u8) (.cons (.int .u8) (.cons (.int .u8) (.cons (.int .u8) (.cons (.int .u8) (.cons (.int .u8) (.cons (.int .u8) (.cons (.int .u8) (.cons (.int .u8) (.cons (.int .u8) (.cons (.int .u8) (.cons (.int .u8) (.cons (.int .u8) (.cons (.int .u8) (.cons (.int .u8) (.cons (.int .u8) (.cons (.int .u8) (.cons (.int .u8) (.cons (.int .u8) (.cons (.int .u8) (.cons (.int .u8) (.cons (.int .u8) (.cons (.int .u8) (.cons (.int .u8) (.cons (.int .u8) (.cons (.int .u8) (.cons (.int .u8) (.cons (.int .u8) (.cons (.int .u8) (.cons (.int .u8) (.cons (.int .u8) (.cons (.int .u8) (.cons (.int .u8) (.cons (.int .u8) (.cons (.int .u8) (.cons (.int .u8) (.cons (.int .u8) (.cons (.int .u8) (.cons (.int .u8) (.cons (.int .u8) (.cons (.int .u8) (.cons (.int .u8) (.cons (.int .u8) (.cons (.int .u8) (.cons (.int .u8) (.cons (.int .u8) (.cons (.int .u8) (.cons (.int .u8) (.cons (.int .u8) (.cons (.int .u8) (.cons (.int .u8) (.cons (.int .u8) (.cons (.int .u8) (.cons (.int .u8) (.cons (.int .u8) (.cons (.int .u8) (.cons (.int .u8) (.cons (.int .u8) .nil)))))))))))))))))))))))))))))))))))))))))))))))))))))))))))))))), 64, 64, false⟩ : TI) = some i → TIOk Go.Proofs.Tryz.prog 236 i := by
  intro i h; cases h
  exact TIOk.of Go.Proofs.Tryz.underlying236 (by first | rfl | trivial) (by kernel_rfl) rfl (fun h => by cases h)
theorem tok_239 : ∀ i : TI, some (⟨(.struct [(0, 9)]), (.cons .str .nil), 1, 16, true⟩ : TI) = some i → TIOk Go.Proofs.Tryz.prog 239 i := by
  intro i h; cases h
  exact TIOk.of Go.Proofs.Tryz.underlying239 rfl (by kernel_rfl) rfl (fun _ => eqOk_flat Go.Proofs.Tryz.underlying239 (by kernel_rfl) (by kernel_rfl) ⟨rfl, by decide, Go.Proofs.Tryz.underlying9, trivial⟩)
theorem tok_240 : ∀ i : TI, some (⟨(.struct [(0, 9)]), (.cons .str .nil), 1, 16, true⟩ : TI) = some i → TIOk Go.Proofs.Tryz.prog 240 i := by
  intro i h; cases h
  exact TIOk.of Go.Proofs.Tryz.underlying240 rfl (by kernel_rfl) rfl (fun _ => eqOk_flat Go.Proofs.Tryz.underlying240 (by kernel_rfl) (by kernel_rfl) ⟨rfl, by decide, Go.Proofs.Tryz.underlying9, trivial⟩)
theorem tok_246 : ∀ i : TI, some (⟨(.int .u8), (.int .u8), 1, 1, false⟩ : TI) = some i → TIOk Go.Proofs.Tryz.prog 246 i := by
  intro i h; cases h
  exact TIOk.of Go.Proofs.Tryz.underlying246 (by first | rfl | trivial) (by kernel_rfl) rfl (fun h => by cases h)
theorem tok_247 : ∀ i : TI, some (⟨(.int .u8), (.int .u8), 1, 1, false⟩ : TI) = some i → TIOk Go.Proofs.Tryz.prog 247 i := by
  intro i h; cases h
  exact TIOk.of Go.Proofs.Tryz.underlying247 (by first | rfl | trivial) (by kernel_rfl) rfl (fun h => by cases h)
theorem tok_249 : ∀ i : TI, some (⟨(.int .i32), (.int .i32), 1, 4, false⟩ : TI) = some i → TIOk Go.Proofs.Tryz.prog 249 i := by
  intro i h; cases h
  exact TIOk.of Go.Proofs.Tryz.underlying249 (by first | rfl | trivial) (by kernel_rfl) rfl (fun h => by cases h)
theorem tok_250 : ∀ i : TI, some (⟨(.int .i32), (.int .i32), 1, 4, false⟩ : TI) = some i → TIOk Go.Proofs.Tryz.prog 250 i := by
  intro i h; cases h
  exact TIOk.of Go.Proofs.Tryz.underlying250 (by first | rfl | trivial) (by kernel_rfl) rfl (fun h => by cases h)
theorem allT : AllT Go.Proofs.Tryz.prog T := ⟨tok_2, tok_3, tok_4, tok_5, tok_6, tok_7, tok_8, tok_9, tok_10, tok_11, tok_12, tok_13, tok_14, tok_21, tok_22, tok_23, tok_24, tok_25, tok_29, tok_30, tok_31, tok_37, tok_38, tok_39, tok_40, tok_53, tok_54, tok_61, tok_62, tok_63, tok_68, tok_72, tok_73, tok_78, tok_79, tok_80, tok_83, tok_91, tok_92, tok_95, tok_96, tok_103, tok_104, tok_112, tok_113, tok_117, tok_118, tok_127, tok_128, tok_129, tok_136, tok_137, tok_144, tok_147, tok_166, tok_167, tok_168, tok_195, tok_202, tok_209, tok_217, tok_219, tok_228, tok_229, tok_232, tok_233, tok_234, tok_235, tok_236, tok_239, tok_240, tok_246, tok_247, tok_249, tok_250, trivial⟩
theorem seat_T : TOk Go.Proofs.Tryz.prog T := fun t i h => allT.mem t i (look_mem h)
theorem fok_4 : ∀ fn : Func, some Go.Proofs.Tryz.f4 = some fn → FOk Go.Proofs.Tryz.prog 4 fn := by
  intro fn h; cases h; exact ⟨Go.Proofs.Tryz.func4, by kernel_rfl, by kernel_rfl⟩
theorem fok_13 : ∀ fn : Func, some Go.Proofs.Tryz.f13 = some fn → FOk Go.Proofs.Tryz.prog 13 fn := by
  intro fn h; cases h; exact ⟨Go.Proofs.Tryz.func13, by kernel_rfl, by kernel_rfl⟩
theorem fok_14 : ∀ fn : Func, some Go.Proofs.Tryz.f14 = some fn → FOk Go.Proofs.Tryz.prog 14 fn := by
  intro fn h; cases h; exact ⟨Go.Proofs.Tryz.func14, by kernel_rfl, by kernel_rfl⟩
theorem fok_15 : ∀ fn : Func, some Go.Proofs.Tryz.f15 = some fn → FOk Go.Proofs.Tryz.prog 15 fn := by
  intro fn h; cases h; exact ⟨Go.Proofs.Tryz.func15, by kernel_rfl, by kernel_rfl⟩
theorem fok_16 : ∀ fn : Func, some Go.Proofs.Tryz.f16 = some fn → FOk Go.Proofs.Tryz.prog 16 fn := by
  intro fn h; cases h; exact ⟨Go.Proofs.Tryz.func16, by kernel_rfl, by kernel_rfl⟩
theorem fok_17 : ∀ fn : Func, some Go.Proofs.Tryz.f17 = some fn → FOk Go.Proofs.Tryz.prog 17 fn := by
  intro fn h; cases h; exact ⟨Go.Proofs.Tryz.func17, by kernel_rfl, by kernel_rfl⟩
theorem fok_18 : ∀ fn : Func, some Go.Proofs.Tryz.f18 = some fn → FOk Go.Proofs.Tryz.prog 18 fn := by
  intro fn h; cases h; exact ⟨Go.Proofs.Tryz.func18, by kernel_rfl, by kernel_rfl⟩
theorem fok_19 : ∀ fn : Func, some Go.Proofs.Tryz.f19 = some fn → FOk Go.Proofs.Tryz.prog 19 fn := by
  intro fn h; cases h; exact ⟨Go.Proofs.Tryz.func19, by kernel_rfl, by kernel_rfl⟩
theorem fok_20 : ∀ fn : Func, some Go.Proofs.Tryz.f20 = some fn → FOk Go.Proofs.Tryz.prog 20 fn := by
  intro fn h; cases h; exact ⟨Go.Proofs.Tryz.func20, by kernel_rfl, by kernel_rfl⟩
theorem fok_21 : ∀ fn : Func, some Go.Proofs.Tryz.f21 = some fn → FOk Go.Proofs.Tryz.prog 21 fn := by
  intro fn h; cases h; exact ⟨Go.Proofs.Tryz.func21, by kernel_rfl, by kernel_rfl⟩
theorem fok_34 : ∀ fn : Func, some Go.Proofs.Tryz.f34 = some fn → FOk Go.Proofs.Tryz.prog 34 fn := by
  intro fn h; cases h; exact ⟨Go.Proofs.Tryz.func34, by kernel_rfl, by kernel_rfl⟩
theorem fok_35 : ∀ fn : Func, some Go.Proofs.Tryz.f35 = some fn → FOk Go.Proofs.Tryz.prog 35 fn := by
  intro fn h; cases h; exact ⟨Go.Proofs.Tryz.func35, by kernel_rfl, by kernel_rfl⟩
theorem fok_36 : ∀ fn : Func, some Go.Proofs.Tryz.f36 = some fn → FOk Go.Proofs.Tryz.prog 36 fn := by
  intro fn h; cases h; exact ⟨Go.Proofs.Tryz.func36, by kernel_rfl, by kernel_rfl⟩
theorem fok_37 : ∀ fn : Func, some Go.Proofs.Tryz.f37 = some fn → FOk Go.Proofs.Tryz.prog 37 fn := by
  intro fn h; cases h; exact ⟨Go.Proofs.Tryz.func37, by kernel_rfl, by kernel_rfl⟩
theorem fok_38 : ∀ fn : Func, some Go.Proofs.Tryz.f38 = some fn → FOk Go.Proofs.Tryz.prog 38 fn := by
  intro fn h; cases h; exact ⟨Go.Proofs.Tryz.func38, by kernel_rfl, by kernel_rfl⟩
theorem fok_39 : ∀ fn : Func, some Go.Proofs.Tryz.f39 = some fn → FOk Go.Proofs.Tryz.prog 39 fn := by
  intro fn h; cases h; exact ⟨Go.Proofs.Tryz.func39, by kernel_rfl, by kernel_rfl⟩
theorem fok_40 : ∀ fn : Func, some Go.Proofs.Tryz.f40 = some fn → FOk Go.Proofs.Tryz.prog 40 fn := by
  intro fn h; cases h; exact ⟨Go.Proofs.Tryz.func40, by kernel_rfl, by kernel_rfl⟩
theorem fok_41 : ∀ fn : Func, some Go.Proofs.Tryz.f41 = some fn → FOk Go.Proofs.Tryz.prog 41 fn := by
  intro fn h; cases h; exact ⟨Go.Proofs.Tryz.func41, by kernel_rfl, by kernel_rfl⟩
theorem fok_42 : ∀ fn : Func, some Go.Proofs.Tryz.f42 = some fn → FOk Go.Proofs.Tryz.prog 42 fn := by
  intro fn h; cases h; exact ⟨Go.Proofs.Tryz.func42, by kernel_rfl, by kernel_rfl⟩
theorem fok_43 : ∀ fn : Func, some Go.Proofs.Tryz.f43 = some fn → FOk Go.Proofs.Tryz.prog 43 fn := by
  intro fn h; cases h; exact ⟨Go.Proofs.Tryz.func43, by kernel_rfl, by kernel_rfl⟩
theorem fok_44 : ∀ fn : Func, some Go.Proofs.Tryz.f44 = some fn → FOk Go.Proofs.Tryz.prog 44 fn := by
  intro fn h; cases h; exact ⟨Go.Proofs.Tryz.func44, by kernel_rfl, by kernel_rfl⟩
theorem fok_45 : ∀ fn : Func, some Go.Proofs.Tryz.f45 = some fn → FOk Go.Proofs.Tryz.prog 45 fn := by
  intro fn h; cases h; exact ⟨Go.Proofs.Tryz.func45, by kernel_rfl, by kernel_rfl⟩
theorem fok_47 : ∀ fn : Func, some Go.Proofs.Tryz.f47 = some fn → FOk Go.Proofs.Tryz.prog 47 fn := by
  intro fn h; cases h; exact ⟨Go.Proofs.Tryz.func47, by kernel_rfl, by kernel_rfl⟩
theorem fok_54 : ∀ fn : Func, some Go.Proofs.Tryz.f54 = some fn → FOk Go.Proofs.Tryz.prog 54 fn := by
  intro fn h; cases h; exact ⟨Go.Proofs.Tryz.func54, by kernel_rfl, by kernel_rfl⟩
theorem fok_58 : ∀ fn : Func, some Go.Proofs.Tryz.f58 = some fn → FOk Go.Proofs.Tryz.prog 58 fn := by
  intro fn h; cases h; exact ⟨Go.Proofs.Tryz.func58, by kernel_rfl, by kernel_rfl⟩
theorem fok_60 : ∀ fn : Func, some Go.Proofs.Tryz.f60 = some fn → FOk Go.Proofs.Tryz.prog 60 fn := by
  intro fn h; cases h; exact ⟨Go.Proofs.Tryz.func60, by kernel_rfl, by kernel_rfl⟩
theorem fok_64 : ∀ fn : Func, some Go.Proofs.Tryz.f64 = some fn → FOk Go.Proofs.Tryz.prog 64 fn := by
  intro fn h; cases h; exact ⟨Go.Proofs.Tryz.func64, by kernel_rfl, by kernel_rfl⟩
theorem fok_65 : ∀ fn : Func, some Go.Proofs.Tryz.f65 = some fn → FOk Go.Proofs.Tryz.prog 65 fn := by
  intro fn h; cases h; exact ⟨Go.Proofs.Tryz.func65, by kernel_rfl, by kernel_rfl⟩
theorem fok_66 : ∀ fn : Func, some Go.Proofs.Tryz.f66 = some fn → FOk Go.Proofs.Tryz.prog 66 fn := by
  intro fn h; cases h; exact ⟨Go.Proofs.Tryz.func66, by kernel_rfl, by kernel_rfl⟩
theorem fok_67 : ∀ fn : Func, some Go.Proofs.Tryz.f67 = some fn → FOk Go.Proofs.Tryz.prog 67 fn := by
  intro fn h; cases h; exact ⟨Go.Proofs.Tryz.func67, by kernel_rfl, by kernel_rfl⟩
theorem fok_68 : ∀ fn : Func, some Go.Proofs.Tryz.f68 = some fn → FOk Go.Proofs.Tryz.prog 68 fn := by
  intro fn h; cases h; exact ⟨Go.Proofs.Tryz.func68, by kernel_rfl, by kernel_rfl⟩
theorem fok_69 : ∀ fn : Func, some Go.Proofs.Tryz.f69 = some fn → FOk Go.Proofs.Tryz.prog 69 fn := by
  intro fn h; cases h; exact ⟨Go.Proofs.Tryz.func69, by kernel_rfl, by kernel_rfl⟩
theorem fok_70 : ∀ fn : Func, some Go.Proofs.Tryz.f70 = some fn → FOk Go.Proofs.Tryz.prog 70 fn := by
  intro fn h; cases h; exact ⟨Go.Proofs.Tryz.func70, by kernel_rfl, by kernel_rfl⟩
theorem fok_71 : ∀ fn : Func, some Go.Proofs.Tryz.f71 = some fn → FOk Go.Proofs.Tryz.prog 71 fn := by
  intro fn h; cases h; exact ⟨Go.Proofs.Tryz.func71, by kernel_rfl, by kernel_rfl⟩
theorem fok_72 : ∀ fn : Func, some Go.Proofs.Tryz.f72 = some fn → FOk Go.Proofs.Tryz.prog 72 fn := by
  intro fn h; cases h; exact ⟨Go.Proofs.Tryz.func72, by kernel_rfl, by kernel_rfl⟩
theorem fok_73 : ∀ fn : Func, some Go.Proofs.Tryz.f73 = some fn → FOk Go.Proofs.Tryz.prog 73 fn := by
  intro fn h; cases h; exact ⟨Go.Proofs.Tryz.func73, by kernel_rfl, by kernel_rfl⟩
theorem fok_74 : ∀ fn : Func, some Go.Proofs.Tryz.f74 = some fn → FOk Go.Proofs.Tryz.prog 74 fn := by
  intro fn h; cases h; exact ⟨Go.Proofs.Tryz.func74, by kernel_rfl, by kernel_rfl⟩
theorem fok_75 : ∀ fn : Func, some Go.Proofs.Tryz.f75 = some fn → FOk Go.Proofs.Tryz.prog 75 fn := by
  intro fn h; cases h; exact ⟨Go.Proofs.Tryz.func75, by kernel_rfl, by kernel_rfl⟩
theorem fok_76 : ∀ fn : Func, some Go.Proofs.Tryz.f76 = some fn → FOk Go.Proofs.Tryz.prog 76 fn := by
  intro fn h; cases h; exact ⟨Go.Proofs.Tryz.func76, by kernel_rfl, by kernel_rfl⟩
theorem fok_77 : ∀ fn : Func, some Go.Proofs.Tryz.f77 = some fn → FOk Go.Proofs.Tryz.prog 77 fn := by
  intro fn h; cases h; exact ⟨Go.Proofs.Tryz.func77, by kernel_rfl, by kernel_rfl⟩
theorem fok_78 : ∀ fn : Func, some Go.Proofs.Tryz.f78 = some fn → FOk Go.Proofs.Tryz.prog 78 fn := by
  intro fn h; cases h; exact ⟨Go.Proofs.Tryz.func78, by kernel_rfl, by kernel_rfl⟩
theorem fok_79 : ∀ fn : Func, some Go.Proofs.Tryz.f79 = some fn → FOk Go.Proofs.Tryz.prog 79 fn := by
  intro fn h; cases h; exact ⟨Go.Proofs.Tryz.func79, by kernel_rfl, by kernel_rfl⟩
theorem fok_80 : ∀ fn : Func, some Go.Proofs.Tryz.f80 = some fn → FOk Go.Proofs.Tryz.prog 80 fn := by
  intro fn h; cases h; exact ⟨Go.Proofs.Tryz.func80, by kernel_rfl, by kernel_rfl⟩
theorem fok_81 : ∀ fn : Func, some Go.Proofs.Tryz.f81 = some fn → FOk Go.Proofs.Tryz.prog 81 fn := by
  intro fn h; cases h; exact ⟨Go.Proofs.Tryz.func81, by kernel_rfl, by kernel_rfl⟩
theorem fok_82 : ∀ fn : Func, some Go.Proofs.Tryz.f82 = some fn → FOk Go.Proofs.Tryz.prog 82 fn := by
  intro fn h; cases h; exact ⟨Go.Proofs.Tryz.func82, by kernel_rfl, by kernel_rfl⟩
theorem fok_83 : ∀ fn : Func, some Go.Proofs.Tryz.f83 = some fn → FOk Go.Proofs.Tryz.prog 83 fn := by
  intro fn h; cases h; exact ⟨Go.Proofs.Tryz.func83, by kernel_rfl, by kernel_rfl⟩
theorem fok_84 : ∀ fn : Func, some Go.Proofs.Tryz.f84 = some fn → FOk Go.Proofs.Tryz.prog 84 fn := by
  intro fn h; cases h; exact ⟨Go.Proofs.Tryz.func84, by kernel_rfl, by kernel_rfl⟩
theorem fok_85 : ∀ fn : Func, some Go.Proofs.Tryz.f85 = some fn → FOk Go.Proofs.Tryz.prog 85 fn := by
  intro fn h; cases h; exact ⟨Go.Proofs.Tryz.func85, by kernel_rfl, by kernel_rfl⟩
theorem fok_86 : ∀ fn : Func, some Go.Proofs.Tryz.f86 = some fn → FOk Go.Proofs.Tryz.prog 86 fn := by
  intro fn h; cases h; exact ⟨Go.Proofs.Tryz.func86, by kernel_rfl, by kernel_rfl⟩
theorem fok_87 : ∀ fn : Func, some Go.Proofs.Tryz.f87 = some fn → FOk Go.Proofs.Tryz.prog 87 fn := by
  intro fn h; cases h; exact ⟨Go.Proofs.Tryz.func87, by kernel_rfl, by kernel_rfl⟩
theorem fok_88 : ∀ fn : Func, some Go.Proofs.Tryz.f88 = some fn → FOk Go.Proofs.Tryz.prog 88 fn := by
  intro fn h; cases h; exact ⟨Go.Proofs.Tryz.func88, by kernel_rfl, by kernel_rfl⟩
theorem fok_89 : ∀ fn : Func, some Go.Proofs.Tryz.f89 = some fn → FOk Go.Proofs.Tryz.prog 89 fn := by
  intro fn h; cases h; exact ⟨Go.Proofs.Tryz.func89, by kernel_rfl, by kernel_rfl⟩
theorem fok_104 : ∀ fn : Func, some Go.Proofs.Tryz.f104 = some fn → FOk Go.Proofs.Tryz.prog 104 fn := by
  intro fn h; cases h; exact ⟨Go.Proofs.Tryz.func104, by kernel_rfl, by kernel_rfl⟩
theorem fok_110 : ∀ fn : Func, some Go.Proofs.Tryz.f110 = some fn → FOk Go.Proofs.Tryz.prog 110 fn := by
  intro fn h; cases h; exact ⟨Go.Proofs.Tryz.func110, by kernel_rfl, by kernel_rfl⟩
theorem fok_111 : ∀ fn : Func, some Go.Proofs.Tryz.f111 = some fn → FOk Go.Proofs.Tryz.prog 111 fn := by
  intro fn h; cases h; exact ⟨Go.Proofs.Tryz.func111, by kernel_rfl, by kernel_rfl⟩
theorem fok_112 : ∀ fn : Func, some Go.Proofs.Tryz.f112 = some fn → FOk Go.Proofs.Tryz.prog 112 fn := by
  intro fn h; cases h; exact ⟨Go.Proofs.Tryz.func112, by kernel_rfl, by kernel_rfl⟩
theorem fok_114 : ∀ fn : Func, some Go.Proofs.Tryz.f114 = some fn → FOk Go.Proofs.Tryz.prog 114 fn := by
  intro fn h; cases h; exact ⟨Go.Proofs.Tryz.func114, by kernel_rfl, by kernel_rfl⟩
theorem fok_115 : ∀ fn : Func, some Go.Proofs.Tryz.f115 = some fn → FOk Go.Proofs.Tryz.prog 115 fn := by
  intro fn h; cases h; exact ⟨Go.Proofs.Tryz.func115, by kernel_rfl, by kernel_rfl⟩
theorem fok_116 : ∀ fn : Func, some Go.Proofs.Tryz.f116 = some fn → FOk Go.Proofs.Tryz.prog 116 fn := by
  intro fn h; cases h; exact ⟨Go.Proofs.Tryz.func116, by kernel_rfl, by kernel_rfl⟩
theorem fok_117 : ∀ fn : Func, some Go.Proofs.Tryz.f117 = some fn → FOk Go.Proofs.Tryz.prog 117 fn := by
  intro fn h; cases h; exact ⟨Go.Proofs.Tryz.func117, by kernel_rfl, by kernel_rfl⟩
theorem fok_118 : ∀ fn : Func, some Go.Proofs.Tryz.f118 = some fn → FOk Go.Proofs.Tryz.prog 118 fn := by
  intro fn h; cases h; exact ⟨Go.Proofs.Tryz.func118, by kernel_rfl, by kernel_rfl⟩
theorem fok_119 : ∀ fn : Func, some Go.Proofs.Tryz.f119 = some fn → FOk Go.Proofs.Tryz.prog 119 fn := by
  intro fn h; cases h; exact ⟨Go.Proofs.Tryz.func119, by kernel_rfl, by kernel_rfl⟩
theorem fok_120 : ∀ fn : Func, some Go.Proofs.Tryz.f120 = some fn → FOk Go.Proofs.Tryz.prog 120 fn := by
  intro fn h; cases h; exact ⟨Go.Proofs.Tryz.func120, by kernel_rfl, by kernel_rfl⟩
theorem fok_121 : ∀ fn : Func, some Go.Proofs.Tryz.f121 = some fn → FOk Go.Proofs.Tryz.prog 121 fn := by
  intro fn h; cases h; exact ⟨Go.Proofs.Tryz.func121, by kernel_rfl, by kernel_rfl⟩
theorem fok_122 : ∀ fn : Func, some Go.Proofs.Tryz.f122 = some fn → FOk Go.Proofs.Tryz.prog 122 fn := by
  intro fn h; cases h; exact ⟨Go.Proofs.Tryz.func122, by kernel_rfl, by kernel_rfl⟩
theorem fok_123 : ∀ fn : Func, some Go.Proofs.Tryz.f123 = some fn → FOk Go.Proofs.Tryz.prog 123 fn := by
  intro fn h; cases h; exact ⟨Go.Proofs.Tryz.func123, by kernel_rfl, by kernel_rfl⟩
theorem fok_124 : ∀ fn : Func, some Go.Proofs.Tryz.f124 = some fn → FOk Go.Proofs.Tryz.prog 124 fn := by
  intro fn h; cases h; exact ⟨Go.Proofs.Tryz.func124, by kernel_rfl, by kernel_rfl⟩
theorem fok_126 : ∀ fn : Func, some Go.Proofs.Tryz.f126 = some fn → FOk Go.Proofs.Tryz.prog 126 fn := by
  intro fn h; cases h; exact ⟨Go.Proofs.Tryz.func126, by kernel_rfl, by kernel_rfl⟩
theorem fok_127 : ∀ fn : Func, some Go.Proofs.Tryz.f127 = some fn → FOk Go.Proofs.Tryz.prog 127 fn := by
  intro fn h; cases h; exact ⟨Go.Proofs.Tryz.func127, by kernel_rfl, by kernel_rfl⟩
theorem fok_128 : ∀ fn : Func, some Go.Proofs.Tryz.f128 = some fn → FOk Go.Proofs.Tryz.prog 128 fn := by
  intro fn h; cases h; exact ⟨Go.Proofs.Tryz.func128, by kernel_rfl, by kernel_rfl⟩
theorem fok_129 : ∀ fn : Func, some Go.Proofs.Tryz.f129 = some fn → FOk Go.Proofs.Tryz.prog 129 fn := by
  intro fn h; cases h; exact ⟨Go.Proofs.Tryz.func129, by kernel_rfl, by kernel_rfl⟩
theorem fok_130 : ∀ fn : Func, some Go.Proofs.Tryz.f130 = some fn → FOk Go.Proofs.Tryz.prog 130 fn := by
  intro fn h; cases h; exact ⟨Go.Proofs.Tryz.func130, by kernel_rfl, by kernel_rfl⟩
theorem fok_131 : ∀ fn : Func, some Go.Proofs.Tryz.f131 = some fn → FOk Go.Proofs.Tryz.prog 131 fn := by
  intro fn h; cases h; exact ⟨Go.Proofs.Tryz.func131, by kernel_rfl, by kernel_rfl⟩
theorem fok_132 : ∀ fn : Func, some Go.Proofs.Tryz.f132 = some fn → FOk Go.Proofs.Tryz.prog 132 fn := by
  intro fn h; cases h; exact ⟨Go.Proofs.Tryz.func132, by kernel_rfl, by kernel_rfl⟩
theorem fok_165 : ∀ fn : Func, some Go.Proofs.Tryz.f165 = some fn → FOk Go.Proofs.Tryz.prog 165 fn := by
  intro fn h; cases h; exact ⟨Go.Proofs.Tryz.func165, by kernel_rfl, by kernel_rfl⟩
theorem fok_167 : ∀ fn : Func, some Go.Proofs.Tryz.f167 = some fn → FOk Go.Proofs.Tryz.prog 167 fn := by
  intro fn h; cases h; exact ⟨Go.Proofs.Tryz.func167, by kernel_rfl, by kernel_rfl⟩
theorem fok_168 : ∀ fn : Func, some Go.Proofs.Tryz.f168 = some fn → FOk Go.Proofs.Tryz.prog 168 fn := by
  intro fn h; cases h; exact ⟨Go.Proofs.Tryz.func168, by kernel_rfl, by kernel_rfl⟩
theorem fok_169 : ∀ fn : Func, some Go.Proofs.Tryz.f169 = some fn → FOk Go.Proofs.Tryz.prog 169 fn := by
  intro fn h; cases h; exact ⟨Go.Proofs.Tryz.func169, by kernel_rfl, by kernel_rfl⟩
theorem fok_170 : ∀ fn : Func, some Go.Proofs.Tryz.f170 = some fn → FOk Go.Proofs.Tryz.prog 170 fn := by
  intro fn h; cases h; exact ⟨Go.Proofs.Tryz.func170, by kernel_rfl, by kernel_rfl⟩
theorem fok_190 : ∀ fn : Func, some Go.Proofs.Tryz.f190 = some fn → FOk Go.Proofs.Tryz.prog 190 fn := by
  intro fn h; cases h; exact ⟨Go.Proofs.Tryz.func190, by kernel_rfl, by kernel_rfl⟩
theorem fok_191 : ∀ fn : Func, some Go.Proofs.Tryz.f191 = some fn → FOk Go.Proofs.Tryz.prog 191 fn := by
  intro fn h; cases h; exact ⟨Go.Proofs.Tryz.func191, by kernel_rfl, by kernel_rfl⟩
theorem fok_192 : ∀ fn : Func, some Go.Proofs.Tryz.f192 = some fn → FOk Go.Proofs.Tryz.prog 192 fn := by
  intro fn h; cases h; exact ⟨Go.Proofs.Tryz.func192, by kernel_rfl, by kernel_rfl⟩
theorem fok_194 : ∀ fn : Func, some Go.Proofs.Tryz.f194 = some fn → FOk Go.Proofs.Tryz.prog 194 fn := by
  intro fn h; cases h; exact ⟨Go.Proofs.Tryz.func194, by kernel_rfl, by kernel_rfl⟩
theorem fok_195 : ∀ fn : Func, some Go.Proofs.Tryz.f195 = some fn → FOk Go.Proofs.Tryz.prog 195 fn := by
  intro fn h; cases h; exact ⟨Go.Proofs.Tryz.func195, by kernel_rfl, by kernel_rfl⟩
theorem fok_196 : ∀ fn : Func, some Go.Proofs.Tryz.f196 = some fn → FOk Go.Proofs.Tryz.prog 196 fn := by
  intro fn h; cases h; exact ⟨Go.Proofs.Tryz.func196, by kernel_rfl, by kernel_rfl⟩
theorem fok_210 : ∀ fn : Func, some Go.Proofs.Tryz.f210 = some fn → FOk Go.Proofs.Tryz.prog 210 fn := by
  intro fn h; cases h; exact ⟨Go.Proofs.Tryz.func210, by kernel_rfl, by kernel_rfl⟩
theorem fok_213 : ∀ fn : Func, some Go.Proofs.Tryz.f213 = some fn → FOk Go.Proofs.Tryz.prog 213 fn := by
  intro fn h; cases h; exact ⟨Go.Proofs.Tryz.func213, by kernel_rfl, by kernel_rfl⟩
theorem fok_214 : ∀ fn : Func, some Go.Proofs.Tryz.f214 = some fn → FOk Go.Proofs.Tryz.prog 214 fn := by
  intro fn h; cases h; exact ⟨Go.Proofs.Tryz.func214, by kernel_rfl, by kernel_rfl⟩
theorem fok_215 : ∀ fn : Func, some Go.Proofs.Tryz.f215 = some fn → FOk Go.Proofs.Tryz.prog 215 fn := by
  intro fn h; cases h; exact ⟨Go.Proofs.Tryz.func215, by kernel_rfl, by kernel_rfl⟩
theorem fok_230 : ∀ fn : Func, some Go.Proofs.Tryz.f230 = some fn → FOk Go.Proofs.Tryz.prog 230 fn := by
  intro fn h; cases h; exact ⟨Go.Proofs.Tryz.func230, by kernel_rfl, by kernel_rfl⟩
theorem allF : AllF Go.Proofs.Tryz.prog F := ⟨fok_4, fok_13, fok_14, fok_15, fok_16, fok_17, fok_18, fok_19, fok_20, fok_21, fok_34, fok_35, fok_36, fok_37, fok_38, fok_39, fok_40, fok_41, fok_42, fok_43, fok_44, fok_45, fok_47, fok_54, fok_58, fok_60, fok_64, fok_65, fok_66, fok_67, fok_68, fok_69, fok_70, fok_71, fok_72, fok_73, fok_74, fok_75, fok_76, fok_77, fok_78, fok_79, fok_80, fok_81, fok_82, fok_83, fok_84, fok_85, fok_86, fok_87, fok_88, fok_89, fok_104, fok_110, fok_111, fok_112, fok_114, fok_115, fok_116, fok_117, fok_118, fok_119, fok_120, fok_121, fok_122, fok_123, fok_124, fok_126, fok_127, fok_128, fok_129, fok_130, fok_131, fok_132, fok_165, fok_167, fok_168, fok_169, fok_170, fok_190, fok_191, fok_192, fok_194, fok_195, fok_196, fok_210, fok_213, fok_214, fok_215, fok_230, trivial⟩
theorem seat_F : ∀ f fn, look F f = some fn → FOk Go.Proofs.Tryz.prog f fn := fun t i h => allF.mem t i (look_mem h)
end Go.Px.Seat
