/- The tables tell the program. Printed by mkok.py. -/
import Derived.Test.YtmmggkldldbomaaGreatDoorS3
import Derived.Test.YtmmggkldldbomaaGreatDoorA5
import Derived.KernelRfl
set_option linter.unusedVariables false

namespace Go.Px.Seat
open Go
set_option maxRecDepth 100000
theorem TIOk.of {P : Program} {t : TypeId} {i : TI} {d : TypeDesc} (h1 : P.underlying t = some d) (h2 : DescOk i.d d) (h3 : (P.info? t).bind (fun j => j.zero.map fun z => (j.size, j.bytes, z.cells.toList)) = some (i.size, i.bytes, zeroVals i.ty))
    (h4 : i.ty.size = i.size) (h5 : i.eqf = true → EqOk P t i.ty) : TIOk P t i := by
  refine ⟨⟨d, h1, h2⟩, ?_, h4, h5⟩
  simp only [Option.bind_eq_some_iff, Option.map_eq_some_iff, Prod.mk.injEq] at h3
  obtain ⟨j, hj, z, hz, e1, e2, e3⟩ := h3
  exact ⟨j, hj, e1, e2, z, hz, e3⟩
def AllT (P : Program) : Types → Prop
  | [] => True
  | p :: l => (∀ i, p.2 = some i → TIOk P p.1 i) ∧ AllT P l
theorem AllT.mem {P : Program} : ∀ {l : Types}, AllT P l → ∀ t i, (t, some i) ∈ l → TIOk P t i
  | _ :: _, h, t, i, hm => by
    rcases List.mem_cons.1 hm with rfl | hm
    · exact h.1 i rfl
    · exact AllT.mem h.2 t i hm
def FOk (P : Program) (f : Nat) (fn : Func) : Prop := P.funcs[f]? = some fn ∧ fn.body.isNone = false ∧ (fn.name == "runtime.NumGoroutine") = false
def AllF (P : Program) : Funcs → Prop
  | [] => True
  | p :: l => (∀ fn, p.2 = some fn → FOk P p.1 fn) ∧ AllF P l
theorem AllF.mem {P : Program} : ∀ {l : Funcs}, AllF P l → ∀ t i, (t, some i) ∈ l → FOk P t i
  | _ :: _, h, t, i, hm => by
    rcases List.mem_cons.1 hm with rfl | hm
    · exact h.1 i rfl
    · exact AllF.mem h.2 t i hm
theorem tok_2 : ∀ i : TI, some (⟨(.int .i64), (.int .i64), 1, 8, false⟩ : TI) = some i → TIOk Go.Proofs.Tryz.prog 2 i := by
  intro i h; cases h
  exact TIOk.of Go.Proofs.Tryz.underlying2 (by first | rfl | trivial) (by kernel_rfl) rfl (fun h => by cases h)
theorem tok_3 : ∀ i : TI, some (⟨(.int .i64), (.int .i64), 1, 8, false⟩ : TI) = some i → TIOk Go.Proofs.Tryz.prog 3 i := by
  intro i h; cases h
  exact TIOk.of Go.Proofs.Tryz.underlying3 (by first | rfl | trivial) (by kernel_rfl) rfl (fun h => by cases h)
theorem tok_4 : ∀ i : TI, some (⟨.bool, .bool, 1, 1, false⟩ : TI) = some i → TIOk Go.Proofs.Tryz.prog 4 i := by
  intro i h; cases h
  exact TIOk.of Go.Proofs.Tryz.underlying4 (by first | rfl | trivial) (by kernel_rfl) rfl (fun h => by cases h)
theorem tok_5 : ∀ i : TI, some (⟨(.int .u8), (.int .u8), 1, 1, false⟩ : TI) = some i → TIOk Go.Proofs.Tryz.prog 5 i := by
  intro i h; cases h
  exact TIOk.of Go.Proofs.Tryz.underlying5 (by first | rfl | trivial) (by kernel_rfl) rfl (fun h => by cases h)
theorem tok_6 : ∀ i : TI, some (⟨(.int .u8), (.int .u8), 1, 1, false⟩ : TI) = some i → TIOk Go.Proofs.Tryz.prog 6 i := by
  intro i h; cases h
  exact TIOk.of Go.Proofs.Tryz.underlying6 (by first | rfl | trivial) (by kernel_rfl) rfl (fun h => by cases h)
theorem tok_7 : ∀ i : TI, some (⟨(.struct [(0, 2), (1, 3), (2, 4), (3, 6)]), (.cons (.int .i64) (.cons (.int .i64) (.cons .bool (.cons (.int .u8) .nil)))), 4, 24, false⟩ : TI) = some i → TIOk Go.Proofs.Tryz.prog 7 i := by
  intro i h; cases h
  exact TIOk.of Go.Proofs.Tryz.underlying7 (by first | rfl | trivial) (by kernel_rfl) rfl (fun h => by cases h)
theorem tok_8 : ∀ i : TI, some (⟨(.struct [(0, 2), (1, 3), (2, 4), (3, 6)]), (.cons (.int .i64) (.cons (.int .i64) (.cons .bool (.cons (.int .u8) .nil)))), 4, 24, false⟩ : TI) = some i → TIOk Go.Proofs.Tryz.prog 8 i := by
  intro i h; cases h
  exact TIOk.of Go.Proofs.Tryz.underlying8 (by first | rfl | trivial) (by kernel_rfl) rfl (fun h => by cases h)
theorem tok_9 : ∀ i : TI, some (⟨.string, .str, 1, 16, false⟩ : TI) = some i → TIOk Go.Proofs.Tryz.prog 9 i := by
  intro i h; cases h
  exact TIOk.of Go.Proofs.Tryz.underlying9 (by first | rfl | trivial) (by kernel_rfl) rfl (fun h => by cases h)
theorem tok_10 : ∀ i : TI, some (⟨.string, .str, 1, 16, false⟩ : TI) = some i → TIOk Go.Proofs.Tryz.prog 10 i := by
  intro i h; cases h
  exact TIOk.of Go.Proofs.Tryz.underlying10 (by first | rfl | trivial) (by kernel_rfl) rfl (fun h => by cases h)
theorem tok_11 : ∀ i : TI, some (⟨.string, .str, 1, 16, false⟩ : TI) = some i → TIOk Go.Proofs.Tryz.prog 11 i := by
  intro i h; cases h
  exact TIOk.of Go.Proofs.Tryz.underlying11 (by first | rfl | trivial) (by kernel_rfl) rfl (fun h => by cases h)
theorem tok_12 : ∀ i : TI, some (⟨(.int .u64), (.int .u64), 1, 8, false⟩ : TI) = some i → TIOk Go.Proofs.Tryz.prog 12 i := by
  intro i h; cases h
  exact TIOk.of Go.Proofs.Tryz.underlying12 (by first | rfl | trivial) (by kernel_rfl) rfl (fun h => by cases h)
theorem tok_13 : ∀ i : TI, some (⟨(.struct [(0, 9), (1, 12)]), (.cons .str (.cons (.int .u64) .nil)), 2, 24, false⟩ : TI) = some i → TIOk Go.Proofs.Tryz.prog 13 i := by
  intro i h; cases h
  exact TIOk.of Go.Proofs.Tryz.underlying13 (by first | rfl | trivial) (by kernel_rfl) rfl (fun h => by cases h)
theorem tok_14 : ∀ i : TI, some (⟨(.struct [(0, 9), (1, 12)]), (.cons .str (.cons (.int .u64) .nil)), 2, 24, false⟩ : TI) = some i → TIOk Go.Proofs.Tryz.prog 14 i := by
  intro i h; cases h
  exact TIOk.of Go.Proofs.Tryz.underlying14 (by first | rfl | trivial) (by kernel_rfl) rfl (fun h => by cases h)
theorem tok_21 : ∀ i : TI, some (⟨(.int .i32), (.int .i32), 1, 4, false⟩ : TI) = some i → TIOk Go.Proofs.Tryz.prog 21 i := by
  intro i h; cases h
  exact TIOk.of Go.Proofs.Tryz.underlying21 (by first | rfl | trivial) (by kernel_rfl) rfl (fun h => by cases h)
theorem tok_22 : ∀ i : TI, some (⟨(.slice 5), (.slice (.int .u8)), 1, 24, false⟩ : TI) = some i → TIOk Go.Proofs.Tryz.prog 22 i := by
  intro i h; cases h
  exact TIOk.of Go.Proofs.Tryz.underlying22 (by first | rfl | trivial) (by kernel_rfl) rfl (fun h => by cases h)
theorem tok_23 : ∀ i : TI, some (⟨(.slice 59), (.slice (.cons .str (.cons (.slice .str) (.cons (.cons (.slice (.cons (.int .i64) (.cons (.int .i64) (.cons .str .nil)))) .nil) .nil)))), 1, 24, false⟩ : TI) = some i → TIOk Go.Proofs.Tryz.prog 23 i := by
  intro i h; cases h
  exact TIOk.of Go.Proofs.Tryz.underlying23 (by first | rfl | trivial) (by kernel_rfl) rfl (fun h => by cases h)
theorem tok_24 : ∀ i : TI, some (⟨(.slice 9), (.slice .str), 1, 24, false⟩ : TI) = some i → TIOk Go.Proofs.Tryz.prog 24 i := by
  intro i h; cases h
  exact TIOk.of Go.Proofs.Tryz.underlying24 (by first | rfl | trivial) (by kernel_rfl) rfl (fun h => by cases h)
theorem tok_25 : ∀ i : TI, some (⟨(.slice 57), (.slice (.cons (.int .i64) (.cons (.cons (.slice (.cons (.int .i64) (.cons (.int .i64) (.cons .str .nil)))) .nil) (.cons (.cons (.slice (.cons (.int .i64) (.cons (.int .i64) (.cons .str .nil)))) .nil) .nil)))), 1, 24, false⟩ : TI) = some i → TIOk Go.Proofs.Tryz.prog 25 i := by
  intro i h; cases h
  exact TIOk.of Go.Proofs.Tryz.underlying25 (by first | rfl | trivial) (by kernel_rfl) rfl (fun h => by cases h)
theorem tok_26 : ∀ i : TI, some (⟨(.struct [(0, 23), (1, 24), (2, 25)]), (.cons (.slice (.cons .str (.cons (.slice .str) (.cons (.cons (.slice (.cons (.int .i64) (.cons (.int .i64) (.cons .str .nil)))) .nil) .nil)))) (.cons (.slice .str) (.cons (.slice (.cons (.int .i64) (.cons (.cons (.slice (.cons (.int .i64) (.cons (.int .i64) (.cons .str .nil)))) .nil) (.cons (.cons (.slice (.cons (.int .i64) (.cons (.int .i64) (.cons .str .nil)))) .nil) .nil)))) .nil))), 3, 72, false⟩ : TI) = some i → TIOk Go.Proofs.Tryz.prog 26 i := by
  intro i h; cases h
  exact TIOk.of Go.Proofs.Tryz.underlying26 (by first | rfl | trivial) (by kernel_rfl) rfl (fun h => by cases h)
theorem tok_27 : ∀ i : TI, some (⟨(.struct [(0, 23), (1, 24), (2, 25)]), (.cons (.slice (.cons .str (.cons (.slice .str) (.cons (.cons (.slice (.cons (.int .i64) (.cons (.int .i64) (.cons .str .nil)))) .nil) .nil)))) (.cons (.slice .str) (.cons (.slice (.cons (.int .i64) (.cons (.cons (.slice (.cons (.int .i64) (.cons (.int .i64) (.cons .str .nil)))) .nil) (.cons (.cons (.slice (.cons (.int .i64) (.cons (.int .i64) (.cons .str .nil)))) .nil) .nil)))) .nil))), 3, 72, false⟩ : TI) = some i → TIOk Go.Proofs.Tryz.prog 27 i := by
  intro i h; cases h
  exact TIOk.of Go.Proofs.Tryz.underlying27 (by first | rfl | trivial) (by kernel_rfl) rfl (fun h => by cases h)
theorem tok_39 : ∀ i : TI, some (⟨(.slice 129), (.slice (.cons .str (.cons (.slice .str) (.cons (.cons (.slice (.cons (.int .i64) (.cons (.int .i64) (.cons .str .nil)))) .nil) .nil)))), 1, 24, false⟩ : TI) = some i → TIOk Go.Proofs.Tryz.prog 39 i := by
  intro i h; cases h
  exact TIOk.of Go.Proofs.Tryz.underlying39 (by first | rfl | trivial) (by kernel_rfl) rfl (fun h => by cases h)
theorem tok_40 : ∀ i : TI, some (⟨(.slice 132), (.slice (.cons (.int .i64) (.cons (.cons (.slice (.cons (.int .i64) (.cons (.int .i64) (.cons .str .nil)))) .nil) (.cons (.cons (.slice (.cons (.int .i64) (.cons (.int .i64) (.cons .str .nil)))) .nil) .nil)))), 1, 24, false⟩ : TI) = some i → TIOk Go.Proofs.Tryz.prog 40 i := by
  intro i h; cases h
  exact TIOk.of Go.Proofs.Tryz.underlying40 (by first | rfl | trivial) (by kernel_rfl) rfl (fun h => by cases h)
theorem tok_41 : ∀ i : TI, some (⟨(.struct [(0, 39), (1, 24), (2, 40)]), (.cons (.slice (.cons .str (.cons (.slice .str) (.cons (.cons (.slice (.cons (.int .i64) (.cons (.int .i64) (.cons .str .nil)))) .nil) .nil)))) (.cons (.slice .str) (.cons (.slice (.cons (.int .i64) (.cons (.cons (.slice (.cons (.int .i64) (.cons (.int .i64) (.cons .str .nil)))) .nil) (.cons (.cons (.slice (.cons (.int .i64) (.cons (.int .i64) (.cons .str .nil)))) .nil) .nil)))) .nil))), 3, 72, false⟩ : TI) = some i → TIOk Go.Proofs.Tryz.prog 41 i := by
  intro i h; cases h
  exact TIOk.of Go.Proofs.Tryz.underlying41 (by first | rfl | trivial) (by kernel_rfl) rfl (fun h => by cases h)
theorem tok_42 : ∀ i : TI, some (⟨(.struct [(0, 39), (1, 24), (2, 40)]), (.cons (.slice (.cons .str (.cons (.slice .str) (.cons (.cons (.slice (.cons (.int .i64) (.cons (.int .i64) (.cons .str .nil)))) .nil) .nil)))) (.cons (.slice .str) (.cons (.slice (.cons (.int .i64) (.cons (.cons (.slice (.cons (.int .i64) (.cons (.int .i64) (.cons .str .nil)))) .nil) (.cons (.cons (.slice (.cons (.int .i64) (.cons (.int .i64) (.cons .str .nil)))) .nil) .nil)))) .nil))), 3, 72, false⟩ : TI) = some i → TIOk Go.Proofs.Tryz.prog 42 i := by
  intro i h; cases h
  exact TIOk.of Go.Proofs.Tryz.underlying42 (by first | rfl | trivial) (by kernel_rfl) rfl (fun h => by cases h)
theorem tok_53 : ∀ i : TI, some (⟨(.slice 73), (.slice (.cons (.int .i64) (.cons (.int .i64) (.cons .str .nil)))), 1, 24, false⟩ : TI) = some i → TIOk Go.Proofs.Tryz.prog 53 i := by
  intro i h; cases h
  exact TIOk.of Go.Proofs.Tryz.underlying53 (by first | rfl | trivial) (by kernel_rfl) rfl (fun h => by cases h)
theorem tok_54 : ∀ i : TI, some (⟨(.struct [(0, 53)]), (.cons (.slice (.cons (.int .i64) (.cons (.int .i64) (.cons .str .nil)))) .nil), 1, 24, false⟩ : TI) = some i → TIOk Go.Proofs.Tryz.prog 54 i := by
  intro i h; cases h
  exact TIOk.of Go.Proofs.Tryz.underlying54 (by first | rfl | trivial) (by kernel_rfl) rfl (fun h => by cases h)
theorem tok_55 : ∀ i : TI, some (⟨(.struct [(0, 53)]), (.cons (.slice (.cons (.int .i64) (.cons (.int .i64) (.cons .str .nil)))) .nil), 1, 24, false⟩ : TI) = some i → TIOk Go.Proofs.Tryz.prog 55 i := by
  intro i h; cases h
  exact TIOk.of Go.Proofs.Tryz.underlying55 (by first | rfl | trivial) (by kernel_rfl) rfl (fun h => by cases h)
theorem tok_56 : ∀ i : TI, some (⟨(.struct [(0, 3), (1, 55), (2, 55)]), (.cons (.int .i64) (.cons (.cons (.slice (.cons (.int .i64) (.cons (.int .i64) (.cons .str .nil)))) .nil) (.cons (.cons (.slice (.cons (.int .i64) (.cons (.int .i64) (.cons .str .nil)))) .nil) .nil))), 3, 56, false⟩ : TI) = some i → TIOk Go.Proofs.Tryz.prog 56 i := by
  intro i h; cases h
  exact TIOk.of Go.Proofs.Tryz.underlying56 (by first | rfl | trivial) (by kernel_rfl) rfl (fun h => by cases h)
theorem tok_57 : ∀ i : TI, some (⟨(.struct [(0, 3), (1, 55), (2, 55)]), (.cons (.int .i64) (.cons (.cons (.slice (.cons (.int .i64) (.cons (.int .i64) (.cons .str .nil)))) .nil) (.cons (.cons (.slice (.cons (.int .i64) (.cons (.int .i64) (.cons .str .nil)))) .nil) .nil))), 3, 56, false⟩ : TI) = some i → TIOk Go.Proofs.Tryz.prog 57 i := by
  intro i h; cases h
  exact TIOk.of Go.Proofs.Tryz.underlying57 (by first | rfl | trivial) (by kernel_rfl) rfl (fun h => by cases h)
theorem tok_58 : ∀ i : TI, some (⟨(.struct [(0, 9), (1, 24), (2, 55)]), (.cons .str (.cons (.slice .str) (.cons (.cons (.slice (.cons (.int .i64) (.cons (.int .i64) (.cons .str .nil)))) .nil) .nil))), 3, 64, false⟩ : TI) = some i → TIOk Go.Proofs.Tryz.prog 58 i := by
  intro i h; cases h
  exact TIOk.of Go.Proofs.Tryz.underlying58 (by first | rfl | trivial) (by kernel_rfl) rfl (fun h => by cases h)
theorem tok_59 : ∀ i : TI, some (⟨(.struct [(0, 9), (1, 24), (2, 55)]), (.cons .str (.cons (.slice .str) (.cons (.cons (.slice (.cons (.int .i64) (.cons (.int .i64) (.cons .str .nil)))) .nil) .nil))), 3, 64, false⟩ : TI) = some i → TIOk Go.Proofs.Tryz.prog 59 i := by
  intro i h; cases h
  exact TIOk.of Go.Proofs.Tryz.underlying59 (by first | rfl | trivial) (by kernel_rfl) rfl (fun h => by cases h)
theorem tok_71 : ∀ i : TI, some (⟨(.slice 53), (.slice (.slice (.cons (.int .i64) (.cons (.int .i64) (.cons .str .nil))))), 1, 24, false⟩ : TI) = some i → TIOk Go.Proofs.Tryz.prog 71 i := by
  intro i h; cases h
  exact TIOk.of Go.Proofs.Tryz.underlying71 (by first | rfl | trivial) (by kernel_rfl) rfl (fun h => by cases h)
theorem tok_72 : ∀ i : TI, some (⟨(.struct [(0, 3), (1, 3), (2, 9)]), (.cons (.int .i64) (.cons (.int .i64) (.cons .str .nil))), 3, 32, true⟩ : TI) = some i → TIOk Go.Proofs.Tryz.prog 72 i := by
  intro i h; cases h
  exact TIOk.of Go.Proofs.Tryz.underlying72 rfl (by kernel_rfl) rfl (fun _ => eqOk_flat Go.Proofs.Tryz.underlying72 (by kernel_rfl) (by kernel_rfl) ⟨rfl, by decide, ⟨_, Go.Proofs.Tryz.underlying3⟩, ⟨rfl, by decide, ⟨_, Go.Proofs.Tryz.underlying3⟩, ⟨rfl, by decide, Go.Proofs.Tryz.underlying9, trivial⟩⟩⟩)
theorem tok_73 : ∀ i : TI, some (⟨(.struct [(0, 3), (1, 3), (2, 9)]), (.cons (.int .i64) (.cons (.int .i64) (.cons .str .nil))), 3, 32, true⟩ : TI) = some i → TIOk Go.Proofs.Tryz.prog 73 i := by
  intro i h; cases h
  exact TIOk.of Go.Proofs.Tryz.underlying73 rfl (by kernel_rfl) rfl (fun _ => eqOk_flat Go.Proofs.Tryz.underlying73 (by kernel_rfl) (by kernel_rfl) ⟨rfl, by decide, ⟨_, Go.Proofs.Tryz.underlying3⟩, ⟨rfl, by decide, ⟨_, Go.Proofs.Tryz.underlying3⟩, ⟨rfl, by decide, Go.Proofs.Tryz.underlying9, trivial⟩⟩⟩)
theorem tok_104 : ∀ i : TI, some (⟨(.struct [(0, 22), (1, 3)]), (.cons (.slice (.int .u8)) (.cons (.int .i64) .nil)), 2, 32, false⟩ : TI) = some i → TIOk Go.Proofs.Tryz.prog 104 i := by
  intro i h; cases h
  exact TIOk.of Go.Proofs.Tryz.underlying104 (by first | rfl | trivial) (by kernel_rfl) rfl (fun h => by cases h)
theorem tok_105 : ∀ i : TI, some (⟨(.struct [(0, 22), (1, 3)]), (.cons (.slice (.int .u8)) (.cons (.int .i64) .nil)), 2, 32, false⟩ : TI) = some i → TIOk Go.Proofs.Tryz.prog 105 i := by
  intro i h; cases h
  exact TIOk.of Go.Proofs.Tryz.underlying105 (by first | rfl | trivial) (by kernel_rfl) rfl (fun h => by cases h)
theorem tok_111 : ∀ i : TI, some (⟨(.slice 113), (.slice (.slice .bool)), 1, 24, false⟩ : TI) = some i → TIOk Go.Proofs.Tryz.prog 111 i := by
  intro i h; cases h
  exact TIOk.of Go.Proofs.Tryz.underlying111 (by first | rfl | trivial) (by kernel_rfl) rfl (fun h => by cases h)
theorem tok_113 : ∀ i : TI, some (⟨(.slice 4), (.slice .bool), 1, 24, false⟩ : TI) = some i → TIOk Go.Proofs.Tryz.prog 113 i := by
  intro i h; cases h
  exact TIOk.of Go.Proofs.Tryz.underlying113 (by first | rfl | trivial) (by kernel_rfl) rfl (fun h => by cases h)
theorem tok_122 : ∀ i : TI, some (⟨(.slice 24), (.slice (.slice .str)), 1, 24, false⟩ : TI) = some i → TIOk Go.Proofs.Tryz.prog 122 i := by
  intro i h; cases h
  exact TIOk.of Go.Proofs.Tryz.underlying122 (by first | rfl | trivial) (by kernel_rfl) rfl (fun h => by cases h)
theorem tok_125 : ∀ i : TI, some (⟨(.slice 181), (.slice (.cons (.int .i64) (.cons (.int .i64) (.cons .str .nil)))), 1, 24, false⟩ : TI) = some i → TIOk Go.Proofs.Tryz.prog 125 i := by
  intro i h; cases h
  exact TIOk.of Go.Proofs.Tryz.underlying125 (by first | rfl | trivial) (by kernel_rfl) rfl (fun h => by cases h)
theorem tok_126 : ∀ i : TI, some (⟨(.struct [(0, 125)]), (.cons (.slice (.cons (.int .i64) (.cons (.int .i64) (.cons .str .nil)))) .nil), 1, 24, false⟩ : TI) = some i → TIOk Go.Proofs.Tryz.prog 126 i := by
  intro i h; cases h
  exact TIOk.of Go.Proofs.Tryz.underlying126 (by first | rfl | trivial) (by kernel_rfl) rfl (fun h => by cases h)
theorem tok_127 : ∀ i : TI, some (⟨(.struct [(0, 125)]), (.cons (.slice (.cons (.int .i64) (.cons (.int .i64) (.cons .str .nil)))) .nil), 1, 24, false⟩ : TI) = some i → TIOk Go.Proofs.Tryz.prog 127 i := by
  intro i h; cases h
  exact TIOk.of Go.Proofs.Tryz.underlying127 (by first | rfl | trivial) (by kernel_rfl) rfl (fun h => by cases h)
theorem tok_128 : ∀ i : TI, some (⟨(.struct [(0, 9), (1, 24), (2, 127)]), (.cons .str (.cons (.slice .str) (.cons (.cons (.slice (.cons (.int .i64) (.cons (.int .i64) (.cons .str .nil)))) .nil) .nil))), 3, 64, false⟩ : TI) = some i → TIOk Go.Proofs.Tryz.prog 128 i := by
  intro i h; cases h
  exact TIOk.of Go.Proofs.Tryz.underlying128 (by first | rfl | trivial) (by kernel_rfl) rfl (fun h => by cases h)
theorem tok_129 : ∀ i : TI, some (⟨(.struct [(0, 9), (1, 24), (2, 127)]), (.cons .str (.cons (.slice .str) (.cons (.cons (.slice (.cons (.int .i64) (.cons (.int .i64) (.cons .str .nil)))) .nil) .nil))), 3, 64, false⟩ : TI) = some i → TIOk Go.Proofs.Tryz.prog 129 i := by
  intro i h; cases h
  exact TIOk.of Go.Proofs.Tryz.underlying129 (by first | rfl | trivial) (by kernel_rfl) rfl (fun h => by cases h)
theorem tok_131 : ∀ i : TI, some (⟨(.struct [(0, 3), (1, 127), (2, 127)]), (.cons (.int .i64) (.cons (.cons (.slice (.cons (.int .i64) (.cons (.int .i64) (.cons .str .nil)))) .nil) (.cons (.cons (.slice (.cons (.int .i64) (.cons (.int .i64) (.cons .str .nil)))) .nil) .nil))), 3, 56, false⟩ : TI) = some i → TIOk Go.Proofs.Tryz.prog 131 i := by
  intro i h; cases h
  exact TIOk.of Go.Proofs.Tryz.underlying131 (by first | rfl | trivial) (by kernel_rfl) rfl (fun h => by cases h)
theorem tok_132 : ∀ i : TI, some (⟨(.struct [(0, 3), (1, 127), (2, 127)]), (.cons (.int .i64) (.cons (.cons (.slice (.cons (.int .i64) (.cons (.int .i64) (.cons .str .nil)))) .nil) (.cons (.cons (.slice (.cons (.int .i64) (.cons (.int .i64) (.cons .str .nil)))) .nil) .nil))), 3, 56, false⟩ : TI) = some i → TIOk Go.Proofs.Tryz.prog 132 i := by
  intro i h; cases h
  exact TIOk.of Go.Proofs.Tryz.underlying132 (by first | rfl | trivial) (by kernel_rfl) rfl (fun h => by cases h)
theorem tok_145 : ∀ i : TI, some (⟨(.slice 3), (.slice (.int .i64)), 1, 24, false⟩ : TI) = some i → TIOk Go.Proofs.Tryz.prog 145 i := by
  intro i h; cases h
  exact TIOk.of Go.Proofs.Tryz.underlying145 (by first | rfl | trivial) (by kernel_rfl) rfl (fun h => by cases h)
theorem tok_179 : ∀ i : TI, some (⟨(.int .u64), (.int .u64), 1, 8, false⟩ : TI) = some i → TIOk Go.Proofs.Tryz.prog 179 i := by
  intro i h; cases h
  exact TIOk.of Go.Proofs.Tryz.underlying179 (by first | rfl | trivial) (by kernel_rfl) rfl (fun h => by cases h)
theorem tok_181 : ∀ i : TI, some (⟨(.struct [(0, 3), (1, 3), (2, 9)]), (.cons (.int .i64) (.cons (.int .i64) (.cons .str .nil))), 3, 32, true⟩ : TI) = some i → TIOk Go.Proofs.Tryz.prog 181 i := by
  intro i h; cases h
  exact TIOk.of Go.Proofs.Tryz.underlying181 rfl (by kernel_rfl) rfl (fun _ => eqOk_flat Go.Proofs.Tryz.underlying181 (by kernel_rfl) (by kernel_rfl) ⟨rfl, by decide, ⟨_, Go.Proofs.Tryz.underlying3⟩, ⟨rfl, by decide, ⟨_, Go.Proofs.Tryz.underlying3⟩, ⟨rfl, by decide, Go.Proofs.Tryz.underlying9, trivial⟩⟩⟩)
theorem tok_197 : ∀ i : TI, some (⟨(.int .u32), (.int .u32), 1, 4, false⟩ : TI) = some i → TIOk Go.Proofs.Tryz.prog 197 i := by
  intro i h; cases h
  exact TIOk.of Go.Proofs.Tryz.underlying197 (by first | rfl | trivial) (by kernel_rfl) rfl (fun h => by cases h)
theorem tok_199 : ∀ i : TI, some (⟨(.int .u64), (.int .u64), 1, 8, false⟩ : TI) = some i → TIOk Go.Proofs.Tryz.prog 199 i := by
  intro i h; cases h
  exact TIOk.of Go.Proofs.Tryz.underlying199 (by first | rfl | trivial) (by kernel_rfl) rfl (fun h => by cases h)
theorem tok_205 : ∀ i : TI, some (⟨.err, .err, 1, 16, false⟩ : TI) = some i → TIOk Go.Proofs.Tryz.prog 205 i := by
  intro i h; cases h
  exact TIOk.of Go.Proofs.Tryz.underlying205 (by first | rfl | trivial) (by kernel_rfl) rfl (fun h => by cases h)
theorem tok_208 : ∀ i : TI, some (⟨(.int .u64), (.int .u64), 1, 8, false⟩ : TI) = some i → TIOk Go.Proofs.Tryz.prog 208 i := by
  intro i h; cases h
  exact TIOk.of Go.Proofs.Tryz.underlying208 (by first | rfl | trivial) (by kernel_rfl) rfl (fun h => by cases h)
theorem tok_254 : ∀ i : TI, some (⟨(.int .u8), (.int .u8), 1, 1, false⟩ : TI) = some i → TIOk Go.Proofs.Tryz.prog 254 i := by
  intro i h; cases h
  exact TIOk.of Go.Proofs.Tryz.underlying254 (by first | rfl | trivial) (by kernel_rfl) rfl (fun h => by cases h)
theorem tok_255 : ∀ i : TI, some (⟨(.int .u8), (.int .u8), 1, 1, false⟩ : TI) = some i → TIOk Go.Proofs.Tryz.prog 255 i := by
  intro i h; cases h
  exact TIOk.of Go.Proofs.Tryz.underlying255 (by first | rfl | trivial) (by kernel_rfl) rfl (fun h => by cases h)
theorem tok_257 : ∀ i : TI, some (⟨(.int .i32), (.int .i32), 1, 4, false⟩ : TI) = some i → TIOk Go.Proofs.Tryz.prog 257 i := by
  intro i h; cases h
  exact TIOk.of Go.Proofs.Tryz.underlying257 (by first | rfl | trivial) (by kernel_rfl) rfl (fun h => by cases h)
theorem tok_258 : ∀ i : TI, some (⟨(.int .i32), (.int .i32), 1, 4, false⟩ : TI) = some i → TIOk Go.Proofs.Tryz.prog 258 i := by
  intro i h; cases h
  exact TIOk.of Go.Proofs.Tryz.underlying258 (by first | rfl | trivial) (by kernel_rfl) rfl (fun h => by cases h)
theorem allT : AllT Go.Proofs.Tryz.prog T := ⟨tok_2, tok_3, tok_4, tok_5, tok_6, tok_7, tok_8, tok_9, tok_10, tok_11, tok_12, tok_13, tok_14, tok_21, tok_22, tok_23, tok_24, tok_25, tok_26, tok_27, tok_39, tok_40, tok_41, tok_42, tok_53, tok_54, tok_55, tok_56, tok_57, tok_58, tok_59, tok_71, tok_72, tok_73, tok_104, tok_105, tok_111, tok_113, tok_122, tok_125, tok_126, tok_127, tok_128, tok_129, tok_131, tok_132, tok_145, tok_179, tok_181, tok_197, tok_199, tok_205, tok_208, tok_254, tok_255, tok_257, tok_258, trivial⟩
theorem seat_T : TOk Go.Proofs.Tryz.prog T := fun t i h => allT.mem t i (look_mem h)
theorem tok777_23 : ∀ i : TI, some (⟨(.slice 59), (.hdr 59 (.cons .str (.cons (.hdr 9 .str) (.cons (.cons (.hdr 73 (.cons (.int .i64) (.cons (.int .i64) (.cons .str .nil)))) .nil) .nil)))), 1, 24, false⟩ : TI) = some i → TIOk Go.Proofs.Tryz.prog 23 i := by
  intro i h; cases h
  exact TIOk.of Go.Proofs.Tryz.underlying23 (by first | rfl | trivial) (by kernel_rfl) rfl (fun h => by cases h)
theorem tok777_24 : ∀ i : TI, some (⟨(.slice 9), (.hdr 9 .str), 1, 24, false⟩ : TI) = some i → TIOk Go.Proofs.Tryz.prog 24 i := by
  intro i h; cases h
  exact TIOk.of Go.Proofs.Tryz.underlying24 (by first | rfl | trivial) (by kernel_rfl) rfl (fun h => by cases h)
theorem tok777_25 : ∀ i : TI, some (⟨(.slice 57), (.hdr 57 (.cons (.int .i64) (.cons (.cons (.hdr 73 (.cons (.int .i64) (.cons (.int .i64) (.cons .str .nil)))) .nil) (.cons (.cons (.hdr 73 (.cons (.int .i64) (.cons (.int .i64) (.cons .str .nil)))) .nil) .nil)))), 1, 24, false⟩ : TI) = some i → TIOk Go.Proofs.Tryz.prog 25 i := by
  intro i h; cases h
  exact TIOk.of Go.Proofs.Tryz.underlying25 (by first | rfl | trivial) (by kernel_rfl) rfl (fun h => by cases h)
theorem tok777_26 : ∀ i : TI, some (⟨(.struct [(0, 23), (1, 24), (2, 25)]), (.cons (.hdr 59 (.cons .str (.cons (.hdr 9 .str) (.cons (.cons (.hdr 73 (.cons (.int .i64) (.cons (.int .i64) (.cons .str .nil)))) .nil) .nil)))) (.cons (.hdr 9 .str) (.cons (.hdr 57 (.cons (.int .i64) (.cons (.cons (.hdr 73 (.cons (.int .i64) (.cons (.int .i64) (.cons .str .nil)))) .nil) (.cons (.cons (.hdr 73 (.cons (.int .i64) (.cons (.int .i64) (.cons .str .nil)))) .nil) .nil)))) .nil))), 3, 72, false⟩ : TI) = some i → TIOk Go.Proofs.Tryz.prog 26 i := by
  intro i h; cases h
  exact TIOk.of Go.Proofs.Tryz.underlying26 (by first | rfl | trivial) (by kernel_rfl) rfl (fun h => by cases h)
theorem tok777_27 : ∀ i : TI, some (⟨(.struct [(0, 23), (1, 24), (2, 25)]), (.cons (.hdr 59 (.cons .str (.cons (.hdr 9 .str) (.cons (.cons (.hdr 73 (.cons (.int .i64) (.cons (.int .i64) (.cons .str .nil)))) .nil) .nil)))) (.cons (.hdr 9 .str) (.cons (.hdr 57 (.cons (.int .i64) (.cons (.cons (.hdr 73 (.cons (.int .i64) (.cons (.int .i64) (.cons .str .nil)))) .nil) (.cons (.cons (.hdr 73 (.cons (.int .i64) (.cons (.int .i64) (.cons .str .nil)))) .nil) .nil)))) .nil))), 3, 72, false⟩ : TI) = some i → TIOk Go.Proofs.Tryz.prog 27 i := by
  intro i h; cases h
  exact TIOk.of Go.Proofs.Tryz.underlying27 (by first | rfl | trivial) (by kernel_rfl) rfl (fun h => by cases h)
theorem tok777_41 : ∀ i : TI, some (⟨(.struct [(0, 39), (1, 24), (2, 40)]), (.cons (.slice (.cons .str (.cons (.slice .str) (.cons (.cons (.slice (.cons (.int .i64) (.cons (.int .i64) (.cons .str .nil)))) .nil) .nil)))) (.cons (.hdr 9 .str) (.cons (.slice (.cons (.int .i64) (.cons (.cons (.slice (.cons (.int .i64) (.cons (.int .i64) (.cons .str .nil)))) .nil) (.cons (.cons (.slice (.cons (.int .i64) (.cons (.int .i64) (.cons .str .nil)))) .nil) .nil)))) .nil))), 3, 72, false⟩ : TI) = some i → TIOk Go.Proofs.Tryz.prog 41 i := by
  intro i h; cases h
  exact TIOk.of Go.Proofs.Tryz.underlying41 (by first | rfl | trivial) (by kernel_rfl) rfl (fun h => by cases h)
theorem tok777_53 : ∀ i : TI, some (⟨(.slice 73), (.hdr 73 (.cons (.int .i64) (.cons (.int .i64) (.cons .str .nil)))), 1, 24, false⟩ : TI) = some i → TIOk Go.Proofs.Tryz.prog 53 i := by
  intro i h; cases h
  exact TIOk.of Go.Proofs.Tryz.underlying53 (by first | rfl | trivial) (by kernel_rfl) rfl (fun h => by cases h)
theorem tok777_54 : ∀ i : TI, some (⟨(.struct [(0, 53)]), (.cons (.hdr 73 (.cons (.int .i64) (.cons (.int .i64) (.cons .str .nil)))) .nil), 1, 24, false⟩ : TI) = some i → TIOk Go.Proofs.Tryz.prog 54 i := by
  intro i h; cases h
  exact TIOk.of Go.Proofs.Tryz.underlying54 (by first | rfl | trivial) (by kernel_rfl) rfl (fun h => by cases h)
theorem tok777_55 : ∀ i : TI, some (⟨(.struct [(0, 53)]), (.cons (.hdr 73 (.cons (.int .i64) (.cons (.int .i64) (.cons .str .nil)))) .nil), 1, 24, false⟩ : TI) = some i → TIOk Go.Proofs.Tryz.prog 55 i := by
  intro i h; cases h
  exact TIOk.of Go.Proofs.Tryz.underlying55 (by first | rfl | trivial) (by kernel_rfl) rfl (fun h => by cases h)
theorem tok777_56 : ∀ i : TI, some (⟨(.struct [(0, 3), (1, 55), (2, 55)]), (.cons (.int .i64) (.cons (.cons (.hdr 73 (.cons (.int .i64) (.cons (.int .i64) (.cons .str .nil)))) .nil) (.cons (.cons (.hdr 73 (.cons (.int .i64) (.cons (.int .i64) (.cons .str .nil)))) .nil) .nil))), 3, 56, false⟩ : TI) = some i → TIOk Go.Proofs.Tryz.prog 56 i := by
  intro i h; cases h
  exact TIOk.of Go.Proofs.Tryz.underlying56 (by first | rfl | trivial) (by kernel_rfl) rfl (fun h => by cases h)
theorem tok777_57 : ∀ i : TI, some (⟨(.struct [(0, 3), (1, 55), (2, 55)]), (.cons (.int .i64) (.cons (.cons (.hdr 73 (.cons (.int .i64) (.cons (.int .i64) (.cons .str .nil)))) .nil) (.cons (.cons (.hdr 73 (.cons (.int .i64) (.cons (.int .i64) (.cons .str .nil)))) .nil) .nil))), 3, 56, false⟩ : TI) = some i → TIOk Go.Proofs.Tryz.prog 57 i := by
  intro i h; cases h
  exact TIOk.of Go.Proofs.Tryz.underlying57 (by first | rfl | trivial) (by kernel_rfl) rfl (fun h => by cases h)
theorem tok777_58 : ∀ i : TI, some (⟨(.struct [(0, 9), (1, 24), (2, 55)]), (.cons .str (.cons (.hdr 9 .str) (.cons (.cons (.hdr 73 (.cons (.int .i64) (.cons (.int .i64) (.cons .str .nil)))) .nil) .nil))), 3, 64, false⟩ : TI) = some i → TIOk Go.Proofs.Tryz.prog 58 i := by
  intro i h; cases h
  exact TIOk.of Go.Proofs.Tryz.underlying58 (by first | rfl | trivial) (by kernel_rfl) rfl (fun h => by cases h)
theorem tok777_59 : ∀ i : TI, some (⟨(.struct [(0, 9), (1, 24), (2, 55)]), (.cons .str (.cons (.hdr 9 .str) (.cons (.cons (.hdr 73 (.cons (.int .i64) (.cons (.int .i64) (.cons .str .nil)))) .nil) .nil))), 3, 64, false⟩ : TI) = some i → TIOk Go.Proofs.Tryz.prog 59 i := by
  intro i h; cases h
  exact TIOk.of Go.Proofs.Tryz.underlying59 (by first | rfl | trivial) (by kernel_rfl) rfl (fun h => by cases h)
theorem tok777_71 : ∀ i : TI, some (⟨(.slice 53), (.slice (.hdr 73 (.cons (.int .i64) (.cons (.int .i64) (.cons .str .nil))))), 1, 24, false⟩ : TI) = some i → TIOk Go.Proofs.Tryz.prog 71 i := by
  intro i h; cases h
  exact TIOk.of Go.Proofs.Tryz.underlying71 (by first | rfl | trivial) (by kernel_rfl) rfl (fun h => by cases h)
theorem tok777_122 : ∀ i : TI, some (⟨(.slice 24), (.slice (.hdr 9 .str)), 1, 24, false⟩ : TI) = some i → TIOk Go.Proofs.Tryz.prog 122 i := by
  intro i h; cases h
  exact TIOk.of Go.Proofs.Tryz.underlying122 (by first | rfl | trivial) (by kernel_rfl) rfl (fun h => by cases h)
theorem tok777_128 : ∀ i : TI, some (⟨(.struct [(0, 9), (1, 24), (2, 127)]), (.cons .str (.cons (.hdr 9 .str) (.cons (.cons (.slice (.cons (.int .i64) (.cons (.int .i64) (.cons .str .nil)))) .nil) .nil))), 3, 64, false⟩ : TI) = some i → TIOk Go.Proofs.Tryz.prog 128 i := by
  intro i h; cases h
  exact TIOk.of Go.Proofs.Tryz.underlying128 (by first | rfl | trivial) (by kernel_rfl) rfl (fun h => by cases h)
theorem tok777_147 : ∀ i : TI, some (⟨(.slice 150), (.slice (.cons .str (.cons (.int .i64) .nil))), 1, 24, false⟩ : TI) = some i → TIOk Go.Proofs.Tryz.prog 147 i := by
  intro i h; cases h
  exact TIOk.of Go.Proofs.Tryz.underlying147 (by first | rfl | trivial) (by kernel_rfl) rfl (fun h => by cases h)
theorem tok777_149 : ∀ i : TI, some (⟨(.struct [(0, 9), (1, 3)]), (.cons .str (.cons (.int .i64) .nil)), 2, 24, true⟩ : TI) = some i → TIOk Go.Proofs.Tryz.prog 149 i := by
  intro i h; cases h
  exact TIOk.of Go.Proofs.Tryz.underlying149 rfl (by kernel_rfl) rfl (fun _ => eqOk_flat Go.Proofs.Tryz.underlying149 (by kernel_rfl) (by kernel_rfl) ⟨rfl, by decide, Go.Proofs.Tryz.underlying9, ⟨rfl, by decide, ⟨_, Go.Proofs.Tryz.underlying3⟩, trivial⟩⟩)
theorem tok777_150 : ∀ i : TI, some (⟨(.struct [(0, 9), (1, 3)]), (.cons .str (.cons (.int .i64) .nil)), 2, 24, true⟩ : TI) = some i → TIOk Go.Proofs.Tryz.prog 150 i := by
  intro i h; cases h
  exact TIOk.of Go.Proofs.Tryz.underlying150 rfl (by kernel_rfl) rfl (fun _ => eqOk_flat Go.Proofs.Tryz.underlying150 (by kernel_rfl) (by kernel_rfl) ⟨rfl, by decide, Go.Proofs.Tryz.underlying9, ⟨rfl, by decide, ⟨_, Go.Proofs.Tryz.underlying3⟩, trivial⟩⟩)
theorem allT777 : AllT Go.Proofs.Tryz.prog T777 := ⟨tok_2, tok_3, tok_4, tok_5, tok_6, tok_7, tok_8, tok_9, tok_10, tok_11, tok_12, tok_13, tok_14, tok_21, tok_22, tok777_23, tok777_24, tok777_25, tok777_26, tok777_27, tok_39, tok_40, tok777_41, tok_42, tok777_53, tok777_54, tok777_55, tok777_56, tok777_57, tok777_58, tok777_59, tok777_71, tok_72, tok_73, tok_104, tok_105, tok_111, tok_113, tok777_122, tok_125, tok_126, tok_127, tok777_128, tok_129, tok_131, tok_132, tok777_147, tok777_149, tok777_150, tok_181, tok_197, tok_254, tok_255, tok_257, tok_258, trivial⟩
theorem seat_T777 : TOk Go.Proofs.Tryz.prog T777 := fun t i h => allT777.mem t i (look_mem h)
theorem tok778_111 : ∀ i : TI, some (⟨(.slice 113), (.slice (.hdr 4 .bool)), 1, 24, false⟩ : TI) = some i → TIOk Go.Proofs.Tryz.prog 111 i := by
  intro i h; cases h
  exact TIOk.of Go.Proofs.Tryz.underlying111 (by first | rfl | trivial) (by kernel_rfl) rfl (fun h => by cases h)
theorem tok778_113 : ∀ i : TI, some (⟨(.slice 4), (.hdr 4 .bool), 1, 24, false⟩ : TI) = some i → TIOk Go.Proofs.Tryz.prog 113 i := by
  intro i h; cases h
  exact TIOk.of Go.Proofs.Tryz.underlying113 (by first | rfl | trivial) (by kernel_rfl) rfl (fun h => by cases h)
theorem allT778 : AllT Go.Proofs.Tryz.prog T778 := ⟨tok_2, tok_3, tok_4, tok_5, tok_6, tok_7, tok_8, tok_9, tok_10, tok_11, tok_12, tok_13, tok_14, tok_21, tok_22, tok_23, tok_24, tok_25, tok_26, tok_27, tok_39, tok_40, tok_41, tok_42, tok_53, tok_54, tok_55, tok_56, tok_57, tok_58, tok_59, tok_71, tok_72, tok_73, tok_104, tok_105, tok778_111, tok778_113, tok_125, tok_126, tok_127, tok_128, tok_129, tok_131, tok_132, tok_181, tok_197, tok_254, tok_255, tok_257, tok_258, trivial⟩
theorem seat_T778 : TOk Go.Proofs.Tryz.prog T778 := fun t i h => allT778.mem t i (look_mem h)
theorem tok779_23 : ∀ i : TI, some (⟨(.slice 59), (.slice (.cons .str (.cons (.hdr 9 .str) (.cons (.cons (.slice (.cons (.int .i64) (.cons (.int .i64) (.cons .str .nil)))) .nil) .nil)))), 1, 24, false⟩ : TI) = some i → TIOk Go.Proofs.Tryz.prog 23 i := by
  intro i h; cases h
  exact TIOk.of Go.Proofs.Tryz.underlying23 (by first | rfl | trivial) (by kernel_rfl) rfl (fun h => by cases h)
theorem tok779_24 : ∀ i : TI, some (⟨(.slice 9), (.hdr 9 .str), 1, 24, false⟩ : TI) = some i → TIOk Go.Proofs.Tryz.prog 24 i := by
  intro i h; cases h
  exact TIOk.of Go.Proofs.Tryz.underlying24 (by first | rfl | trivial) (by kernel_rfl) rfl (fun h => by cases h)
theorem tok779_26 : ∀ i : TI, some (⟨(.struct [(0, 23), (1, 24), (2, 25)]), (.cons (.slice (.cons .str (.cons (.hdr 9 .str) (.cons (.cons (.slice (.cons (.int .i64) (.cons (.int .i64) (.cons .str .nil)))) .nil) .nil)))) (.cons (.hdr 9 .str) (.cons (.slice (.cons (.int .i64) (.cons (.cons (.slice (.cons (.int .i64) (.cons (.int .i64) (.cons .str .nil)))) .nil) (.cons (.cons (.slice (.cons (.int .i64) (.cons (.int .i64) (.cons .str .nil)))) .nil) .nil)))) .nil))), 3, 72, false⟩ : TI) = some i → TIOk Go.Proofs.Tryz.prog 26 i := by
  intro i h; cases h
  exact TIOk.of Go.Proofs.Tryz.underlying26 (by first | rfl | trivial) (by kernel_rfl) rfl (fun h => by cases h)
theorem tok779_27 : ∀ i : TI, some (⟨(.struct [(0, 23), (1, 24), (2, 25)]), (.cons (.slice (.cons .str (.cons (.hdr 9 .str) (.cons (.cons (.slice (.cons (.int .i64) (.cons (.int .i64) (.cons .str .nil)))) .nil) .nil)))) (.cons (.hdr 9 .str) (.cons (.slice (.cons (.int .i64) (.cons (.cons (.slice (.cons (.int .i64) (.cons (.int .i64) (.cons .str .nil)))) .nil) (.cons (.cons (.slice (.cons (.int .i64) (.cons (.int .i64) (.cons .str .nil)))) .nil) .nil)))) .nil))), 3, 72, false⟩ : TI) = some i → TIOk Go.Proofs.Tryz.prog 27 i := by
  intro i h; cases h
  exact TIOk.of Go.Proofs.Tryz.underlying27 (by first | rfl | trivial) (by kernel_rfl) rfl (fun h => by cases h)
theorem tok779_41 : ∀ i : TI, some (⟨(.struct [(0, 39), (1, 24), (2, 40)]), (.cons (.slice (.cons .str (.cons (.slice .str) (.cons (.cons (.slice (.cons (.int .i64) (.cons (.int .i64) (.cons .str .nil)))) .nil) .nil)))) (.cons (.hdr 9 .str) (.cons (.slice (.cons (.int .i64) (.cons (.cons (.slice (.cons (.int .i64) (.cons (.int .i64) (.cons .str .nil)))) .nil) (.cons (.cons (.slice (.cons (.int .i64) (.cons (.int .i64) (.cons .str .nil)))) .nil) .nil)))) .nil))), 3, 72, false⟩ : TI) = some i → TIOk Go.Proofs.Tryz.prog 41 i := by
  intro i h; cases h
  exact TIOk.of Go.Proofs.Tryz.underlying41 (by first | rfl | trivial) (by kernel_rfl) rfl (fun h => by cases h)
theorem tok779_58 : ∀ i : TI, some (⟨(.struct [(0, 9), (1, 24), (2, 55)]), (.cons .str (.cons (.hdr 9 .str) (.cons (.cons (.slice (.cons (.int .i64) (.cons (.int .i64) (.cons .str .nil)))) .nil) .nil))), 3, 64, false⟩ : TI) = some i → TIOk Go.Proofs.Tryz.prog 58 i := by
  intro i h; cases h
  exact TIOk.of Go.Proofs.Tryz.underlying58 (by first | rfl | trivial) (by kernel_rfl) rfl (fun h => by cases h)
theorem tok779_59 : ∀ i : TI, some (⟨(.struct [(0, 9), (1, 24), (2, 55)]), (.cons .str (.cons (.hdr 9 .str) (.cons (.cons (.slice (.cons (.int .i64) (.cons (.int .i64) (.cons .str .nil)))) .nil) .nil))), 3, 64, false⟩ : TI) = some i → TIOk Go.Proofs.Tryz.prog 59 i := by
  intro i h; cases h
  exact TIOk.of Go.Proofs.Tryz.underlying59 (by first | rfl | trivial) (by kernel_rfl) rfl (fun h => by cases h)
theorem tok779_128 : ∀ i : TI, some (⟨(.struct [(0, 9), (1, 24), (2, 127)]), (.cons .str (.cons (.hdr 9 .str) (.cons (.cons (.slice (.cons (.int .i64) (.cons (.int .i64) (.cons .str .nil)))) .nil) .nil))), 3, 64, false⟩ : TI) = some i → TIOk Go.Proofs.Tryz.prog 128 i := by
  intro i h; cases h
  exact TIOk.of Go.Proofs.Tryz.underlying128 (by first | rfl | trivial) (by kernel_rfl) rfl (fun h => by cases h)
theorem tok779_161 : ∀ i : TI, some (⟨(.slice 55), (.slice (.cons (.slice (.cons (.int .i64) (.cons (.int .i64) (.cons .str .nil)))) .nil)), 1, 24, false⟩ : TI) = some i → TIOk Go.Proofs.Tryz.prog 161 i := by
  intro i h; cases h
  exact TIOk.of Go.Proofs.Tryz.underlying161 (by first | rfl | trivial) (by kernel_rfl) rfl (fun h => by cases h)
theorem allT779 : AllT Go.Proofs.Tryz.prog T779 := ⟨tok_2, tok_3, tok_4, tok_5, tok_6, tok_7, tok_8, tok_9, tok_10, tok_11, tok_12, tok_13, tok_14, tok_21, tok_22, tok779_23, tok779_24, tok_25, tok779_26, tok779_27, tok_39, tok_40, tok779_41, tok_42, tok_53, tok_54, tok_55, tok_56, tok_57, tok779_58, tok779_59, tok_72, tok_73, tok_125, tok_126, tok_127, tok779_128, tok_129, tok_131, tok_132, tok779_161, tok_179, tok_181, tok_197, tok_254, tok_255, tok_257, tok_258, trivial⟩
theorem seat_T779 : TOk Go.Proofs.Tryz.prog T779 := fun t i h => allT779.mem t i (look_mem h)
theorem fok_4 : ∀ fn : Func, some Go.Proofs.Tryz.f4 = some fn → FOk Go.Proofs.Tryz.prog 4 fn := by
  intro fn h; cases h; exact ⟨Go.Proofs.Tryz.func4, by kernel_rfl, by kernel_rfl⟩
theorem fok_13 : ∀ fn : Func, some Go.Proofs.Tryz.f13 = some fn → FOk Go.Proofs.Tryz.prog 13 fn := by
  intro fn h; cases h; exact ⟨Go.Proofs.Tryz.func13, by kernel_rfl, by kernel_rfl⟩
theorem fok_16 : ∀ fn : Func, some Go.Proofs.Tryz.f16 = some fn → FOk Go.Proofs.Tryz.prog 16 fn := by
  intro fn h; cases h; exact ⟨Go.Proofs.Tryz.func16, by kernel_rfl, by kernel_rfl⟩
theorem fok_17 : ∀ fn : Func, some Go.Proofs.Tryz.f17 = some fn → FOk Go.Proofs.Tryz.prog 17 fn := by
  intro fn h; cases h; exact ⟨Go.Proofs.Tryz.func17, by kernel_rfl, by kernel_rfl⟩
theorem fok_18 : ∀ fn : Func, some Go.Proofs.Tryz.f18 = some fn → FOk Go.Proofs.Tryz.prog 18 fn := by
  intro fn h; cases h; exact ⟨Go.Proofs.Tryz.func18, by kernel_rfl, by kernel_rfl⟩
theorem fok_19 : ∀ fn : Func, some Go.Proofs.Tryz.f19 = some fn → FOk Go.Proofs.Tryz.prog 19 fn := by
  intro fn h; cases h; exact ⟨Go.Proofs.Tryz.func19, by kernel_rfl, by kernel_rfl⟩
theorem fok_20 : ∀ fn : Func, some Go.Proofs.Tryz.f20 = some fn → FOk Go.Proofs.Tryz.prog 20 fn := by
  intro fn h; cases h; exact ⟨Go.Proofs.Tryz.func20, by kernel_rfl, by kernel_rfl⟩
theorem fok_21 : ∀ fn : Func, some Go.Proofs.Tryz.f21 = some fn → FOk Go.Proofs.Tryz.prog 21 fn := by
  intro fn h; cases h; exact ⟨Go.Proofs.Tryz.func21, by kernel_rfl, by kernel_rfl⟩
theorem fok_22 : ∀ fn : Func, some Go.Proofs.Tryz.f22 = some fn → FOk Go.Proofs.Tryz.prog 22 fn := by
  intro fn h; cases h; exact ⟨Go.Proofs.Tryz.func22, by kernel_rfl, by kernel_rfl⟩
theorem fok_35 : ∀ fn : Func, some Go.Proofs.Tryz.f35 = some fn → FOk Go.Proofs.Tryz.prog 35 fn := by
  intro fn h; cases h; exact ⟨Go.Proofs.Tryz.func35, by kernel_rfl, by kernel_rfl⟩
theorem fok_37 : ∀ fn : Func, some Go.Proofs.Tryz.f37 = some fn → FOk Go.Proofs.Tryz.prog 37 fn := by
  intro fn h; cases h; exact ⟨Go.Proofs.Tryz.func37, by kernel_rfl, by kernel_rfl⟩
theorem fok_38 : ∀ fn : Func, some Go.Proofs.Tryz.f38 = some fn → FOk Go.Proofs.Tryz.prog 38 fn := by
  intro fn h; cases h; exact ⟨Go.Proofs.Tryz.func38, by kernel_rfl, by kernel_rfl⟩
theorem fok_39 : ∀ fn : Func, some Go.Proofs.Tryz.f39 = some fn → FOk Go.Proofs.Tryz.prog 39 fn := by
  intro fn h; cases h; exact ⟨Go.Proofs.Tryz.func39, by kernel_rfl, by kernel_rfl⟩
theorem fok_40 : ∀ fn : Func, some Go.Proofs.Tryz.f40 = some fn → FOk Go.Proofs.Tryz.prog 40 fn := by
  intro fn h; cases h; exact ⟨Go.Proofs.Tryz.func40, by kernel_rfl, by kernel_rfl⟩
theorem fok_41 : ∀ fn : Func, some Go.Proofs.Tryz.f41 = some fn → FOk Go.Proofs.Tryz.prog 41 fn := by
  intro fn h; cases h; exact ⟨Go.Proofs.Tryz.func41, by kernel_rfl, by kernel_rfl⟩
theorem fok_42 : ∀ fn : Func, some Go.Proofs.Tryz.f42 = some fn → FOk Go.Proofs.Tryz.prog 42 fn := by
  intro fn h; cases h; exact ⟨Go.Proofs.Tryz.func42, by kernel_rfl, by kernel_rfl⟩
theorem fok_44 : ∀ fn : Func, some Go.Proofs.Tryz.f44 = some fn → FOk Go.Proofs.Tryz.prog 44 fn := by
  intro fn h; cases h; exact ⟨Go.Proofs.Tryz.func44, by kernel_rfl, by kernel_rfl⟩
theorem fok_47 : ∀ fn : Func, some Go.Proofs.Tryz.f47 = some fn → FOk Go.Proofs.Tryz.prog 47 fn := by
  intro fn h; cases h; exact ⟨Go.Proofs.Tryz.func47, by kernel_rfl, by kernel_rfl⟩
theorem fok_48 : ∀ fn : Func, some Go.Proofs.Tryz.f48 = some fn → FOk Go.Proofs.Tryz.prog 48 fn := by
  intro fn h; cases h; exact ⟨Go.Proofs.Tryz.func48, by kernel_rfl, by kernel_rfl⟩
theorem fok_49 : ∀ fn : Func, some Go.Proofs.Tryz.f49 = some fn → FOk Go.Proofs.Tryz.prog 49 fn := by
  intro fn h; cases h; exact ⟨Go.Proofs.Tryz.func49, by kernel_rfl, by kernel_rfl⟩
theorem fok_50 : ∀ fn : Func, some Go.Proofs.Tryz.f50 = some fn → FOk Go.Proofs.Tryz.prog 50 fn := by
  intro fn h; cases h; exact ⟨Go.Proofs.Tryz.func50, by kernel_rfl, by kernel_rfl⟩
theorem fok_51 : ∀ fn : Func, some Go.Proofs.Tryz.f51 = some fn → FOk Go.Proofs.Tryz.prog 51 fn := by
  intro fn h; cases h; exact ⟨Go.Proofs.Tryz.func51, by kernel_rfl, by kernel_rfl⟩
theorem fok_52 : ∀ fn : Func, some Go.Proofs.Tryz.f52 = some fn → FOk Go.Proofs.Tryz.prog 52 fn := by
  intro fn h; cases h; exact ⟨Go.Proofs.Tryz.func52, by kernel_rfl, by kernel_rfl⟩
theorem fok_53 : ∀ fn : Func, some Go.Proofs.Tryz.f53 = some fn → FOk Go.Proofs.Tryz.prog 53 fn := by
  intro fn h; cases h; exact ⟨Go.Proofs.Tryz.func53, by kernel_rfl, by kernel_rfl⟩
theorem fok_54 : ∀ fn : Func, some Go.Proofs.Tryz.f54 = some fn → FOk Go.Proofs.Tryz.prog 54 fn := by
  intro fn h; cases h; exact ⟨Go.Proofs.Tryz.func54, by kernel_rfl, by kernel_rfl⟩
theorem fok_55 : ∀ fn : Func, some Go.Proofs.Tryz.f55 = some fn → FOk Go.Proofs.Tryz.prog 55 fn := by
  intro fn h; cases h; exact ⟨Go.Proofs.Tryz.func55, by kernel_rfl, by kernel_rfl⟩
theorem fok_56 : ∀ fn : Func, some Go.Proofs.Tryz.f56 = some fn → FOk Go.Proofs.Tryz.prog 56 fn := by
  intro fn h; cases h; exact ⟨Go.Proofs.Tryz.func56, by kernel_rfl, by kernel_rfl⟩
theorem fok_57 : ∀ fn : Func, some Go.Proofs.Tryz.f57 = some fn → FOk Go.Proofs.Tryz.prog 57 fn := by
  intro fn h; cases h; exact ⟨Go.Proofs.Tryz.func57, by kernel_rfl, by kernel_rfl⟩
theorem fok_58 : ∀ fn : Func, some Go.Proofs.Tryz.f58 = some fn → FOk Go.Proofs.Tryz.prog 58 fn := by
  intro fn h; cases h; exact ⟨Go.Proofs.Tryz.func58, by kernel_rfl, by kernel_rfl⟩
theorem fok_59 : ∀ fn : Func, some Go.Proofs.Tryz.f59 = some fn → FOk Go.Proofs.Tryz.prog 59 fn := by
  intro fn h; cases h; exact ⟨Go.Proofs.Tryz.func59, by kernel_rfl, by kernel_rfl⟩
theorem fok_60 : ∀ fn : Func, some Go.Proofs.Tryz.f60 = some fn → FOk Go.Proofs.Tryz.prog 60 fn := by
  intro fn h; cases h; exact ⟨Go.Proofs.Tryz.func60, by kernel_rfl, by kernel_rfl⟩
theorem fok_61 : ∀ fn : Func, some Go.Proofs.Tryz.f61 = some fn → FOk Go.Proofs.Tryz.prog 61 fn := by
  intro fn h; cases h; exact ⟨Go.Proofs.Tryz.func61, by kernel_rfl, by kernel_rfl⟩
theorem fok_62 : ∀ fn : Func, some Go.Proofs.Tryz.f62 = some fn → FOk Go.Proofs.Tryz.prog 62 fn := by
  intro fn h; cases h; exact ⟨Go.Proofs.Tryz.func62, by kernel_rfl, by kernel_rfl⟩
theorem fok_63 : ∀ fn : Func, some Go.Proofs.Tryz.f63 = some fn → FOk Go.Proofs.Tryz.prog 63 fn := by
  intro fn h; cases h; exact ⟨Go.Proofs.Tryz.func63, by kernel_rfl, by kernel_rfl⟩
theorem fok_64 : ∀ fn : Func, some Go.Proofs.Tryz.f64 = some fn → FOk Go.Proofs.Tryz.prog 64 fn := by
  intro fn h; cases h; exact ⟨Go.Proofs.Tryz.func64, by kernel_rfl, by kernel_rfl⟩
theorem fok_65 : ∀ fn : Func, some Go.Proofs.Tryz.f65 = some fn → FOk Go.Proofs.Tryz.prog 65 fn := by
  intro fn h; cases h; exact ⟨Go.Proofs.Tryz.func65, by kernel_rfl, by kernel_rfl⟩
theorem fok_66 : ∀ fn : Func, some Go.Proofs.Tryz.f66 = some fn → FOk Go.Proofs.Tryz.prog 66 fn := by
  intro fn h; cases h; exact ⟨Go.Proofs.Tryz.func66, by kernel_rfl, by kernel_rfl⟩
theorem fok_67 : ∀ fn : Func, some Go.Proofs.Tryz.f67 = some fn → FOk Go.Proofs.Tryz.prog 67 fn := by
  intro fn h; cases h; exact ⟨Go.Proofs.Tryz.func67, by kernel_rfl, by kernel_rfl⟩
theorem fok_68 : ∀ fn : Func, some Go.Proofs.Tryz.f68 = some fn → FOk Go.Proofs.Tryz.prog 68 fn := by
  intro fn h; cases h; exact ⟨Go.Proofs.Tryz.func68, by kernel_rfl, by kernel_rfl⟩
theorem fok_69 : ∀ fn : Func, some Go.Proofs.Tryz.f69 = some fn → FOk Go.Proofs.Tryz.prog 69 fn := by
  intro fn h; cases h; exact ⟨Go.Proofs.Tryz.func69, by kernel_rfl, by kernel_rfl⟩
theorem fok_70 : ∀ fn : Func, some Go.Proofs.Tryz.f70 = some fn → FOk Go.Proofs.Tryz.prog 70 fn := by
  intro fn h; cases h; exact ⟨Go.Proofs.Tryz.func70, by kernel_rfl, by kernel_rfl⟩
theorem fok_72 : ∀ fn : Func, some Go.Proofs.Tryz.f72 = some fn → FOk Go.Proofs.Tryz.prog 72 fn := by
  intro fn h; cases h; exact ⟨Go.Proofs.Tryz.func72, by kernel_rfl, by kernel_rfl⟩
theorem fok_74 : ∀ fn : Func, some Go.Proofs.Tryz.f74 = some fn → FOk Go.Proofs.Tryz.prog 74 fn := by
  intro fn h; cases h; exact ⟨Go.Proofs.Tryz.func74, by kernel_rfl, by kernel_rfl⟩
theorem fok_76 : ∀ fn : Func, some Go.Proofs.Tryz.f76 = some fn → FOk Go.Proofs.Tryz.prog 76 fn := by
  intro fn h; cases h; exact ⟨Go.Proofs.Tryz.func76, by kernel_rfl, by kernel_rfl⟩
theorem fok_77 : ∀ fn : Func, some Go.Proofs.Tryz.f77 = some fn → FOk Go.Proofs.Tryz.prog 77 fn := by
  intro fn h; cases h; exact ⟨Go.Proofs.Tryz.func77, by kernel_rfl, by kernel_rfl⟩
theorem fok_83 : ∀ fn : Func, some Go.Proofs.Tryz.f83 = some fn → FOk Go.Proofs.Tryz.prog 83 fn := by
  intro fn h; cases h; exact ⟨Go.Proofs.Tryz.func83, by kernel_rfl, by kernel_rfl⟩
theorem fok_84 : ∀ fn : Func, some Go.Proofs.Tryz.f84 = some fn → FOk Go.Proofs.Tryz.prog 84 fn := by
  intro fn h; cases h; exact ⟨Go.Proofs.Tryz.func84, by kernel_rfl, by kernel_rfl⟩
theorem fok_85 : ∀ fn : Func, some Go.Proofs.Tryz.f85 = some fn → FOk Go.Proofs.Tryz.prog 85 fn := by
  intro fn h; cases h; exact ⟨Go.Proofs.Tryz.func85, by kernel_rfl, by kernel_rfl⟩
theorem fok_86 : ∀ fn : Func, some Go.Proofs.Tryz.f86 = some fn → FOk Go.Proofs.Tryz.prog 86 fn := by
  intro fn h; cases h; exact ⟨Go.Proofs.Tryz.func86, by kernel_rfl, by kernel_rfl⟩
theorem fok_87 : ∀ fn : Func, some Go.Proofs.Tryz.f87 = some fn → FOk Go.Proofs.Tryz.prog 87 fn := by
  intro fn h; cases h; exact ⟨Go.Proofs.Tryz.func87, by kernel_rfl, by kernel_rfl⟩
theorem fok_88 : ∀ fn : Func, some Go.Proofs.Tryz.f88 = some fn → FOk Go.Proofs.Tryz.prog 88 fn := by
  intro fn h; cases h; exact ⟨Go.Proofs.Tryz.func88, by kernel_rfl, by kernel_rfl⟩
theorem fok_89 : ∀ fn : Func, some Go.Proofs.Tryz.f89 = some fn → FOk Go.Proofs.Tryz.prog 89 fn := by
  intro fn h; cases h; exact ⟨Go.Proofs.Tryz.func89, by kernel_rfl, by kernel_rfl⟩
theorem fok_90 : ∀ fn : Func, some Go.Proofs.Tryz.f90 = some fn → FOk Go.Proofs.Tryz.prog 90 fn := by
  intro fn h; cases h; exact ⟨Go.Proofs.Tryz.func90, by kernel_rfl, by kernel_rfl⟩
theorem fok_91 : ∀ fn : Func, some Go.Proofs.Tryz.f91 = some fn → FOk Go.Proofs.Tryz.prog 91 fn := by
  intro fn h; cases h; exact ⟨Go.Proofs.Tryz.func91, by kernel_rfl, by kernel_rfl⟩
theorem fok_92 : ∀ fn : Func, some Go.Proofs.Tryz.f92 = some fn → FOk Go.Proofs.Tryz.prog 92 fn := by
  intro fn h; cases h; exact ⟨Go.Proofs.Tryz.func92, by kernel_rfl, by kernel_rfl⟩
theorem fok_93 : ∀ fn : Func, some Go.Proofs.Tryz.f93 = some fn → FOk Go.Proofs.Tryz.prog 93 fn := by
  intro fn h; cases h; exact ⟨Go.Proofs.Tryz.func93, by kernel_rfl, by kernel_rfl⟩
theorem fok_94 : ∀ fn : Func, some Go.Proofs.Tryz.f94 = some fn → FOk Go.Proofs.Tryz.prog 94 fn := by
  intro fn h; cases h; exact ⟨Go.Proofs.Tryz.func94, by kernel_rfl, by kernel_rfl⟩
theorem fok_95 : ∀ fn : Func, some Go.Proofs.Tryz.f95 = some fn → FOk Go.Proofs.Tryz.prog 95 fn := by
  intro fn h; cases h; exact ⟨Go.Proofs.Tryz.func95, by kernel_rfl, by kernel_rfl⟩
theorem fok_96 : ∀ fn : Func, some Go.Proofs.Tryz.f96 = some fn → FOk Go.Proofs.Tryz.prog 96 fn := by
  intro fn h; cases h; exact ⟨Go.Proofs.Tryz.func96, by kernel_rfl, by kernel_rfl⟩
theorem fok_97 : ∀ fn : Func, some Go.Proofs.Tryz.f97 = some fn → FOk Go.Proofs.Tryz.prog 97 fn := by
  intro fn h; cases h; exact ⟨Go.Proofs.Tryz.func97, by kernel_rfl, by kernel_rfl⟩
theorem fok_98 : ∀ fn : Func, some Go.Proofs.Tryz.f98 = some fn → FOk Go.Proofs.Tryz.prog 98 fn := by
  intro fn h; cases h; exact ⟨Go.Proofs.Tryz.func98, by kernel_rfl, by kernel_rfl⟩
theorem fok_99 : ∀ fn : Func, some Go.Proofs.Tryz.f99 = some fn → FOk Go.Proofs.Tryz.prog 99 fn := by
  intro fn h; cases h; exact ⟨Go.Proofs.Tryz.func99, by kernel_rfl, by kernel_rfl⟩
theorem fok_100 : ∀ fn : Func, some Go.Proofs.Tryz.f100 = some fn → FOk Go.Proofs.Tryz.prog 100 fn := by
  intro fn h; cases h; exact ⟨Go.Proofs.Tryz.func100, by kernel_rfl, by kernel_rfl⟩
theorem fok_101 : ∀ fn : Func, some Go.Proofs.Tryz.f101 = some fn → FOk Go.Proofs.Tryz.prog 101 fn := by
  intro fn h; cases h; exact ⟨Go.Proofs.Tryz.func101, by kernel_rfl, by kernel_rfl⟩
theorem fok_102 : ∀ fn : Func, some Go.Proofs.Tryz.f102 = some fn → FOk Go.Proofs.Tryz.prog 102 fn := by
  intro fn h; cases h; exact ⟨Go.Proofs.Tryz.func102, by kernel_rfl, by kernel_rfl⟩
theorem fok_103 : ∀ fn : Func, some Go.Proofs.Tryz.f103 = some fn → FOk Go.Proofs.Tryz.prog 103 fn := by
  intro fn h; cases h; exact ⟨Go.Proofs.Tryz.func103, by kernel_rfl, by kernel_rfl⟩
theorem fok_104 : ∀ fn : Func, some Go.Proofs.Tryz.f104 = some fn → FOk Go.Proofs.Tryz.prog 104 fn := by
  intro fn h; cases h; exact ⟨Go.Proofs.Tryz.func104, by kernel_rfl, by kernel_rfl⟩
theorem fok_105 : ∀ fn : Func, some Go.Proofs.Tryz.f105 = some fn → FOk Go.Proofs.Tryz.prog 105 fn := by
  intro fn h; cases h; exact ⟨Go.Proofs.Tryz.func105, by kernel_rfl, by kernel_rfl⟩
theorem fok_106 : ∀ fn : Func, some Go.Proofs.Tryz.f106 = some fn → FOk Go.Proofs.Tryz.prog 106 fn := by
  intro fn h; cases h; exact ⟨Go.Proofs.Tryz.func106, by kernel_rfl, by kernel_rfl⟩
theorem fok_108 : ∀ fn : Func, some Go.Proofs.Tryz.f108 = some fn → FOk Go.Proofs.Tryz.prog 108 fn := by
  intro fn h; cases h; exact ⟨Go.Proofs.Tryz.func108, by kernel_rfl, by kernel_rfl⟩
theorem fok_109 : ∀ fn : Func, some Go.Proofs.Tryz.f109 = some fn → FOk Go.Proofs.Tryz.prog 109 fn := by
  intro fn h; cases h; exact ⟨Go.Proofs.Tryz.func109, by kernel_rfl, by kernel_rfl⟩
theorem fok_110 : ∀ fn : Func, some Go.Proofs.Tryz.f110 = some fn → FOk Go.Proofs.Tryz.prog 110 fn := by
  intro fn h; cases h; exact ⟨Go.Proofs.Tryz.func110, by kernel_rfl, by kernel_rfl⟩
theorem fok_111 : ∀ fn : Func, some Go.Proofs.Tryz.f111 = some fn → FOk Go.Proofs.Tryz.prog 111 fn := by
  intro fn h; cases h; exact ⟨Go.Proofs.Tryz.func111, by kernel_rfl, by kernel_rfl⟩
theorem fok_112 : ∀ fn : Func, some Go.Proofs.Tryz.f112 = some fn → FOk Go.Proofs.Tryz.prog 112 fn := by
  intro fn h; cases h; exact ⟨Go.Proofs.Tryz.func112, by kernel_rfl, by kernel_rfl⟩
theorem fok_113 : ∀ fn : Func, some Go.Proofs.Tryz.f113 = some fn → FOk Go.Proofs.Tryz.prog 113 fn := by
  intro fn h; cases h; exact ⟨Go.Proofs.Tryz.func113, by kernel_rfl, by kernel_rfl⟩
theorem fok_114 : ∀ fn : Func, some Go.Proofs.Tryz.f114 = some fn → FOk Go.Proofs.Tryz.prog 114 fn := by
  intro fn h; cases h; exact ⟨Go.Proofs.Tryz.func114, by kernel_rfl, by kernel_rfl⟩
theorem fok_115 : ∀ fn : Func, some Go.Proofs.Tryz.f115 = some fn → FOk Go.Proofs.Tryz.prog 115 fn := by
  intro fn h; cases h; exact ⟨Go.Proofs.Tryz.func115, by kernel_rfl, by kernel_rfl⟩
theorem fok_116 : ∀ fn : Func, some Go.Proofs.Tryz.f116 = some fn → FOk Go.Proofs.Tryz.prog 116 fn := by
  intro fn h; cases h; exact ⟨Go.Proofs.Tryz.func116, by kernel_rfl, by kernel_rfl⟩
theorem fok_117 : ∀ fn : Func, some Go.Proofs.Tryz.f117 = some fn → FOk Go.Proofs.Tryz.prog 117 fn := by
  intro fn h; cases h; exact ⟨Go.Proofs.Tryz.func117, by kernel_rfl, by kernel_rfl⟩
theorem fok_118 : ∀ fn : Func, some Go.Proofs.Tryz.f118 = some fn → FOk Go.Proofs.Tryz.prog 118 fn := by
  intro fn h; cases h; exact ⟨Go.Proofs.Tryz.func118, by kernel_rfl, by kernel_rfl⟩
theorem fok_123 : ∀ fn : Func, some Go.Proofs.Tryz.f123 = some fn → FOk Go.Proofs.Tryz.prog 123 fn := by
  intro fn h; cases h; exact ⟨Go.Proofs.Tryz.func123, by kernel_rfl, by kernel_rfl⟩
theorem fok_127 : ∀ fn : Func, some Go.Proofs.Tryz.f127 = some fn → FOk Go.Proofs.Tryz.prog 127 fn := by
  intro fn h; cases h; exact ⟨Go.Proofs.Tryz.func127, by kernel_rfl, by kernel_rfl⟩
theorem fok_128 : ∀ fn : Func, some Go.Proofs.Tryz.f128 = some fn → FOk Go.Proofs.Tryz.prog 128 fn := by
  intro fn h; cases h; exact ⟨Go.Proofs.Tryz.func128, by kernel_rfl, by kernel_rfl⟩
theorem fok_129 : ∀ fn : Func, some Go.Proofs.Tryz.f129 = some fn → FOk Go.Proofs.Tryz.prog 129 fn := by
  intro fn h; cases h; exact ⟨Go.Proofs.Tryz.func129, by kernel_rfl, by kernel_rfl⟩
theorem fok_132 : ∀ fn : Func, some Go.Proofs.Tryz.f132 = some fn → FOk Go.Proofs.Tryz.prog 132 fn := by
  intro fn h; cases h; exact ⟨Go.Proofs.Tryz.func132, by kernel_rfl, by kernel_rfl⟩
theorem fok_134 : ∀ fn : Func, some Go.Proofs.Tryz.f134 = some fn → FOk Go.Proofs.Tryz.prog 134 fn := by
  intro fn h; cases h; exact ⟨Go.Proofs.Tryz.func134, by kernel_rfl, by kernel_rfl⟩
theorem fok_136 : ∀ fn : Func, some Go.Proofs.Tryz.f136 = some fn → FOk Go.Proofs.Tryz.prog 136 fn := by
  intro fn h; cases h; exact ⟨Go.Proofs.Tryz.func136, by kernel_rfl, by kernel_rfl⟩
theorem fok_137 : ∀ fn : Func, some Go.Proofs.Tryz.f137 = some fn → FOk Go.Proofs.Tryz.prog 137 fn := by
  intro fn h; cases h; exact ⟨Go.Proofs.Tryz.func137, by kernel_rfl, by kernel_rfl⟩
theorem fok_138 : ∀ fn : Func, some Go.Proofs.Tryz.f138 = some fn → FOk Go.Proofs.Tryz.prog 138 fn := by
  intro fn h; cases h; exact ⟨Go.Proofs.Tryz.func138, by kernel_rfl, by kernel_rfl⟩
theorem fok_139 : ∀ fn : Func, some Go.Proofs.Tryz.f139 = some fn → FOk Go.Proofs.Tryz.prog 139 fn := by
  intro fn h; cases h; exact ⟨Go.Proofs.Tryz.func139, by kernel_rfl, by kernel_rfl⟩
theorem fok_140 : ∀ fn : Func, some Go.Proofs.Tryz.f140 = some fn → FOk Go.Proofs.Tryz.prog 140 fn := by
  intro fn h; cases h; exact ⟨Go.Proofs.Tryz.func140, by kernel_rfl, by kernel_rfl⟩
theorem fok_141 : ∀ fn : Func, some Go.Proofs.Tryz.f141 = some fn → FOk Go.Proofs.Tryz.prog 141 fn := by
  intro fn h; cases h; exact ⟨Go.Proofs.Tryz.func141, by kernel_rfl, by kernel_rfl⟩
theorem fok_142 : ∀ fn : Func, some Go.Proofs.Tryz.f142 = some fn → FOk Go.Proofs.Tryz.prog 142 fn := by
  intro fn h; cases h; exact ⟨Go.Proofs.Tryz.func142, by kernel_rfl, by kernel_rfl⟩
theorem fok_143 : ∀ fn : Func, some Go.Proofs.Tryz.f143 = some fn → FOk Go.Proofs.Tryz.prog 143 fn := by
  intro fn h; cases h; exact ⟨Go.Proofs.Tryz.func143, by kernel_rfl, by kernel_rfl⟩
theorem fok_145 : ∀ fn : Func, some Go.Proofs.Tryz.f145 = some fn → FOk Go.Proofs.Tryz.prog 145 fn := by
  intro fn h; cases h; exact ⟨Go.Proofs.Tryz.func145, by kernel_rfl, by kernel_rfl⟩
theorem fok_146 : ∀ fn : Func, some Go.Proofs.Tryz.f146 = some fn → FOk Go.Proofs.Tryz.prog 146 fn := by
  intro fn h; cases h; exact ⟨Go.Proofs.Tryz.func146, by kernel_rfl, by kernel_rfl⟩
theorem fok_147 : ∀ fn : Func, some Go.Proofs.Tryz.f147 = some fn → FOk Go.Proofs.Tryz.prog 147 fn := by
  intro fn h; cases h; exact ⟨Go.Proofs.Tryz.func147, by kernel_rfl, by kernel_rfl⟩
theorem fok_148 : ∀ fn : Func, some Go.Proofs.Tryz.f148 = some fn → FOk Go.Proofs.Tryz.prog 148 fn := by
  intro fn h; cases h; exact ⟨Go.Proofs.Tryz.func148, by kernel_rfl, by kernel_rfl⟩
theorem fok_154 : ∀ fn : Func, some Go.Proofs.Tryz.f154 = some fn → FOk Go.Proofs.Tryz.prog 154 fn := by
  intro fn h; cases h; exact ⟨Go.Proofs.Tryz.func154, by kernel_rfl, by kernel_rfl⟩
theorem fok_158 : ∀ fn : Func, some Go.Proofs.Tryz.f158 = some fn → FOk Go.Proofs.Tryz.prog 158 fn := by
  intro fn h; cases h; exact ⟨Go.Proofs.Tryz.func158, by kernel_rfl, by kernel_rfl⟩
theorem fok_159 : ∀ fn : Func, some Go.Proofs.Tryz.f159 = some fn → FOk Go.Proofs.Tryz.prog 159 fn := by
  intro fn h; cases h; exact ⟨Go.Proofs.Tryz.func159, by kernel_rfl, by kernel_rfl⟩
theorem fok_160 : ∀ fn : Func, some Go.Proofs.Tryz.f160 = some fn → FOk Go.Proofs.Tryz.prog 160 fn := by
  intro fn h; cases h; exact ⟨Go.Proofs.Tryz.func160, by kernel_rfl, by kernel_rfl⟩
theorem fok_163 : ∀ fn : Func, some Go.Proofs.Tryz.f163 = some fn → FOk Go.Proofs.Tryz.prog 163 fn := by
  intro fn h; cases h; exact ⟨Go.Proofs.Tryz.func163, by kernel_rfl, by kernel_rfl⟩
theorem fok_164 : ∀ fn : Func, some Go.Proofs.Tryz.f164 = some fn → FOk Go.Proofs.Tryz.prog 164 fn := by
  intro fn h; cases h; exact ⟨Go.Proofs.Tryz.func164, by kernel_rfl, by kernel_rfl⟩
theorem fok_165 : ∀ fn : Func, some Go.Proofs.Tryz.f165 = some fn → FOk Go.Proofs.Tryz.prog 165 fn := by
  intro fn h; cases h; exact ⟨Go.Proofs.Tryz.func165, by kernel_rfl, by kernel_rfl⟩
theorem fok_169 : ∀ fn : Func, some Go.Proofs.Tryz.f169 = some fn → FOk Go.Proofs.Tryz.prog 169 fn := by
  intro fn h; cases h; exact ⟨Go.Proofs.Tryz.func169, by kernel_rfl, by kernel_rfl⟩
theorem fok_172 : ∀ fn : Func, some Go.Proofs.Tryz.f172 = some fn → FOk Go.Proofs.Tryz.prog 172 fn := by
  intro fn h; cases h; exact ⟨Go.Proofs.Tryz.func172, by kernel_rfl, by kernel_rfl⟩
theorem fok_175 : ∀ fn : Func, some Go.Proofs.Tryz.f175 = some fn → FOk Go.Proofs.Tryz.prog 175 fn := by
  intro fn h; cases h; exact ⟨Go.Proofs.Tryz.func175, by kernel_rfl, by kernel_rfl⟩
theorem fok_176 : ∀ fn : Func, some Go.Proofs.Tryz.f176 = some fn → FOk Go.Proofs.Tryz.prog 176 fn := by
  intro fn h; cases h; exact ⟨Go.Proofs.Tryz.func176, by kernel_rfl, by kernel_rfl⟩
theorem fok_177 : ∀ fn : Func, some Go.Proofs.Tryz.f177 = some fn → FOk Go.Proofs.Tryz.prog 177 fn := by
  intro fn h; cases h; exact ⟨Go.Proofs.Tryz.func177, by kernel_rfl, by kernel_rfl⟩
theorem fok_179 : ∀ fn : Func, some Go.Proofs.Tryz.f179 = some fn → FOk Go.Proofs.Tryz.prog 179 fn := by
  intro fn h; cases h; exact ⟨Go.Proofs.Tryz.func179, by kernel_rfl, by kernel_rfl⟩
theorem fok_191 : ∀ fn : Func, some Go.Proofs.Tryz.f191 = some fn → FOk Go.Proofs.Tryz.prog 191 fn := by
  intro fn h; cases h; exact ⟨Go.Proofs.Tryz.func191, by kernel_rfl, by kernel_rfl⟩
theorem fok_192 : ∀ fn : Func, some Go.Proofs.Tryz.f192 = some fn → FOk Go.Proofs.Tryz.prog 192 fn := by
  intro fn h; cases h; exact ⟨Go.Proofs.Tryz.func192, by kernel_rfl, by kernel_rfl⟩
theorem fok_193 : ∀ fn : Func, some Go.Proofs.Tryz.f193 = some fn → FOk Go.Proofs.Tryz.prog 193 fn := by
  intro fn h; cases h; exact ⟨Go.Proofs.Tryz.func193, by kernel_rfl, by kernel_rfl⟩
theorem fok_194 : ∀ fn : Func, some Go.Proofs.Tryz.f194 = some fn → FOk Go.Proofs.Tryz.prog 194 fn := by
  intro fn h; cases h; exact ⟨Go.Proofs.Tryz.func194, by kernel_rfl, by kernel_rfl⟩
theorem fok_202 : ∀ fn : Func, some Go.Proofs.Tryz.f202 = some fn → FOk Go.Proofs.Tryz.prog 202 fn := by
  intro fn h; cases h; exact ⟨Go.Proofs.Tryz.func202, by kernel_rfl, by kernel_rfl⟩
theorem fok_203 : ∀ fn : Func, some Go.Proofs.Tryz.f203 = some fn → FOk Go.Proofs.Tryz.prog 203 fn := by
  intro fn h; cases h; exact ⟨Go.Proofs.Tryz.func203, by kernel_rfl, by kernel_rfl⟩
theorem fok_208 : ∀ fn : Func, some Go.Proofs.Tryz.f208 = some fn → FOk Go.Proofs.Tryz.prog 208 fn := by
  intro fn h; cases h; exact ⟨Go.Proofs.Tryz.func208, by kernel_rfl, by kernel_rfl⟩
theorem allF : AllF Go.Proofs.Tryz.prog F := ⟨fok_4, fok_13, fok_16, fok_17, fok_18, fok_19, fok_20, fok_21, fok_22, fok_35, fok_37, fok_38, fok_39, fok_40, fok_41, fok_42, fok_44, fok_47, fok_48, fok_49, fok_50, fok_51, fok_52, fok_53, fok_54, fok_55, fok_56, fok_57, fok_58, fok_59, fok_60, fok_61, fok_62, fok_63, fok_64, fok_65, fok_66, fok_67, fok_68, fok_69, fok_70, fok_72, fok_74, fok_76, fok_77, fok_83, fok_84, fok_85, fok_86, fok_87, fok_88, fok_89, fok_90, fok_91, fok_92, fok_93, fok_94, fok_95, fok_96, fok_97, fok_98, fok_99, fok_100, fok_101, fok_102, fok_103, fok_104, fok_105, fok_106, fok_108, fok_109, fok_110, fok_111, fok_112, fok_113, fok_114, fok_115, fok_116, fok_117, fok_118, fok_123, fok_127, fok_128, fok_129, fok_132, fok_134, fok_136, fok_137, fok_138, fok_139, fok_140, fok_141, fok_142, fok_143, fok_145, fok_146, fok_147, fok_148, fok_154, fok_158, fok_159, fok_160, fok_163, fok_164, fok_165, fok_169, fok_172, fok_175, fok_176, fok_177, fok_179, fok_191, fok_192, fok_193, fok_194, fok_202, fok_203, fok_208, trivial⟩
theorem seat_F : ∀ f fn, look F f = some fn → FOk Go.Proofs.Tryz.prog f fn := fun t i h => allF.mem t i (look_mem h)
end Go.Px.Seat
