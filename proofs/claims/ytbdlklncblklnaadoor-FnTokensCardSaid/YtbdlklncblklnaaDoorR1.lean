/- The tables tell the program. Printed by mkok.py. -/
import Derived.Test.YtbdlklncblklnaaDoorS3
import Derived.Test.YtbdlklncblklnaaDoorA5
import Derived.KernelRfl
set_option linter.unusedVariables false

namespace Go.Px.Seat
open Go
set_option maxRecDepth 100000
theorem TIOk.of {P : Program} {t : TypeId} {i : TI} {d : TypeDesc} (h1 : P.underlying t = some d) (h2 : DescOk i.d d) (h3 : (P.info? t).bind (fun j => j.zero.map fun z => (j.size, j.bytes, z.cells.toList)) = some (i.size, i.bytes, zeroVals i.ty))
    (h4 : i.ty.size = i.size) (h5 : i.eqf = true → EqOk P t i.ty) : TIOk P t i := by
  refine ⟨⟨d, h1, h2⟩, ?_, h4, h5⟩
  simp only [Option.bind_eq_some_iff, Option.map_eq_some_iff, Prod.mk.injEq] at h3
  obtain ⟨j, hj, z, hz, e1, e2, e3⟩ := h3
  exact ⟨j, hj, e1, e2, z, hz, e3⟩
def AllT (P : Program) : Types → Prop
  | [] => True
  | p :: l => (∀ i, p.2 = some i → TIOk P p.1 i) ∧ AllT P l
theorem AllT.mem {P : Program} : ∀ {l : Types}, AllT P l → ∀ t i, (t, some i) ∈ l → TIOk P t i
  | _ :: _, h, t, i, hm => by
    rcases List.mem_cons.1 hm with rfl | hm
    · exact h.1 i rfl
    · exact AllT.mem h.2 t i hm
def FOk (P : Program) (f : Nat) (fn : Func) : Prop := P.funcs[f]? = some fn ∧ fn.body.isNone = false ∧ (fn.name == "runtime.NumGoroutine") = false
def AllF (P : Program) : Funcs → Prop
  | [] => True
  | p :: l => (∀ fn, p.2 = some fn → FOk P p.1 fn) ∧ AllF P l
theorem AllF.mem {P : Program} : ∀ {l : Funcs}, AllF P l → ∀ t i, (t, some i) ∈ l → FOk P t i
  | _ :: _, h, t, i, hm => by
    rcases List.mem_cons.1 hm with rfl | hm
    · exact h.1 i rfl
    · exact AllF.mem h.2 t i hm
theorem tok_2 : ∀ i : TI, some (⟨(.int .i64), (.int .i64), 1, 8, false⟩ : TI) = some i → TIOk Go.Proofs.Tryd.prog 2 i := by
  intro i h; cases h
  exact TIOk.of Go.Proofs.Tryd.underlying2 (by first | rfl | trivial) (by kernel_rfl) rfl (fun h => by cases h)
theorem tok_3 : ∀ i : TI, some (⟨(.int .i64), (.int .i64), 1, 8, false⟩ : TI) = some i → TIOk Go.Proofs.Tryd.prog 3 i := by
  intro i h; cases h
  exact TIOk.of Go.Proofs.Tryd.underlying3 (by first | rfl | trivial) (by kernel_rfl) rfl (fun h => by cases h)
theorem tok_4 : ∀ i : TI, some (⟨.bool, .bool, 1, 1, false⟩ : TI) = some i → TIOk Go.Proofs.Tryd.prog 4 i := by
  intro i h; cases h
  exact TIOk.of Go.Proofs.Tryd.underlying4 (by first | rfl | trivial) (by kernel_rfl) rfl (fun h => by cases h)
theorem tok_5 : ∀ i : TI, some (⟨(.int .u8), (.int .u8), 1, 1, false⟩ : TI) = some i → TIOk Go.Proofs.Tryd.prog 5 i := by
  intro i h; cases h
  exact TIOk.of Go.Proofs.Tryd.underlying5 (by first | rfl | trivial) (by kernel_rfl) rfl (fun h => by cases h)
theorem tok_6 : ∀ i : TI, some (⟨(.int .u8), (.int .u8), 1, 1, false⟩ : TI) = some i → TIOk Go.Proofs.Tryd.prog 6 i := by
  intro i h; cases h
  exact TIOk.of Go.Proofs.Tryd.underlying6 (by first | rfl | trivial) (by kernel_rfl) rfl (fun h => by cases h)
theorem tok_7 : ∀ i : TI, some (⟨(.struct [(0, 2), (1, 3), (2, 4), (3, 6)]), (.cons (.int .i64) (.cons (.int .i64) (.cons .bool (.cons (.int .u8) .nil)))), 4, 24, false⟩ : TI) = some i → TIOk Go.Proofs.Tryd.prog 7 i := by
  intro i h; cases h
  exact TIOk.of Go.Proofs.Tryd.underlying7 (by first | rfl | trivial) (by kernel_rfl) rfl (fun h => by cases h)
theorem tok_8 : ∀ i : TI, some (⟨(.struct [(0, 2), (1, 3), (2, 4), (3, 6)]), (.cons (.int .i64) (.cons (.int .i64) (.cons .bool (.cons (.int .u8) .nil)))), 4, 24, false⟩ : TI) = some i → TIOk Go.Proofs.Tryd.prog 8 i := by
  intro i h; cases h
  exact TIOk.of Go.Proofs.Tryd.underlying8 (by first | rfl | trivial) (by kernel_rfl) rfl (fun h => by cases h)
theorem tok_9 : ∀ i : TI, some (⟨.string, .str, 1, 16, false⟩ : TI) = some i → TIOk Go.Proofs.Tryd.prog 9 i := by
  intro i h; cases h
  exact TIOk.of Go.Proofs.Tryd.underlying9 (by first | rfl | trivial) (by kernel_rfl) rfl (fun h => by cases h)
theorem tok_10 : ∀ i : TI, some (⟨.string, .str, 1, 16, false⟩ : TI) = some i → TIOk Go.Proofs.Tryd.prog 10 i := by
  intro i h; cases h
  exact TIOk.of Go.Proofs.Tryd.underlying10 (by first | rfl | trivial) (by kernel_rfl) rfl (fun h => by cases h)
theorem tok_11 : ∀ i : TI, some (⟨.string, .str, 1, 16, false⟩ : TI) = some i → TIOk Go.Proofs.Tryd.prog 11 i := by
  intro i h; cases h
  exact TIOk.of Go.Proofs.Tryd.underlying11 (by first | rfl | trivial) (by kernel_rfl) rfl (fun h => by cases h)
theorem tok_12 : ∀ i : TI, some (⟨(.int .u64), (.int .u64), 1, 8, false⟩ : TI) = some i → TIOk Go.Proofs.Tryd.prog 12 i := by
  intro i h; cases h
  exact TIOk.of Go.Proofs.Tryd.underlying12 (by first | rfl | trivial) (by kernel_rfl) rfl (fun h => by cases h)
theorem tok_13 : ∀ i : TI, some (⟨(.struct [(0, 9), (1, 12)]), (.cons .str (.cons (.int .u64) .nil)), 2, 24, false⟩ : TI) = some i → TIOk Go.Proofs.Tryd.prog 13 i := by
  intro i h; cases h
  exact TIOk.of Go.Proofs.Tryd.underlying13 (by first | rfl | trivial) (by kernel_rfl) rfl (fun h => by cases h)
theorem tok_14 : ∀ i : TI, some (⟨(.struct [(0, 9), (1, 12)]), (.cons .str (.cons (.int .u64) .nil)), 2, 24, false⟩ : TI) = some i → TIOk Go.Proofs.Tryd.prog 14 i := by
  intro i h; cases h
  exact TIOk.of Go.Proofs.Tryd.underlying14 (by first | rfl | trivial) (by kernel_rfl) rfl (fun h => by cases h)
theorem tok_21 : ∀ i : TI, some (⟨(.int .i32), (.int .i32), 1, 4, false⟩ : TI) = some i → TIOk Go.Proofs.Tryd.prog 21 i := by
  intro i h; cases h
  exact TIOk.of Go.Proofs.Tryd.underlying21 (by first | rfl | trivial) (by kernel_rfl) rfl (fun h => by cases h)
theorem tok_22 : ∀ i : TI, some (⟨(.slice 5), (.slice (.int .u8)), 1, 24, false⟩ : TI) = some i → TIOk Go.Proofs.Tryd.prog 22 i := by
  intro i h; cases h
  exact TIOk.of Go.Proofs.Tryd.underlying22 (by first | rfl | trivial) (by kernel_rfl) rfl (fun h => by cases h)
theorem tok_24 : ∀ i : TI, some (⟨(.slice 28), (.slice (.cons (.int .i64) (.cons .str .nil))), 1, 24, false⟩ : TI) = some i → TIOk Go.Proofs.Tryd.prog 24 i := by
  intro i h; cases h
  exact TIOk.of Go.Proofs.Tryd.underlying24 (by first | rfl | trivial) (by kernel_rfl) rfl (fun h => by cases h)
theorem tok_27 : ∀ i : TI, some (⟨(.struct [(0, 3), (1, 9)]), (.cons (.int .i64) (.cons .str .nil)), 2, 24, true⟩ : TI) = some i → TIOk Go.Proofs.Tryd.prog 27 i := by
  intro i h; cases h
  exact TIOk.of Go.Proofs.Tryd.underlying27 rfl (by kernel_rfl) rfl (fun _ => eqOk_flat Go.Proofs.Tryd.underlying27 (by kernel_rfl) (by kernel_rfl) ⟨rfl, by decide, ⟨_, Go.Proofs.Tryd.underlying3⟩, ⟨rfl, by decide, Go.Proofs.Tryd.underlying9, trivial⟩⟩)
theorem tok_28 : ∀ i : TI, some (⟨(.struct [(0, 3), (1, 9)]), (.cons (.int .i64) (.cons .str .nil)), 2, 24, true⟩ : TI) = some i → TIOk Go.Proofs.Tryd.prog 28 i := by
  intro i h; cases h
  exact TIOk.of Go.Proofs.Tryd.underlying28 rfl (by kernel_rfl) rfl (fun _ => eqOk_flat Go.Proofs.Tryd.underlying28 (by kernel_rfl) (by kernel_rfl) ⟨rfl, by decide, ⟨_, Go.Proofs.Tryd.underlying3⟩, ⟨rfl, by decide, Go.Proofs.Tryd.underlying9, trivial⟩⟩)
theorem tok_35 : ∀ i : TI, some (⟨(.slice 59), (.slice (.cons (.int .i64) (.cons (.int .i64) (.cons .str .nil)))), 1, 24, false⟩ : TI) = some i → TIOk Go.Proofs.Tryd.prog 35 i := by
  intro i h; cases h
  exact TIOk.of Go.Proofs.Tryd.underlying35 (by first | rfl | trivial) (by kernel_rfl) rfl (fun h => by cases h)
theorem tok_36 : ∀ i : TI, some (⟨(.struct [(0, 35)]), (.cons (.slice (.cons (.int .i64) (.cons (.int .i64) (.cons .str .nil)))) .nil), 1, 24, false⟩ : TI) = some i → TIOk Go.Proofs.Tryd.prog 36 i := by
  intro i h; cases h
  exact TIOk.of Go.Proofs.Tryd.underlying36 (by first | rfl | trivial) (by kernel_rfl) rfl (fun h => by cases h)
theorem tok_37 : ∀ i : TI, some (⟨(.struct [(0, 35)]), (.cons (.slice (.cons (.int .i64) (.cons (.int .i64) (.cons .str .nil)))) .nil), 1, 24, false⟩ : TI) = some i → TIOk Go.Proofs.Tryd.prog 37 i := by
  intro i h; cases h
  exact TIOk.of Go.Proofs.Tryd.underlying37 (by first | rfl | trivial) (by kernel_rfl) rfl (fun h => by cases h)
theorem tok_48 : ∀ i : TI, some (⟨(.struct [(0, 22), (1, 3)]), (.cons (.slice (.int .u8)) (.cons (.int .i64) .nil)), 2, 32, false⟩ : TI) = some i → TIOk Go.Proofs.Tryd.prog 48 i := by
  intro i h; cases h
  exact TIOk.of Go.Proofs.Tryd.underlying48 (by first | rfl | trivial) (by kernel_rfl) rfl (fun h => by cases h)
theorem tok_49 : ∀ i : TI, some (⟨(.struct [(0, 22), (1, 3)]), (.cons (.slice (.int .u8)) (.cons (.int .i64) .nil)), 2, 32, false⟩ : TI) = some i → TIOk Go.Proofs.Tryd.prog 49 i := by
  intro i h; cases h
  exact TIOk.of Go.Proofs.Tryd.underlying49 (by first | rfl | trivial) (by kernel_rfl) rfl (fun h => by cases h)
theorem tok_54 : ∀ i : TI, some (⟨(.slice 9), (.slice .str), 1, 24, false⟩ : TI) = some i → TIOk Go.Proofs.Tryd.prog 54 i := by
  intro i h; cases h
  exact TIOk.of Go.Proofs.Tryd.underlying54 (by first | rfl | trivial) (by kernel_rfl) rfl (fun h => by cases h)
theorem tok_55 : ∀ i : TI, some (⟨(.struct [(0, 9), (1, 3)]), (.cons .str (.cons (.int .i64) .nil)), 2, 24, true⟩ : TI) = some i → TIOk Go.Proofs.Tryd.prog 55 i := by
  intro i h; cases h
  exact TIOk.of Go.Proofs.Tryd.underlying55 rfl (by kernel_rfl) rfl (fun _ => eqOk_flat Go.Proofs.Tryd.underlying55 (by kernel_rfl) (by kernel_rfl) ⟨rfl, by decide, Go.Proofs.Tryd.underlying9, ⟨rfl, by decide, ⟨_, Go.Proofs.Tryd.underlying3⟩, trivial⟩⟩)
theorem tok_56 : ∀ i : TI, some (⟨(.struct [(0, 9), (1, 3)]), (.cons .str (.cons (.int .i64) .nil)), 2, 24, true⟩ : TI) = some i → TIOk Go.Proofs.Tryd.prog 56 i := by
  intro i h; cases h
  exact TIOk.of Go.Proofs.Tryd.underlying56 rfl (by kernel_rfl) rfl (fun _ => eqOk_flat Go.Proofs.Tryd.underlying56 (by kernel_rfl) (by kernel_rfl) ⟨rfl, by decide, Go.Proofs.Tryd.underlying9, ⟨rfl, by decide, ⟨_, Go.Proofs.Tryd.underlying3⟩, trivial⟩⟩)
theorem tok_57 : ∀ i : TI, some (⟨(.slice 56), (.slice (.cons .str (.cons (.int .i64) .nil))), 1, 24, false⟩ : TI) = some i → TIOk Go.Proofs.Tryd.prog 57 i := by
  intro i h; cases h
  exact TIOk.of Go.Proofs.Tryd.underlying57 (by first | rfl | trivial) (by kernel_rfl) rfl (fun h => by cases h)
theorem tok_58 : ∀ i : TI, some (⟨(.struct [(0, 3), (1, 3), (2, 9)]), (.cons (.int .i64) (.cons (.int .i64) (.cons .str .nil))), 3, 32, true⟩ : TI) = some i → TIOk Go.Proofs.Tryd.prog 58 i := by
  intro i h; cases h
  exact TIOk.of Go.Proofs.Tryd.underlying58 rfl (by kernel_rfl) rfl (fun _ => eqOk_flat Go.Proofs.Tryd.underlying58 (by kernel_rfl) (by kernel_rfl) ⟨rfl, by decide, ⟨_, Go.Proofs.Tryd.underlying3⟩, ⟨rfl, by decide, ⟨_, Go.Proofs.Tryd.underlying3⟩, ⟨rfl, by decide, Go.Proofs.Tryd.underlying9, trivial⟩⟩⟩)
theorem tok_59 : ∀ i : TI, some (⟨(.struct [(0, 3), (1, 3), (2, 9)]), (.cons (.int .i64) (.cons (.int .i64) (.cons .str .nil))), 3, 32, true⟩ : TI) = some i → TIOk Go.Proofs.Tryd.prog 59 i := by
  intro i h; cases h
  exact TIOk.of Go.Proofs.Tryd.underlying59 rfl (by kernel_rfl) rfl (fun _ => eqOk_flat Go.Proofs.Tryd.underlying59 (by kernel_rfl) (by kernel_rfl) ⟨rfl, by decide, ⟨_, Go.Proofs.Tryd.underlying3⟩, ⟨rfl, by decide, ⟨_, Go.Proofs.Tryd.underlying3⟩, ⟨rfl, by decide, Go.Proofs.Tryd.underlying9, trivial⟩⟩⟩)
theorem tok_66 : ∀ i : TI, some (⟨(.slice 3), (.slice (.int .i64)), 1, 24, false⟩ : TI) = some i → TIOk Go.Proofs.Tryd.prog 66 i := by
  intro i h; cases h
  exact TIOk.of Go.Proofs.Tryd.underlying66 (by first | rfl | trivial) (by kernel_rfl) rfl (fun h => by cases h)
theorem tok_73 : ∀ i : TI, some (⟨.err, .err, 1, 16, false⟩ : TI) = some i → TIOk Go.Proofs.Tryd.prog 73 i := by
  intro i h; cases h
  exact TIOk.of Go.Proofs.Tryd.underlying73 (by first | rfl | trivial) (by kernel_rfl) rfl (fun h => by cases h)
theorem tok_77 : ∀ i : TI, some (⟨(.int .u64), (.int .u64), 1, 8, false⟩ : TI) = some i → TIOk Go.Proofs.Tryd.prog 77 i := by
  intro i h; cases h
  exact TIOk.of Go.Proofs.Tryd.underlying77 (by first | rfl | trivial) (by kernel_rfl) rfl (fun h => by cases h)
theorem tok_79 : ∀ i : TI, some (⟨(.int .u32), (.int .u32), 1, 4, false⟩ : TI) = some i → TIOk Go.Proofs.Tryd.prog 79 i := by
  intro i h; cases h
  exact TIOk.of Go.Proofs.Tryd.underlying79 (by first | rfl | trivial) (by kernel_rfl) rfl (fun h => by cases h)
theorem tok_82 : ∀ i : TI, some (⟨(.int .i64), (.int .i64), 1, 8, false⟩ : TI) = some i → TIOk Go.Proofs.Tryd.prog 82 i := by
  intro i h; cases h
  exact TIOk.of Go.Proofs.Tryd.underlying82 (by first | rfl | trivial) (by kernel_rfl) rfl (fun h => by cases h)
theorem tok_88 : ∀ i : TI, some (⟨(.int .u64), (.int .u64), 1, 8, false⟩ : TI) = some i → TIOk Go.Proofs.Tryd.prog 88 i := by
  intro i h; cases h
  exact TIOk.of Go.Proofs.Tryd.underlying88 (by first | rfl | trivial) (by kernel_rfl) rfl (fun h => by cases h)
theorem tok_91 : ∀ i : TI, some (⟨(.struct [(0, 9), (1, 9), (2, 73)]), (.cons .str (.cons .str (.cons .err .nil))), 3, 48, false⟩ : TI) = some i → TIOk Go.Proofs.Tryd.prog 91 i := by
  intro i h; cases h
  exact TIOk.of Go.Proofs.Tryd.underlying91 (by first | rfl | trivial) (by kernel_rfl) rfl (fun h => by cases h)
theorem tok_92 : ∀ i : TI, some (⟨(.struct [(0, 9), (1, 9), (2, 73)]), (.cons .str (.cons .str (.cons .err .nil))), 3, 48, false⟩ : TI) = some i → TIOk Go.Proofs.Tryd.prog 92 i := by
  intro i h; cases h
  exact TIOk.of Go.Proofs.Tryd.underlying92 (by first | rfl | trivial) (by kernel_rfl) rfl (fun h => by cases h)
theorem tok_98 : ∀ i : TI, some (⟨(.struct [(0, 9)]), (.cons .str .nil), 1, 16, true⟩ : TI) = some i → TIOk Go.Proofs.Tryd.prog 98 i := by
  intro i h; cases h
  exact TIOk.of Go.Proofs.Tryd.underlying98 rfl (by kernel_rfl) rfl (fun _ => eqOk_flat Go.Proofs.Tryd.underlying98 (by kernel_rfl) (by kernel_rfl) ⟨rfl, by decide, Go.Proofs.Tryd.underlying9, trivial⟩)
theorem tok_99 : ∀ i : TI, some (⟨(.struct [(0, 9)]), (.cons .str .nil), 1, 16, true⟩ : TI) = some i → TIOk Go.Proofs.Tryd.prog 99 i := by
  intro i h; cases h
  exact TIOk.of Go.Proofs.Tryd.underlying99 rfl (by kernel_rfl) rfl (fun _ => eqOk_flat Go.Proofs.Tryd.underlying99 (by kernel_rfl) (by kernel_rfl) ⟨rfl, by decide, Go.Proofs.Tryd.underlying9, trivial⟩)
theorem tok_101 : ∀ i : TI, some (⟨(.array 24 5), (.cons (.int .u8) (.cons (.int .u8) (.cons (.int .u8) (.cons (.int .u8) (.cons (.int .u8) (.cons (.int .u8) (.cons (.int .u8) (.cons (.int .u8) (.cons (.int .u8) (.cons (.int .u8) (.cons (.int .u8) (.cons (.int .u8) (.cons (.int .u8) (.cons (.int .u8) (.cons (.int .u8) (.cons (.int .u8) (.cons (.int .u8) (.cons (.int .u8) (.cons (.int .u8) (.cons (.int .u8) (.cons (.int .u8) (.cons (.int .u8) (.cons (.int .u8) (.cons (.int .u8) .nil)))))))))))))))))))))))), 24, 24, false⟩ : TI) = some i → TIOk Go.Proofs.Tryd.prog 101 i := by
  intro i h; cases h
  exact TIOk.of Go.Proofs.Tryd.underlying101 (by first | rfl | trivial) (by kernel_rfl) rfl (fun h => by cases h)
theorem tok_107 : ∀ i : TI, some (⟨(.array 20 88), (.cons (.int .u64) (.cons (.int .u64) (.cons (.int .u64) (.cons (.int .u64) (.cons (.int .u64) (.cons (.int .u64) (.cons (.int .u64) (.cons (.int .u64) (.cons (.int .u64) (.cons (.int .u64) (.cons (.int .u64) (.cons (.int .u64) (.cons (.int .u64) (.cons (.int .u64) (.cons (.int .u64) (.cons (.int .u64) (.cons (.int .u64) (.cons (.int .u64) (.cons (.int .u64) (.cons (.int .u64) .nil)))))))))))))))))))), 20, 160, false⟩ : TI) = some i → TIOk Go.Proofs.Tryd.prog 107 i := by
  intro i h; cases h
  exact TIOk.of Go.Proofs.Tryd.underlying107 (by first | rfl | trivial) (by kernel_rfl) rfl (fun h => by cases h)
theorem tok_112 : ∀ i : TI, some (⟨(.array 32 5), (.cons (.int .u8) (.cons (.int .u8) (.cons (.int .u8) (.cons (.int .u8) (.cons (.int .u8) (.cons (.int .u8) (.cons (.int .u8) (.cons (.int .u8) (.cons (.int .u8) (.cons (.int .u8) (.cons (.int .u8) (.cons (.int .u8) (.cons (.int .u8) (.cons (.int .u8) (.cons (.int .u8) (.cons (.int .u8) (.cons (.int .u8) (.cons (.int .u8) (.cons (.int .u8) (.cons (.int .u8) (.cons (.int .u8) (.cons (.int .u8) (.cons (.int .u8) (.cons (.int .u8) (.cons (.int .u8) (.cons (.int .u8) (.cons (.int .u8) (.cons (.int .u8) (.cons (.int .u8) (.cons (.int .u8) (.cons (.int .u8) (.cons (.int .u8) .nil)))))))))))))))))))))))))))))))), 32, 32, false⟩ : TI) = some i → TIOk Go.Proofs.Tryd.prog 112 i := by
  intro i h; cases h
  exact TIOk.of Go.Proofs.Tryd.underlying112 (by first | rfl | trivial) (by kernel_rfl) rfl (fun h => by cases h)
theorem tok_113 : ∀ i : TI, some (⟨(.array 64 5), (.cons (.int .u8) (.cons (.int .u8) (.cons (.int .u8) (.cons (.int .u8) (.cons (.int .u8) (.cons (.int .u8) (.cons (.int .u8) (.cons (.int .u8) (.cons (.int .u8) (.cons (.int .u8) (.cons (.int .u8) (.cons (.int .u8) (.cons (.int .u8) (.cons (.int .u8) (.cons (.int .u8) (.cons (.int .u8) (.cons (.int .u8) (.cons (.int .u8) (.cons (.int .u8) (.cons (.int .u8) (.cons (.int .u8) (.cons (.int .u8) (.cons (.int .u8) (.cons (.int .u8) (.cons (.int .u8) (.cons (.int .u8) (.cons (.int .u8) (.cons (.int .u8) (.cons (.int .u8) (.cons (.int .u8) (.cons (.int .u8) (.cons (.int .u8) (.cons (.int .u8) (.cons (.int .u8) (.cons (.int .u8) (.cons (.int .u8) (.cons (.int .u8) (.cons (.int .u8) (.cons (.int .u8) (.cons (.int .u8) (.cons (.int .u8) (.cons (.int .u8) (.cons (.int .u8) (.cons (.int .u8) (.cons (.int .u8) (.cons (.int .u8) (.cons (.int .u8) (.cons (.int .u8) (.cons (.int .u8) (.cons (.int .u8) (.cons (.int .u8) (.cons (.int .u8) (.cons (.int .u8) (.cons (.int .u8) (.cons (.int .u8) (.cons (.int .u8) (.cons (.int .u8) (.cons (.int .u8) (.cons (.int .u8) (.cons (.int .u8) (.cons (.int .u8) (.cons (.int .u8) (.cons (.int .u8) (.cons (.int .u8) .nil)))))))))))))))))))))))))))))))))))))))))))))))))))))))))))))))), 64, 64, false⟩ : TI) = some i → TIOk Go.Proofs.Tryd.prog 113 i := by
  intro i h; cases h
  exact TIOk.of Go.Proofs.Tryd.underlying113 (by first | rfl | trivial) (by kernel_rfl) rfl (fun h => by cases h)
theorem tok_120 : ∀ i : TI, some (⟨(.int .u8), (.int .u8), 1, 1, false⟩ : TI) = some i → TIOk Go.Proofs.Tryd.prog 120 i := by
  intro i h; cases h
  exact TIOk.of Go.Proofs.Tryd.underlying120 (by first | rfl | trivial) (by kernel_rfl) rfl (fun h => by cases h)
theorem tok_121 : ∀ i : TI, some (⟨(.int .u8), (.int .u8), 1, 1, false⟩ : TI) = some i → TIOk Go.Proofs.Tryd.prog 121 i := by
  intro i h; cases h
  exact TIOk.of Go.Proofs.Tryd.underlying121 (by first | rfl | trivial) (by kernel_rfl) rfl (fun h => by cases h)
theorem tok_123 : ∀ i : TI, some (⟨(.int .i32), (.int .i32), 1, 4, false⟩ : TI) = some i → TIOk Go.Proofs.Tryd.prog 123 i := by
  intro i h; cases h
  exact TIOk.of Go.Proofs.Tryd.underlying123 (by first | rfl | trivial) (by kernel_rfl) rfl (fun h => by cases h)
theorem tok_124 : ∀ i : TI, some (⟨(.int .i32), (.int .i32), 1, 4, false⟩ : TI) = some i → TIOk Go.Proofs.Tryd.prog 124 i := by
  intro i h; cases h
  exact TIOk.of Go.Proofs.Tryd.underlying124 (by first | rfl | trivial) (by kernel_rfl) rfl (fun h => by cases h)
theorem allT : AllT Go.Proofs.Tryd.prog T := ⟨tok_2, tok_3, tok_4, tok_5, tok_6, tok_7, tok_8, tok_9, tok_10, tok_11, tok_12, tok_13, tok_14, tok_21, tok_22, tok_24, tok_27, tok_28, tok_35, tok_36, tok_37, tok_48, tok_49, tok_54, tok_55, tok_56, tok_57, tok_58, tok_59, tok_66, tok_73, tok_77, tok_79, tok_82, tok_88, tok_91, tok_92, tok_98, tok_99, tok_101, tok_107, tok_112, tok_113, tok_120, tok_121, tok_123, tok_124, trivial⟩
theorem seat_T : TOk Go.Proofs.Tryd.prog T := fun t i h => allT.mem t i (look_mem h)
theorem fok_3 : ∀ fn : Func, some Go.Proofs.Tryd.f3 = some fn → FOk Go.Proofs.Tryd.prog 3 fn := by
  intro fn h; cases h; exact ⟨Go.Proofs.Tryd.func3, by kernel_rfl, by kernel_rfl⟩
theorem fok_4 : ∀ fn : Func, some Go.Proofs.Tryd.f4 = some fn → FOk Go.Proofs.Tryd.prog 4 fn := by
  intro fn h; cases h; exact ⟨Go.Proofs.Tryd.func4, by kernel_rfl, by kernel_rfl⟩
theorem fok_5 : ∀ fn : Func, some Go.Proofs.Tryd.f5 = some fn → FOk Go.Proofs.Tryd.prog 5 fn := by
  intro fn h; cases h; exact ⟨Go.Proofs.Tryd.func5, by kernel_rfl, by kernel_rfl⟩
theorem fok_6 : ∀ fn : Func, some Go.Proofs.Tryd.f6 = some fn → FOk Go.Proofs.Tryd.prog 6 fn := by
  intro fn h; cases h; exact ⟨Go.Proofs.Tryd.func6, by kernel_rfl, by kernel_rfl⟩
theorem fok_7 : ∀ fn : Func, some Go.Proofs.Tryd.f7 = some fn → FOk Go.Proofs.Tryd.prog 7 fn := by
  intro fn h; cases h; exact ⟨Go.Proofs.Tryd.func7, by kernel_rfl, by kernel_rfl⟩
theorem fok_8 : ∀ fn : Func, some Go.Proofs.Tryd.f8 = some fn → FOk Go.Proofs.Tryd.prog 8 fn := by
  intro fn h; cases h; exact ⟨Go.Proofs.Tryd.func8, by kernel_rfl, by kernel_rfl⟩
theorem fok_9 : ∀ fn : Func, some Go.Proofs.Tryd.f9 = some fn → FOk Go.Proofs.Tryd.prog 9 fn := by
  intro fn h; cases h; exact ⟨Go.Proofs.Tryd.func9, by kernel_rfl, by kernel_rfl⟩
theorem fok_10 : ∀ fn : Func, some Go.Proofs.Tryd.f10 = some fn → FOk Go.Proofs.Tryd.prog 10 fn := by
  intro fn h; cases h; exact ⟨Go.Proofs.Tryd.func10, by kernel_rfl, by kernel_rfl⟩
theorem fok_11 : ∀ fn : Func, some Go.Proofs.Tryd.f11 = some fn → FOk Go.Proofs.Tryd.prog 11 fn := by
  intro fn h; cases h; exact ⟨Go.Proofs.Tryd.func11, by kernel_rfl, by kernel_rfl⟩
theorem fok_12 : ∀ fn : Func, some Go.Proofs.Tryd.f12 = some fn → FOk Go.Proofs.Tryd.prog 12 fn := by
  intro fn h; cases h; exact ⟨Go.Proofs.Tryd.func12, by kernel_rfl, by kernel_rfl⟩
theorem fok_13 : ∀ fn : Func, some Go.Proofs.Tryd.f13 = some fn → FOk Go.Proofs.Tryd.prog 13 fn := by
  intro fn h; cases h; exact ⟨Go.Proofs.Tryd.func13, by kernel_rfl, by kernel_rfl⟩
theorem fok_14 : ∀ fn : Func, some Go.Proofs.Tryd.f14 = some fn → FOk Go.Proofs.Tryd.prog 14 fn := by
  intro fn h; cases h; exact ⟨Go.Proofs.Tryd.func14, by kernel_rfl, by kernel_rfl⟩
theorem fok_15 : ∀ fn : Func, some Go.Proofs.Tryd.f15 = some fn → FOk Go.Proofs.Tryd.prog 15 fn := by
  intro fn h; cases h; exact ⟨Go.Proofs.Tryd.func15, by kernel_rfl, by kernel_rfl⟩
theorem fok_16 : ∀ fn : Func, some Go.Proofs.Tryd.f16 = some fn → FOk Go.Proofs.Tryd.prog 16 fn := by
  intro fn h; cases h; exact ⟨Go.Proofs.Tryd.func16, by kernel_rfl, by kernel_rfl⟩
theorem fok_17 : ∀ fn : Func, some Go.Proofs.Tryd.f17 = some fn → FOk Go.Proofs.Tryd.prog 17 fn := by
  intro fn h; cases h; exact ⟨Go.Proofs.Tryd.func17, by kernel_rfl, by kernel_rfl⟩
theorem fok_18 : ∀ fn : Func, some Go.Proofs.Tryd.f18 = some fn → FOk Go.Proofs.Tryd.prog 18 fn := by
  intro fn h; cases h; exact ⟨Go.Proofs.Tryd.func18, by kernel_rfl, by kernel_rfl⟩
theorem fok_19 : ∀ fn : Func, some Go.Proofs.Tryd.f19 = some fn → FOk Go.Proofs.Tryd.prog 19 fn := by
  intro fn h; cases h; exact ⟨Go.Proofs.Tryd.func19, by kernel_rfl, by kernel_rfl⟩
theorem fok_20 : ∀ fn : Func, some Go.Proofs.Tryd.f20 = some fn → FOk Go.Proofs.Tryd.prog 20 fn := by
  intro fn h; cases h; exact ⟨Go.Proofs.Tryd.func20, by kernel_rfl, by kernel_rfl⟩
theorem fok_21 : ∀ fn : Func, some Go.Proofs.Tryd.f21 = some fn → FOk Go.Proofs.Tryd.prog 21 fn := by
  intro fn h; cases h; exact ⟨Go.Proofs.Tryd.func21, by kernel_rfl, by kernel_rfl⟩
theorem fok_22 : ∀ fn : Func, some Go.Proofs.Tryd.f22 = some fn → FOk Go.Proofs.Tryd.prog 22 fn := by
  intro fn h; cases h; exact ⟨Go.Proofs.Tryd.func22, by kernel_rfl, by kernel_rfl⟩
theorem fok_23 : ∀ fn : Func, some Go.Proofs.Tryd.f23 = some fn → FOk Go.Proofs.Tryd.prog 23 fn := by
  intro fn h; cases h; exact ⟨Go.Proofs.Tryd.func23, by kernel_rfl, by kernel_rfl⟩
theorem fok_24 : ∀ fn : Func, some Go.Proofs.Tryd.f24 = some fn → FOk Go.Proofs.Tryd.prog 24 fn := by
  intro fn h; cases h; exact ⟨Go.Proofs.Tryd.func24, by kernel_rfl, by kernel_rfl⟩
theorem fok_25 : ∀ fn : Func, some Go.Proofs.Tryd.f25 = some fn → FOk Go.Proofs.Tryd.prog 25 fn := by
  intro fn h; cases h; exact ⟨Go.Proofs.Tryd.func25, by kernel_rfl, by kernel_rfl⟩
theorem fok_26 : ∀ fn : Func, some Go.Proofs.Tryd.f26 = some fn → FOk Go.Proofs.Tryd.prog 26 fn := by
  intro fn h; cases h; exact ⟨Go.Proofs.Tryd.func26, by kernel_rfl, by kernel_rfl⟩
theorem fok_27 : ∀ fn : Func, some Go.Proofs.Tryd.f27 = some fn → FOk Go.Proofs.Tryd.prog 27 fn := by
  intro fn h; cases h; exact ⟨Go.Proofs.Tryd.func27, by kernel_rfl, by kernel_rfl⟩
theorem fok_28 : ∀ fn : Func, some Go.Proofs.Tryd.f28 = some fn → FOk Go.Proofs.Tryd.prog 28 fn := by
  intro fn h; cases h; exact ⟨Go.Proofs.Tryd.func28, by kernel_rfl, by kernel_rfl⟩
theorem fok_29 : ∀ fn : Func, some Go.Proofs.Tryd.f29 = some fn → FOk Go.Proofs.Tryd.prog 29 fn := by
  intro fn h; cases h; exact ⟨Go.Proofs.Tryd.func29, by kernel_rfl, by kernel_rfl⟩
theorem fok_30 : ∀ fn : Func, some Go.Proofs.Tryd.f30 = some fn → FOk Go.Proofs.Tryd.prog 30 fn := by
  intro fn h; cases h; exact ⟨Go.Proofs.Tryd.func30, by kernel_rfl, by kernel_rfl⟩
theorem fok_31 : ∀ fn : Func, some Go.Proofs.Tryd.f31 = some fn → FOk Go.Proofs.Tryd.prog 31 fn := by
  intro fn h; cases h; exact ⟨Go.Proofs.Tryd.func31, by kernel_rfl, by kernel_rfl⟩
theorem fok_32 : ∀ fn : Func, some Go.Proofs.Tryd.f32 = some fn → FOk Go.Proofs.Tryd.prog 32 fn := by
  intro fn h; cases h; exact ⟨Go.Proofs.Tryd.func32, by kernel_rfl, by kernel_rfl⟩
theorem fok_33 : ∀ fn : Func, some Go.Proofs.Tryd.f33 = some fn → FOk Go.Proofs.Tryd.prog 33 fn := by
  intro fn h; cases h; exact ⟨Go.Proofs.Tryd.func33, by kernel_rfl, by kernel_rfl⟩
theorem fok_34 : ∀ fn : Func, some Go.Proofs.Tryd.f34 = some fn → FOk Go.Proofs.Tryd.prog 34 fn := by
  intro fn h; cases h; exact ⟨Go.Proofs.Tryd.func34, by kernel_rfl, by kernel_rfl⟩
theorem fok_35 : ∀ fn : Func, some Go.Proofs.Tryd.f35 = some fn → FOk Go.Proofs.Tryd.prog 35 fn := by
  intro fn h; cases h; exact ⟨Go.Proofs.Tryd.func35, by kernel_rfl, by kernel_rfl⟩
theorem fok_36 : ∀ fn : Func, some Go.Proofs.Tryd.f36 = some fn → FOk Go.Proofs.Tryd.prog 36 fn := by
  intro fn h; cases h; exact ⟨Go.Proofs.Tryd.func36, by kernel_rfl, by kernel_rfl⟩
theorem fok_37 : ∀ fn : Func, some Go.Proofs.Tryd.f37 = some fn → FOk Go.Proofs.Tryd.prog 37 fn := by
  intro fn h; cases h; exact ⟨Go.Proofs.Tryd.func37, by kernel_rfl, by kernel_rfl⟩
theorem fok_38 : ∀ fn : Func, some Go.Proofs.Tryd.f38 = some fn → FOk Go.Proofs.Tryd.prog 38 fn := by
  intro fn h; cases h; exact ⟨Go.Proofs.Tryd.func38, by kernel_rfl, by kernel_rfl⟩
theorem fok_39 : ∀ fn : Func, some Go.Proofs.Tryd.f39 = some fn → FOk Go.Proofs.Tryd.prog 39 fn := by
  intro fn h; cases h; exact ⟨Go.Proofs.Tryd.func39, by kernel_rfl, by kernel_rfl⟩
theorem fok_40 : ∀ fn : Func, some Go.Proofs.Tryd.f40 = some fn → FOk Go.Proofs.Tryd.prog 40 fn := by
  intro fn h; cases h; exact ⟨Go.Proofs.Tryd.func40, by kernel_rfl, by kernel_rfl⟩
theorem fok_41 : ∀ fn : Func, some Go.Proofs.Tryd.f41 = some fn → FOk Go.Proofs.Tryd.prog 41 fn := by
  intro fn h; cases h; exact ⟨Go.Proofs.Tryd.func41, by kernel_rfl, by kernel_rfl⟩
theorem fok_42 : ∀ fn : Func, some Go.Proofs.Tryd.f42 = some fn → FOk Go.Proofs.Tryd.prog 42 fn := by
  intro fn h; cases h; exact ⟨Go.Proofs.Tryd.func42, by kernel_rfl, by kernel_rfl⟩
theorem fok_43 : ∀ fn : Func, some Go.Proofs.Tryd.f43 = some fn → FOk Go.Proofs.Tryd.prog 43 fn := by
  intro fn h; cases h; exact ⟨Go.Proofs.Tryd.func43, by kernel_rfl, by kernel_rfl⟩
theorem fok_44 : ∀ fn : Func, some Go.Proofs.Tryd.f44 = some fn → FOk Go.Proofs.Tryd.prog 44 fn := by
  intro fn h; cases h; exact ⟨Go.Proofs.Tryd.func44, by kernel_rfl, by kernel_rfl⟩
theorem fok_45 : ∀ fn : Func, some Go.Proofs.Tryd.f45 = some fn → FOk Go.Proofs.Tryd.prog 45 fn := by
  intro fn h; cases h; exact ⟨Go.Proofs.Tryd.func45, by kernel_rfl, by kernel_rfl⟩
theorem fok_47 : ∀ fn : Func, some Go.Proofs.Tryd.f47 = some fn → FOk Go.Proofs.Tryd.prog 47 fn := by
  intro fn h; cases h; exact ⟨Go.Proofs.Tryd.func47, by kernel_rfl, by kernel_rfl⟩
theorem fok_49 : ∀ fn : Func, some Go.Proofs.Tryd.f49 = some fn → FOk Go.Proofs.Tryd.prog 49 fn := by
  intro fn h; cases h; exact ⟨Go.Proofs.Tryd.func49, by kernel_rfl, by kernel_rfl⟩
theorem fok_50 : ∀ fn : Func, some Go.Proofs.Tryd.f50 = some fn → FOk Go.Proofs.Tryd.prog 50 fn := by
  intro fn h; cases h; exact ⟨Go.Proofs.Tryd.func50, by kernel_rfl, by kernel_rfl⟩
theorem fok_51 : ∀ fn : Func, some Go.Proofs.Tryd.f51 = some fn → FOk Go.Proofs.Tryd.prog 51 fn := by
  intro fn h; cases h; exact ⟨Go.Proofs.Tryd.func51, by kernel_rfl, by kernel_rfl⟩
theorem fok_53 : ∀ fn : Func, some Go.Proofs.Tryd.f53 = some fn → FOk Go.Proofs.Tryd.prog 53 fn := by
  intro fn h; cases h; exact ⟨Go.Proofs.Tryd.func53, by kernel_rfl, by kernel_rfl⟩
theorem fok_54 : ∀ fn : Func, some Go.Proofs.Tryd.f54 = some fn → FOk Go.Proofs.Tryd.prog 54 fn := by
  intro fn h; cases h; exact ⟨Go.Proofs.Tryd.func54, by kernel_rfl, by kernel_rfl⟩
theorem fok_59 : ∀ fn : Func, some Go.Proofs.Tryd.f59 = some fn → FOk Go.Proofs.Tryd.prog 59 fn := by
  intro fn h; cases h; exact ⟨Go.Proofs.Tryd.func59, by kernel_rfl, by kernel_rfl⟩
theorem fok_62 : ∀ fn : Func, some Go.Proofs.Tryd.f62 = some fn → FOk Go.Proofs.Tryd.prog 62 fn := by
  intro fn h; cases h; exact ⟨Go.Proofs.Tryd.func62, by kernel_rfl, by kernel_rfl⟩
theorem allF : AllF Go.Proofs.Tryd.prog F := ⟨fok_3, fok_4, fok_5, fok_6, fok_7, fok_8, fok_9, fok_10, fok_11, fok_12, fok_13, fok_14, fok_15, fok_16, fok_17, fok_18, fok_19, fok_20, fok_21, fok_22, fok_23, fok_24, fok_25, fok_26, fok_27, fok_28, fok_29, fok_30, fok_31, fok_32, fok_33, fok_34, fok_35, fok_36, fok_37, fok_38, fok_39, fok_40, fok_41, fok_42, fok_43, fok_44, fok_45, fok_47, fok_49, fok_50, fok_51, fok_53, fok_54, fok_59, fok_62, trivial⟩
theorem seat_F : ∀ f fn, look F f = some fn → FOk Go.Proofs.Tryd.prog f fn := fun t i h => allF.mem t i (look_mem h)
end Go.Px.Seat
