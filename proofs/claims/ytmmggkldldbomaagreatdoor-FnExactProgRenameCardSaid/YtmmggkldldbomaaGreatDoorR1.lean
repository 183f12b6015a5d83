/- The tables tell the program. Printed by mkok.py. -/
import Derived.Test.YtmmggkldldbomaaGreatDoorS3
import Derived.Test.YtmmggkldldbomaaGreatDoorA5
import Derived.KernelRfl
set_option linter.unusedVariables false
namespace Go.Px.Seat
open Go
set_option maxRecDepth 100000
theorem aD.of {P : Program} {t : TypeId} {i : TI} {d : TypeDesc} (h1 : P.underlying t = some d) (h2 : dq i.d d) (h3 : (P.info? t).bind (fun j => j.zero.map fun z => (j.size, j.bytes, z.cells.toList)) = some (i.size, i.bytes, lU i.ty))
  (h4 : i.ty.size = i.size) (h5 : i.NQ = true → NP P t i.ty) : aD P t i := by
 refine ⟨⟨d, h1, h2⟩, ?_, h4, h5⟩
 simp only [Option.bind_eq_some_iff, Option.map_eq_some_iff, Prod.mk.injEq] at h3
 obtain ⟨j, hj, z, hz, e1, e2, e3⟩ := h3
 exact ⟨j, hj, e1, e2, z, hz, e3⟩
def ES (P : Program) : Types → Prop
 | [] => True
 | p :: l => (∀ i, p.2 = some i → aD P p.1 i) ∧ ES P l
theorem ES.mem {P : Program} : ∀ {l : Types}, ES P l → ∀ t i, (t, some i) ∈ l → aD P t i
 | _ :: _, h, t, i, hm => by
  rcases List.mem_cons.1 hm with rfl | hm
  ·exact h.1 i rfl
  ·exact ES.mem h.2 t i hm
def cT (P : Program) (f : Nat) (fn : Func) : Prop := P.funcs[f]? = some fn ∧ fn.body.isNone = false ∧ (fn.name == "runtime.NumGoroutine") = false
def KL (P : Program) : AT → Prop
 | [] => True
 | p :: l => (∀ fn, p.2 = some fn → cT P p.1 fn) ∧ KL P l
theorem KL.mem {P : Program} : ∀ {l : AT}, KL P l → ∀ t i, (t, some i) ∈ l → cT P t i
 | _ :: _, h, t, i, hm => by
  rcases List.mem_cons.1 hm with rfl | hm
  ·exact h.1 i rfl
  ·exact KL.mem h.2 t i hm
theorem Ho : ∀ i : TI, some (⟨(.int .i64), (.int .i64), 1, 8, false⟩ : TI) = some i → aD Go.Proofs.Tryz.prog 2 i := by
 intro i h; cases h
 exact aD.of Go.Proofs.Tryz.underlying2 (by first | rfl | trivial) (by kernel_rfl) rfl (fun h => by cases h)
theorem Hp : ∀ i : TI, some (⟨(.int .i64), (.int .i64), 1, 8, false⟩ : TI) = some i → aD Go.Proofs.Tryz.prog 3 i := by
 intro i h; cases h
 exact aD.of Go.Proofs.Tryz.underlying3 (by first | rfl | trivial) (by kernel_rfl) rfl (fun h => by cases h)
theorem Hr : ∀ i : TI, some (⟨.bool, .bool, 1, 1, false⟩ : TI) = some i → aD Go.Proofs.Tryz.prog 4 i := by
 intro i h; cases h
 exact aD.of Go.Proofs.Tryz.underlying4 (by first | rfl | trivial) (by kernel_rfl) rfl (fun h => by cases h)
theorem Hs : ∀ i : TI, some (⟨(.int .u8), (.int .u8), 1, 1, false⟩ : TI) = some i → aD Go.Proofs.Tryz.prog 5 i := by
 intro i h; cases h
 exact aD.of Go.Proofs.Tryz.underlying5 (by first | rfl | trivial) (by kernel_rfl) rfl (fun h => by cases h)
theorem Ht : ∀ i : TI, some (⟨(.int .u8), (.int .u8), 1, 1, false⟩ : TI) = some i → aD Go.Proofs.Tryz.prog 6 i := by
 intro i h; cases h
 exact aD.of Go.Proofs.Tryz.underlying6 (by first | rfl | trivial) (by kernel_rfl) rfl (fun h => by cases h)
theorem Hu : ∀ i : TI, some (⟨(.struct [(0, 2), (1, 3), (2, 4), (3, 6)]), (.cons (.int .i64) (.cons (.int .i64) (.cons .bool (.cons (.int .u8) .nil)))), 4, 24, false⟩ : TI) = some i → aD Go.Proofs.Tryz.prog 7 i := by
 intro i h; cases h
 exact aD.of Go.Proofs.Tryz.underlying7 (by first | rfl | trivial) (by kernel_rfl) rfl (fun h => by cases h)
theorem Hv : ∀ i : TI, some (⟨(.struct [(0, 2), (1, 3), (2, 4), (3, 6)]), (.cons (.int .i64) (.cons (.int .i64) (.cons .bool (.cons (.int .u8) .nil)))), 4, 24, false⟩ : TI) = some i → aD Go.Proofs.Tryz.prog 8 i := by
 intro i h; cases h
 exact aD.of Go.Proofs.Tryz.underlying8 (by first | rfl | trivial) (by kernel_rfl) rfl (fun h => by cases h)
theorem Hw : ∀ i : TI, some (⟨.string, .str, 1, 16, false⟩ : TI) = some i → aD Go.Proofs.Tryz.prog 9 i := by
 intro i h; cases h
 exact aD.of Go.Proofs.Tryz.underlying9 (by first | rfl | trivial) (by kernel_rfl) rfl (fun h => by cases h)
theorem CV : ∀ i : TI, some (⟨.string, .str, 1, 16, false⟩ : TI) = some i → aD Go.Proofs.Tryz.prog 10 i := by
 intro i h; cases h
 exact aD.of Go.Proofs.Tryz.underlying10 (by first | rfl | trivial) (by kernel_rfl) rfl (fun h => by cases h)
theorem CW : ∀ i : TI, some (⟨.string, .str, 1, 16, false⟩ : TI) = some i → aD Go.Proofs.Tryz.prog 11 i := by
 intro i h; cases h
 exact aD.of Go.Proofs.Tryz.underlying11 (by first | rfl | trivial) (by kernel_rfl) rfl (fun h => by cases h)
theorem CX : ∀ i : TI, some (⟨(.int .u64), (.int .u64), 1, 8, false⟩ : TI) = some i → aD Go.Proofs.Tryz.prog 12 i := by
 intro i h; cases h
 exact aD.of Go.Proofs.Tryz.underlying12 (by first | rfl | trivial) (by kernel_rfl) rfl (fun h => by cases h)
theorem CY : ∀ i : TI, some (⟨(.struct [(0, 9), (1, 12)]), (.cons .str (.cons (.int .u64) .nil)), 2, 24, false⟩ : TI) = some i → aD Go.Proofs.Tryz.prog 13 i := by
 intro i h; cases h
 exact aD.of Go.Proofs.Tryz.underlying13 (by first | rfl | trivial) (by kernel_rfl) rfl (fun h => by cases h)
theorem CZ : ∀ i : TI, some (⟨(.struct [(0, 9), (1, 12)]), (.cons .str (.cons (.int .u64) .nil)), 2, 24, false⟩ : TI) = some i → aD Go.Proofs.Tryz.prog 14 i := by
 intro i h; cases h
 exact aD.of Go.Proofs.Tryz.underlying14 (by first | rfl | trivial) (by kernel_rfl) rfl (fun h => by cases h)
theorem C0 : ∀ i : TI, some (⟨(.int .i32), (.int .i32), 1, 4, false⟩ : TI) = some i → aD Go.Proofs.Tryz.prog 21 i := by
 intro i h; cases h
 exact aD.of Go.Proofs.Tryz.underlying21 (by first | rfl | trivial) (by kernel_rfl) rfl (fun h => by cases h)
theorem C3 : ∀ i : TI, some (⟨(.slice 5), (.slice (.int .u8)), 1, 24, false⟩ : TI) = some i → aD Go.Proofs.Tryz.prog 22 i := by
 intro i h; cases h
 exact aD.of Go.Proofs.Tryz.underlying22 (by first | rfl | trivial) (by kernel_rfl) rfl (fun h => by cases h)
theorem KM : ∀ i : TI, some (⟨(.slice 59), (.slice (.cons .str (.cons (.slice .str) (.cons (.cons (.slice (.cons (.int .i64) (.cons (.int .i64) (.cons .str .nil)))) .nil) .nil)))), 1, 24, false⟩ : TI) = some i → aD Go.Proofs.Tryz.prog 23 i := by
 intro i h; cases h
 exact aD.of Go.Proofs.Tryz.underlying23 (by first | rfl | trivial) (by kernel_rfl) rfl (fun h => by cases h)
theorem KN : ∀ i : TI, some (⟨(.slice 9), (.slice .str), 1, 24, false⟩ : TI) = some i → aD Go.Proofs.Tryz.prog 24 i := by
 intro i h; cases h
 exact aD.of Go.Proofs.Tryz.underlying24 (by first | rfl | trivial) (by kernel_rfl) rfl (fun h => by cases h)
theorem F7 : ∀ i : TI, some (⟨(.slice 57), (.slice (.cons (.int .i64) (.cons (.cons (.slice (.cons (.int .i64) (.cons (.int .i64) (.cons .str .nil)))) .nil) (.cons (.cons (.slice (.cons (.int .i64) (.cons (.int .i64) (.cons .str .nil)))) .nil) .nil)))), 1, 24, false⟩ : TI) = some i → aD Go.Proofs.Tryz.prog 25 i := by
 intro i h; cases h
 exact aD.of Go.Proofs.Tryz.underlying25 (by first | rfl | trivial) (by kernel_rfl) rfl (fun h => by cases h)
theorem KO : ∀ i : TI, some (⟨(.struct [(0, 23), (1, 24), (2, 25)]), (.cons (.slice (.cons .str (.cons (.slice .str) (.cons (.cons (.slice (.cons (.int .i64) (.cons (.int .i64) (.cons .str .nil)))) .nil) .nil)))) (.cons (.slice .str) (.cons (.slice (.cons (.int .i64) (.cons (.cons (.slice (.cons (.int .i64) (.cons (.int .i64) (.cons .str .nil)))) .nil) (.cons (.cons (.slice (.cons (.int .i64) (.cons (.int .i64) (.cons .str .nil)))) .nil) .nil)))) .nil))), 3, 72, false⟩ : TI) = some i → aD Go.Proofs.Tryz.prog 26 i := by
 intro i h; cases h
 exact aD.of Go.Proofs.Tryz.underlying26 (by first | rfl | trivial) (by kernel_rfl) rfl (fun h => by cases h)
theorem KP : ∀ i : TI, some (⟨(.struct [(0, 23), (1, 24), (2, 25)]), (.cons (.slice (.cons .str (.cons (.slice .str) (.cons (.cons (.slice (.cons (.int .i64) (.cons (.int .i64) (.cons .str .nil)))) .nil) .nil)))) (.cons (.slice .str) (.cons (.slice (.cons (.int .i64) (.cons (.cons (.slice (.cons (.int .i64) (.cons (.int .i64) (.cons .str .nil)))) .nil) (.cons (.cons (.slice (.cons (.int .i64) (.cons (.int .i64) (.cons .str .nil)))) .nil) .nil)))) .nil))), 3, 72, false⟩ : TI) = some i → aD Go.Proofs.Tryz.prog 27 i := by
 intro i h; cases h
 exact aD.of Go.Proofs.Tryz.underlying27 (by first | rfl | trivial) (by kernel_rfl) rfl (fun h => by cases h)
theorem C4 : ∀ i : TI, some (⟨(.slice 129), (.slice (.cons .str (.cons (.slice .str) (.cons (.cons (.slice (.cons (.int .i64) (.cons (.int .i64) (.cons .str .nil)))) .nil) .nil)))), 1, 24, false⟩ : TI) = some i → aD Go.Proofs.Tryz.prog 39 i := by
 intro i h; cases h
 exact aD.of Go.Proofs.Tryz.underlying39 (by first | rfl | trivial) (by kernel_rfl) rfl (fun h => by cases h)
theorem C5 : ∀ i : TI, some (⟨(.slice 132), (.slice (.cons (.int .i64) (.cons (.cons (.slice (.cons (.int .i64) (.cons (.int .i64) (.cons .str .nil)))) .nil) (.cons (.cons (.slice (.cons (.int .i64) (.cons (.int .i64) (.cons .str .nil)))) .nil) .nil)))), 1, 24, false⟩ : TI) = some i → aD Go.Proofs.Tryz.prog 40 i := by
 intro i h; cases h
 exact aD.of Go.Proofs.Tryz.underlying40 (by first | rfl | trivial) (by kernel_rfl) rfl (fun h => by cases h)
theorem KQ : ∀ i : TI, some (⟨(.struct [(0, 39), (1, 24), (2, 40)]), (.cons (.slice (.cons .str (.cons (.slice .str) (.cons (.cons (.slice (.cons (.int .i64) (.cons (.int .i64) (.cons .str .nil)))) .nil) .nil)))) (.cons (.slice .str) (.cons (.slice (.cons (.int .i64) (.cons (.cons (.slice (.cons (.int .i64) (.cons (.int .i64) (.cons .str .nil)))) .nil) (.cons (.cons (.slice (.cons (.int .i64) (.cons (.int .i64) (.cons .str .nil)))) .nil) .nil)))) .nil))), 3, 72, false⟩ : TI) = some i → aD Go.Proofs.Tryz.prog 41 i := by
 intro i h; cases h
 exact aD.of Go.Proofs.Tryz.underlying41 (by first | rfl | trivial) (by kernel_rfl) rfl (fun h => by cases h)
theorem C6 : ∀ i : TI, some (⟨(.struct [(0, 39), (1, 24), (2, 40)]), (.cons (.slice (.cons .str (.cons (.slice .str) (.cons (.cons (.slice (.cons (.int .i64) (.cons (.int .i64) (.cons .str .nil)))) .nil) .nil)))) (.cons (.slice .str) (.cons (.slice (.cons (.int .i64) (.cons (.cons (.slice (.cons (.int .i64) (.cons (.int .i64) (.cons .str .nil)))) .nil) (.cons (.cons (.slice (.cons (.int .i64) (.cons (.int .i64) (.cons .str .nil)))) .nil) .nil)))) .nil))), 3, 72, false⟩ : TI) = some i → aD Go.Proofs.Tryz.prog 42 i := by
 intro i h; cases h
 exact aD.of Go.Proofs.Tryz.underlying42 (by first | rfl | trivial) (by kernel_rfl) rfl (fun h => by cases h)
theorem F8 : ∀ i : TI, some (⟨(.slice 73), (.slice (.cons (.int .i64) (.cons (.int .i64) (.cons .str .nil)))), 1, 24, false⟩ : TI) = some i → aD Go.Proofs.Tryz.prog 53 i := by
 intro i h; cases h
 exact aD.of Go.Proofs.Tryz.underlying53 (by first | rfl | trivial) (by kernel_rfl) rfl (fun h => by cases h)
theorem F9 : ∀ i : TI, some (⟨(.struct [(0, 53)]), (.cons (.slice (.cons (.int .i64) (.cons (.int .i64) (.cons .str .nil)))) .nil), 1, 24, false⟩ : TI) = some i → aD Go.Proofs.Tryz.prog 54 i := by
 intro i h; cases h
 exact aD.of Go.Proofs.Tryz.underlying54 (by first | rfl | trivial) (by kernel_rfl) rfl (fun h => by cases h)
theorem Ga : ∀ i : TI, some (⟨(.struct [(0, 53)]), (.cons (.slice (.cons (.int .i64) (.cons (.int .i64) (.cons .str .nil)))) .nil), 1, 24, false⟩ : TI) = some i → aD Go.Proofs.Tryz.prog 55 i := by
 intro i h; cases h
 exact aD.of Go.Proofs.Tryz.underlying55 (by first | rfl | trivial) (by kernel_rfl) rfl (fun h => by cases h)
theorem Gb : ∀ i : TI, some (⟨(.struct [(0, 3), (1, 55), (2, 55)]), (.cons (.int .i64) (.cons (.cons (.slice (.cons (.int .i64) (.cons (.int .i64) (.cons .str .nil)))) .nil) (.cons (.cons (.slice (.cons (.int .i64) (.cons (.int .i64) (.cons .str .nil)))) .nil) .nil))), 3, 56, false⟩ : TI) = some i → aD Go.Proofs.Tryz.prog 56 i := by
 intro i h; cases h
 exact aD.of Go.Proofs.Tryz.underlying56 (by first | rfl | trivial) (by kernel_rfl) rfl (fun h => by cases h)
theorem Gc : ∀ i : TI, some (⟨(.struct [(0, 3), (1, 55), (2, 55)]), (.cons (.int .i64) (.cons (.cons (.slice (.cons (.int .i64) (.cons (.int .i64) (.cons .str .nil)))) .nil) (.cons (.cons (.slice (.cons (.int .i64) (.cons (.int .i64) (.cons .str .nil)))) .nil) .nil))), 3, 56, false⟩ : TI) = some i → aD Go.Proofs.Tryz.prog 57 i := by
 intro i h; cases h
 exact aD.of Go.Proofs.Tryz.underlying57 (by first | rfl | trivial) (by kernel_rfl) rfl (fun h => by cases h)
theorem KR : ∀ i : TI, some (⟨(.struct [(0, 9), (1, 24), (2, 55)]), (.cons .str (.cons (.slice .str) (.cons (.cons (.slice (.cons (.int .i64) (.cons (.int .i64) (.cons .str .nil)))) .nil) .nil))), 3, 64, false⟩ : TI) = some i → aD Go.Proofs.Tryz.prog 58 i := by
 intro i h; cases h
 exact aD.of Go.Proofs.Tryz.underlying58 (by first | rfl | trivial) (by kernel_rfl) rfl (fun h => by cases h)
theorem KS : ∀ i : TI, some (⟨(.struct [(0, 9), (1, 24), (2, 55)]), (.cons .str (.cons (.slice .str) (.cons (.cons (.slice (.cons (.int .i64) (.cons (.int .i64) (.cons .str .nil)))) .nil) .nil))), 3, 64, false⟩ : TI) = some i → aD Go.Proofs.Tryz.prog 59 i := by
 intro i h; cases h
 exact aD.of Go.Proofs.Tryz.underlying59 (by first | rfl | trivial) (by kernel_rfl) rfl (fun h => by cases h)
theorem KT : ∀ i : TI, some (⟨(.slice 53), (.slice (.slice (.cons (.int .i64) (.cons (.int .i64) (.cons .str .nil))))), 1, 24, false⟩ : TI) = some i → aD Go.Proofs.Tryz.prog 71 i := by
 intro i h; cases h
 exact aD.of Go.Proofs.Tryz.underlying71 (by first | rfl | trivial) (by kernel_rfl) rfl (fun h => by cases h)
theorem C7 : ∀ i : TI, some (⟨(.struct [(0, 3), (1, 3), (2, 9)]), (.cons (.int .i64) (.cons (.int .i64) (.cons .str .nil))), 3, 32, true⟩ : TI) = some i → aD Go.Proofs.Tryz.prog 72 i := by
 intro i h; cases h
 exact aD.of Go.Proofs.Tryz.underlying72 rfl (by kernel_rfl) rfl (fun _ => oc Go.Proofs.Tryz.underlying72 (by kernel_rfl) (by kernel_rfl) ⟨rfl, by decide, ⟨_, Go.Proofs.Tryz.underlying3⟩, ⟨rfl, by decide, ⟨_, Go.Proofs.Tryz.underlying3⟩, ⟨rfl, by decide, Go.Proofs.Tryz.underlying9, trivial⟩⟩⟩)
theorem C8 : ∀ i : TI, some (⟨(.struct [(0, 3), (1, 3), (2, 9)]), (.cons (.int .i64) (.cons (.int .i64) (.cons .str .nil))), 3, 32, true⟩ : TI) = some i → aD Go.Proofs.Tryz.prog 73 i := by
 intro i h; cases h
 exact aD.of Go.Proofs.Tryz.underlying73 rfl (by kernel_rfl) rfl (fun _ => oc Go.Proofs.Tryz.underlying73 (by kernel_rfl) (by kernel_rfl) ⟨rfl, by decide, ⟨_, Go.Proofs.Tryz.underlying3⟩, ⟨rfl, by decide, ⟨_, Go.Proofs.Tryz.underlying3⟩, ⟨rfl, by decide, Go.Proofs.Tryz.underlying9, trivial⟩⟩⟩)
theorem C9 : ∀ i : TI, some (⟨(.struct [(0, 22), (1, 3)]), (.cons (.slice (.int .u8)) (.cons (.int .i64) .nil)), 2, 32, false⟩ : TI) = some i → aD Go.Proofs.Tryz.prog 104 i := by
 intro i h; cases h
 exact aD.of Go.Proofs.Tryz.underlying104 (by first | rfl | trivial) (by kernel_rfl) rfl (fun h => by cases h)
theorem Da : ∀ i : TI, some (⟨(.struct [(0, 22), (1, 3)]), (.cons (.slice (.int .u8)) (.cons (.int .i64) .nil)), 2, 32, false⟩ : TI) = some i → aD Go.Proofs.Tryz.prog 105 i := by
 intro i h; cases h
 exact aD.of Go.Proofs.Tryz.underlying105 (by first | rfl | trivial) (by kernel_rfl) rfl (fun h => by cases h)
theorem Hy : ∀ i : TI, some (⟨(.slice 113), (.slice (.slice .bool)), 1, 24, false⟩ : TI) = some i → aD Go.Proofs.Tryz.prog 111 i := by
 intro i h; cases h
 exact aD.of Go.Proofs.Tryz.underlying111 (by first | rfl | trivial) (by kernel_rfl) rfl (fun h => by cases h)
theorem Hz : ∀ i : TI, some (⟨(.slice 4), (.slice .bool), 1, 24, false⟩ : TI) = some i → aD Go.Proofs.Tryz.prog 113 i := by
 intro i h; cases h
 exact aD.of Go.Proofs.Tryz.underlying113 (by first | rfl | trivial) (by kernel_rfl) rfl (fun h => by cases h)
theorem L9 : ∀ i : TI, some (⟨(.slice 24), (.slice (.slice .str)), 1, 24, false⟩ : TI) = some i → aD Go.Proofs.Tryz.prog 122 i := by
 intro i h; cases h
 exact aD.of Go.Proofs.Tryz.underlying122 (by first | rfl | trivial) (by kernel_rfl) rfl (fun h => by cases h)
theorem yd : ∀ i : TI, some (⟨(.slice 181), (.slice (.cons (.int .i64) (.cons (.int .i64) (.cons .str .nil)))), 1, 24, false⟩ : TI) = some i → aD Go.Proofs.Tryz.prog 125 i := by
 intro i h; cases h
 exact aD.of Go.Proofs.Tryz.underlying125 (by first | rfl | trivial) (by kernel_rfl) rfl (fun h => by cases h)
theorem ye : ∀ i : TI, some (⟨(.struct [(0, 125)]), (.cons (.slice (.cons (.int .i64) (.cons (.int .i64) (.cons .str .nil)))) .nil), 1, 24, false⟩ : TI) = some i → aD Go.Proofs.Tryz.prog 126 i := by
 intro i h; cases h
 exact aD.of Go.Proofs.Tryz.underlying126 (by first | rfl | trivial) (by kernel_rfl) rfl (fun h => by cases h)
theorem yf : ∀ i : TI, some (⟨(.struct [(0, 125)]), (.cons (.slice (.cons (.int .i64) (.cons (.int .i64) (.cons .str .nil)))) .nil), 1, 24, false⟩ : TI) = some i → aD Go.Proofs.Tryz.prog 127 i := by
 intro i h; cases h
 exact aD.of Go.Proofs.Tryz.underlying127 (by first | rfl | trivial) (by kernel_rfl) rfl (fun h => by cases h)
theorem HA : ∀ i : TI, some (⟨(.struct [(0, 9), (1, 24), (2, 127)]), (.cons .str (.cons (.slice .str) (.cons (.cons (.slice (.cons (.int .i64) (.cons (.int .i64) (.cons .str .nil)))) .nil) .nil))), 3, 64, false⟩ : TI) = some i → aD Go.Proofs.Tryz.prog 128 i := by
 intro i h; cases h
 exact aD.of Go.Proofs.Tryz.underlying128 (by first | rfl | trivial) (by kernel_rfl) rfl (fun h => by cases h)
theorem yg : ∀ i : TI, some (⟨(.struct [(0, 9), (1, 24), (2, 127)]), (.cons .str (.cons (.slice .str) (.cons (.cons (.slice (.cons (.int .i64) (.cons (.int .i64) (.cons .str .nil)))) .nil) .nil))), 3, 64, false⟩ : TI) = some i → aD Go.Proofs.Tryz.prog 129 i := by
 intro i h; cases h
 exact aD.of Go.Proofs.Tryz.underlying129 (by first | rfl | trivial) (by kernel_rfl) rfl (fun h => by cases h)
theorem yh : ∀ i : TI, some (⟨(.struct [(0, 3), (1, 127), (2, 127)]), (.cons (.int .i64) (.cons (.cons (.slice (.cons (.int .i64) (.cons (.int .i64) (.cons .str .nil)))) .nil) (.cons (.cons (.slice (.cons (.int .i64) (.cons (.int .i64) (.cons .str .nil)))) .nil) .nil))), 3, 56, false⟩ : TI) = some i → aD Go.Proofs.Tryz.prog 131 i := by
 intro i h; cases h
 exact aD.of Go.Proofs.Tryz.underlying131 (by first | rfl | trivial) (by kernel_rfl) rfl (fun h => by cases h)
theorem yj : ∀ i : TI, some (⟨(.struct [(0, 3), (1, 127), (2, 127)]), (.cons (.int .i64) (.cons (.cons (.slice (.cons (.int .i64) (.cons (.int .i64) (.cons .str .nil)))) .nil) (.cons (.cons (.slice (.cons (.int .i64) (.cons (.int .i64) (.cons .str .nil)))) .nil) .nil))), 3, 56, false⟩ : TI) = some i → aD Go.Proofs.Tryz.prog 132 i := by
 intro i h; cases h
 exact aD.of Go.Proofs.Tryz.underlying132 (by first | rfl | trivial) (by kernel_rfl) rfl (fun h => by cases h)
theorem Ma : ∀ i : TI, some (⟨(.slice 3), (.slice (.int .i64)), 1, 24, false⟩ : TI) = some i → aD Go.Proofs.Tryz.prog 145 i := by
 intro i h; cases h
 exact aD.of Go.Proofs.Tryz.underlying145 (by first | rfl | trivial) (by kernel_rfl) rfl (fun h => by cases h)
theorem HB : ∀ i : TI, some (⟨(.int .u64), (.int .u64), 1, 8, false⟩ : TI) = some i → aD Go.Proofs.Tryz.prog 179 i := by
 intro i h; cases h
 exact aD.of Go.Proofs.Tryz.underlying179 (by first | rfl | trivial) (by kernel_rfl) rfl (fun h => by cases h)
theorem yk : ∀ i : TI, some (⟨(.struct [(0, 3), (1, 3), (2, 9)]), (.cons (.int .i64) (.cons (.int .i64) (.cons .str .nil))), 3, 32, true⟩ : TI) = some i → aD Go.Proofs.Tryz.prog 181 i := by
 intro i h; cases h
 exact aD.of Go.Proofs.Tryz.underlying181 rfl (by kernel_rfl) rfl (fun _ => oc Go.Proofs.Tryz.underlying181 (by kernel_rfl) (by kernel_rfl) ⟨rfl, by decide, ⟨_, Go.Proofs.Tryz.underlying3⟩, ⟨rfl, by decide, ⟨_, Go.Proofs.Tryz.underlying3⟩, ⟨rfl, by decide, Go.Proofs.Tryz.underlying9, trivial⟩⟩⟩)
theorem yl : ∀ i : TI, some (⟨(.int .u32), (.int .u32), 1, 4, false⟩ : TI) = some i → aD Go.Proofs.Tryz.prog 197 i := by
 intro i h; cases h
 exact aD.of Go.Proofs.Tryz.underlying197 (by first | rfl | trivial) (by kernel_rfl) rfl (fun h => by cases h)
theorem Mb : ∀ i : TI, some (⟨(.int .u64), (.int .u64), 1, 8, false⟩ : TI) = some i → aD Go.Proofs.Tryz.prog 199 i := by
 intro i h; cases h
 exact aD.of Go.Proofs.Tryz.underlying199 (by first | rfl | trivial) (by kernel_rfl) rfl (fun h => by cases h)
theorem Mc : ∀ i : TI, some (⟨.err, .err, 1, 16, false⟩ : TI) = some i → aD Go.Proofs.Tryz.prog 205 i := by
 intro i h; cases h
 exact aD.of Go.Proofs.Tryz.underlying205 (by first | rfl | trivial) (by kernel_rfl) rfl (fun h => by cases h)
theorem Md : ∀ i : TI, some (⟨(.int .u64), (.int .u64), 1, 8, false⟩ : TI) = some i → aD Go.Proofs.Tryz.prog 208 i := by
 intro i h; cases h
 exact aD.of Go.Proofs.Tryz.underlying208 (by first | rfl | trivial) (by kernel_rfl) rfl (fun h => by cases h)
theorem ym : ∀ i : TI, some (⟨(.int .u8), (.int .u8), 1, 1, false⟩ : TI) = some i → aD Go.Proofs.Tryz.prog 254 i := by
 intro i h; cases h
 exact aD.of Go.Proofs.Tryz.underlying254 (by first | rfl | trivial) (by kernel_rfl) rfl (fun h => by cases h)
theorem yn : ∀ i : TI, some (⟨(.int .u8), (.int .u8), 1, 1, false⟩ : TI) = some i → aD Go.Proofs.Tryz.prog 255 i := by
 intro i h; cases h
 exact aD.of Go.Proofs.Tryz.underlying255 (by first | rfl | trivial) (by kernel_rfl) rfl (fun h => by cases h)
theorem yo : ∀ i : TI, some (⟨(.int .i32), (.int .i32), 1, 4, false⟩ : TI) = some i → aD Go.Proofs.Tryz.prog 257 i := by
 intro i h; cases h
 exact aD.of Go.Proofs.Tryz.underlying257 (by first | rfl | trivial) (by kernel_rfl) rfl (fun h => by cases h)
theorem yp : ∀ i : TI, some (⟨(.int .i32), (.int .i32), 1, 4, false⟩ : TI) = some i → aD Go.Proofs.Tryz.prog 258 i := by
 intro i h; cases h
 exact aD.of Go.Proofs.Tryz.underlying258 (by first | rfl | trivial) (by kernel_rfl) rfl (fun h => by cases h)
theorem QQ : ES Go.Proofs.Tryz.prog T := ⟨Ho, Hp, Hr, Hs, Ht, Hu, Hv, Hw, CV, CW, CX, CY, CZ, C0, C3, KM, KN, F7, KO, KP, C4, C5, KQ, C6, F8, F9, Ga, Gb, Gc, KR, KS, KT, C7, C8, C9, Da, Hy, Hz, L9, yd, ye, yf, HA, yg, yh, yj, Ma, HB, yk, yl, Mb, Mc, Md, ym, yn, yo, yp, trivial⟩
theorem KU : mL Go.Proofs.Tryz.prog T := fun t i h => QQ.mem t i (bW h)
theorem IJ : ∀ i : TI, some (⟨(.slice 59), (.aI 59 (.cons .str (.cons (.aI 9 .str) (.cons (.cons (.aI 73 (.cons (.int .i64) (.cons (.int .i64) (.cons .str .nil)))) .nil) .nil)))), 1, 24, false⟩ : TI) = some i → aD Go.Proofs.Tryz.prog 23 i := by
 intro i h; cases h
 exact aD.of Go.Proofs.Tryz.underlying23 (by first | rfl | trivial) (by kernel_rfl) rfl (fun h => by cases h)
theorem IK : ∀ i : TI, some (⟨(.slice 9), (.aI 9 .str), 1, 24, false⟩ : TI) = some i → aD Go.Proofs.Tryz.prog 24 i := by
 intro i h; cases h
 exact aD.of Go.Proofs.Tryz.underlying24 (by first | rfl | trivial) (by kernel_rfl) rfl (fun h => by cases h)
theorem IL : ∀ i : TI, some (⟨(.slice 57), (.aI 57 (.cons (.int .i64) (.cons (.cons (.aI 73 (.cons (.int .i64) (.cons (.int .i64) (.cons .str .nil)))) .nil) (.cons (.cons (.aI 73 (.cons (.int .i64) (.cons (.int .i64) (.cons .str .nil)))) .nil) .nil)))), 1, 24, false⟩ : TI) = some i → aD Go.Proofs.Tryz.prog 25 i := by
 intro i h; cases h
 exact aD.of Go.Proofs.Tryz.underlying25 (by first | rfl | trivial) (by kernel_rfl) rfl (fun h => by cases h)
theorem IM : ∀ i : TI, some (⟨(.struct [(0, 23), (1, 24), (2, 25)]), (.cons (.aI 59 (.cons .str (.cons (.aI 9 .str) (.cons (.cons (.aI 73 (.cons (.int .i64) (.cons (.int .i64) (.cons .str .nil)))) .nil) .nil)))) (.cons (.aI 9 .str) (.cons (.aI 57 (.cons (.int .i64) (.cons (.cons (.aI 73 (.cons (.int .i64) (.cons (.int .i64) (.cons .str .nil)))) .nil) (.cons (.cons (.aI 73 (.cons (.int .i64) (.cons (.int .i64) (.cons .str .nil)))) .nil) .nil)))) .nil))), 3, 72, false⟩ : TI) = some i → aD Go.Proofs.Tryz.prog 26 i := by
 intro i h; cases h
 exact aD.of Go.Proofs.Tryz.underlying26 (by first | rfl | trivial) (by kernel_rfl) rfl (fun h => by cases h)
theorem IN : ∀ i : TI, some (⟨(.struct [(0, 23), (1, 24), (2, 25)]), (.cons (.aI 59 (.cons .str (.cons (.aI 9 .str) (.cons (.cons (.aI 73 (.cons (.int .i64) (.cons (.int .i64) (.cons .str .nil)))) .nil) .nil)))) (.cons (.aI 9 .str) (.cons (.aI 57 (.cons (.int .i64) (.cons (.cons (.aI 73 (.cons (.int .i64) (.cons (.int .i64) (.cons .str .nil)))) .nil) (.cons (.cons (.aI 73 (.cons (.int .i64) (.cons (.int .i64) (.cons .str .nil)))) .nil) .nil)))) .nil))), 3, 72, false⟩ : TI) = some i → aD Go.Proofs.Tryz.prog 27 i := by
 intro i h; cases h
 exact aD.of Go.Proofs.Tryz.underlying27 (by first | rfl | trivial) (by kernel_rfl) rfl (fun h => by cases h)
theorem IP : ∀ i : TI, some (⟨(.struct [(0, 39), (1, 24), (2, 40)]), (.cons (.slice (.cons .str (.cons (.slice .str) (.cons (.cons (.slice (.cons (.int .i64) (.cons (.int .i64) (.cons .str .nil)))) .nil) .nil)))) (.cons (.aI 9 .str) (.cons (.slice (.cons (.int .i64) (.cons (.cons (.slice (.cons (.int .i64) (.cons (.int .i64) (.cons .str .nil)))) .nil) (.cons (.cons (.slice (.cons (.int .i64) (.cons (.int .i64) (.cons .str .nil)))) .nil) .nil)))) .nil))), 3, 72, false⟩ : TI) = some i → aD Go.Proofs.Tryz.prog 41 i := by
 intro i h; cases h
 exact aD.of Go.Proofs.Tryz.underlying41 (by first | rfl | trivial) (by kernel_rfl) rfl (fun h => by cases h)
theorem IQ : ∀ i : TI, some (⟨(.slice 73), (.aI 73 (.cons (.int .i64) (.cons (.int .i64) (.cons .str .nil)))), 1, 24, false⟩ : TI) = some i → aD Go.Proofs.Tryz.prog 53 i := by
 intro i h; cases h
 exact aD.of Go.Proofs.Tryz.underlying53 (by first | rfl | trivial) (by kernel_rfl) rfl (fun h => by cases h)
theorem IS : ∀ i : TI, some (⟨(.struct [(0, 53)]), (.cons (.aI 73 (.cons (.int .i64) (.cons (.int .i64) (.cons .str .nil)))) .nil), 1, 24, false⟩ : TI) = some i → aD Go.Proofs.Tryz.prog 54 i := by
 intro i h; cases h
 exact aD.of Go.Proofs.Tryz.underlying54 (by first | rfl | trivial) (by kernel_rfl) rfl (fun h => by cases h)
theorem IT : ∀ i : TI, some (⟨(.struct [(0, 53)]), (.cons (.aI 73 (.cons (.int .i64) (.cons (.int .i64) (.cons .str .nil)))) .nil), 1, 24, false⟩ : TI) = some i → aD Go.Proofs.Tryz.prog 55 i := by
 intro i h; cases h
 exact aD.of Go.Proofs.Tryz.underlying55 (by first | rfl | trivial) (by kernel_rfl) rfl (fun h => by cases h)
theorem IU : ∀ i : TI, some (⟨(.struct [(0, 3), (1, 55), (2, 55)]), (.cons (.int .i64) (.cons (.cons (.aI 73 (.cons (.int .i64) (.cons (.int .i64) (.cons .str .nil)))) .nil) (.cons (.cons (.aI 73 (.cons (.int .i64) (.cons (.int .i64) (.cons .str .nil)))) .nil) .nil))), 3, 56, false⟩ : TI) = some i → aD Go.Proofs.Tryz.prog 56 i := by
 intro i h; cases h
 exact aD.of Go.Proofs.Tryz.underlying56 (by first | rfl | trivial) (by kernel_rfl) rfl (fun h => by cases h)
theorem IV : ∀ i : TI, some (⟨(.struct [(0, 3), (1, 55), (2, 55)]), (.cons (.int .i64) (.cons (.cons (.aI 73 (.cons (.int .i64) (.cons (.int .i64) (.cons .str .nil)))) .nil) (.cons (.cons (.aI 73 (.cons (.int .i64) (.cons (.int .i64) (.cons .str .nil)))) .nil) .nil))), 3, 56, false⟩ : TI) = some i → aD Go.Proofs.Tryz.prog 57 i := by
 intro i h; cases h
 exact aD.of Go.Proofs.Tryz.underlying57 (by first | rfl | trivial) (by kernel_rfl) rfl (fun h => by cases h)
theorem IW : ∀ i : TI, some (⟨(.struct [(0, 9), (1, 24), (2, 55)]), (.cons .str (.cons (.aI 9 .str) (.cons (.cons (.aI 73 (.cons (.int .i64) (.cons (.int .i64) (.cons .str .nil)))) .nil) .nil))), 3, 64, false⟩ : TI) = some i → aD Go.Proofs.Tryz.prog 58 i := by
 intro i h; cases h
 exact aD.of Go.Proofs.Tryz.underlying58 (by first | rfl | trivial) (by kernel_rfl) rfl (fun h => by cases h)
theorem IX : ∀ i : TI, some (⟨(.struct [(0, 9), (1, 24), (2, 55)]), (.cons .str (.cons (.aI 9 .str) (.cons (.cons (.aI 73 (.cons (.int .i64) (.cons (.int .i64) (.cons .str .nil)))) .nil) .nil))), 3, 64, false⟩ : TI) = some i → aD Go.Proofs.Tryz.prog 59 i := by
 intro i h; cases h
 exact aD.of Go.Proofs.Tryz.underlying59 (by first | rfl | trivial) (by kernel_rfl) rfl (fun h => by cases h)
theorem IY : ∀ i : TI, some (⟨(.slice 53), (.slice (.aI 73 (.cons (.int .i64) (.cons (.int .i64) (.cons .str .nil))))), 1, 24, false⟩ : TI) = some i → aD Go.Proofs.Tryz.prog 71 i := by
 intro i h; cases h
 exact aD.of Go.Proofs.Tryz.underlying71 (by first | rfl | trivial) (by kernel_rfl) rfl (fun h => by cases h)
theorem Gd : ∀ i : TI, some (⟨(.slice 24), (.slice (.aI 9 .str)), 1, 24, false⟩ : TI) = some i → aD Go.Proofs.Tryz.prog 122 i := by
 intro i h; cases h
 exact aD.of Go.Proofs.Tryz.underlying122 (by first | rfl | trivial) (by kernel_rfl) rfl (fun h => by cases h)
theorem Ge : ∀ i : TI, some (⟨(.struct [(0, 9), (1, 24), (2, 127)]), (.cons .str (.cons (.aI 9 .str) (.cons (.cons (.slice (.cons (.int .i64) (.cons (.int .i64) (.cons .str .nil)))) .nil) .nil))), 3, 64, false⟩ : TI) = some i → aD Go.Proofs.Tryz.prog 128 i := by
 intro i h; cases h
 exact aD.of Go.Proofs.Tryz.underlying128 (by first | rfl | trivial) (by kernel_rfl) rfl (fun h => by cases h)
theorem Gf : ∀ i : TI, some (⟨(.slice 150), (.slice (.cons .str (.cons (.int .i64) .nil))), 1, 24, false⟩ : TI) = some i → aD Go.Proofs.Tryz.prog 147 i := by
 intro i h; cases h
 exact aD.of Go.Proofs.Tryz.underlying147 (by first | rfl | trivial) (by kernel_rfl) rfl (fun h => by cases h)
theorem Gg : ∀ i : TI, some (⟨(.struct [(0, 9), (1, 3)]), (.cons .str (.cons (.int .i64) .nil)), 2, 24, true⟩ : TI) = some i → aD Go.Proofs.Tryz.prog 149 i := by
 intro i h; cases h
 exact aD.of Go.Proofs.Tryz.underlying149 rfl (by kernel_rfl) rfl (fun _ => oc Go.Proofs.Tryz.underlying149 (by kernel_rfl) (by kernel_rfl) ⟨rfl, by decide, Go.Proofs.Tryz.underlying9, ⟨rfl, by decide, ⟨_, Go.Proofs.Tryz.underlying3⟩, trivial⟩⟩)
theorem Gh : ∀ i : TI, some (⟨(.struct [(0, 9), (1, 3)]), (.cons .str (.cons (.int .i64) .nil)), 2, 24, true⟩ : TI) = some i → aD Go.Proofs.Tryz.prog 150 i := by
 intro i h; cases h
 exact aD.of Go.Proofs.Tryz.underlying150 rfl (by kernel_rfl) rfl (fun _ => oc Go.Proofs.Tryz.underlying150 (by kernel_rfl) (by kernel_rfl) ⟨rfl, by decide, Go.Proofs.Tryz.underlying9, ⟨rfl, by decide, ⟨_, Go.Proofs.Tryz.underlying3⟩, trivial⟩⟩)
theorem Me : ES Go.Proofs.Tryz.prog Od := ⟨Ho, Hp, Hr, Hs, Ht, Hu, Hv, Hw, CV, CW, CX, CY, CZ, C0, C3, IJ, IK, IL, IM, IN, C4, C5, IP, C6, IQ, IS, IT, IU, IV, IW, IX, IY, C7, C8, C9, Da, Hy, Hz, Gd, yd, ye, yf, Ge, yg, yh, yj, Gf, Gg, Gh, yk, yl, ym, yn, yo, yp, trivial⟩
theorem IZ : mL Go.Proofs.Tryz.prog Od := fun t i h => Me.mem t i (bW h)
theorem Gi : ∀ i : TI, some (⟨(.slice 113), (.slice (.aI 4 .bool)), 1, 24, false⟩ : TI) = some i → aD Go.Proofs.Tryz.prog 111 i := by
 intro i h; cases h
 exact aD.of Go.Proofs.Tryz.underlying111 (by first | rfl | trivial) (by kernel_rfl) rfl (fun h => by cases h)
theorem Gj : ∀ i : TI, some (⟨(.slice 4), (.aI 4 .bool), 1, 24, false⟩ : TI) = some i → aD Go.Proofs.Tryz.prog 113 i := by
 intro i h; cases h
 exact aD.of Go.Proofs.Tryz.underlying113 (by first | rfl | trivial) (by kernel_rfl) rfl (fun h => by cases h)
theorem Mf : ES Go.Proofs.Tryz.prog Oe := ⟨Ho, Hp, Hr, Hs, Ht, Hu, Hv, Hw, CV, CW, CX, CY, CZ, C0, C3, KM, KN, F7, KO, KP, C4, C5, KQ, C6, F8, F9, Ga, Gb, Gc, KR, KS, KT, C7, C8, C9, Da, Gi, Gj, yd, ye, yf, HA, yg, yh, yj, yk, yl, ym, yn, yo, yp, trivial⟩
theorem I0 : mL Go.Proofs.Tryz.prog Oe := fun t i h => Mf.mem t i (bW h)
theorem I1 : ∀ i : TI, some (⟨(.slice 59), (.slice (.cons .str (.cons (.aI 9 .str) (.cons (.cons (.slice (.cons (.int .i64) (.cons (.int .i64) (.cons .str .nil)))) .nil) .nil)))), 1, 24, false⟩ : TI) = some i → aD Go.Proofs.Tryz.prog 23 i := by
 intro i h; cases h
 exact aD.of Go.Proofs.Tryz.underlying23 (by first | rfl | trivial) (by kernel_rfl) rfl (fun h => by cases h)
theorem I2 : ∀ i : TI, some (⟨(.slice 9), (.aI 9 .str), 1, 24, false⟩ : TI) = some i → aD Go.Proofs.Tryz.prog 24 i := by
 intro i h; cases h
 exact aD.of Go.Proofs.Tryz.underlying24 (by first | rfl | trivial) (by kernel_rfl) rfl (fun h => by cases h)
theorem I3 : ∀ i : TI, some (⟨(.struct [(0, 23), (1, 24), (2, 25)]), (.cons (.slice (.cons .str (.cons (.aI 9 .str) (.cons (.cons (.slice (.cons (.int .i64) (.cons (.int .i64) (.cons .str .nil)))) .nil) .nil)))) (.cons (.aI 9 .str) (.cons (.slice (.cons (.int .i64) (.cons (.cons (.slice (.cons (.int .i64) (.cons (.int .i64) (.cons .str .nil)))) .nil) (.cons (.cons (.slice (.cons (.int .i64) (.cons (.int .i64) (.cons .str .nil)))) .nil) .nil)))) .nil))), 3, 72, false⟩ : TI) = some i → aD Go.Proofs.Tryz.prog 26 i := by
 intro i h; cases h
 exact aD.of Go.Proofs.Tryz.underlying26 (by first | rfl | trivial) (by kernel_rfl) rfl (fun h => by cases h)
theorem I4 : ∀ i : TI, some (⟨(.struct [(0, 23), (1, 24), (2, 25)]), (.cons (.slice (.cons .str (.cons (.aI 9 .str) (.cons (.cons (.slice (.cons (.int .i64) (.cons (.int .i64) (.cons .str .nil)))) .nil) .nil)))) (.cons (.aI 9 .str) (.cons (.slice (.cons (.int .i64) (.cons (.cons (.slice (.cons (.int .i64) (.cons (.int .i64) (.cons .str .nil)))) .nil) (.cons (.cons (.slice (.cons (.int .i64) (.cons (.int .i64) (.cons .str .nil)))) .nil) .nil)))) .nil))), 3, 72, false⟩ : TI) = some i → aD Go.Proofs.Tryz.prog 27 i := by
 intro i h; cases h
 exact aD.of Go.Proofs.Tryz.underlying27 (by first | rfl | trivial) (by kernel_rfl) rfl (fun h => by cases h)
theorem I5 : ∀ i : TI, some (⟨(.struct [(0, 39), (1, 24), (2, 40)]), (.cons (.slice (.cons .str (.cons (.slice .str) (.cons (.cons (.slice (.cons (.int .i64) (.cons (.int .i64) (.cons .str .nil)))) .nil) .nil)))) (.cons (.aI 9 .str) (.cons (.slice (.cons (.int .i64) (.cons (.cons (.slice (.cons (.int .i64) (.cons (.int .i64) (.cons .str .nil)))) .nil) (.cons (.cons (.slice (.cons (.int .i64) (.cons (.int .i64) (.cons .str .nil)))) .nil) .nil)))) .nil))), 3, 72, false⟩ : TI) = some i → aD Go.Proofs.Tryz.prog 41 i := by
 intro i h; cases h
 exact aD.of Go.Proofs.Tryz.underlying41 (by first | rfl | trivial) (by kernel_rfl) rfl (fun h => by cases h)
theorem I6 : ∀ i : TI, some (⟨(.struct [(0, 9), (1, 24), (2, 55)]), (.cons .str (.cons (.aI 9 .str) (.cons (.cons (.slice (.cons (.int .i64) (.cons (.int .i64) (.cons .str .nil)))) .nil) .nil))), 3, 64, false⟩ : TI) = some i → aD Go.Proofs.Tryz.prog 58 i := by
 intro i h; cases h
 exact aD.of Go.Proofs.Tryz.underlying58 (by first | rfl | trivial) (by kernel_rfl) rfl (fun h => by cases h)
theorem I7 : ∀ i : TI, some (⟨(.struct [(0, 9), (1, 24), (2, 55)]), (.cons .str (.cons (.aI 9 .str) (.cons (.cons (.slice (.cons (.int .i64) (.cons (.int .i64) (.cons .str .nil)))) .nil) .nil))), 3, 64, false⟩ : TI) = some i → aD Go.Proofs.Tryz.prog 59 i := by
 intro i h; cases h
 exact aD.of Go.Proofs.Tryz.underlying59 (by first | rfl | trivial) (by kernel_rfl) rfl (fun h => by cases h)
theorem Gk : ∀ i : TI, some (⟨(.struct [(0, 9), (1, 24), (2, 127)]), (.cons .str (.cons (.aI 9 .str) (.cons (.cons (.slice (.cons (.int .i64) (.cons (.int .i64) (.cons .str .nil)))) .nil) .nil))), 3, 64, false⟩ : TI) = some i → aD Go.Proofs.Tryz.prog 128 i := by
 intro i h; cases h
 exact aD.of Go.Proofs.Tryz.underlying128 (by first | rfl | trivial) (by kernel_rfl) rfl (fun h => by cases h)
theorem Gl : ∀ i : TI, some (⟨(.slice 55), (.slice (.cons (.slice (.cons (.int .i64) (.cons (.int .i64) (.cons .str .nil)))) .nil)), 1, 24, false⟩ : TI) = some i → aD Go.Proofs.Tryz.prog 161 i := by
 intro i h; cases h
 exact aD.of Go.Proofs.Tryz.underlying161 (by first | rfl | trivial) (by kernel_rfl) rfl (fun h => by cases h)
theorem Mg : ES Go.Proofs.Tryz.prog Of := ⟨Ho, Hp, Hr, Hs, Ht, Hu, Hv, Hw, CV, CW, CX, CY, CZ, C0, C3, I1, I2, F7, I3, I4, C4, C5, I5, C6, F8, F9, Ga, Gb, Gc, I6, I7, C7, C8, yd, ye, yf, Gk, yg, yh, yj, Gl, HB, yk, yl, ym, yn, yo, yp, trivial⟩
theorem I8 : mL Go.Proofs.Tryz.prog Of := fun t i h => Mg.mem t i (bW h)
theorem Qr : ∀ fn : Func, some Go.Proofs.Tryz.f5 = some fn → cT Go.Proofs.Tryz.prog 5 fn := by
 intro fn h; cases h; exact ⟨Go.Proofs.Tryz.func5, by kernel_rfl, by kernel_rfl⟩
theorem ON : ∀ fn : Func, some Go.Proofs.Tryz.f10 = some fn → cT Go.Proofs.Tryz.prog 10 fn := by
 intro fn h; cases h; exact ⟨Go.Proofs.Tryz.func10, by kernel_rfl, by kernel_rfl⟩
theorem OO : ∀ fn : Func, some Go.Proofs.Tryz.f11 = some fn → cT Go.Proofs.Tryz.prog 11 fn := by
 intro fn h; cases h; exact ⟨Go.Proofs.Tryz.func11, by kernel_rfl, by kernel_rfl⟩
theorem OP : ∀ fn : Func, some Go.Proofs.Tryz.f13 = some fn → cT Go.Proofs.Tryz.prog 13 fn := by
 intro fn h; cases h; exact ⟨Go.Proofs.Tryz.func13, by kernel_rfl, by kernel_rfl⟩
theorem OQ : ∀ fn : Func, some Go.Proofs.Tryz.f18 = some fn → cT Go.Proofs.Tryz.prog 18 fn := by
 intro fn h; cases h; exact ⟨Go.Proofs.Tryz.func18, by kernel_rfl, by kernel_rfl⟩
theorem OR : ∀ fn : Func, some Go.Proofs.Tryz.f19 = some fn → cT Go.Proofs.Tryz.prog 19 fn := by
 intro fn h; cases h; exact ⟨Go.Proofs.Tryz.func19, by kernel_rfl, by kernel_rfl⟩
theorem OS : ∀ fn : Func, some Go.Proofs.Tryz.f20 = some fn → cT Go.Proofs.Tryz.prog 20 fn := by
 intro fn h; cases h; exact ⟨Go.Proofs.Tryz.func20, by kernel_rfl, by kernel_rfl⟩
theorem OT : ∀ fn : Func, some Go.Proofs.Tryz.f21 = some fn → cT Go.Proofs.Tryz.prog 21 fn := by
 intro fn h; cases h; exact ⟨Go.Proofs.Tryz.func21, by kernel_rfl, by kernel_rfl⟩
theorem OU : ∀ fn : Func, some Go.Proofs.Tryz.f22 = some fn → cT Go.Proofs.Tryz.prog 22 fn := by
 intro fn h; cases h; exact ⟨Go.Proofs.Tryz.func22, by kernel_rfl, by kernel_rfl⟩
theorem OW : ∀ fn : Func, some Go.Proofs.Tryz.f35 = some fn → cT Go.Proofs.Tryz.prog 35 fn := by
 intro fn h; cases h; exact ⟨Go.Proofs.Tryz.func35, by kernel_rfl, by kernel_rfl⟩
theorem OX : ∀ fn : Func, some Go.Proofs.Tryz.f37 = some fn → cT Go.Proofs.Tryz.prog 37 fn := by
 intro fn h; cases h; exact ⟨Go.Proofs.Tryz.func37, by kernel_rfl, by kernel_rfl⟩
theorem OY : ∀ fn : Func, some Go.Proofs.Tryz.f38 = some fn → cT Go.Proofs.Tryz.prog 38 fn := by
 intro fn h; cases h; exact ⟨Go.Proofs.Tryz.func38, by kernel_rfl, by kernel_rfl⟩
theorem OZ : ∀ fn : Func, some Go.Proofs.Tryz.f39 = some fn → cT Go.Proofs.Tryz.prog 39 fn := by
 intro fn h; cases h; exact ⟨Go.Proofs.Tryz.func39, by kernel_rfl, by kernel_rfl⟩
theorem O0 : ∀ fn : Func, some Go.Proofs.Tryz.f40 = some fn → cT Go.Proofs.Tryz.prog 40 fn := by
 intro fn h; cases h; exact ⟨Go.Proofs.Tryz.func40, by kernel_rfl, by kernel_rfl⟩
theorem O1 : ∀ fn : Func, some Go.Proofs.Tryz.f41 = some fn → cT Go.Proofs.Tryz.prog 41 fn := by
 intro fn h; cases h; exact ⟨Go.Proofs.Tryz.func41, by kernel_rfl, by kernel_rfl⟩
theorem O2 : ∀ fn : Func, some Go.Proofs.Tryz.f42 = some fn → cT Go.Proofs.Tryz.prog 42 fn := by
 intro fn h; cases h; exact ⟨Go.Proofs.Tryz.func42, by kernel_rfl, by kernel_rfl⟩
theorem O3 : ∀ fn : Func, some Go.Proofs.Tryz.f43 = some fn → cT Go.Proofs.Tryz.prog 43 fn := by
 intro fn h; cases h; exact ⟨Go.Proofs.Tryz.func43, by kernel_rfl, by kernel_rfl⟩
theorem O4 : ∀ fn : Func, some Go.Proofs.Tryz.f44 = some fn → cT Go.Proofs.Tryz.prog 44 fn := by
 intro fn h; cases h; exact ⟨Go.Proofs.Tryz.func44, by kernel_rfl, by kernel_rfl⟩
theorem O5 : ∀ fn : Func, some Go.Proofs.Tryz.f45 = some fn → cT Go.Proofs.Tryz.prog 45 fn := by
 intro fn h; cases h; exact ⟨Go.Proofs.Tryz.func45, by kernel_rfl, by kernel_rfl⟩
theorem O6 : ∀ fn : Func, some Go.Proofs.Tryz.f47 = some fn → cT Go.Proofs.Tryz.prog 47 fn := by
 intro fn h; cases h; exact ⟨Go.Proofs.Tryz.func47, by kernel_rfl, by kernel_rfl⟩
theorem O7 : ∀ fn : Func, some Go.Proofs.Tryz.f48 = some fn → cT Go.Proofs.Tryz.prog 48 fn := by
 intro fn h; cases h; exact ⟨Go.Proofs.Tryz.func48, by kernel_rfl, by kernel_rfl⟩
theorem O8 : ∀ fn : Func, some Go.Proofs.Tryz.f49 = some fn → cT Go.Proofs.Tryz.prog 49 fn := by
 intro fn h; cases h; exact ⟨Go.Proofs.Tryz.func49, by kernel_rfl, by kernel_rfl⟩
theorem O9 : ∀ fn : Func, some Go.Proofs.Tryz.f50 = some fn → cT Go.Proofs.Tryz.prog 50 fn := by
 intro fn h; cases h; exact ⟨Go.Proofs.Tryz.func50, by kernel_rfl, by kernel_rfl⟩
theorem Pb : ∀ fn : Func, some Go.Proofs.Tryz.f51 = some fn → cT Go.Proofs.Tryz.prog 51 fn := by
 intro fn h; cases h; exact ⟨Go.Proofs.Tryz.func51, by kernel_rfl, by kernel_rfl⟩
theorem Pc : ∀ fn : Func, some Go.Proofs.Tryz.f52 = some fn → cT Go.Proofs.Tryz.prog 52 fn := by
 intro fn h; cases h; exact ⟨Go.Proofs.Tryz.func52, by kernel_rfl, by kernel_rfl⟩
theorem Pd : ∀ fn : Func, some Go.Proofs.Tryz.f53 = some fn → cT Go.Proofs.Tryz.prog 53 fn := by
 intro fn h; cases h; exact ⟨Go.Proofs.Tryz.func53, by kernel_rfl, by kernel_rfl⟩
theorem Pe : ∀ fn : Func, some Go.Proofs.Tryz.f54 = some fn → cT Go.Proofs.Tryz.prog 54 fn := by
 intro fn h; cases h; exact ⟨Go.Proofs.Tryz.func54, by kernel_rfl, by kernel_rfl⟩
theorem Pf : ∀ fn : Func, some Go.Proofs.Tryz.f56 = some fn → cT Go.Proofs.Tryz.prog 56 fn := by
 intro fn h; cases h; exact ⟨Go.Proofs.Tryz.func56, by kernel_rfl, by kernel_rfl⟩
theorem Pg : ∀ fn : Func, some Go.Proofs.Tryz.f57 = some fn → cT Go.Proofs.Tryz.prog 57 fn := by
 intro fn h; cases h; exact ⟨Go.Proofs.Tryz.func57, by kernel_rfl, by kernel_rfl⟩
theorem Ph : ∀ fn : Func, some Go.Proofs.Tryz.f58 = some fn → cT Go.Proofs.Tryz.prog 58 fn := by
 intro fn h; cases h; exact ⟨Go.Proofs.Tryz.func58, by kernel_rfl, by kernel_rfl⟩
theorem Pj : ∀ fn : Func, some Go.Proofs.Tryz.f59 = some fn → cT Go.Proofs.Tryz.prog 59 fn := by
 intro fn h; cases h; exact ⟨Go.Proofs.Tryz.func59, by kernel_rfl, by kernel_rfl⟩
theorem Pk : ∀ fn : Func, some Go.Proofs.Tryz.f60 = some fn → cT Go.Proofs.Tryz.prog 60 fn := by
 intro fn h; cases h; exact ⟨Go.Proofs.Tryz.func60, by kernel_rfl, by kernel_rfl⟩
theorem Pl : ∀ fn : Func, some Go.Proofs.Tryz.f61 = some fn → cT Go.Proofs.Tryz.prog 61 fn := by
 intro fn h; cases h; exact ⟨Go.Proofs.Tryz.func61, by kernel_rfl, by kernel_rfl⟩
theorem Pn : ∀ fn : Func, some Go.Proofs.Tryz.f62 = some fn → cT Go.Proofs.Tryz.prog 62 fn := by
 intro fn h; cases h; exact ⟨Go.Proofs.Tryz.func62, by kernel_rfl, by kernel_rfl⟩
theorem Po : ∀ fn : Func, some Go.Proofs.Tryz.f63 = some fn → cT Go.Proofs.Tryz.prog 63 fn := by
 intro fn h; cases h; exact ⟨Go.Proofs.Tryz.func63, by kernel_rfl, by kernel_rfl⟩
theorem Pp : ∀ fn : Func, some Go.Proofs.Tryz.f64 = some fn → cT Go.Proofs.Tryz.prog 64 fn := by
 intro fn h; cases h; exact ⟨Go.Proofs.Tryz.func64, by kernel_rfl, by kernel_rfl⟩
theorem Pq : ∀ fn : Func, some Go.Proofs.Tryz.f65 = some fn → cT Go.Proofs.Tryz.prog 65 fn := by
 intro fn h; cases h; exact ⟨Go.Proofs.Tryz.func65, by kernel_rfl, by kernel_rfl⟩
theorem Pr : ∀ fn : Func, some Go.Proofs.Tryz.f66 = some fn → cT Go.Proofs.Tryz.prog 66 fn := by
 intro fn h; cases h; exact ⟨Go.Proofs.Tryz.func66, by kernel_rfl, by kernel_rfl⟩
theorem Ps : ∀ fn : Func, some Go.Proofs.Tryz.f67 = some fn → cT Go.Proofs.Tryz.prog 67 fn := by
 intro fn h; cases h; exact ⟨Go.Proofs.Tryz.func67, by kernel_rfl, by kernel_rfl⟩
theorem Pu : ∀ fn : Func, some Go.Proofs.Tryz.f68 = some fn → cT Go.Proofs.Tryz.prog 68 fn := by
 intro fn h; cases h; exact ⟨Go.Proofs.Tryz.func68, by kernel_rfl, by kernel_rfl⟩
theorem Pv : ∀ fn : Func, some Go.Proofs.Tryz.f69 = some fn → cT Go.Proofs.Tryz.prog 69 fn := by
 intro fn h; cases h; exact ⟨Go.Proofs.Tryz.func69, by kernel_rfl, by kernel_rfl⟩
theorem Py : ∀ fn : Func, some Go.Proofs.Tryz.f70 = some fn → cT Go.Proofs.Tryz.prog 70 fn := by
 intro fn h; cases h; exact ⟨Go.Proofs.Tryz.func70, by kernel_rfl, by kernel_rfl⟩
theorem Pz : ∀ fn : Func, some Go.Proofs.Tryz.f72 = some fn → cT Go.Proofs.Tryz.prog 72 fn := by
 intro fn h; cases h; exact ⟨Go.Proofs.Tryz.func72, by kernel_rfl, by kernel_rfl⟩
theorem PB : ∀ fn : Func, some Go.Proofs.Tryz.f74 = some fn → cT Go.Proofs.Tryz.prog 74 fn := by
 intro fn h; cases h; exact ⟨Go.Proofs.Tryz.func74, by kernel_rfl, by kernel_rfl⟩
theorem PC : ∀ fn : Func, some Go.Proofs.Tryz.f76 = some fn → cT Go.Proofs.Tryz.prog 76 fn := by
 intro fn h; cases h; exact ⟨Go.Proofs.Tryz.func76, by kernel_rfl, by kernel_rfl⟩
theorem PD : ∀ fn : Func, some Go.Proofs.Tryz.f77 = some fn → cT Go.Proofs.Tryz.prog 77 fn := by
 intro fn h; cases h; exact ⟨Go.Proofs.Tryz.func77, by kernel_rfl, by kernel_rfl⟩
theorem PE : ∀ fn : Func, some Go.Proofs.Tryz.f83 = some fn → cT Go.Proofs.Tryz.prog 83 fn := by
 intro fn h; cases h; exact ⟨Go.Proofs.Tryz.func83, by kernel_rfl, by kernel_rfl⟩
theorem PF : ∀ fn : Func, some Go.Proofs.Tryz.f84 = some fn → cT Go.Proofs.Tryz.prog 84 fn := by
 intro fn h; cases h; exact ⟨Go.Proofs.Tryz.func84, by kernel_rfl, by kernel_rfl⟩
theorem PG : ∀ fn : Func, some Go.Proofs.Tryz.f85 = some fn → cT Go.Proofs.Tryz.prog 85 fn := by
 intro fn h; cases h; exact ⟨Go.Proofs.Tryz.func85, by kernel_rfl, by kernel_rfl⟩
theorem PH : ∀ fn : Func, some Go.Proofs.Tryz.f86 = some fn → cT Go.Proofs.Tryz.prog 86 fn := by
 intro fn h; cases h; exact ⟨Go.Proofs.Tryz.func86, by kernel_rfl, by kernel_rfl⟩
theorem PI : ∀ fn : Func, some Go.Proofs.Tryz.f87 = some fn → cT Go.Proofs.Tryz.prog 87 fn := by
 intro fn h; cases h; exact ⟨Go.Proofs.Tryz.func87, by kernel_rfl, by kernel_rfl⟩
theorem PJ : ∀ fn : Func, some Go.Proofs.Tryz.f88 = some fn → cT Go.Proofs.Tryz.prog 88 fn := by
 intro fn h; cases h; exact ⟨Go.Proofs.Tryz.func88, by kernel_rfl, by kernel_rfl⟩
theorem PK : ∀ fn : Func, some Go.Proofs.Tryz.f89 = some fn → cT Go.Proofs.Tryz.prog 89 fn := by
 intro fn h; cases h; exact ⟨Go.Proofs.Tryz.func89, by kernel_rfl, by kernel_rfl⟩
theorem PL : ∀ fn : Func, some Go.Proofs.Tryz.f90 = some fn → cT Go.Proofs.Tryz.prog 90 fn := by
 intro fn h; cases h; exact ⟨Go.Proofs.Tryz.func90, by kernel_rfl, by kernel_rfl⟩
theorem PM : ∀ fn : Func, some Go.Proofs.Tryz.f91 = some fn → cT Go.Proofs.Tryz.prog 91 fn := by
 intro fn h; cases h; exact ⟨Go.Proofs.Tryz.func91, by kernel_rfl, by kernel_rfl⟩
theorem PN : ∀ fn : Func, some Go.Proofs.Tryz.f92 = some fn → cT Go.Proofs.Tryz.prog 92 fn := by
 intro fn h; cases h; exact ⟨Go.Proofs.Tryz.func92, by kernel_rfl, by kernel_rfl⟩
theorem PO : ∀ fn : Func, some Go.Proofs.Tryz.f93 = some fn → cT Go.Proofs.Tryz.prog 93 fn := by
 intro fn h; cases h; exact ⟨Go.Proofs.Tryz.func93, by kernel_rfl, by kernel_rfl⟩
theorem PQ : ∀ fn : Func, some Go.Proofs.Tryz.f94 = some fn → cT Go.Proofs.Tryz.prog 94 fn := by
 intro fn h; cases h; exact ⟨Go.Proofs.Tryz.func94, by kernel_rfl, by kernel_rfl⟩
theorem PR : ∀ fn : Func, some Go.Proofs.Tryz.f95 = some fn → cT Go.Proofs.Tryz.prog 95 fn := by
 intro fn h; cases h; exact ⟨Go.Proofs.Tryz.func95, by kernel_rfl, by kernel_rfl⟩
theorem PS : ∀ fn : Func, some Go.Proofs.Tryz.f96 = some fn → cT Go.Proofs.Tryz.prog 96 fn := by
 intro fn h; cases h; exact ⟨Go.Proofs.Tryz.func96, by kernel_rfl, by kernel_rfl⟩
theorem PT : ∀ fn : Func, some Go.Proofs.Tryz.f97 = some fn → cT Go.Proofs.Tryz.prog 97 fn := by
 intro fn h; cases h; exact ⟨Go.Proofs.Tryz.func97, by kernel_rfl, by kernel_rfl⟩
theorem PU : ∀ fn : Func, some Go.Proofs.Tryz.f98 = some fn → cT Go.Proofs.Tryz.prog 98 fn := by
 intro fn h; cases h; exact ⟨Go.Proofs.Tryz.func98, by kernel_rfl, by kernel_rfl⟩
theorem PV : ∀ fn : Func, some Go.Proofs.Tryz.f99 = some fn → cT Go.Proofs.Tryz.prog 99 fn := by
 intro fn h; cases h; exact ⟨Go.Proofs.Tryz.func99, by kernel_rfl, by kernel_rfl⟩
theorem Mh : ∀ fn : Func, some Go.Proofs.Tryz.f100 = some fn → cT Go.Proofs.Tryz.prog 100 fn := by
 intro fn h; cases h; exact ⟨Go.Proofs.Tryz.func100, by kernel_rfl, by kernel_rfl⟩
theorem Mi : ∀ fn : Func, some Go.Proofs.Tryz.f101 = some fn → cT Go.Proofs.Tryz.prog 101 fn := by
 intro fn h; cases h; exact ⟨Go.Proofs.Tryz.func101, by kernel_rfl, by kernel_rfl⟩
theorem Mj : ∀ fn : Func, some Go.Proofs.Tryz.f102 = some fn → cT Go.Proofs.Tryz.prog 102 fn := by
 intro fn h; cases h; exact ⟨Go.Proofs.Tryz.func102, by kernel_rfl, by kernel_rfl⟩
theorem Ml : ∀ fn : Func, some Go.Proofs.Tryz.f103 = some fn → cT Go.Proofs.Tryz.prog 103 fn := by
 intro fn h; cases h; exact ⟨Go.Proofs.Tryz.func103, by kernel_rfl, by kernel_rfl⟩
theorem Mm : ∀ fn : Func, some Go.Proofs.Tryz.f104 = some fn → cT Go.Proofs.Tryz.prog 104 fn := by
 intro fn h; cases h; exact ⟨Go.Proofs.Tryz.func104, by kernel_rfl, by kernel_rfl⟩
theorem Mn : ∀ fn : Func, some Go.Proofs.Tryz.f105 = some fn → cT Go.Proofs.Tryz.prog 105 fn := by
 intro fn h; cases h; exact ⟨Go.Proofs.Tryz.func105, by kernel_rfl, by kernel_rfl⟩
theorem Mo : ∀ fn : Func, some Go.Proofs.Tryz.f106 = some fn → cT Go.Proofs.Tryz.prog 106 fn := by
 intro fn h; cases h; exact ⟨Go.Proofs.Tryz.func106, by kernel_rfl, by kernel_rfl⟩
theorem Mp : ∀ fn : Func, some Go.Proofs.Tryz.f108 = some fn → cT Go.Proofs.Tryz.prog 108 fn := by
 intro fn h; cases h; exact ⟨Go.Proofs.Tryz.func108, by kernel_rfl, by kernel_rfl⟩
theorem Mq : ∀ fn : Func, some Go.Proofs.Tryz.f109 = some fn → cT Go.Proofs.Tryz.prog 109 fn := by
 intro fn h; cases h; exact ⟨Go.Proofs.Tryz.func109, by kernel_rfl, by kernel_rfl⟩
theorem Mr : ∀ fn : Func, some Go.Proofs.Tryz.f110 = some fn → cT Go.Proofs.Tryz.prog 110 fn := by
 intro fn h; cases h; exact ⟨Go.Proofs.Tryz.func110, by kernel_rfl, by kernel_rfl⟩
theorem Ms : ∀ fn : Func, some Go.Proofs.Tryz.f111 = some fn → cT Go.Proofs.Tryz.prog 111 fn := by
 intro fn h; cases h; exact ⟨Go.Proofs.Tryz.func111, by kernel_rfl, by kernel_rfl⟩
theorem Mt : ∀ fn : Func, some Go.Proofs.Tryz.f112 = some fn → cT Go.Proofs.Tryz.prog 112 fn := by
 intro fn h; cases h; exact ⟨Go.Proofs.Tryz.func112, by kernel_rfl, by kernel_rfl⟩
theorem Mu : ∀ fn : Func, some Go.Proofs.Tryz.f113 = some fn → cT Go.Proofs.Tryz.prog 113 fn := by
 intro fn h; cases h; exact ⟨Go.Proofs.Tryz.func113, by kernel_rfl, by kernel_rfl⟩
theorem Mv : ∀ fn : Func, some Go.Proofs.Tryz.f114 = some fn → cT Go.Proofs.Tryz.prog 114 fn := by
 intro fn h; cases h; exact ⟨Go.Proofs.Tryz.func114, by kernel_rfl, by kernel_rfl⟩
theorem Mw : ∀ fn : Func, some Go.Proofs.Tryz.f115 = some fn → cT Go.Proofs.Tryz.prog 115 fn := by
 intro fn h; cases h; exact ⟨Go.Proofs.Tryz.func115, by kernel_rfl, by kernel_rfl⟩
theorem Mx : ∀ fn : Func, some Go.Proofs.Tryz.f116 = some fn → cT Go.Proofs.Tryz.prog 116 fn := by
 intro fn h; cases h; exact ⟨Go.Proofs.Tryz.func116, by kernel_rfl, by kernel_rfl⟩
theorem My : ∀ fn : Func, some Go.Proofs.Tryz.f117 = some fn → cT Go.Proofs.Tryz.prog 117 fn := by
 intro fn h; cases h; exact ⟨Go.Proofs.Tryz.func117, by kernel_rfl, by kernel_rfl⟩
theorem Mz : ∀ fn : Func, some Go.Proofs.Tryz.f118 = some fn → cT Go.Proofs.Tryz.prog 118 fn := by
 intro fn h; cases h; exact ⟨Go.Proofs.Tryz.func118, by kernel_rfl, by kernel_rfl⟩
theorem MA : ∀ fn : Func, some Go.Proofs.Tryz.f123 = some fn → cT Go.Proofs.Tryz.prog 123 fn := by
 intro fn h; cases h; exact ⟨Go.Proofs.Tryz.func123, by kernel_rfl, by kernel_rfl⟩
theorem MB : ∀ fn : Func, some Go.Proofs.Tryz.f127 = some fn → cT Go.Proofs.Tryz.prog 127 fn := by
 intro fn h; cases h; exact ⟨Go.Proofs.Tryz.func127, by kernel_rfl, by kernel_rfl⟩
theorem MC : ∀ fn : Func, some Go.Proofs.Tryz.f128 = some fn → cT Go.Proofs.Tryz.prog 128 fn := by
 intro fn h; cases h; exact ⟨Go.Proofs.Tryz.func128, by kernel_rfl, by kernel_rfl⟩
theorem MD : ∀ fn : Func, some Go.Proofs.Tryz.f129 = some fn → cT Go.Proofs.Tryz.prog 129 fn := by
 intro fn h; cases h; exact ⟨Go.Proofs.Tryz.func129, by kernel_rfl, by kernel_rfl⟩
theorem ME : ∀ fn : Func, some Go.Proofs.Tryz.f132 = some fn → cT Go.Proofs.Tryz.prog 132 fn := by
 intro fn h; cases h; exact ⟨Go.Proofs.Tryz.func132, by kernel_rfl, by kernel_rfl⟩
theorem MF : ∀ fn : Func, some Go.Proofs.Tryz.f134 = some fn → cT Go.Proofs.Tryz.prog 134 fn := by
 intro fn h; cases h; exact ⟨Go.Proofs.Tryz.func134, by kernel_rfl, by kernel_rfl⟩
theorem MG : ∀ fn : Func, some Go.Proofs.Tryz.f136 = some fn → cT Go.Proofs.Tryz.prog 136 fn := by
 intro fn h; cases h; exact ⟨Go.Proofs.Tryz.func136, by kernel_rfl, by kernel_rfl⟩
theorem MH : ∀ fn : Func, some Go.Proofs.Tryz.f137 = some fn → cT Go.Proofs.Tryz.prog 137 fn := by
 intro fn h; cases h; exact ⟨Go.Proofs.Tryz.func137, by kernel_rfl, by kernel_rfl⟩
theorem MI : ∀ fn : Func, some Go.Proofs.Tryz.f138 = some fn → cT Go.Proofs.Tryz.prog 138 fn := by
 intro fn h; cases h; exact ⟨Go.Proofs.Tryz.func138, by kernel_rfl, by kernel_rfl⟩
theorem MJ : ∀ fn : Func, some Go.Proofs.Tryz.f139 = some fn → cT Go.Proofs.Tryz.prog 139 fn := by
 intro fn h; cases h; exact ⟨Go.Proofs.Tryz.func139, by kernel_rfl, by kernel_rfl⟩
theorem MK : ∀ fn : Func, some Go.Proofs.Tryz.f140 = some fn → cT Go.Proofs.Tryz.prog 140 fn := by
 intro fn h; cases h; exact ⟨Go.Proofs.Tryz.func140, by kernel_rfl, by kernel_rfl⟩
theorem ML : ∀ fn : Func, some Go.Proofs.Tryz.f141 = some fn → cT Go.Proofs.Tryz.prog 141 fn := by
 intro fn h; cases h; exact ⟨Go.Proofs.Tryz.func141, by kernel_rfl, by kernel_rfl⟩
theorem MM : ∀ fn : Func, some Go.Proofs.Tryz.f142 = some fn → cT Go.Proofs.Tryz.prog 142 fn := by
 intro fn h; cases h; exact ⟨Go.Proofs.Tryz.func142, by kernel_rfl, by kernel_rfl⟩
theorem MN : ∀ fn : Func, some Go.Proofs.Tryz.f143 = some fn → cT Go.Proofs.Tryz.prog 143 fn := by
 intro fn h; cases h; exact ⟨Go.Proofs.Tryz.func143, by kernel_rfl, by kernel_rfl⟩
theorem MO : ∀ fn : Func, some Go.Proofs.Tryz.f145 = some fn → cT Go.Proofs.Tryz.prog 145 fn := by
 intro fn h; cases h; exact ⟨Go.Proofs.Tryz.func145, by kernel_rfl, by kernel_rfl⟩
theorem MP : ∀ fn : Func, some Go.Proofs.Tryz.f146 = some fn → cT Go.Proofs.Tryz.prog 146 fn := by
 intro fn h; cases h; exact ⟨Go.Proofs.Tryz.func146, by kernel_rfl, by kernel_rfl⟩
theorem MQ : ∀ fn : Func, some Go.Proofs.Tryz.f147 = some fn → cT Go.Proofs.Tryz.prog 147 fn := by
 intro fn h; cases h; exact ⟨Go.Proofs.Tryz.func147, by kernel_rfl, by kernel_rfl⟩
theorem MR : ∀ fn : Func, some Go.Proofs.Tryz.f148 = some fn → cT Go.Proofs.Tryz.prog 148 fn := by
 intro fn h; cases h; exact ⟨Go.Proofs.Tryz.func148, by kernel_rfl, by kernel_rfl⟩
theorem MS : ∀ fn : Func, some Go.Proofs.Tryz.f154 = some fn → cT Go.Proofs.Tryz.prog 154 fn := by
 intro fn h; cases h; exact ⟨Go.Proofs.Tryz.func154, by kernel_rfl, by kernel_rfl⟩
theorem MT : ∀ fn : Func, some Go.Proofs.Tryz.f158 = some fn → cT Go.Proofs.Tryz.prog 158 fn := by
 intro fn h; cases h; exact ⟨Go.Proofs.Tryz.func158, by kernel_rfl, by kernel_rfl⟩
theorem MU : ∀ fn : Func, some Go.Proofs.Tryz.f159 = some fn → cT Go.Proofs.Tryz.prog 159 fn := by
 intro fn h; cases h; exact ⟨Go.Proofs.Tryz.func159, by kernel_rfl, by kernel_rfl⟩
theorem MV : ∀ fn : Func, some Go.Proofs.Tryz.f160 = some fn → cT Go.Proofs.Tryz.prog 160 fn := by
 intro fn h; cases h; exact ⟨Go.Proofs.Tryz.func160, by kernel_rfl, by kernel_rfl⟩
theorem MW : ∀ fn : Func, some Go.Proofs.Tryz.f163 = some fn → cT Go.Proofs.Tryz.prog 163 fn := by
 intro fn h; cases h; exact ⟨Go.Proofs.Tryz.func163, by kernel_rfl, by kernel_rfl⟩
theorem MX : ∀ fn : Func, some Go.Proofs.Tryz.f164 = some fn → cT Go.Proofs.Tryz.prog 164 fn := by
 intro fn h; cases h; exact ⟨Go.Proofs.Tryz.func164, by kernel_rfl, by kernel_rfl⟩
theorem MY : ∀ fn : Func, some Go.Proofs.Tryz.f165 = some fn → cT Go.Proofs.Tryz.prog 165 fn := by
 intro fn h; cases h; exact ⟨Go.Proofs.Tryz.func165, by kernel_rfl, by kernel_rfl⟩
theorem MZ : ∀ fn : Func, some Go.Proofs.Tryz.f169 = some fn → cT Go.Proofs.Tryz.prog 169 fn := by
 intro fn h; cases h; exact ⟨Go.Proofs.Tryz.func169, by kernel_rfl, by kernel_rfl⟩
theorem M0 : ∀ fn : Func, some Go.Proofs.Tryz.f172 = some fn → cT Go.Proofs.Tryz.prog 172 fn := by
 intro fn h; cases h; exact ⟨Go.Proofs.Tryz.func172, by kernel_rfl, by kernel_rfl⟩
theorem M1 : ∀ fn : Func, some Go.Proofs.Tryz.f175 = some fn → cT Go.Proofs.Tryz.prog 175 fn := by
 intro fn h; cases h; exact ⟨Go.Proofs.Tryz.func175, by kernel_rfl, by kernel_rfl⟩
theorem M3 : ∀ fn : Func, some Go.Proofs.Tryz.f176 = some fn → cT Go.Proofs.Tryz.prog 176 fn := by
 intro fn h; cases h; exact ⟨Go.Proofs.Tryz.func176, by kernel_rfl, by kernel_rfl⟩
theorem M4 : ∀ fn : Func, some Go.Proofs.Tryz.f177 = some fn → cT Go.Proofs.Tryz.prog 177 fn := by
 intro fn h; cases h; exact ⟨Go.Proofs.Tryz.func177, by kernel_rfl, by kernel_rfl⟩
theorem M5 : ∀ fn : Func, some Go.Proofs.Tryz.f179 = some fn → cT Go.Proofs.Tryz.prog 179 fn := by
 intro fn h; cases h; exact ⟨Go.Proofs.Tryz.func179, by kernel_rfl, by kernel_rfl⟩
theorem M6 : ∀ fn : Func, some Go.Proofs.Tryz.f191 = some fn → cT Go.Proofs.Tryz.prog 191 fn := by
 intro fn h; cases h; exact ⟨Go.Proofs.Tryz.func191, by kernel_rfl, by kernel_rfl⟩
theorem M7 : ∀ fn : Func, some Go.Proofs.Tryz.f192 = some fn → cT Go.Proofs.Tryz.prog 192 fn := by
 intro fn h; cases h; exact ⟨Go.Proofs.Tryz.func192, by kernel_rfl, by kernel_rfl⟩
theorem M8 : ∀ fn : Func, some Go.Proofs.Tryz.f193 = some fn → cT Go.Proofs.Tryz.prog 193 fn := by
 intro fn h; cases h; exact ⟨Go.Proofs.Tryz.func193, by kernel_rfl, by kernel_rfl⟩
theorem M9 : ∀ fn : Func, some Go.Proofs.Tryz.f194 = some fn → cT Go.Proofs.Tryz.prog 194 fn := by
 intro fn h; cases h; exact ⟨Go.Proofs.Tryz.func194, by kernel_rfl, by kernel_rfl⟩
theorem Na : ∀ fn : Func, some Go.Proofs.Tryz.f202 = some fn → cT Go.Proofs.Tryz.prog 202 fn := by
 intro fn h; cases h; exact ⟨Go.Proofs.Tryz.func202, by kernel_rfl, by kernel_rfl⟩
theorem Nb : ∀ fn : Func, some Go.Proofs.Tryz.f203 = some fn → cT Go.Proofs.Tryz.prog 203 fn := by
 intro fn h; cases h; exact ⟨Go.Proofs.Tryz.func203, by kernel_rfl, by kernel_rfl⟩
theorem Nc : ∀ fn : Func, some Go.Proofs.Tryz.f208 = some fn → cT Go.Proofs.Tryz.prog 208 fn := by
 intro fn h; cases h; exact ⟨Go.Proofs.Tryz.func208, by kernel_rfl, by kernel_rfl⟩
theorem QR : KL Go.Proofs.Tryz.prog F := ⟨Qr, ON, OO, OP, OQ, OR, OS, OT, OU, OW, OX, OY, OZ, O0, O1, O2, O3, O4, O5, O6, O7, O8, O9, Pb, Pc, Pd, Pe, Pf, Pg, Ph, Pj, Pk, Pl, Pn, Po, Pp, Pq, Pr, Ps, Pu, Pv, Py, Pz, PB, PC, PD, PE, PF, PG, PH, PI, PJ, PK, PL, PM, PN, PO, PQ, PR, PS, PT, PU, PV, Mh, Mi, Mj, Ml, Mm, Mn, Mo, Mp, Mq, Mr, Ms, Mt, Mu, Mv, Mw, Mx, My, Mz, MA, MB, MC, MD, ME, MF, MG, MH, MI, MJ, MK, ML, MM, MN, MO, MP, MQ, MR, MS, MT, MU, MV, MW, MX, MY, MZ, M0, M1, M3, M4, M5, M6, M7, M8, M9, Na, Nb, Nc, trivial⟩
theorem PW : ∀ f fn, look F f = some fn → cT Go.Proofs.Tryz.prog f fn := fun t i h => QR.mem t i (bW h)
end Go.Px.Seat
