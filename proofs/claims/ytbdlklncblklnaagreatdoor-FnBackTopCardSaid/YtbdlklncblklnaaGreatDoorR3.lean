/- Rows of bytes as they come in; the table as it is laid. Seat ZD. -/
import Derived.Test.YtbdlklncblklnaaGreatDoorR2
import Derived.Test.YtbdlklncblklnaaGreatDoorTie
import Derived.Test.YtbdlklncblklnaaGreatDoorCards
import Derived.Test.YtbdlklncblklnaaGreatDoorM4
import Derived.LaidMore
import Derived.MakeChecks
import Derived.Stop.Joined
import Derived.SevenTiedAt
import Derived.ProofKit
import Derived.OpenShut
import Derived.ChangeOld
import Derived.Below
set_option linter.unusedVariables false

namespace Go.Px.Seat
open Go Go.ChangeShapes Go.WideShapes Go.ChangeAt Go.RowKit
set_option linter.unusedVariables false
/-- what a row of numbers that came in is told by -/
def IsRow (k : IntKind) (w : World) (a : Option Addr) (len cap : Nat) (zs : List Int) : Prop :=
  (a = none ∧ len = 0 ∧ cap = 0 ∧ zs = []) ∨
  ∃ x, a = some x ∧ len ≤ cap ∧ zs.length = cap ∧ (∀ i, i < zs.length → w.cell? (x.add i) = some (.int k (zs.getD i 0))) ∧ ∀ n ∈ zs, (Lit.int k n).wf = true
theorem chop_ints {h : Array Obj} {S : Nat → Prop} {k : IntKind} : ∀ l : List Int, Chop (Rep h S (.int k)) l (l.map (Value.int k))
  | [] => rfl
  | x :: l => ⟨[.int k x], l.map (Value.int k), rfl, rfl, chop_ints l⟩
theorem rep_bytes {w : World} {S : Nat → Prop} {a : Option Addr} {len cap : Nat} {zs : List Int} (hS : ∀ k, k < w.heap.size → S k) (h : IsRow .u8 w a len cap zs) :
    ∃ l : List Int, Rep w.heap S (.slice (.int .u8)) [.slice a len cap] l ∧ byt l := by
  rcases h with ⟨rfl, rfl, rfl, rfl⟩ | ⟨x, rfl, hl, hz, hcell, hw⟩
  · exact ⟨[], ⟨none, 0, 0, rfl, rfl, Nat.le_refl _, .inl rfl⟩, fun x hx => by cases hx⟩
  · by_cases h0 : len = 0
    · subst h0
      exact ⟨[], ⟨_, 0, cap, rfl, rfl, Nat.zero_le _, .inl rfl⟩, fun x hx => by cases hx⟩
    · obtain ⟨b, off, spot⟩ := x
      have hc := hcell 0 (by omega)
      have hspot : spot = none := by simpa [Addr.add] using World.cell?_spot hc
      subst hspot
      have hb : ∃ arr et fr, w.heap[b]? = some (.cells arr et fr) := by
        unfold World.cell? at hc
        have hbl : ((⟨b, off, none⟩ : Addr).add 0).block = b := by simp [Addr.add]
        rw [hbl] at hc
        split at hc
        · rename_i arr et fr harr
          exact ⟨_, _, _, harr⟩
        · cases hc
      obtain ⟨arr, et, fr, harr⟩ := hb
      have hget : ∀ i, i < zs.length → arr[off + i]? = some (.int .u8 (zs.getD i 0)) := fun i hi => by
        have := hcell i hi
        rw [add_plain] at this
        simpa [World.cell?, harr] using this
      have hlt : b < w.heap.size := (Array.getElem?_eq_some_iff.1 harr).1
      have hfit : off + len ≤ arr.size := by
        have := (Array.getElem?_eq_some_iff.1 (hget (len - 1) (by omega))).1
        omega
      have hlen : (zs.take len).length = len := by rw [List.length_take]; omega
      refine ⟨zs.take len, ⟨_, len, cap, rfl, hlen, hl, .inr ⟨b, off, arr, et, fr, rfl, hS _ hlt, harr, by simpa [Ty.size] using hfit, ?_⟩⟩, fun x hx => ?_⟩
      · have : (arr.toList.drop off).take (len * Ty.size (.int .u8)) = (zs.take len).map (Value.int .u8) := by
          apply List.ext_getElem?
          intro i
          simp only [Ty.size, Nat.mul_one, List.getElem?_take, List.getElem?_map, List.getElem?_drop]
          by_cases hi : i < len
          · rw [if_pos hi, if_pos hi]
            have := hget i (by omega)
            rw [Array.getElem?_toList, this]
            simp [List.getD, show i < zs.length by omega]
          · rw [if_neg hi, if_neg hi]; rfl
        rw [this]
        exact chop_ints _
      · have := hw x (List.mem_of_mem_take hx)
        simp [Lit.wf, IntKind.min, IntKind.max, IntKind.signed, IntKind.bits] at this
        omega

theorem tab_obj {w : World} (h : TabAt 0 w) : ∃ o, w.heap[0]? = some o ∧ ∀ w' : World, w'.heap[0]? = some o → TabAt 0 w' := by
  have h0 := h 0 (by decide)
  unfold World.cell? at h0
  split at h0
  · rename_i arr et fr harr
    refine ⟨_, harr, fun w' hw' j hj => ?_⟩
    have h1 := h j hj
    unfold World.cell? at h1 ⊢
    rw [harr] at h1
    rw [hw']
    exact h1
  · cases h0
end Go.Px.Seat
namespace Go.Proofs.YtbdlklncblklnaaGreatDoor
open Go.ChangeShapes Go.WideShapes Go.ChangeAt Go.RowKit
set_option linter.unusedVariables false
theorem own : ownKnob Tryz.prog.godebug = none := by kernel_rfl
theorem laidOut : laidOutB Tryz.prog = true := by kernel_rfl
theorem gTab : Tryz.prog.globalNamed "math/bits.deBruijn64tab" = some 0 := by kernel_rfl
theorem tTab : (Tryz.prog.globals[0]?).map (·.type) = some 201 := by kernel_rfl
abbrev laidTab : List (String × DataW Unit) := [("math/bits.deBruijn64tab", Rows.laid_math_bits_deBruijn64tab)]
theorem door_met (os : Os) (args : Array Value) : laidMetH Tryz.prog laidTab ((World.doorLaid Tryz.prog 400 os).forCall (fun _ _ => 0) ⟨#[], args, []⟩).memory :=
  laidMetH_of_parts3 (fuel := 8) (laidMet_of_run' 8 (by kernel_rfl) (by kernel_rfl)) (by kernel_rfl) (by kernel_rfl)
theorem tab_eq : Rows.laid_math_bits_deBruijn64tab (H := Unit) = .agg (Lib.deBruijn64tab.map fun n => .lit (.int .u8 (n : Nat))) := by kernel_rfl
theorem of_laid {W : World} (h : laidMetH Tryz.prog laidTab W) : Px.Seat.TabAt 0 W := by
  rw [MakeChecks.laidMetH_plain _ _ _ (by kernel_rfl)] at h
  obtain ⟨ps, ⟨g0, t0, cs0, f0, p0, q0, hg0, ht0, hv0, hd0, _⟩, _, _⟩ := h
  obtain rfl := Option.some.inj (gTab.symm.trans hg0)
  obtain rfl := Option.some.inj (tTab.symm.trans ht0)
  obtain ⟨xs, m1, rfl, hx1, hlen, hn, hel⟩ := DataW.trod_array Tryz.underlying201 hd0
  rw [tab_eq] at hx1
  simp only [Prod.mk.injEq, DataW.agg.injEq] at hx1
  have hx := hx1.1
  have c5 : Tryz.prog.cellsOf 5 = 1 := by kernel_rfl
  intro j hj
  have hj' : j < 64 := hj
  have h0 := hel j hj'
  rw [c5] at h0
  have hxj : j < xs.length := by omega
  rw [List.getElem?_eq_getElem hxj] at h0
  obtain ⟨k, e1, e2, _⟩ := DataW.trod_int Tryz.underlying5 h0
  have hk : DataW.lit (.int .u8 ((Lib.deBruijn64tab.getD j 0 : Nat) : Int)) = (xs[j]).1 := by
    have := congrArg (fun l => l[j]?) hx
    simp only [List.getElem?_map, List.getElem?_eq_getElem hxj, List.getElem?_eq_getElem hj, Option.map_some, Option.some.injEq] at this
    rw [List.getD_eq_getElem?_getD, List.getElem?_eq_getElem hj, Option.getD_some]
    exact this
  rw [e2] at hk
  simp only [DataW.lit.injEq, Lit.int.injEq, true_and] at hk
  have := World.var?_cell hg0 hv0 j
  rw [this]
  have hc : (cs0.toList.drop (j * 1)).take 1 = [Value.int .u8 k] := e1
  have : cs0[j]? = some (Value.int .u8 k) := by
    have := congrArg (fun l => l[0]?) hc
    simpa using this
  rw [this, hk]
set_option maxRecDepth 100000 in
theorem row_of {H : Type} {enc : TypeId × Value → H} {W : World} {base b0 : Nat} {v : Value} {d : DataW H} {p : List MemPlace} (hval : Value.okWide Tryz.prog W .any b0 22 v) (h : DataW.Trod enc Tryz.prog W 0 (fun _ => true) true 22 v d p) :
    ∃ a len cap zs, v = .slice a len cap ∧ Px.Seat.IsRow .u8 W a len cap zs := by
  obtain ⟨a, len, cap, rfl⟩ := okWide_slice Tryz.underlying22 hval
  obtain ⟨fuel, hf⟩ := h
  rcases open_ints Tryz.underlying22 Tryz.underlying5 (by kernel_rfl) hf with ⟨hcs, _⟩ | ⟨x, l, c, zs, hcs, _, hl, hm, hz, _, hcell, hwz⟩
  · simp [Value.cells] at hcs
    obtain ⟨rfl, rfl, rfl⟩ := hcs
    exact ⟨none, 0, 0, [], rfl, .inl ⟨rfl, rfl, rfl, rfl⟩⟩
  · simp [Value.cells] at hcs
    obtain ⟨rfl, rfl, rfl⟩ := hcs
    exact ⟨_, _, _, zs, rfl, .inr ⟨_, rfl, hl, by simpa using hz, hcell, hwz⟩⟩
end Go.Proofs.YtbdlklncblklnaaGreatDoor
