/- Rows of bytes as they come in; the table as it is laid. Seat ZD. -/
import Derived.Test.YtbdlklncblklnaaGreatDoorR3
import Derived.Test.YtbdlklncblklnaaGreatDoorTie
import Derived.Test.YtbdlklncblklnaaGreatDoorCards
import Derived.Test.YtbdlklncblklnaaGreatDoorM4
import Derived.LaidMore
import Derived.MakeChecks
import Derived.Stop.Joined
import Derived.Stop.LaidErr
import Derived.Lay
import Derived.Lib.LaidTab
import Derived.SevenTiedAt
import Derived.ProofKit
import Derived.OpenShut
import Derived.ChangeOld
import Derived.Below
set_option linter.unusedVariables false

namespace Go.Px.Seat
open Go Go.ChangeShapes Go.WideShapes Go.ChangeAt Go.RowKit
set_option linter.unusedVariables false
/-- what a row of numbers that came in is told by -/
def IsRow (k : IntKind) (w : World) (a : Option Addr) (len cap : Nat) (zs : List Int) : Prop :=
  (a = none ∧ len = 0 ∧ cap = 0 ∧ zs = []) ∨
  ∃ x, a = some x ∧ len ≤ cap ∧ zs.length = cap ∧ (∀ i, i < zs.length → w.cell? (x.add i) = some (.int k (zs.getD i 0))) ∧ ∀ n ∈ zs, (Lit.int k n).wf = true
theorem chop_ints {h : Array Obj} {S : Nat → Prop} {k : IntKind} : ∀ l : List Int, Chop (Rep h S (.int k)) l (l.map (Value.int k))
  | [] => rfl
  | x :: l => ⟨[.int k x], l.map (Value.int k), rfl, rfl, chop_ints l⟩
theorem rep_bytes {w : World} {S : Nat → Prop} {a : Option Addr} {len cap : Nat} {zs : List Int} (hS : ∀ k, k < w.heap.size → S k) (h : IsRow .u8 w a len cap zs) :
    ∃ l : List Int, Rep w.heap S (.slice (.int .u8)) [.slice a len cap] l ∧ byt l := by
  rcases h with ⟨rfl, rfl, rfl, rfl⟩ | ⟨x, rfl, hl, hz, hcell, hw⟩
  · exact ⟨[], ⟨none, 0, 0, rfl, rfl, Nat.le_refl _, .inl rfl⟩, fun x hx => by cases hx⟩
  · by_cases h0 : len = 0
    · subst h0
      exact ⟨[], ⟨_, 0, cap, rfl, rfl, Nat.zero_le _, .inl rfl⟩, fun x hx => by cases hx⟩
    · obtain ⟨b, off, spot⟩ := x
      have hc := hcell 0 (by omega)
      have hspot : spot = none := by simpa [Addr.add] using World.cell?_spot hc
      subst hspot
      have hb : ∃ arr et fr, w.heap[b]? = some (.cells arr et fr) := by
        unfold World.cell? at hc
        have hbl : ((⟨b, off, none⟩ : Addr).add 0).block = b := by simp [Addr.add]
        rw [hbl] at hc
        split at hc
        · rename_i arr et fr harr
          exact ⟨_, _, _, harr⟩
        · cases hc
      obtain ⟨arr, et, fr, harr⟩ := hb
      have hget : ∀ i, i < zs.length → arr[off + i]? = some (.int .u8 (zs.getD i 0)) := fun i hi => by
        have := hcell i hi
        rw [add_plain] at this
        simpa [World.cell?, harr] using this
      have hlt : b < w.heap.size := (Array.getElem?_eq_some_iff.1 harr).1
      have hfit : off + len ≤ arr.size := by
        have := (Array.getElem?_eq_some_iff.1 (hget (len - 1) (by omega))).1
        omega
      have hlen : (zs.take len).length = len := by rw [List.length_take]; omega
      refine ⟨zs.take len, ⟨_, len, cap, rfl, hlen, hl, .inr ⟨b, off, arr, et, fr, rfl, hS _ hlt, harr, by simpa [Ty.size] using hfit, ?_⟩⟩, fun x hx => ?_⟩
      · have : (arr.toList.drop off).take (len * Ty.size (.int .u8)) = (zs.take len).map (Value.int .u8) := by
          apply List.ext_getElem?
          intro i
          simp only [Ty.size, Nat.mul_one, List.getElem?_take, List.getElem?_map, List.getElem?_drop]
          by_cases hi : i < len
          · rw [if_pos hi, if_pos hi]
            have := hget i (by omega)
            rw [Array.getElem?_toList, this]
            simp [List.getD, show i < zs.length by omega]
          · rw [if_neg hi, if_neg hi]; rfl
        rw [this]
        exact chop_ints _
      · have := hw x (List.mem_of_mem_take hx)
        simp [Lit.wf, IntKind.min, IntKind.max, IntKind.signed, IntKind.bits] at this
        omega

theorem tab_obj {w : World} (h : TabAt 0 w) : ∃ o, w.heap[0]? = some o ∧ ∀ w' : World, w'.heap[0]? = some o → TabAt 0 w' := by
  have h0 := h 0 (by decide)
  unfold World.cell? at h0
  split at h0
  · rename_i arr et fr harr
    refine ⟨_, harr, fun w' hw' j hj => ?_⟩
    have h1 := h j hj
    unfold World.cell? at h1 ⊢
    rw [harr] at h1
    rw [hw']
    exact h1
  · cases h0
theorem tabIs_obj {P : Program} {w : World} {name : String} {k : IntKind} {zs : List Int} {g : Nat} (hg : P.globalNamed name = some g) (h : Lib.TabIs P w name k zs) : ∃ o, w.heap[g]? = some o ∧ ∀ w' : World, w'.heap[g]? = some o → Lib.TabIs P w' name k zs := by
  have h0 : w.var? P name = some (zs.map fun z => Value.int k z).toArray := h
  unfold World.var? at h0
  rw [hg] at h0
  simp only [Option.bind_some] at h0
  cases hw : w.heap[g]? with
  | none => rw [hw] at h0; cases h0
  | some o =>
    refine ⟨o, rfl, fun w' hw' => ?_⟩
    show w'.var? P name = _
    unfold World.var?
    rw [hg]
    simp only [Option.bind_some]
    rw [hw'] 
    rw [hw] at h0
    exact h0
end Go.Px.Seat
namespace Go.Proofs.YtbdlklncblklnaaGreatDoor
open Go.ChangeShapes Go.WideShapes Go.ChangeAt Go.RowKit
set_option linter.unusedVariables false
theorem own : ownKnob Tryz.prog.godebug = none := by kernel_rfl
theorem laidOut : laidOutB Tryz.prog = true := by kernel_rfl
theorem gTab : Tryz.prog.globalNamed "math/bits.deBruijn64tab" = some 0 := by kernel_rfl
theorem tTab : (Tryz.prog.globals[0]?).map (·.type) = some 201 := by kernel_rfl
theorem gPow : Tryz.prog.globalNamed "internal/strconv.uint64pow10" = some 1 := by kernel_rfl
theorem tPow : (Tryz.prog.globals[1]?).map (·.type) = some 221 := by kernel_rfl
abbrev laidTab : List (String × DataW Unit) := [("math/bits.deBruijn32tab", Rows.laid_math_bits_deBruijn32tab), ("math/bits.deBruijn64tab", Rows.laid_math_bits_deBruijn64tab), ("internal/strconv.uint64pow10", Rows.laid_internal_strconv_uint64pow10), ("unicode/utf8.acceptRanges", Rows.laid_unicode_utf8_acceptRanges), ("unicode/utf8.first", Rows.laid_unicode_utf8_first)]
theorem door_met (os : Os) (args : Array Value) : laidMetH Tryz.prog laidTab ((World.laidAll Tryz.prog os laidTab).forCall (fun _ _ => 0) ⟨#[], args, []⟩).memory := by
  rw [MakeChecks.laidMetH_plain _ _ _ (by kernel_rfl)]
  exact laidMet_laidAll _ (by kernel_rfl) (by kernel_rfl)
theorem tab_eq : Rows.laid_math_bits_deBruijn64tab (H := Unit) = Lib.tabData .u8 (Lib.deBruijn64tab.map fun n => ((n : Nat) : Int)) := by kernel_rfl
theorem pow_eq : Rows.laid_internal_strconv_uint64pow10 (H := Unit) = Lib.tabData .u64 Lib.pow10Tab := by kernel_rfl
theorem of_laid {W : World} (h : laidMetH Tryz.prog laidTab W) : Px.Seat.TabAt 0 W ∧ Lib.TabIs Tryz.prog W "internal/strconv.uint64pow10" .u64 Lib.pow10Tab := by
  rw [MakeChecks.laidMetH_plain _ _ _ (by kernel_rfl)] at h
  have h1 := h.tail
  have h2 := h1.tail
  rw [tab_eq] at h1
  rw [pow_eq] at h2
  have t1 := Lib.tabIs_of_head gTab tTab Tryz.underlying201 Tryz.underlying5 (by kernel_rfl) (by kernel_rfl) h1
  refine ⟨fun j hj => ?_, Lib.tabIs_of_head gPow tPow Tryz.underlying221 Tryz.underlying71 (by kernel_rfl) (by kernel_rfl) h2⟩
  have := t1.cell gTab j (by rw [List.length_map]; exact hj)
  rw [this, List.getD_eq_getElem?_getD, List.getElem?_map, List.getElem?_eq_getElem hj, List.getD_eq_getElem?_getD, List.getElem?_eq_getElem hj]
  rfl
set_option maxRecDepth 100000 in
theorem row_of {H : Type} {enc : TypeId × Value → H} {W : World} {base b0 : Nat} {v : Value} {d : DataW H} {p : List MemPlace} (hval : Value.okWide Tryz.prog W .any b0 22 v) (h : DataW.Trod enc Tryz.prog W 0 (fun _ => true) true 22 v d p) :
    ∃ a len cap zs, v = .slice a len cap ∧ Px.Seat.IsRow .u8 W a len cap zs := by
  obtain ⟨a, len, cap, rfl⟩ := okWide_slice Tryz.underlying22 hval
  obtain ⟨fuel, hf⟩ := h
  rcases open_ints Tryz.underlying22 Tryz.underlying5 (by kernel_rfl) hf with ⟨hcs, _⟩ | ⟨x, l, c, zs, hcs, _, hl, hm, hz, _, hcell, hwz⟩
  · simp [Value.cells] at hcs
    obtain ⟨rfl, rfl, rfl⟩ := hcs
    exact ⟨none, 0, 0, [], rfl, .inl ⟨rfl, rfl, rfl, rfl⟩⟩
  · simp [Value.cells] at hcs
    obtain ⟨rfl, rfl, rfl⟩ := hcs
    exact ⟨_, _, _, zs, rfl, .inr ⟨_, rfl, hl, by simpa using hz, hcell, hwz⟩⟩
end Go.Proofs.YtbdlklncblklnaaGreatDoor
