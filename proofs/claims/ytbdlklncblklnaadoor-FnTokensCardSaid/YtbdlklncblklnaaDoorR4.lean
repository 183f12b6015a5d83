/- Rows of bytes as they come in; the error variables as they are laid. Seat D. -/
import Derived.Test.YtbdlklncblklnaaDoorR3
import Derived.Test.YtbdlklncblklnaaDoorTie
import Derived.Test.YtbdlklncblklnaaDoorCards
import Derived.LaidMore
import Derived.MakeChecks
import Derived.Stop.Joined
import Derived.Stop.LaidErr
import Derived.SevenTiedAt
import Derived.ProofKit
import Derived.OpenShut
import Derived.ChangeOld
import Derived.Below
set_option linter.unusedVariables false

namespace Go.Px.Seat
open Go Go.ChangeShapes Go.WideShapes Go.ChangeAt Go.RowKit
set_option linter.unusedVariables false
def byt (l : List Int) : Prop := ∀ x ∈ l, 0 ≤ x ∧ x < 256
/-- what a row of numbers that came in is told by -/
def IsRow (k : IntKind) (w : World) (a : Option Addr) (len cap : Nat) (zs : List Int) : Prop :=
  (a = none ∧ len = 0 ∧ cap = 0 ∧ zs = []) ∨
  ∃ x, a = some x ∧ len ≤ cap ∧ zs.length = cap ∧ (∀ i, i < zs.length → w.cell? (x.add i) = some (.int k (zs.getD i 0))) ∧ ∀ n ∈ zs, (Lit.int k n).wf = true
theorem chop_ints {h : Array Obj} {S : Nat → Prop} {k : IntKind} : ∀ l : List Int, Chop (Rep h S (.int k)) l (l.map (Value.int k))
  | [] => rfl
  | x :: l => ⟨[.int k x], l.map (Value.int k), rfl, rfl, chop_ints l⟩
theorem rep_bytes {w : World} {S : Nat → Prop} {a : Option Addr} {len cap : Nat} {zs : List Int} (hS : ∀ k, k < w.heap.size → S k) (h : IsRow .u8 w a len cap zs) :
    ∃ l : List Int, Rep w.heap S (.slice (.int .u8)) [.slice a len cap] l ∧ byt l := by
  rcases h with ⟨rfl, rfl, rfl, rfl⟩ | ⟨x, rfl, hl, hz, hcell, hw⟩
  · exact ⟨[], ⟨none, 0, 0, rfl, rfl, Nat.le_refl _, .inl rfl⟩, fun x hx => by cases hx⟩
  · by_cases h0 : len = 0
    · subst h0
      exact ⟨[], ⟨_, 0, cap, rfl, rfl, Nat.zero_le _, .inl rfl⟩, fun x hx => by cases hx⟩
    · obtain ⟨b, off, spot⟩ := x
      have hc := hcell 0 (by omega)
      have hspot : spot = none := by simpa [Addr.add] using World.cell?_spot hc
      subst hspot
      have hb : ∃ arr et fr, w.heap[b]? = some (.cells arr et fr) := by
        unfold World.cell? at hc
        have hbl : ((⟨b, off, none⟩ : Addr).add 0).block = b := by simp [Addr.add]
        rw [hbl] at hc
        split at hc
        · rename_i arr et fr harr
          exact ⟨_, _, _, harr⟩
        · cases hc
      obtain ⟨arr, et, fr, harr⟩ := hb
      have hget : ∀ i, i < zs.length → arr[off + i]? = some (.int .u8 (zs.getD i 0)) := fun i hi => by
        have := hcell i hi
        rw [add_plain] at this
        simpa [World.cell?, harr] using this
      have hlt : b < w.heap.size := (Array.getElem?_eq_some_iff.1 harr).1
      have hfit : off + len ≤ arr.size := by
        have := (Array.getElem?_eq_some_iff.1 (hget (len - 1) (by omega))).1
        omega
      have hlen : (zs.take len).length = len := by rw [List.length_take]; omega
      refine ⟨zs.take len, ⟨_, len, cap, rfl, hlen, hl, .inr ⟨b, off, arr, et, fr, rfl, hS _ hlt, harr, by simpa [Ty.size] using hfit, ?_⟩⟩, fun x hx => ?_⟩
      · have : (arr.toList.drop off).take (len * Ty.size (.int .u8)) = (zs.take len).map (Value.int .u8) := by
          apply List.ext_getElem?
          intro i
          simp only [Ty.size, Nat.mul_one, List.getElem?_take, List.getElem?_map, List.getElem?_drop]
          by_cases hi : i < len
          · rw [if_pos hi, if_pos hi]
            have := hget i (by omega)
            rw [Array.getElem?_toList, this]
            simp [List.getD, show i < zs.length by omega]
          · rw [if_neg hi, if_neg hi]; rfl
        rw [this]
        exact chop_ints _
      · have := hw x (List.mem_of_mem_take hx)
        simp [Lit.wf, IntKind.min, IntKind.max, IntKind.signed, IntKind.bits] at this
        omega

theorem if_obj {g : Nat} {w : World} (h : ∃ te pe, w.cell? ⟨g, 0, none⟩ = some (.iface te pe)) : ∃ o, w.heap[g]? = some o ∧ ∀ w' : World, w'.heap[g]? = some o → IfAt g w' := by
  obtain ⟨te, pe, h⟩ := h
  unfold World.cell? at h
  split at h
  · rename_i arr et fr harr
    refine ⟨_, harr, fun w' hw' => ⟨.iface te pe, ?_, .inr ⟨te, pe, rfl⟩⟩⟩
    unfold World.cell?
    rw [hw']
    exact h
  · cases h
end Go.Px.Seat
namespace Go.Proofs.YtbdlklncblklnaaDoor
open Go.ChangeShapes Go.WideShapes Go.ChangeAt Go.RowKit
set_option linter.unusedVariables false
theorem own : ownKnob Tryd.prog.godebug = none := by kernel_rfl
theorem laidOut : laidOutB Tryd.prog = true := by kernel_rfl
theorem gSyn : Tryd.prog.globalNamed "strconv.ErrSyntax" = some 1 := by kernel_rfl
theorem tSyn : (Tryd.prog.globals[1]?).map (·.type) = some 73 := by kernel_rfl
theorem gRan : Tryd.prog.globalNamed "strconv.ErrRange" = some 2 := by kernel_rfl
theorem tRan : (Tryd.prog.globals[2]?).map (·.type) = some 73 := by kernel_rfl
abbrev laidTab : List (String × DataW Unit) := [("math/bits.deBruijn32tab", Rows.laid_math_bits_deBruijn32tab), ("math/bits.deBruijn64tab", Rows.laid_math_bits_deBruijn64tab), ("internal/strconv.uint64pow10", Rows.laid_internal_strconv_uint64pow10), ("strconv.ErrRange", Rows.laid_strconv_ErrRange), ("strconv.ErrSyntax", Rows.laid_strconv_ErrSyntax)]
theorem door_met (os : Os) (args : Array Value) : laidMetH Tryd.prog laidTab ((World.doorLaid Tryd.prog 400 os).forCall (fun _ _ => 0) ⟨#[], args, []⟩).memory :=
  laidMetH_of_parts3 (fuel := 8) (laidMet_of_run' 8 (by kernel_rfl) (by kernel_rfl)) (by kernel_rfl) (by kernel_rfl)
theorem if_of {n nm : String} {d : DataW Unit} {r : List (String × DataW Unit)} {W : World} {g ti : Nat} {ms : Array (String × TypeId)} (h : laidMet Tryd.prog ((n, .iface nm d) :: r) W)
    (hg : Tryd.prog.globalNamed n = some g) (ht : (Tryd.prog.globals[g]?).map (·.type) = some ti) (hi : Tryd.prog.underlying ti = some (.interface ms)) : ∃ te pe, W.cell? ⟨g, 0, none⟩ = some (.iface te pe) := by
  obtain ⟨ps, ⟨g0, t0, cs0, f0, p0, q0, hg0, ht0, hv0, hd0, _, e0⟩, _, hrows⟩ := h
  obtain rfl := Option.some.inj (hg.symm.trans hg0)
  obtain rfl := Option.some.inj (ht.symm.trans ht0)
  subst e0
  obtain ⟨l0⟩ := cs0
  obtain ⟨_, u, v, rfl, _⟩ := iface_of_trod hi hd0
  exact ⟨u, v, by simpa using World.var?_cell hg0 hv0 0⟩
theorem of_laid {W : World} (h : laidMetH Tryd.prog laidTab W) : (∃ te pe, W.cell? ⟨1, 0, none⟩ = some (.iface te pe)) ∧ ∃ te pe, W.cell? ⟨2, 0, none⟩ = some (.iface te pe) := by
  rw [MakeChecks.laidMetH_plain _ _ _ (by kernel_rfl)] at h
  have h3 := h.tail.tail.tail
  exact ⟨if_of h3.tail gSyn tSyn Tryd.underlying73, if_of h3 gRan tRan Tryd.underlying73⟩
set_option maxRecDepth 100000 in
theorem row_of {H : Type} {enc : TypeId × Value → H} {W : World} {base b0 : Nat} {v : Value} {d : DataW H} {p : List MemPlace} (hval : Value.okWide Tryd.prog W .any b0 22 v) (h : DataW.Trod enc Tryd.prog W 0 (fun _ => true) true 22 v d p) :
    ∃ a len cap zs, v = .slice a len cap ∧ Px.Seat.IsRow .u8 W a len cap zs := by
  obtain ⟨a, len, cap, rfl⟩ := okWide_slice Tryd.underlying22 hval
  obtain ⟨fuel, hf⟩ := h
  rcases open_ints Tryd.underlying22 Tryd.underlying5 (by kernel_rfl) hf with ⟨hcs, _⟩ | ⟨x, l, c, zs, hcs, _, hl, hm, hz, _, hcell, hwz⟩
  · simp [Value.cells] at hcs
    obtain ⟨rfl, rfl, rfl⟩ := hcs
    exact ⟨none, 0, 0, [], rfl, .inl ⟨rfl, rfl, rfl, rfl⟩⟩
  · simp [Value.cells] at hcs
    obtain ⟨rfl, rfl, rfl⟩ := hcs
    exact ⟨_, _, _, zs, rfl, .inr ⟨_, rfl, hl, by simpa using hz, hcell, hwz⟩⟩
end Go.Proofs.YtbdlklncblklnaaDoor
