/- What came in as data; the variables as they are laid. Seat T. -/
import Derived.Test.YthallaeafilbbaaGreatDoorR3
import Derived.Test.YthallaeafilbbaaGreatDoorTie
import Derived.Test.YthallaeafilbbaaGreatDoorCards
import Derived.LaidMore
import Derived.MakeChecks
import Derived.Stop.Joined
import Derived.Stop.LaidErr
import Derived.Lay
import Derived.Lib.LaidTab
import Derived.SevenTiedAt
import Derived.ProofKit
import Derived.OpenShut
import Derived.ChangeOld
import Derived.Below
import Derived.OpenVars
set_option linter.unusedVariables false

namespace Go.Px.Seat
open Go Go.ChangeShapes Go.WideShapes Go.ChangeAt Go.RowKit
set_option linter.unusedVariables false
theorem cell_same {w w' : World} (h : ∀ (k : Nat) (o : Obj), w.heap[k]? = some o → w'.heap[k]? = some o) {x : Addr} {v : Value} (hx : w.cell? x = some v) : w'.cell? x = some v := by
  unfold World.cell? at hx ⊢
  cases hw : w.heap[x.block]? with
  | none => rw [hw] at hx; cases hx
  | some o =>
    rw [hw] at hx
    rw [h _ _ hw]
    exact hx
theorem var_same {P : Program} {w w' : World} (h : ∀ (k : Nat) (o : Obj), w.heap[k]? = some o → w'.heap[k]? = some o) {n : String} {cs : Array Value} (hx : w.var? P n = some cs) : w'.var? P n = some cs := by
  unfold World.var? at hx ⊢
  cases hg : P.globalNamed n with
  | none => rw [hg] at hx; cases hx
  | some g =>
    rw [hg] at hx
    simp only [Option.bind_some] at hx ⊢
    cases hw : w.heap[g]? with
    | none => rw [hw] at hx; cases hx
    | some o =>
      rw [hw] at hx
      rw [h _ _ hw]
      exact hx
def byt (l : List Int) : Prop := ∀ x ∈ l, 0 ≤ x ∧ x < 256
/-- what a row of numbers that came in is told by -/
def IsRow (k : IntKind) (w : World) (a : Option Addr) (len cap : Nat) (zs : List Int) : Prop :=
  (a = none ∧ len = 0 ∧ cap = 0 ∧ zs = []) ∨
  ∃ x, a = some x ∧ len ≤ cap ∧ zs.length = cap ∧ (∀ i, i < zs.length → w.cell? (x.add i) = some (.int k (zs.getD i 0))) ∧ ∀ n ∈ zs, (Lit.int k n).wf = true
theorem chop_ints {h : Array Obj} {S : Nat → Prop} {k : IntKind} : ∀ l : List Int, Chop (Rep h S (.int k)) l (l.map (Value.int k))
  | [] => rfl
  | x :: l => ⟨[.int k x], l.map (Value.int k), rfl, rfl, chop_ints l⟩
theorem rep_bytes {w : World} {S : Nat → Prop} {a : Option Addr} {len cap : Nat} {zs : List Int} (hS : ∀ k, k < w.heap.size → S k) (h : IsRow .u8 w a len cap zs) :
    ∃ l : List Int, Rep w.heap S (.slice (.int .u8)) [.slice a len cap] l ∧ byt l := by
  rcases h with ⟨rfl, rfl, rfl, rfl⟩ | ⟨x, rfl, hl, hz, hcell, hw⟩
  · exact ⟨[], ⟨none, 0, 0, rfl, rfl, Nat.le_refl _, .inl rfl⟩, fun x hx => by cases hx⟩
  · by_cases h0 : len = 0
    · subst h0
      exact ⟨[], ⟨_, 0, cap, rfl, rfl, Nat.zero_le _, .inl rfl⟩, fun x hx => by cases hx⟩
    · obtain ⟨b, off, spot⟩ := x
      have hc := hcell 0 (by omega)
      have hspot : spot = none := by simpa [Addr.add] using World.cell?_spot hc
      subst hspot
      have hb : ∃ arr et fr, w.heap[b]? = some (.cells arr et fr) := by
        unfold World.cell? at hc
        have hbl : ((⟨b, off, none⟩ : Addr).add 0).block = b := by simp [Addr.add]
        rw [hbl] at hc
        split at hc
        · rename_i arr et fr harr
          exact ⟨_, _, _, harr⟩
        · cases hc
      obtain ⟨arr, et, fr, harr⟩ := hb
      have hget : ∀ i, i < zs.length → arr[off + i]? = some (.int .u8 (zs.getD i 0)) := fun i hi => by
        have := hcell i hi
        rw [add_plain] at this
        simpa [World.cell?, harr] using this
      have hlt : b < w.heap.size := (Array.getElem?_eq_some_iff.1 harr).1
      have hfit : off + len ≤ arr.size := by
        have := (Array.getElem?_eq_some_iff.1 (hget (len - 1) (by omega))).1
        omega
      have hlen : (zs.take len).length = len := by rw [List.length_take]; omega
      refine ⟨zs.take len, ⟨_, len, cap, rfl, hlen, hl, .inr ⟨b, off, arr, et, fr, rfl, hS _ hlt, harr, by simpa [Ty.size] using hfit, ?_⟩⟩, fun x hx => ?_⟩
      · have : (arr.toList.drop off).take (len * Ty.size (.int .u8)) = (zs.take len).map (Value.int .u8) := by
          apply List.ext_getElem?
          intro i
          simp only [Ty.size, Nat.mul_one, List.getElem?_take, List.getElem?_map, List.getElem?_drop]
          by_cases hi : i < len
          · rw [if_pos hi, if_pos hi]
            have := hget i (by omega)
            rw [Array.getElem?_toList, this]
            simp [List.getD, show i < zs.length by omega]
          · rw [if_neg hi, if_neg hi]; rfl
        rw [this]
        exact chop_ints _
      · have := hw x (List.mem_of_mem_take hx)
        simp [Lit.wf, IntKind.min, IntKind.max, IntKind.signed, IntKind.bits] at this
        omega

theorem if_at {g : Nat} {w : World} (h : ∃ te pe, w.cell? ⟨g, 0, none⟩ = some (.iface te pe)) : IfAt g w := by
  obtain ⟨te, pe, h⟩ := h
  exact ⟨_, h, .inr ⟨te, pe, rfl⟩⟩
theorem if_same {g : Nat} {w w' : World} (h : ∀ (k : Nat) (o : Obj), w.heap[k]? = some o → w'.heap[k]? = some o) (hx : IfAt g w) : IfAt g w' := by
  obtain ⟨ev, h1, h2⟩ := hx
  exact ⟨ev, cell_same h h1, h2⟩
/-- the whole heap at the start is known -/
theorem known_of {W : World} (h : WordsAt W) (hP : Lib.TabIs Go.Proofs.Tryz.prog W "internal/strconv.uint64pow10" .u64 Lib.pow10Tab) (h3 : IfAt 3 W) (h4 : IfAt 4 W) : Known fun k => W.heap[k]? := fun w' hw' => by
  obtain ⟨b, off, c, h0, h1⟩ := h
  exact ⟨⟨b, off, c, cell_same hw' h0, fun j hj => cell_same hw' (h1 j hj)⟩, var_same hw' hP, if_same hw' h3, if_same hw' h4⟩
end Go.Px.Seat
namespace Go.Proofs.YthallaeafilbbaaGreatDoor
open Go.ChangeShapes Go.WideShapes Go.ChangeAt Go.RowKit
set_option linter.unusedVariables false
theorem own : ownKnob Tryz.prog.godebug = none := by kernel_rfl
theorem laidOut : laidOutB Tryz.prog = true := by kernel_rfl
theorem gOwn : Tryz.prog.globalNamed "loop.example/pinfold/impl.ownWords" = some 0 := by kernel_rfl
theorem tOwn : (Tryz.prog.globals[0]?).map (·.type) = some 25 := by kernel_rfl
theorem gPow : Tryz.prog.globalNamed "internal/strconv.uint64pow10" = some 2 := by kernel_rfl
theorem tPow : (Tryz.prog.globals[2]?).map (·.type) = some 217 := by kernel_rfl
theorem gSyn : Tryz.prog.globalNamed "strconv.ErrSyntax" = some 3 := by kernel_rfl
theorem tSyn : (Tryz.prog.globals[3]?).map (·.type) = some 144 := by kernel_rfl
theorem gRan : Tryz.prog.globalNamed "strconv.ErrRange" = some 4 := by kernel_rfl
theorem tRan : (Tryz.prog.globals[4]?).map (·.type) = some 144 := by kernel_rfl
theorem own_eq : Rows.laid_loop_example_pinfold_impl_ownWords (H := Unit) = .slice (Px.Seat.wordsB.map fun s => .lit (.string s.data.toList)) [] := by kernel_rfl
theorem pow_eq : Rows.laid_internal_strconv_uint64pow10 (H := Unit) = Lib.tabData .u64 Lib.pow10Tab := by kernel_rfl
abbrev laidTab : List (String × DataW Unit) := [("math/bits.deBruijn32tab", Rows.laid_math_bits_deBruijn32tab), ("math/bits.deBruijn64tab", Rows.laid_math_bits_deBruijn64tab), ("internal/strconv.uint64pow10", Rows.laid_internal_strconv_uint64pow10), ("strconv.ErrRange", Rows.laid_strconv_ErrRange), ("strconv.ErrSyntax", Rows.laid_strconv_ErrSyntax), ("loop.example/pinfold/impl.ownWords", Rows.laid_loop_example_pinfold_impl_ownWords)]
theorem door_met (os : Os) (args : Array Value) : laidMetH Tryz.prog laidTab ((World.doorLaid Tryz.prog 400 os).forCall (fun _ _ => 0) ⟨#[], args, []⟩).memory :=
  laidMetH_of_parts3 (fuel := 8) (laidMet_of_run' 8 (by kernel_rfl) (by kernel_rfl)) (by kernel_rfl) (by kernel_rfl)
theorem if_of {n nm : String} {d : DataW Unit} {r : List (String × DataW Unit)} {W : World} {g ti : Nat} {ms : Array (String × TypeId)} (h : laidMet Tryz.prog ((n, .iface nm d) :: r) W)
    (hg : Tryz.prog.globalNamed n = some g) (ht : (Tryz.prog.globals[g]?).map (·.type) = some ti) (hi : Tryz.prog.underlying ti = some (.interface ms)) : ∃ te pe, W.cell? ⟨g, 0, none⟩ = some (.iface te pe) := by
  obtain ⟨ps, ⟨g0, t0, cs0, f0, p0, q0, hg0, ht0, hv0, hd0, _, e0⟩, _, hrows⟩ := h
  obtain rfl := Option.some.inj (hg.symm.trans hg0)
  obtain rfl := Option.some.inj (ht.symm.trans ht0)
  subst e0
  obtain ⟨l0⟩ := cs0
  obtain ⟨_, u, v, rfl, _⟩ := iface_of_trod hi hd0
  exact ⟨u, v, by simpa using World.var?_cell hg0 hv0 0⟩
theorem words_of {W : World} {rest : List (String × DataW Unit)} (h : laidMet Tryz.prog (("loop.example/pinfold/impl.ownWords", Rows.laid_loop_example_pinfold_impl_ownWords) :: rest) W) : Px.Seat.WordsAt W := by
  obtain ⟨ps, ⟨g, t, cs, fuel, p, q, hg, ht, hvar, hd, _, _⟩, _⟩ := h
  obtain rfl := Option.some.inj (gOwn.symm.trans hg)
  obtain rfl := Option.some.inj (tOwn.symm.trans ht)
  rw [own_eq] at hd
  obtain ⟨a, cap, hcs, hcap, hat⟩ := open_row Tryz.underlying25 (by kernel_rfl) hd
  have hlen : (Px.Seat.wordsB.map fun s : ByteArray => (DataW.lit (.string s.data.toList) : DataW Unit)).length = 6 := by rw [List.length_map]; rfl
  rw [hlen] at hcs
  have hcell : ∀ j, j < Px.Seat.wordsB.length → W.cell? (a.add j) = some (.string (Px.Seat.wordsB.getD j ByteArray.empty)) := fun j hj => by
    obtain ⟨v, n, q', h1, h2⟩ := hat j (.lit (.string (Px.Seat.wordsB[j].data.toList))) (by rw [List.getElem?_map, List.getElem?_eq_getElem hj]; rfl)
    obtain ⟨s, e1, e2, _⟩ := DataW.trod_string Tryz.underlying9 h2
    cases e1
    injection e2 with e2 _
    injection e2 with e2
    injection e2 with e2
    rw [h1, List.getD_eq_getElem?_getD, List.getElem?_eq_getElem hj]
    congr 2
    exact (ByteArray.ext (Array.toList_inj.1 e2)).symm
  obtain ⟨b, off, spot⟩ := a
  have hspot : spot = none := by
    have h0 := hcell 0 (by decide)
    simpa [Addr.add] using World.cell?_spot h0
  subst hspot
  refine ⟨b, off, cap, ?_, fun j hj => ?_⟩
  · have hv := hvar
    unfold World.var? at hv
    rw [gOwn] at hv
    simp only [Option.bind_some] at hv
    cases hw : W.heap[0]? with
    | none => rw [hw] at hv; cases hv
    | some o =>
      rw [hw] at hv
      cases o with
      | cells c t fr =>
        simp at hv
        subst hv
        have : c[0]? = some (.slice (some ⟨b, off, none⟩) 6 cap) := by
          rw [← Array.getElem?_toList, hcs]; rfl
        simp [World.cell?, hw, this]
      | _ => simp at hv
  · have := hcell j hj
    rwa [add_plain] at this
theorem of_laid {W : World} (h : laidMetH Tryz.prog laidTab W) : Px.Seat.WordsAt W ∧ Lib.TabIs Tryz.prog W "internal/strconv.uint64pow10" .u64 Lib.pow10Tab ∧ Px.Seat.IfAt 3 W ∧ Px.Seat.IfAt 4 W := by
  rw [MakeChecks.laidMetH_plain _ _ _ (by kernel_rfl)] at h
  have h2 := h.tail.tail
  have h3 := h2.tail
  have h4 := h3.tail
  have h5 := h4.tail
  rw [pow_eq] at h2
  exact ⟨words_of h5, Lib.tabIs_of_head gPow tPow Tryz.underlying217 Tryz.underlying127 (by kernel_rfl) (by kernel_rfl) h2, Px.Seat.if_at (if_of h4 gSyn tSyn Tryz.underlying144), Px.Seat.if_at (if_of h3 gRan tRan Tryz.underlying144)⟩
set_option maxRecDepth 100000 in
theorem row_of {H : Type} {enc : TypeId × Value → H} {W : World} {base b0 : Nat} {v : Value} {d : DataW H} {p : List MemPlace} (hval : Value.okWide Tryz.prog W .any b0 37 v) (h : DataW.Trod enc Tryz.prog W 0 (fun _ => true) true 37 v d p) :
    ∃ a len cap zs, v = .slice a len cap ∧ Px.Seat.IsRow .u8 W a len cap zs := by
  obtain ⟨a, len, cap, rfl⟩ := okWide_slice Tryz.underlying37 hval
  obtain ⟨fuel, hf⟩ := h
  rcases open_ints Tryz.underlying37 Tryz.underlying5 (by kernel_rfl) hf with ⟨hcs, _⟩ | ⟨x, l, c, zs, hcs, _, hl, hm, hz, _, hcell, hwz⟩
  · simp [Value.cells] at hcs
    obtain ⟨rfl, rfl, rfl⟩ := hcs
    exact ⟨none, 0, 0, [], rfl, .inl ⟨rfl, rfl, rfl, rfl⟩⟩
  · simp [Value.cells] at hcs
    obtain ⟨rfl, rfl, rfl⟩ := hcs
    exact ⟨_, _, _, zs, rfl, .inr ⟨_, rfl, hl, by simpa using hz, hcell, hwz⟩⟩
end Go.Proofs.YthallaeafilbbaaGreatDoor
