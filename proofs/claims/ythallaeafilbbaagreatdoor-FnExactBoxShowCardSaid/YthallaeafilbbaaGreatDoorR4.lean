/- What came in as data; the variables as they are laid. Seat E. -/
import Derived.Test.YthallaeafilbbaaGreatDoorR3
import Derived.Test.YthallaeafilbbaaGreatDoorM5
import Derived.Test.YthallaeafilbbaaGreatDoorTie
import Derived.Test.YthallaeafilbbaaGreatDoorCards
import Derived.LaidMore
import Derived.MakeChecks
import Derived.Stop.Joined
import Derived.Stop.LaidErr
import Derived.Lay
import Derived.Lib.LaidTab
import Derived.SevenTiedAt
import Derived.ProofKit
import Derived.OpenShut
import Derived.ChangeOld
import Derived.Below
import Derived.OpenVars
set_option linter.unusedVariables false

namespace Go.Px.Seat
open Go Go.ChangeShapes Go.WideShapes Go.ChangeAt Go.RowKit
set_option linter.unusedVariables false
theorem cell_same {w w' : World} (h : ∀ (k : Nat) (o : Obj), w.heap[k]? = some o → w'.heap[k]? = some o) {x : Addr} {v : Value} (hx : w.cell? x = some v) : w'.cell? x = some v := by
  unfold World.cell? at hx ⊢
  cases hw : w.heap[x.block]? with
  | none => rw [hw] at hx; cases hx
  | some o =>
    rw [hw] at hx
    rw [h _ _ hw]
    exact hx
theorem var_same {P : Program} {w w' : World} (h : ∀ (k : Nat) (o : Obj), w.heap[k]? = some o → w'.heap[k]? = some o) {n : String} {cs : Array Value} (hx : w.var? P n = some cs) : w'.var? P n = some cs := by
  unfold World.var? at hx ⊢
  cases hg : P.globalNamed n with
  | none => rw [hg] at hx; cases hx
  | some g =>
    rw [hg] at hx
    simp only [Option.bind_some] at hx ⊢
    cases hw : w.heap[g]? with
    | none => rw [hw] at hx; cases hx
    | some o =>
      rw [hw] at hx
      rw [h _ _ hw]
      exact hx
/-- the whole heap at the start is known -/
theorem known_of {W : World} (h : WordsAt W) (hP : Lib.TabIs Go.Proofs.Tryz.prog W "internal/strconv.uint64pow10" .u64 Lib.pow10Tab) : Known fun k => W.heap[k]? := fun w' hw' => by
  obtain ⟨b, off, c, h0, h1⟩ := h
  exact ⟨⟨b, off, c, cell_same hw' h0, fun j hj => cell_same hw' (h1 j hj)⟩, var_same hw' hP⟩
abbrev boxT : Ty := .cons (.slice (.cons (.int .i64) (.cons (.int .i64) .nil))) .nil
abbrev strsT : Ty := .slice .str
end Go.Px.Seat
namespace Go.Proofs.YthallaeafilbbaaGreatDoor
open Go.ChangeShapes Go.WideShapes Go.ChangeAt Go.RowKit
set_option linter.unusedVariables false
theorem own : ownKnob Tryz.prog.godebug = none := by kernel_rfl
theorem laidOut : laidOutB Tryz.prog = true := by kernel_rfl
theorem gOwn : Tryz.prog.globalNamed "loop.example/pinfold/impl.ownWords" = some 0 := by kernel_rfl
theorem tOwn : (Tryz.prog.globals[0]?).map (·.type) = some 25 := by kernel_rfl
theorem gPow : Tryz.prog.globalNamed "internal/strconv.uint64pow10" = some 2 := by kernel_rfl
theorem tPow : (Tryz.prog.globals[2]?).map (·.type) = some 217 := by kernel_rfl
theorem tyBox : (Px.TyQ Tryz.prog Px.Seat.boxT).1 24 :=
  ⟨_, Tryz.underlying24, by kernel_rfl, _, _, rfl, rfl, by kernel_rfl,
    ⟨83, Tryz.underlying22, by kernel_rfl, by decide, ⟨_, Tryz.underlying83, by kernel_rfl, _, _, rfl, rfl, by kernel_rfl, Tryz.underlying3, _, _, rfl, rfl, by kernel_rfl, Tryz.underlying3, rfl⟩⟩, rfl⟩
theorem tyStrs : (Px.TyQ Tryz.prog Px.Seat.strsT).1 25 := ⟨9, Tryz.underlying25, by kernel_rfl, by decide, Tryz.underlying9⟩
theorem own_eq : Rows.laid_loop_example_pinfold_impl_ownWords (H := Unit) = .slice (Px.Seat.wordsB.map fun s => .lit (.string s.data.toList)) [] := by kernel_rfl
theorem pow_eq : Rows.laid_internal_strconv_uint64pow10 (H := Unit) = Lib.tabData .u64 Lib.pow10Tab := by kernel_rfl
abbrev laidTab : List (String × DataW Unit) := [("math/bits.deBruijn32tab", Rows.laid_math_bits_deBruijn32tab), ("math/bits.deBruijn64tab", Rows.laid_math_bits_deBruijn64tab), ("internal/strconv.uint64pow10", Rows.laid_internal_strconv_uint64pow10), ("unicode/utf8.acceptRanges", Rows.laid_unicode_utf8_acceptRanges), ("loop.example/pinfold/impl.ownWords", Rows.laid_loop_example_pinfold_impl_ownWords), ("unicode/utf8.first", Rows.laid_unicode_utf8_first)]
theorem door_met (os : Os) (args : Array Value) : laidMetH Tryz.prog laidTab ((World.laidAll Tryz.prog os laidTab).forCall (fun _ _ => 0) ⟨#[], args, []⟩).memory := by
  rw [MakeChecks.laidMetH_plain _ _ _ (by kernel_rfl)]
  exact laidMet_laidAll _ (by kernel_rfl) (by kernel_rfl)
theorem words_of {W : World} {rest : List (String × DataW Unit)} (h : laidMet Tryz.prog (("loop.example/pinfold/impl.ownWords", Rows.laid_loop_example_pinfold_impl_ownWords) :: rest) W) : Px.Seat.WordsAt W := by
  obtain ⟨ps, ⟨g, t, cs, fuel, p, q, hg, ht, hvar, hd, _, _⟩, _⟩ := h
  obtain rfl := Option.some.inj (gOwn.symm.trans hg)
  obtain rfl := Option.some.inj (tOwn.symm.trans ht)
  rw [own_eq] at hd
  obtain ⟨a, cap, hcs, hcap, hat⟩ := open_row Tryz.underlying25 (by kernel_rfl) hd
  have hlen : (Px.Seat.wordsB.map fun s : ByteArray => (DataW.lit (.string s.data.toList) : DataW Unit)).length = 6 := by rw [List.length_map]; rfl
  rw [hlen] at hcs
  have hcell : ∀ j, j < Px.Seat.wordsB.length → W.cell? (a.add j) = some (.string (Px.Seat.wordsB.getD j ByteArray.empty)) := fun j hj => by
    obtain ⟨v, n, q', h1, h2⟩ := hat j (.lit (.string (Px.Seat.wordsB[j].data.toList))) (by rw [List.getElem?_map, List.getElem?_eq_getElem hj]; rfl)
    obtain ⟨s, e1, e2, _⟩ := DataW.trod_string Tryz.underlying9 h2
    cases e1
    injection e2 with e2 _
    injection e2 with e2
    injection e2 with e2
    rw [h1, List.getD_eq_getElem?_getD, List.getElem?_eq_getElem hj]
    congr 2
    exact (ByteArray.ext (Array.toList_inj.1 e2)).symm
  obtain ⟨b, off, spot⟩ := a
  have hspot : spot = none := by
    have h0 := hcell 0 (by decide)
    simpa [Addr.add] using World.cell?_spot h0
  subst hspot
  refine ⟨b, off, cap, ?_, fun j hj => ?_⟩
  · have hv := hvar
    unfold World.var? at hv
    rw [gOwn] at hv
    simp only [Option.bind_some] at hv
    cases hw : W.heap[0]? with
    | none => rw [hw] at hv; cases hv
    | some o =>
      rw [hw] at hv
      cases o with
      | cells c t fr =>
        simp at hv
        subst hv
        have : c[0]? = some (.slice (some ⟨b, off, none⟩) 6 cap) := by
          rw [← Array.getElem?_toList, hcs]; rfl
        simp [World.cell?, hw, this]
      | _ => simp at hv
  · have := hcell j hj
    rwa [add_plain] at this
theorem of_laid {W : World} (h : laidMetH Tryz.prog laidTab W) : Px.Seat.WordsAt W ∧ Lib.TabIs Tryz.prog W "internal/strconv.uint64pow10" .u64 Lib.pow10Tab := by
  rw [MakeChecks.laidMetH_plain _ _ _ (by kernel_rfl)] at h
  have h2 := h.tail.tail
  have h4 := h2.tail.tail
  rw [pow_eq] at h2
  exact ⟨words_of h4, Lib.tabIs_of_head gPow tPow Tryz.underlying217 Tryz.underlying127 (by kernel_rfl) (by kernel_rfl) h2⟩
end Go.Proofs.YthallaeafilbbaaGreatDoor
