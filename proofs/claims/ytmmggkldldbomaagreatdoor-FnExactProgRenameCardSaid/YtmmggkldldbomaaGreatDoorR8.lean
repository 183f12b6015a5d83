/- What came in as data; the variables as they are laid. Seat G. -/
import Derived.Test.YtmmggkldldbomaaGreatDoorR7
import Derived.Test.YtmmggkldldbomaaGreatDoorM2
import Derived.Test.YtmmggkldldbomaaGreatDoorTie
import Derived.Test.YtmmggkldldbomaaGreatDoorCards
import Derived.LaidMore
import Derived.MakeChecks
import Derived.Stop.Joined
import Derived.Stop.LaidErr
import Derived.Lay
import Derived.Lib.LaidTab
import Derived.SevenTiedAt
import Derived.ProofKit
import Derived.OpenShut
import Derived.ChangeOld
import Derived.Below
import Derived.OpenVars
set_option linter.unusedVariables false
namespace Go.Px.Seat
open Go Go.ChangeShapes Go.WideShapes Go.ChangeAt Go.RowKit
theorem wz {w w' : World} (h : ∀ (k : Nat) (o : Obj), w.heap[k]? = some o → w'.heap[k]? = some o) {x : Addr} {v : Value} (hx : w.cell? x = some v) : w'.cell? x = some v := by
 unfold World.cell? at hx ⊢
 cases hw : w.heap[x.block]? with
 | none => rw [hw] at hx; cases hx
 | some o =>
  rw [hw] at hx
  rw [h _ _ hw]
  exact hx
theorem NL {g : Nat} {w : World} (h : ∃ te pe, w.cell? ⟨g, 0, none⟩ = some (.iface te pe)) : Ae g w := by
 obtain ⟨te, pe, h⟩ := h
 exact ⟨_, h, .inr ⟨te, pe, rfl⟩⟩
theorem HE {g : Nat} {w w' : World} (h : ∀ (k : Nat) (o : Obj), w.heap[k]? = some o → w'.heap[k]? = some o) (hx : Ae g w) : Ae g w' := by
 obtain ⟨ev, h1, h2⟩ := hx
 exact ⟨ev, wz h h1, h2⟩
theorem K4 {W : World} (h : lH W) (h3 : Ae 2 W) (h4 : Ae 3 W) : lb fun k => W.heap[k]? := fun w' hw' => by
 obtain ⟨b, off, c, h0, h1⟩ := h
 exact ⟨⟨b, off, c, wz hw' h0, fun j hj => wz hw' (h1 j hj)⟩, HE hw' h3, HE hw' h4⟩
abbrev Q7 : Ty := .cons (.int .i64) (.cons (.int .i64) (.cons .str .nil))
abbrev HF : Ty := .cons (.slice Q7) .nil
abbrev QS : Ty := .cons .str (.cons (.slice .str) (.cons HF .nil))
abbrev QT : Ty := .cons (.int .i64) (.cons HF (.cons HF .nil))
abbrev HG : Ty := .cons (.slice QS) (.cons (.slice .str) (.cons (.slice QT) .nil))
theorem Ji {y : HG.den} (h : Kept HG y) : mO hY y.1 ∧ Bi hY y.2.1 ∧ pb hY y.2.2.1 := by
 obtain ⟨⟨a1, a2⟩, ⟨b1, b2⟩, ⟨c1, c2⟩, _⟩ := h
 refine ⟨⟨a1, fun d hd => ?_⟩, ⟨b1, b2⟩, ⟨c1, fun r hr => ?_⟩⟩
 ·obtain ⟨d1, ⟨d2, d3⟩, ⟨⟨d4, d5⟩, _⟩, _⟩ := a2 d hd
  exact ⟨d1, ⟨d2, d3⟩, d4, fun x hx => (d5 x hx).2.2.1⟩
 ·obtain ⟨_, ⟨⟨d2, d3⟩, _⟩, ⟨⟨d4, d5⟩, _⟩, _⟩ := c2 r hr
  exact ⟨⟨d2, fun x hx => (d3 x hx).2.2.1⟩, d4, fun x hx => (d5 x hx).2.2.1⟩
end Go.Px.Seat
namespace Go.Proofs.YtmmggkldldbomaaGreatDoor
open Go.ChangeShapes Go.WideShapes Go.ChangeAt Go.RowKit
theorem own : ownKnob Tryz.prog.godebug = none := by kernel_rfl
theorem laidOut : laidOutB Tryz.prog = true := by kernel_rfl
theorem Qt : Tryz.prog.globalNamed "loop.example/pinfold/impl.ownWords" = some 0 := by kernel_rfl
theorem QU : (Tryz.prog.globals[0]?).map (·.type) = some 24 := by kernel_rfl
theorem QV : Tryz.prog.globalNamed "strconv.ErrSyntax" = some 2 := by kernel_rfl
theorem QW : (Tryz.prog.globals[2]?).map (·.type) = some 205 := by kernel_rfl
theorem QX : Tryz.prog.globalNamed "strconv.ErrRange" = some 3 := by kernel_rfl
theorem QY : (Tryz.prog.globals[3]?).map (·.type) = some 205 := by kernel_rfl
theorem PX : Rows.laid_loop_example_pinfold_impl_ownWords (H := Unit) = .slice (Px.Seat.jd.map fun s => .lit (.string s.data.toList)) [] := by kernel_rfl
abbrev vv : List (String × DataW Unit) := [("math/bits.deBruijn32tab", Rows.laid_math_bits_deBruijn32tab), ("math/bits.deBruijn64tab", Rows.laid_math_bits_deBruijn64tab), ("internal/strconv.uint64pow10", Rows.laid_internal_strconv_uint64pow10), ("strconv.ErrRange", Rows.laid_strconv_ErrRange), ("strconv.ErrSyntax", Rows.laid_strconv_ErrSyntax), ("loop.example/pinfold/impl.ownWords", Rows.laid_loop_example_pinfold_impl_ownWords)]
theorem K5 (os : Os) (args : Array Value) : laidMetH Tryz.prog vv ((World.doorLaid Tryz.prog 400 os).forCall (fun _ _ => 0) ⟨#[], args, []⟩).memory :=
 laidMetH_of_parts3 (fuel := 8) (laidMet_of_run' 8 (by kernel_rfl) (by kernel_rfl)) (by kernel_rfl) (by kernel_rfl)
theorem NM {n nm : String} {d : DataW Unit} {r : List (String × DataW Unit)} {W : World} {g ti : Nat} {ms : Array (String × TypeId)} (h : laidMet Tryz.prog ((n, .iface nm d) :: r) W)
  (hg : Tryz.prog.globalNamed n = some g) (ht : (Tryz.prog.globals[g]?).map (·.type) = some ti) (hi : Tryz.prog.underlying ti = some (.interface ms)) : ∃ te pe, W.cell? ⟨g, 0, none⟩ = some (.iface te pe) := by
 obtain ⟨ps, ⟨g0, t0, cs0, f0, p0, q0, hg0, ht0, hv0, hd0, _, e0⟩, _, hrows⟩ := h
 obtain rfl := Option.some.inj (hg.symm.trans hg0)
 obtain rfl := Option.some.inj (ht.symm.trans ht0)
 subst e0
 obtain ⟨l0⟩ := cs0
 obtain ⟨_, u, v, rfl, _⟩ := iface_of_trod hi hd0
 exact ⟨u, v, by simpa using World.var?_cell hg0 hv0 0⟩
theorem K6 {W : World} {rest : List (String × DataW Unit)} (h : laidMet Tryz.prog (("loop.example/pinfold/impl.ownWords", Rows.laid_loop_example_pinfold_impl_ownWords) :: rest) W) : Px.Seat.lH W := by
 obtain ⟨ps, ⟨g, t, cs, fuel, p, q, hg, ht, hvar, hd, _, _⟩, _⟩ := h
 obtain rfl := Option.some.inj (Qt.symm.trans hg)
 obtain rfl := Option.some.inj (QU.symm.trans ht)
 rw [PX] at hd
 obtain ⟨a, cap, hcs, hcap, hat⟩ := open_row Tryz.underlying24 (by kernel_rfl) hd
 have hlen : (Px.Seat.jd.map fun s : ByteArray => (DataW.lit (.string s.data.toList) : DataW Unit)).length = 6 := by rw [List.length_map]; rfl
 rw [hlen] at hcs
 have hcell : ∀ j, j < Px.Seat.jd.length → W.cell? (a.add j) = some (.string (Px.Seat.jd.getD j ByteArray.empty)) := fun j hj => by
  obtain ⟨v, n, q', h1, h2⟩ := hat j (.lit (.string (Px.Seat.jd[j].data.toList))) (by rw [List.getElem?_map, List.getElem?_eq_getElem hj]; rfl)
  obtain ⟨s, e1, e2, _⟩ := DataW.trod_string Tryz.underlying9 h2
  cases e1
  injection e2 with e2 _
  injection e2 with e2
  injection e2 with e2
  rw [h1, List.getD_eq_getElem?_getD, List.getElem?_eq_getElem hj]
  congr 2
  exact (ByteArray.ext (Array.toList_inj.1 e2)).symm
 obtain ⟨b, off, spot⟩ := a
 have hspot : spot = none := by
  have h0 := hcell 0 (by decide)
  simpa [Addr.add] using World.cell?_spot h0
 subst hspot
 refine ⟨b, off, cap, ?_, fun j hj => ?_⟩
 ·have hv := hvar
  unfold World.var? at hv
  rw [Qt] at hv
  simp only [Option.bind_some] at hv
  cases hw : W.heap[0]? with
  | none => rw [hw] at hv; cases hv
  | some o =>
   rw [hw] at hv
   cases o with
   | cells c t fr =>
    simp at hv
    subst hv
    have : c[0]? = some (.slice (some ⟨b, off, none⟩) 6 cap) := by
     rw [← Array.getElem?_toList, hcs]; rfl
    simp [World.cell?, hw, this]
   | _ => simp at hv
 ·have := hcell j hj
  rwa [add_plain] at this
theorem Nn {W : World} (h : laidMetH Tryz.prog vv W) : Px.Seat.lH W ∧ Px.Seat.Ae 2 W ∧ Px.Seat.Ae 3 W := by
 rw [MakeChecks.laidMetH_plain _ _ _ (by kernel_rfl)] at h
 have h2 := h.tail.tail
 have h3 := h2.tail
 have h4 := h3.tail
 have h5 := h4.tail
 exact ⟨K6 h5, Px.Seat.NL (NM h4 QV QW Tryz.underlying205), Px.Seat.NL (NM h3 QX QY Tryz.underlying205)⟩
theorem QZ : (Px.GW Tryz.prog Px.Seat.Q7).1 181 :=
 ⟨_, Tryz.underlying181, by kernel_rfl, _, _, rfl, rfl, by kernel_rfl, Tryz.underlying3, _, _, rfl, rfl, by kernel_rfl, Tryz.underlying3, _, _, rfl, rfl, by kernel_rfl, Tryz.underlying9, rfl⟩
theorem Gn : (Px.GW Tryz.prog Px.Seat.HF).1 127 :=
 ⟨_, Tryz.underlying127, by kernel_rfl, _, _, rfl, rfl, by kernel_rfl, ⟨181, Tryz.underlying125, by kernel_rfl, by decide, QZ⟩, rfl⟩
theorem K7 : (Px.GW Tryz.prog (.slice .str)).1 24 := ⟨9, Tryz.underlying24, by kernel_rfl, by decide, Tryz.underlying9⟩
theorem Q0 : (Px.GW Tryz.prog Px.Seat.QS).1 129 :=
 ⟨_, Tryz.underlying129, by kernel_rfl, _, _, rfl, rfl, by kernel_rfl, Tryz.underlying9, _, _, rfl, rfl, by kernel_rfl, K7, _, _, rfl, rfl, by kernel_rfl, Gn, rfl⟩
theorem Q1 : (Px.GW Tryz.prog Px.Seat.QT).1 132 :=
 ⟨_, Tryz.underlying132, by kernel_rfl, _, _, rfl, rfl, by kernel_rfl, Tryz.underlying3, _, _, rfl, rfl, by kernel_rfl, Gn, _, _, rfl, rfl, by kernel_rfl, Gn, rfl⟩
theorem PY : (Px.GW Tryz.prog Px.Seat.HG).1 42 :=
 ⟨_, Tryz.underlying42, by kernel_rfl, _, _, rfl, rfl, by kernel_rfl, ⟨129, Tryz.underlying39, by kernel_rfl, by decide, Q0⟩, _, _, rfl, rfl, by kernel_rfl, K7, _, _, rfl, rfl, by kernel_rfl, ⟨132, Tryz.underlying40, by kernel_rfl, by decide, Q1⟩, rfl⟩
end Go.Proofs.YtmmggkldldbomaaGreatDoor
