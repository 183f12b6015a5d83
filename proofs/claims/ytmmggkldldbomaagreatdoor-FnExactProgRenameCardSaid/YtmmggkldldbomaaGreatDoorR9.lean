/- FnExactProgRename: the claim, as it is given. -/
import Derived.Test.YtmmggkldldbomaaGreatDoorR8
import Derived.Test.YtmmggkldldbomaaGreatDoorM6
import Derived.ChangeMaps5
set_option linter.unusedVariables false
namespace Go.Px.Seat
open Go Go.ChangeShapes Go.WideShapes Go.ChangeAt Go.RowKit
theorem po (vD vV vR : Value) (X : List Df) (V : List ByteArray) (L : List Rl) (o nm : ByteArray) (w : World) (hD : bm w.heap (S2 (fun k => k < w.heap.size) y5 false) (.slice QS) [vD] X)
  (hV : bm w.heap (S2 (fun k => k < w.heap.size) y5 false) (.slice .str) [vV] V) (hR : bm w.heap (S2 (fun k => k < w.heap.size) y5 false) (.slice QT) [vR] L) (b : mO hY X ∧ Bi hY V ∧ pb hY L)
  (hT : lH w ∧ Ae 2 w ∧ Ae 3 w) :
  Calls Go.Proofs.Tryz.prog 5 #[.agg #[vD, vV, vR], .string o, .string nm] w fun e w' => e = .returned (.bool true) ∧ Below w.heap.size w w' := by
 obtain ⟨N, hN⟩ := oP
 obtain ⟨D', R', S', N', hrun⟩ := hN N (Nat.le_refl _) [] [] [] [] X V L o nm b.1 b.2.1 b.2.2
 have hok := (Prog.sound (Nl (K4 hT.1 hT.2.1 hT.2.2)) N 5 [777] cP (by show look S 5 ≠ none; rw [show look S 5 = some [([777], cP)] from rfl]; simp)).1
 have hc := hok w (fun k => k < w.heap.size) y5 [.agg #[vD, vV, vR], .string o, .string nm] [] [] [] ([], ([], ([], ([], (X, (V, (L, (o, (nm, ())))))))))  (D', (R', (S', (N', (true, ()))))) hrun
  ⟨⟨[], [], rfl, ⟨_, _, [], [], [], [], [], [], rfl, rfl, rfl, rfl, ⟨rfl, rfl, [vD, vV, vR], rfl, _, _, rfl, hD, _, _, rfl, hV, _, _, rfl, hR, rfl, rfl⟩,
   _, _, [], [], [], [], [], [], rfl, rfl, rfl, rfl, ⟨rfl, rfl, _, [], rfl, rfl, rfl, rfl⟩,
   _, _, [], [], [], [], [], [], rfl, rfl, rfl, rfl, ⟨rfl, rfl, _, [], rfl, rfl, rfl, rfl⟩, rfl, rfl, rfl, rfl⟩, vU (ms := ey) rfl⟩, fun k hk => hk, List.nodup_nil, fun k hk => ⟨hk, by simp⟩, fun k o' h => ⟨h, by simp⟩⟩
 refine hc.mono fun e w' ⟨v, SF, us, b1, b2, he, H⟩ => ?_
 refine ⟨?_, H.os, H.tape, H.output, H.size, fun k hk => H.sr k hk (by simp)⟩
 obtain ⟨b0, b3, _, houts, _⟩ := H.outs
 obtain ⟨v1, r, c1, c2, rfl, _, hone, rfl, _⟩ := houts
 rcases hone with ⟨h, _⟩ | ⟨_, us', ⟨v2, r2, hus, hrep, hr2⟩, hval⟩
 ·cases h
 ·obtain ⟨hr2, _⟩ := hr2
  have h2 : [v2] = [Value.bool true] := hrep
  injection h2 with h2 _
  rw [he, H.val, hval, hus, hr2, h2]
  rfl
end Go.Px.Seat
namespace Go.Proofs.YtmmggkldldbomaaGreatDoor
open Go.ChangeShapes Go.WideShapes Go.ChangeAt Go.RowKit
set_option maxRecDepth 100000 in
theorem nK (os : Os) (started : os.Started) (H : Type) (enc : TypeId × Value → H) :
  ReturnsInHanded {} Tryz.checked os 5 .any (fun w args => (Rows.fnExactProgRenameSpec.pre enc Tryz.prog Tryz.f5 [] false w args ∧ laidMetH Tryz.prog vv w) ∧ sizedMet enc Tryz.prog Tryz.f5 (OpenSpec.ofChange Rows.fnExactProgRenameSpec) false w args)
   (Rows.fnExactProgRenameSpec.post enc Tryz.prog Tryz.f5 false true false false) := by
 refine returnsInHanded_of_change_and (C := Tryz.checked) (X := fun w _ => laidMetH Tryz.prog vv w) (fun _ _ _ hh h => h.of_heap hh) own started (by kernel_rfl) Tryz.func5
  (ChangeSpec.witness_shaped (enc := enc) (C := Tryz.checked) (os := os) (X := fun w _ => laidMetH Tryz.prog vv w) false (World.doorLaid Tryz.prog 400 os) #[.agg #[.slice none 0 0, .slice none 0 0, .slice none 0 0], .string ByteArray.empty, .string ByteArray.empty] 8 rfl (World.shaped_of_RefB (by kernel_rfl) (by kernel_rfl)) (by kernel_rfl) (by kernel_rfl) (by kernel_rfl) (K5 os _)) ?_
 intro W base args ds gs before hval0 hW _ _ hL _
 have hval : ∀ (j : Nat) t v, Tryz.f5.params[j]? = some t → args[j]? = some v → Value.okWide Tryz.prog W .any base t v := hval0
 have hT := Nn hL
 have hW' := hW
 obtain ⟨p, q, hA0, hV, rfl, hfz, hnd⟩ := hW
 have hA : DataW.TrodAll enc Tryz.prog W 0 (fun _ => true) true Tryz.f5.params.toList args.toList ds p := hA0
 rw [Tryz.params5] at hA hval
 obtain ⟨v0, vs0, d0, ds0, p0, q0, hargs, rfl, rfl, h0, r0⟩ := trodAll_cons hA
 obtain ⟨v1, vs1, d1, ds1, p1, q1, rfl, rfl, rfl, h1, r1⟩ := trodAll_cons r0
 obtain ⟨v2, vs2, d2, ds2, p2, q2, rfl, rfl, rfl, h2, r2⟩ := trodAll_cons r1
 obtain ⟨rfl, rfl, rfl⟩ := trodAll_nil r2
 obtain rfl : args = #[v0, v1, v2] := by cases args; simp_all
 have kV := hV
 obtain ⟨_, _, _, _, g, pg, rfl, _⟩ := trodVars_one hV
 have k0 := h0
 have lt0 : ∀ x ∈ p0, x.block < W.heap.size := by obtain ⟨m, hm⟩ := k0; exact DataW.trod_lt m _ _ _ hm
 obtain ⟨s1, rfl, rfl, rfl, w1⟩ := Go.ChangeMaps.open_string Tryz.underlying9 (hval 1 9 v1 rfl rfl) h1
 obtain ⟨s2, rfl, rfl, rfl, w2⟩ := Go.ChangeMaps.open_string Tryz.underlying9 (hval 2 9 v2 rfl rfl) h2
 have hS : ∀ k : Nat, k < W.heap.size → Px.S2 (fun k => k < W.heap.size) Px.y5 false k := fun k hk => .inr ⟨rfl, hk⟩
 obtain ⟨cs, rfl, _⟩ := okWide_struct Tryz.underlying42 (hval 0 42 v0 rfl rfl)
 obtain ⟨y, hy, ky⟩ := (Px.vg hS Px.Seat.HG).1 42 _ _ _ PY h0.choose_spec
 have kp := Px.Seat.Ji ky
 obtain ⟨X, V, L, u⟩ := y
 obtain ⟨c1, d1, hcd1, hX, hd1⟩ := hy
 obtain ⟨c2, d2, hcd2, hV2, hd2⟩ := hd1
 obtain ⟨c3, d3, hcd3, hL2, hd3⟩ := hd2
 have hX2 := hX
 have hV3 := hV2
 have hL3 := hL2
 obtain ⟨aX, nX, cX, rfl, _⟩ := hX
 obtain ⟨aV, nV, cV, rfl, _⟩ := hV2
 obtain ⟨aL, nL, cL, rfl, _⟩ := hL2
 have hcs : cs = #[.slice aX nX cX, .slice aV nV cV, .slice aL nL cL] := by
  have h3 : d3 = [] := hd3
  have : cs.toList = [.slice aX nX cX, .slice aV nV cV, .slice aL nL cL] := by
   have h := hcd1
   rw [hcd2, hcd3, h3] at h
   exact h
  exact Array.toList_inj.1 this
 subst hcs
 clear hA0 hval0
 refine (Px.Seat.po (.slice aX nX cX) (.slice aV nV cV) (.slice aL nL cL) X V L s1 s2 W hX2 hV3 hL3 kp hT).mono fun e W' ⟨he, bel⟩ => ?_
 subst he
 exact ⟨_, rfl, _, _, _, [], _, _, hW', trodAll_mk1 (shut_bool Tryz.underlying4 _),
  (trodAll_cons_mk (Below.trod laidOut (by kernel_rfl) (of_decide_eq_true (by kernel_rfl)) k0 bel lt0) (trodAll_cons_mk (Go.ChangeMaps.shut_string Tryz.underlying9 w1) (trodAll_cons_mk (Go.ChangeMaps.shut_string Tryz.underlying9 w2) trodAll_mk0))), Below.trodVars laidOut bel (by kernel_rfl) kV, bel.frame _, fun h => by cases h⟩
theorem pZ : Rows.FnExactProgRenameSaid :=
 OpenClaim.holds_of_wide 5 Tryz.f5 rfl rfl rfl rfl rfl rfl rfl ⟨rfl, rfl, rfl, rfl, rfl⟩ rfl rfl rfl rfl rfl (by kernel_rfl) Tryz.func5 (by kernel_rfl)
  (of_decide_eq_true (by kernel_rfl)) (by unfold Func.isWrapper; first | (rw [if_pos (by decide +kernel)]; kernel_rfl) | (rw [if_neg (by decide +kernel)]; exact ⟨rfl, rfl⟩))
  (fun os started H enc _ => nK os started H enc)
theorem fnExactProgRename_holds : Rows.FnExactProgRenameCardSaid :=
 Claim7.holds_tied_plain_at .later [] [.data, .data, .data, .sentinel, .sentinel, .widerDeep] true (true, "c61068a09d441e22f32f138b38ca13c69932a214bc558a2b9dbcf8b8622c3a9c") true
  pZ (fun _ h => by cases h) (by kernel_rfl) (fun _ h => by cases h) fnExactProgRename_row_tie rfl ⟨rfl, rfl⟩ (by kernel_rfl) rfl
  (fun f fn hf hfn => by
   obtain rfl : f = 5 := Option.some.inj ((show Tryz.prog.funcNamed "loop.example/pinfold/laws.FnExactProgRename" = some 5 by kernel_rfl).symm.trans hf) |>.symm
   obtain rfl : fn = Tryz.f5 := (Option.some.inj (Tryz.func5.symm.trans hfn)).symm
   exact ⟨by kernel_rfl, fun j t ht => by
    rw [Tryz.params5] at ht
    have hm : t ∈ [42, 9] := by simpa using Array.mem_of_getElem? ht
    have hall : ([42, 9].all fun u => !Tryz.prog.wantsStandIn u) = true := by kernel_rfl
    exact (show Tryz.prog.wantsStandIn t = false by simpa using List.all_eq_true.1 hall t hm)⟩)
  (by kernel_rfl)
#print axioms fnExactProgRename_holds
end Go.Proofs.YtmmggkldldbomaaGreatDoor
