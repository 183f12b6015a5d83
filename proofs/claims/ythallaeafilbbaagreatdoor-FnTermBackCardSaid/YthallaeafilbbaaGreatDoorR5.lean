/- FnTermBack: the claim, as it is given. -/
import Derived.Test.YthallaeafilbbaaGreatDoorR4
import Derived.Test.YthallaeafilbbaaGreatDoorM7
set_option linter.unusedVariables false

namespace Go.Px.Seat
open Go Go.ChangeShapes Go.WideShapes Go.ChangeAt Go.RowKit
set_option linter.unusedVariables false
theorem walk_FnTermBack (a0 : Option Addr) (len0 cap0 : Nat) (z0 : List Int) (a1 : Option Addr) (len1 cap1 : Nat) (z1 : List Int) (w : World) (w0 : IsRow .u8 w a0 len0 cap0 z0) (w1 : IsRow .u8 w a1 len1 cap1 z1) (hT : WordsAt w ∧ Lib.TabIs Go.Proofs.Tryz.prog w "internal/strconv.uint64pow10" .u64 Lib.pow10Tab ∧ IfAt 3 w ∧ IfAt 4 w) :
    Calls Go.Proofs.Tryz.prog 4 #[.slice a0 len0 cap0, .slice a1 len1 cap1] w fun e w' => e = .returned (.bool true) ∧ Below w.heap.size w w' := by
  have hS : ∀ k, k < w.heap.size → S2 (fun k => k < w.heap.size) Nope false k := fun k hk => .inr ⟨rfl, hk⟩
  obtain ⟨l, hl, bl⟩ := rep_bytes hS w0
  obtain ⟨m, hm, bm⟩ := rep_bytes hS w1
  obtain ⟨N, hN⟩ := k_FnTermBack
  have hrun := hN N (Nat.le_refl _) l m bl bm
  have hok := (Prog.sound (seat_OK (known_of hT.1 hT.2.1 hT.2.2.1 hT.2.2.2)) N 4 [] sg_w_FnTermBack (by show look S 4 ≠ none; rw [show look S 4 = some [([], sg_w_FnTermBack)] from rfl]; simp)).1
  have hc := hok w (fun k => k < w.heap.size) [.slice a0 len0 cap0, .slice a1 len1 cap1] [] [] [] (l, (m, ())) (true, ()) hrun
    ⟨⟨_, _, [], [], [], [], [], [], rfl, rfl, rfl, rfl, ⟨rfl, rfl, _, [], rfl, hl, rfl, rfl⟩, _, _, [], [], [], [], [], [], rfl, rfl, rfl, rfl, ⟨rfl, rfl, _, [], rfl, hm, rfl, rfl⟩, rfl, rfl, rfl, rfl⟩, List.nodup_nil, fun k hk => ⟨hk, by simp⟩, fun k o' h => ⟨h, by simp⟩⟩
  refine hc.mono fun e w' ⟨v, SF, us, b1, b2, he, H⟩ => ?_
  refine ⟨?_, H.os, H.tape, H.output, H.size, fun k hk => H.old k hk (by simp)⟩
  obtain ⟨v1, r, c1, c2, rfl, _, hone, rfl, _⟩ := H.outs
  rcases hone with ⟨h, _⟩ | ⟨_, us', ⟨v2, r2, hus, hrep, hr2⟩, hval⟩
  · cases h
  · obtain ⟨hr2, _⟩ := hr2
    have h2 : [v2] = [Value.bool true] := hrep
    injection h2 with h2 _
    rw [he, H.val, hval, hus, hr2, h2]
    rfl
end Go.Px.Seat
namespace Go.Proofs.YthallaeafilbbaaGreatDoor
open Go.ChangeShapes Go.WideShapes Go.ChangeAt Go.RowKit
set_option linter.unusedVariables false
set_option maxRecDepth 100000 in
theorem fnTermBack_lifted (os : Os) (started : os.Started) (H : Type) (enc : TypeId × Value → H) :
    ReturnsInHanded {} Tryz.checked os 4 .any (fun w args => (Rows.fnTermBackSpec.pre enc Tryz.prog Tryz.f4 [] false w args ∧ laidMetH Tryz.prog laidTab w) ∧ sizedMet enc Tryz.prog Tryz.f4 (OpenSpec.ofChange Rows.fnTermBackSpec) false w args)
      (Rows.fnTermBackSpec.post enc Tryz.prog Tryz.f4 false true false false) := by
  refine returnsInHanded_of_change_and (C := Tryz.checked) (X := fun w _ => laidMetH Tryz.prog laidTab w) (fun _ _ _ hh h => h.of_heap hh) own started (by kernel_rfl) Tryz.func4
    (ChangeSpec.witness_shaped (enc := enc) (C := Tryz.checked) (os := os) (X := fun w _ => laidMetH Tryz.prog laidTab w) false (World.doorLaid Tryz.prog 400 os) #[.slice none 0 0, .slice none 0 0] 8 rfl (World.shaped_of_RefB (by kernel_rfl) (by kernel_rfl)) (by kernel_rfl) (by kernel_rfl) (by kernel_rfl) (door_met os _)) ?_
  intro W base args ds gs before hval0 hW _ _ hL _
  have hval : ∀ (j : Nat) t v, Tryz.f4.params[j]? = some t → args[j]? = some v → Value.okWide Tryz.prog W .any base t v := hval0
  have hT := of_laid hL
  have hW' := hW
  obtain ⟨p, q, hA0, hV, rfl, hfz, hnd⟩ := hW
  have hA : DataW.TrodAll enc Tryz.prog W 0 (fun _ => true) true Tryz.f4.params.toList args.toList ds p := hA0
  rw [Tryz.params4] at hA hval
  obtain ⟨v0, vs0, d0, ds0, p0, q0, hargs, rfl, rfl, h0, r0⟩ := trodAll_cons hA
  obtain ⟨v1, vs1, d1, ds1, p1, q1, rfl, rfl, rfl, h1, r1⟩ := trodAll_cons r0
  obtain ⟨rfl, rfl, rfl⟩ := trodAll_nil r1
  obtain rfl : args = #[v0, v1] := by cases args; simp_all
  have kV := hV
  obtain ⟨_, _, _, _, g, pg, rfl, _⟩ := trodVars_one hV
  obtain ⟨a0, len0, cap0, z0, rfl, w0⟩ := row_of (base := base) (hval 0 37 v0 rfl rfl) h0
  obtain ⟨a1, len1, cap1, z1, rfl, w1⟩ := row_of (base := base) (hval 1 37 v1 rfl rfl) h1
  have k0 := h0
  have k1 := h1
  have lt0 : ∀ x ∈ p0, x.block < W.heap.size := by obtain ⟨m, hm⟩ := k0; exact DataW.trod_lt m _ _ _ hm
  have lt1 : ∀ x ∈ p1, x.block < W.heap.size := by obtain ⟨m, hm⟩ := k1; exact DataW.trod_lt m _ _ _ hm
  clear hA0 hval0
  refine (Px.Seat.walk_FnTermBack a0 len0 cap0 z0 a1 len1 cap1 z1 W w0 w1 hT).mono fun e W' ⟨he, bel⟩ => ?_
  subst he
  exact ⟨_, rfl, _, _, _, [], _, _, hW', trodAll_mk1 (shut_bool Tryz.underlying4 _),
    (trodAll_cons_mk (Below.trod laidOut (by kernel_rfl) (of_decide_eq_true (by kernel_rfl)) k0 bel lt0) (trodAll_cons_mk (Below.trod laidOut (by kernel_rfl) (of_decide_eq_true (by kernel_rfl)) k1 bel lt1) trodAll_mk0)), Below.trodVars laidOut bel (by kernel_rfl) kV, bel.frame _, fun h => by cases h⟩
theorem fnTermBack_row : Rows.FnTermBackSaid :=
  OpenClaim.holds_of_wide 4 Tryz.f4 rfl rfl rfl rfl rfl rfl rfl ⟨rfl, rfl, rfl, rfl, rfl⟩ rfl rfl rfl rfl rfl (by kernel_rfl) Tryz.func4 (by kernel_rfl)
    (of_decide_eq_true (by kernel_rfl)) (by unfold Func.isWrapper; first | (rw [if_pos (by decide +kernel)]; kernel_rfl) | (rw [if_neg (by decide +kernel)]; exact ⟨rfl, rfl⟩))
    (fun os started H enc _ => fnTermBack_lifted os started H enc)
theorem fnTermBack_holds : Rows.FnTermBackCardSaid :=
  Claim7.holds_tied_plain_at .later [] [.data, .data, .data, .sentinel, .sentinel, .widerDeep] true (true, "798a5bb945c494ae641c11141beea7a2fb2073047e64cf18e3a9630af039c49e") true
    fnTermBack_row (fun _ h => by cases h) (by kernel_rfl) (fun _ h => by cases h) fnTermBack_row_tie rfl ⟨rfl, rfl⟩ (by kernel_rfl) rfl
    (fun f fn hf hfn => by
      obtain rfl : f = 4 := Option.some.inj ((show Tryz.prog.funcNamed "loop.example/pinfold/laws.FnTermBack" = some 4 by kernel_rfl).symm.trans hf) |>.symm
      obtain rfl : fn = Tryz.f4 := (Option.some.inj (Tryz.func4.symm.trans hfn)).symm
      exact ⟨by kernel_rfl, fun j t ht => by
        rw [Tryz.params4] at ht
        have hm : t ∈ [37] := by simpa using Array.mem_of_getElem? ht
        have hall : ([37].all fun u => !Tryz.prog.wantsStandIn u) = true := by kernel_rfl
        exact (show Tryz.prog.wantsStandIn t = false by simpa using List.all_eq_true.1 hall t hm)⟩)
    (by kernel_rfl)
#print axioms fnTermBack_holds
end Go.Proofs.YthallaeafilbbaaGreatDoor
