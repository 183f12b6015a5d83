/- FnExactFloatShow: the claim, as it is given. -/
import Derived.Test.YtbdlklncblklnaaGreatDoorR4
import Derived.Test.YtbdlklncblklnaaGreatDoorM4
set_option linter.unusedVariables false

namespace Go.Px.Seat
open Go Go.ChangeShapes Go.WideShapes Go.ChangeAt Go.RowKit
set_option linter.unusedVariables false
theorem walk_FnExactFloatShow (x y : Int) (b : Bool) (w : World) (hT : TabAt 0 w) (hP : Lib.TabIs Go.Proofs.Tryz.prog w "internal/strconv.uint64pow10" .u64 Lib.pow10Tab) :
    Calls Go.Proofs.Tryz.prog 6 #[.int .i64 x, .int .i64 y, .bool b] w fun e w' => e = .returned (.bool true) ∧ Below w.heap.size w w' := by
  obtain ⟨o, ho, ho'⟩ := tab_obj hT
  obtain ⟨o1, ho1, ho1'⟩ := tabIs_obj Go.Proofs.YtbdlklncblklnaaGreatDoor.gPow hP
  obtain ⟨N, hN⟩ := k_FnExactFloatShow
  have hrun := hN N (Nat.le_refl _) x y b
  have hok := (Prog.sound (seat_OK o o1 ho' ho1') N 6 [] sg_w_FnExactFloatShow (by show look S 6 ≠ none; rw [show look S 6 = some [([], sg_w_FnExactFloatShow)] from rfl]; simp)).1
  have hc := hok w (fun k => k < w.heap.size) [.int .i64 x, .int .i64 y, .bool b] [] [] [] (x, (y, (b, ()))) (true, ()) hrun
    ⟨⟨_, _, [], [], [], [], [], [], rfl, rfl, rfl, rfl, ⟨rfl, rfl, _, [], rfl, rfl, rfl, rfl⟩, _, _, [], [], [], [], [], [], rfl, rfl, rfl, rfl, ⟨rfl, rfl, _, [], rfl, rfl, rfl, rfl⟩, _, _, [], [], [], [], [], [], rfl, rfl, rfl, rfl, ⟨rfl, rfl, _, [], rfl, rfl, rfl, rfl⟩, rfl, rfl, rfl, rfl⟩, List.nodup_nil, fun k hk => ⟨hk, by simp⟩, fun k o' h => by
      unfold tabG at h
      split at h
      · rename_i hk
        cases h
        subst hk
        exact ⟨ho, by simp⟩
      · split at h
        · rename_i hk
          cases h
          subst hk
          exact ⟨ho1, by simp⟩
        · cases h⟩
  refine hc.mono fun e w' ⟨v, SF, us, b1, b2, he, H⟩ => ?_
  refine ⟨?_, H.os, H.tape, H.output, H.size, fun k hk => H.old k hk (by simp)⟩
  obtain ⟨v1, r, c1, c2, rfl, _, hone, rfl, _⟩ := H.outs
  rcases hone with ⟨h, _⟩ | ⟨_, us', ⟨v2, r2, hus, hrep, hr2⟩, hval⟩
  · cases h
  · obtain ⟨hr2, _⟩ := hr2
    have h2 : [v2] = [Value.bool true] := hrep
    injection h2 with h2 _
    rw [he, H.val, hval, hus, hr2, h2]
    rfl
end Go.Px.Seat
namespace Go.Proofs.YtbdlklncblklnaaGreatDoor
open Go.ChangeShapes Go.WideShapes Go.ChangeAt Go.RowKit
set_option linter.unusedVariables false
set_option maxRecDepth 100000 in
theorem fnExactFloatShow_lifted (os : Os) (started : os.Started) (H : Type) (enc : TypeId × Value → H) :
    ReturnsInHanded {} Tryz.checked os 6 .any (fun w args => (Rows.fnExactFloatShowSpec.pre enc Tryz.prog Tryz.f6 [] false w args ∧ laidMetH Tryz.prog laidTab w) ∧ sizedMet enc Tryz.prog Tryz.f6 (OpenSpec.ofChange Rows.fnExactFloatShowSpec) false w args)
      (Rows.fnExactFloatShowSpec.post enc Tryz.prog Tryz.f6 false true false false) := by
  refine returnsInHanded_of_change_and (C := Tryz.checked) (X := fun w _ => laidMetH Tryz.prog laidTab w) (fun _ _ _ hh h => h.of_heap hh) own started (by kernel_rfl) Tryz.func6
    (ChangeSpec.witness_shaped (enc := enc) (C := Tryz.checked) (os := os) (X := fun w _ => laidMetH Tryz.prog laidTab w) false (World.laidAll Tryz.prog os laidTab) #[.int .i64 0, .int .i64 0, .bool false] 8 (World.laidAll_os _ _ _) (World.shaped_of_ZipB (by kernel_rfl) (by kernel_rfl)) (by kernel_rfl) (by kernel_rfl) (by kernel_rfl) (door_met os _)) ?_
  intro W base args ds gs before hval0 hW _ _ hL _
  have hval : ∀ (j : Nat) t v, Tryz.f6.params[j]? = some t → args[j]? = some v → Value.okWide Tryz.prog W .any base t v := hval0
  have hT := of_laid hL
  have hW' := hW
  obtain ⟨p, q, hA0, hV, rfl, hfz, hnd⟩ := hW
  have hA : DataW.TrodAll enc Tryz.prog W 0 (fun _ => true) true Tryz.f6.params.toList args.toList ds p := hA0
  rw [Tryz.params6] at hA hval
  obtain ⟨v0, vs0, d0, ds0, p0, q0, hargs, rfl, rfl, h0, r0⟩ := trodAll_cons hA
  obtain ⟨v1, vs1, d1, ds1, p1, q1, rfl, rfl, rfl, h1, r1⟩ := trodAll_cons r0
  obtain ⟨v2, vs2, d2, ds2, p2, q2, rfl, rfl, rfl, h2, r2⟩ := trodAll_cons r1
  obtain ⟨rfl, rfl, rfl⟩ := trodAll_nil r2
  obtain rfl : args = #[v0, v1, v2] := by cases args; simp_all
  obtain ⟨rfl, rfl⟩ := trodVars_none hV
  obtain ⟨x, rfl, rfl, rfl, wx⟩ := open_int Tryz.underlying3 (hval 0 3 v0 rfl rfl) h0
  obtain ⟨y, rfl, rfl, rfl, wy⟩ := open_int Tryz.underlying3 (hval 1 3 v1 rfl rfl) h1
  obtain ⟨b, rfl, rfl, rfl⟩ := open_bool Tryz.underlying4 (hval 2 4 v2 rfl rfl) h2
  clear hA0 hval0
  refine (Px.Seat.walk_FnExactFloatShow x y b W hT.1 hT.2).mono fun e W' ⟨he, bel⟩ => ?_
  subst he
  exact ⟨_, rfl, _, _, _, [], _, [], hW', trodAll_mk1 (shut_bool Tryz.underlying4 _),
    (trodAll_cons_mk (shut_int Tryz.underlying3 wx) (trodAll_cons_mk (shut_int Tryz.underlying3 wy) (trodAll_cons_mk (shut_bool Tryz.underlying4 _) trodAll_mk0))), rfl, bel.frame _, fun h => by cases h⟩
theorem fnExactFloatShow_row : Rows.FnExactFloatShowSaid :=
  OpenClaim.holds_of_wide 6 Tryz.f6 rfl rfl rfl rfl rfl rfl rfl ⟨rfl, rfl, rfl, rfl, rfl⟩ rfl rfl rfl rfl rfl (by kernel_rfl) Tryz.func6 (by kernel_rfl)
    (of_decide_eq_true (by kernel_rfl)) (by unfold Func.isWrapper; first | (rw [if_pos (by decide +kernel)]; kernel_rfl) | (rw [if_neg (by decide +kernel)]; exact ⟨rfl, rfl⟩))
    (fun os started H enc _ => fnExactFloatShow_lifted os started H enc)
theorem fnExactFloatShow_holds : Rows.FnExactFloatShowCardSaid :=
  Claim7.holds_tied_plain_at .later [] [.data, .data, .data, .data, .pinned] true (true, "fe464f349b66b4a67475fca4c1c15696f4051540f7e50f97f4284040108ad211") false
    fnExactFloatShow_row (fun _ h => by cases h) (by kernel_rfl) (fun _ h => by cases h) fnExactFloatShow_row_tie rfl ⟨rfl, rfl⟩ (by kernel_rfl) rfl
    (fun f fn hf hfn => by
      obtain rfl : f = 6 := Option.some.inj ((show Tryz.prog.funcNamed "loop.example/pinfold/laws.FnExactFloatShow" = some 6 by kernel_rfl).symm.trans hf) |>.symm
      obtain rfl : fn = Tryz.f6 := (Option.some.inj (Tryz.func6.symm.trans hfn)).symm
      exact ⟨by kernel_rfl, fun j t ht => by
        rw [Tryz.params6] at ht
        have hm : t ∈ [3, 3, 4] := by simpa using Array.mem_of_getElem? ht
        have hall : ([3, 3, 4].all fun u => !Tryz.prog.wantsStandIn u) = true := by kernel_rfl
        exact (show Tryz.prog.wantsStandIn t = false by simpa using List.all_eq_true.1 hall t hm)⟩)
    (by kernel_rfl)
#print axioms fnExactFloatShow_holds
end Go.Proofs.YtbdlklncblklnaaGreatDoor
