/- FnFloatShow: the claim, as it is given. -/
import Derived.Test.YtbdlklncblklnaaGreatDoorR4
import Derived.Test.YtbdlklncblklnaaGreatDoorM6
set_option linter.unusedVariables false

namespace Go.Px.Seat
open Go Go.ChangeShapes Go.WideShapes Go.ChangeAt Go.RowKit
set_option linter.unusedVariables false
theorem walk_FnFloatShow (a0 : Option Addr) (len0 cap0 : Nat) (z0 : List Int) (w : World) (w0 : IsRow .u8 w a0 len0 cap0 z0) (hT : TabAt 0 w) (hP : Lib.TabIs Go.Proofs.Tryz.prog w "internal/strconv.uint64pow10" .u64 Lib.pow10Tab) :
    Calls Go.Proofs.Tryz.prog 10 #[.slice a0 len0 cap0] w fun e w' => e = .returned (.bool true) ∧ Below w.heap.size w w' := by
  have hS : ∀ k, k < w.heap.size → S2 (fun k => k < w.heap.size) Nope false k := fun k hk => .inr ⟨rfl, hk⟩
  obtain ⟨l, hl, bl⟩ := rep_bytes hS w0
  obtain ⟨o, ho, ho'⟩ := tab_obj hT
  obtain ⟨o1, ho1, ho1'⟩ := tabIs_obj Go.Proofs.YtbdlklncblklnaaGreatDoor.gPow hP
  obtain ⟨N, hN⟩ := k_FnFloatShow
  have hrun := hN N (Nat.le_refl _) l bl
  have hok := (Prog.sound (seat_OK o o1 ho' ho1') N 10 [] sg_w_FnFloatShow (by show look S 10 ≠ none; rw [show look S 10 = some [([], sg_w_FnFloatShow)] from rfl]; simp)).1
  have hc := hok w (fun k => k < w.heap.size) [.slice a0 len0 cap0] [] [] [] (l, ()) (true, ()) hrun
    ⟨⟨_, _, [], [], [], [], [], [], rfl, rfl, rfl, rfl, ⟨rfl, rfl, _, [], rfl, hl, rfl, rfl⟩, rfl, rfl, rfl, rfl⟩, List.nodup_nil, fun k hk => ⟨hk, by simp⟩, fun k o' h => by
      unfold tabG at h
      split at h
      · rename_i hk
        cases h
        subst hk
        exact ⟨ho, by simp⟩
      · split at h
        · rename_i hk
          cases h
          subst hk
          exact ⟨ho1, by simp⟩
        · cases h⟩
  refine hc.mono fun e w' ⟨v, SF, us, b1, b2, he, H⟩ => ?_
  refine ⟨?_, H.os, H.tape, H.output, H.size, fun k hk => H.old k hk (by simp)⟩
  obtain ⟨v1, r, c1, c2, rfl, _, hone, rfl, _⟩ := H.outs
  rcases hone with ⟨h, _⟩ | ⟨_, us', ⟨v2, r2, hus, hrep, hr2⟩, hval⟩
  · cases h
  · obtain ⟨hr2, _⟩ := hr2
    have h2 : [v2] = [Value.bool true] := hrep
    injection h2 with h2 _
    rw [he, H.val, hval, hus, hr2, h2]
    rfl
end Go.Px.Seat
namespace Go.Proofs.YtbdlklncblklnaaGreatDoor
open Go.ChangeShapes Go.WideShapes Go.ChangeAt Go.RowKit
set_option linter.unusedVariables false
set_option maxRecDepth 100000 in
theorem fnFloatShow_lifted (os : Os) (started : os.Started) (H : Type) (enc : TypeId × Value → H) :
    ReturnsInHanded {} Tryz.checked os 10 .any (fun w args => (Rows.fnFloatShowSpec.pre enc Tryz.prog Tryz.f10 [] false w args ∧ laidMetH Tryz.prog laidTab w) ∧ sizedMet enc Tryz.prog Tryz.f10 (OpenSpec.ofChange Rows.fnFloatShowSpec) false w args)
      (Rows.fnFloatShowSpec.post enc Tryz.prog Tryz.f10 false true false false) := by
  refine returnsInHanded_of_change_and (C := Tryz.checked) (X := fun w _ => laidMetH Tryz.prog laidTab w) (fun _ _ _ hh h => h.of_heap hh) own started (by kernel_rfl) Tryz.func10
    (ChangeSpec.witness_shaped (enc := enc) (C := Tryz.checked) (os := os) (X := fun w _ => laidMetH Tryz.prog laidTab w) false (World.laidAll Tryz.prog os laidTab) #[.slice none 0 0] 8 (World.laidAll_os _ _ _) (World.shaped_of_ZipB (by kernel_rfl) (by kernel_rfl)) (by kernel_rfl) (by kernel_rfl) (by kernel_rfl) (door_met os _)) ?_
  intro W base args ds gs before hval0 hW _ _ hL _
  have hval : ∀ (j : Nat) t v, Tryz.f10.params[j]? = some t → args[j]? = some v → Value.okWide Tryz.prog W .any base t v := hval0
  have hT := of_laid hL
  have hW' := hW
  obtain ⟨p, q, hA0, hV, rfl, hfz, hnd⟩ := hW
  have hA : DataW.TrodAll enc Tryz.prog W 0 (fun _ => true) true Tryz.f10.params.toList args.toList ds p := hA0
  rw [Tryz.params10] at hA hval
  obtain ⟨v0, vs0, d0, ds0, p0, q0, hargs, rfl, rfl, h0, r0⟩ := trodAll_cons hA
  obtain ⟨rfl, rfl, rfl⟩ := trodAll_nil r0
  obtain rfl : args = #[v0] := by cases args; simp_all
  obtain ⟨rfl, rfl⟩ := trodVars_none hV
  obtain ⟨a0, len0, cap0, z0, rfl, w0⟩ := row_of (base := base) (hval 0 22 v0 rfl rfl) h0
  have k0 := h0
  have lt0 : ∀ x ∈ p0, x.block < W.heap.size := by obtain ⟨m, hm⟩ := k0; exact DataW.trod_lt m _ _ _ hm
  clear hA0 hval0
  refine (Px.Seat.walk_FnFloatShow a0 len0 cap0 z0 W w0 hT.1 hT.2).mono fun e W' ⟨he, bel⟩ => ?_
  subst he
  exact ⟨_, rfl, _, _, _, [], _, [], hW', trodAll_mk1 (shut_bool Tryz.underlying4 _),
    (trodAll_cons_mk (Below.trod laidOut (by kernel_rfl) (of_decide_eq_true (by kernel_rfl)) k0 bel lt0) trodAll_mk0), rfl, bel.frame _, fun h => by cases h⟩
theorem fnFloatShow_row : Rows.FnFloatShowSaid :=
  OpenClaim.holds_of_wide 10 Tryz.f10 rfl rfl rfl rfl rfl rfl rfl ⟨rfl, rfl, rfl, rfl, rfl⟩ rfl rfl rfl rfl rfl (by kernel_rfl) Tryz.func10 (by kernel_rfl)
    (of_decide_eq_true (by kernel_rfl)) (by unfold Func.isWrapper; first | (rw [if_pos (by decide +kernel)]; kernel_rfl) | (rw [if_neg (by decide +kernel)]; exact ⟨rfl, rfl⟩))
    (fun os started H enc _ => fnFloatShow_lifted os started H enc)
theorem fnFloatShow_holds : Rows.FnFloatShowCardSaid :=
  Claim7.holds_tied_plain_at .later [] [.data, .data, .data, .data, .pinned] true (true, "fe464f349b66b4a67475fca4c1c15696f4051540f7e50f97f4284040108ad211") false
    fnFloatShow_row (fun _ h => by cases h) (by kernel_rfl) (fun _ h => by cases h) fnFloatShow_row_tie rfl ⟨rfl, rfl⟩ (by kernel_rfl) rfl
    (fun f fn hf hfn => by
      obtain rfl : f = 10 := Option.some.inj ((show Tryz.prog.funcNamed "loop.example/pinfold/laws.FnFloatShow" = some 10 by kernel_rfl).symm.trans hf) |>.symm
      obtain rfl : fn = Tryz.f10 := (Option.some.inj (Tryz.func10.symm.trans hfn)).symm
      exact ⟨by kernel_rfl, fun j t ht => by
        rw [Tryz.params10] at ht
        have hm : t ∈ [22] := by simpa using Array.mem_of_getElem? ht
        have hall : ([22].all fun u => !Tryz.prog.wantsStandIn u) = true := by kernel_rfl
        exact (show Tryz.prog.wantsStandIn t = false by simpa using List.all_eq_true.1 hall t hm)⟩)
    (by kernel_rfl)
#print axioms fnFloatShow_holds
end Go.Proofs.YtbdlklncblklnaaGreatDoor
