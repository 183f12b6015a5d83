/- FnTokens: the claim, as it is given. -/
import Derived.Test.YtbdlklncblklnaaDoorR4
import Derived.Test.YtbdlklncblklnaaDoorM3
set_option linter.unusedVariables false

namespace Go.Px.Seat
open Go Go.ChangeShapes Go.WideShapes Go.ChangeAt Go.RowKit
set_option linter.unusedVariables false
theorem walk_FnTokens (a0 : Option Addr) (len0 cap0 : Nat) (z0 : List Int) (w : World) (w0 : IsRow .u8 w a0 len0 cap0 z0) (h1 : ∃ te pe, w.cell? ⟨1, 0, none⟩ = some (.iface te pe)) (h2 : ∃ te pe, w.cell? ⟨2, 0, none⟩ = some (.iface te pe)) :
    Calls Go.Proofs.Tryd.prog 3 #[.slice a0 len0 cap0] w fun e w' => e = .returned (.bool true) ∧ Below w.heap.size w w' := by
  have hS : ∀ k, k < w.heap.size → S2 (fun k => k < w.heap.size) Nope false k := fun k hk => .inr ⟨rfl, hk⟩
  obtain ⟨l, hl, bl⟩ := rep_bytes hS w0
  obtain ⟨o1, ho1, ho1'⟩ := if_obj h1
  obtain ⟨o2, ho2, ho2'⟩ := if_obj h2
  obtain ⟨N, hN⟩ := k_FnTokens
  have hrun := hN N (Nat.le_refl _) l bl
  have hok := (Prog.sound (seat_OK o1 o2 ho1' ho2') N 3 [] sg_w_FnTokens (by show look S 3 ≠ none; rw [show look S 3 = some [([], sg_w_FnTokens)] from rfl]; simp)).1
  have hc := hok w (fun k => k < w.heap.size) [.slice a0 len0 cap0] [] [] [] (l, ()) (true, ()) hrun
    ⟨⟨_, _, [], [], [], [], [], [], rfl, rfl, rfl, rfl, ⟨rfl, rfl, _, [], rfl, hl, rfl, rfl⟩, rfl, rfl, rfl, rfl⟩, List.nodup_nil, fun k hk => ⟨hk, by simp⟩, fun k o' h => by
      unfold errG at h
      split at h
      · rename_i hk
        cases h
        subst hk
        exact ⟨ho1, by simp⟩
      · split at h
        · rename_i hk
          cases h
          subst hk
          exact ⟨ho2, by simp⟩
        · cases h⟩
  refine hc.mono fun e w' ⟨v, SF, us, b1, b2, he, H⟩ => ?_
  refine ⟨?_, H.os, H.tape, H.output, H.size, fun k hk => H.old k hk (by simp)⟩
  obtain ⟨v1, r, c1, c2, rfl, _, hone, rfl, _⟩ := H.outs
  rcases hone with ⟨h, _⟩ | ⟨_, us', ⟨v2, r2, hus, hrep, hr2⟩, hval⟩
  · cases h
  · obtain ⟨hr2, _⟩ := hr2
    have h2 : [v2] = [Value.bool true] := hrep
    injection h2 with h2 _
    rw [he, H.val, hval, hus, hr2, h2]
    rfl
end Go.Px.Seat
namespace Go.Proofs.YtbdlklncblklnaaDoor
open Go.ChangeShapes Go.WideShapes Go.ChangeAt Go.RowKit
set_option linter.unusedVariables false
set_option maxRecDepth 100000 in
theorem fnTokens_lifted (os : Os) (started : os.Started) (H : Type) (enc : TypeId × Value → H) :
    ReturnsInHanded {} Tryd.checked os 3 .any (fun w args => (Rows.fnTokensSpec.pre enc Tryd.prog Tryd.f3 [] false w args ∧ laidMetH Tryd.prog laidTab w) ∧ sizedMet enc Tryd.prog Tryd.f3 (OpenSpec.ofChange Rows.fnTokensSpec) false w args)
      (Rows.fnTokensSpec.post enc Tryd.prog Tryd.f3 false true false false) := by
  refine returnsInHanded_of_change_and (C := Tryd.checked) (X := fun w _ => laidMetH Tryd.prog laidTab w) (fun _ _ _ hh h => h.of_heap hh) own started (by kernel_rfl) Tryd.func3
    (ChangeSpec.witness_shaped (enc := enc) (C := Tryd.checked) (os := os) (X := fun w _ => laidMetH Tryd.prog laidTab w) false (World.doorLaid Tryd.prog 400 os) #[.slice none 0 0] 8 rfl (World.shaped_of_RefB (by kernel_rfl) (by kernel_rfl)) (by kernel_rfl) (by kernel_rfl) (by kernel_rfl) (door_met os _)) ?_
  intro W base args ds gs before hval0 hW _ _ hL _
  have hval : ∀ (j : Nat) t v, Tryd.f3.params[j]? = some t → args[j]? = some v → Value.okWide Tryd.prog W .any base t v := hval0
  have hT := of_laid hL
  have hW' := hW
  obtain ⟨p, q, hA0, hV, rfl, hfz, hnd⟩ := hW
  have hA : DataW.TrodAll enc Tryd.prog W 0 (fun _ => true) true Tryd.f3.params.toList args.toList ds p := hA0
  rw [Tryd.params3] at hA hval
  obtain ⟨v0, vs0, d0, ds0, p0, q0, hargs, rfl, rfl, h0, r0⟩ := trodAll_cons hA
  obtain ⟨rfl, rfl, rfl⟩ := trodAll_nil r0
  obtain rfl : args = #[v0] := by cases args; simp_all
  obtain ⟨rfl, rfl⟩ := trodVars_none hV
  obtain ⟨a0, len0, cap0, z0, rfl, w0⟩ := row_of (base := base) (hval 0 22 v0 rfl rfl) h0
  have k0 := h0
  have lt0 : ∀ x ∈ p0, x.block < W.heap.size := by obtain ⟨m, hm⟩ := k0; exact DataW.trod_lt m _ _ _ hm
  clear hA0 hval0
  refine (Px.Seat.walk_FnTokens a0 len0 cap0 z0 W w0 hT.1 hT.2).mono fun e W' ⟨he, bel⟩ => ?_
  subst he
  exact ⟨_, rfl, _, _, _, [], _, [], hW', trodAll_mk1 (shut_bool Tryd.underlying4 _),
    (trodAll_cons_mk (Below.trod laidOut (by kernel_rfl) (of_decide_eq_true (by kernel_rfl)) k0 bel lt0) trodAll_mk0), rfl, bel.frame _, fun h => by cases h⟩
theorem fnTokens_row : Rows.FnTokensSaid :=
  OpenClaim.holds_of_wide 3 Tryd.f3 rfl rfl rfl rfl rfl rfl rfl ⟨rfl, rfl, rfl, rfl, rfl⟩ rfl rfl rfl rfl rfl (by kernel_rfl) Tryd.func3 (by kernel_rfl)
    (of_decide_eq_true (by kernel_rfl)) (by unfold Func.isWrapper; first | (rw [if_pos (by decide +kernel)]; kernel_rfl) | (rw [if_neg (by decide +kernel)]; exact ⟨rfl, rfl⟩))
    (fun os started H enc _ => fnTokens_lifted os started H enc)
theorem fnTokens_holds : Rows.FnTokensCardSaid :=
  Claim7.holds_tied_plain_at .later [] [.data, .data, .data, .sentinel, .sentinel] true (true, "8caa6e76e3010cdc41009f557a1f88680d735f7929464ad6eb8cc0f6c18076ad") true
    fnTokens_row (fun _ h => by cases h) (by kernel_rfl) (fun _ h => by cases h) fnTokens_row_tie rfl ⟨rfl, rfl⟩ (by kernel_rfl) rfl
    (fun f fn hf hfn => by
      obtain rfl : f = 3 := Option.some.inj ((show Tryd.prog.funcNamed "loop.example/pinfold/laws.FnTokens" = some 3 by kernel_rfl).symm.trans hf) |>.symm
      obtain rfl : fn = Tryd.f3 := (Option.some.inj (Tryd.func3.symm.trans hfn)).symm
      exact ⟨by kernel_rfl, fun j t ht => by
        rw [Tryd.params3] at ht
        have hm : t ∈ [22] := by simpa using Array.mem_of_getElem? ht
        have hall : ([22].all fun u => !Tryd.prog.wantsStandIn u) = true := by kernel_rfl
        exact (show Tryd.prog.wantsStandIn t = false by simpa using List.all_eq_true.1 hall t hm)⟩)
    (by kernel_rfl)
#print axioms fnTokens_holds
end Go.Proofs.YtbdlklncblklnaaDoor
