/- FnExactBoxShow: the claim, as it is given. -/
import Derived.Test.YthallaeafilbbaaGreatDoorR4
import Derived.Test.YthallaeafilbbaaGreatDoorM5
set_option linter.unusedVariables false

namespace Go.Px.Seat
open Go Go.ChangeShapes Go.WideShapes Go.ChangeAt Go.RowKit
set_option linter.unusedVariables false
theorem walk_FnExactBoxShow (x : Int) (u v : Value) (l : List Pr) (xs : List ByteArray) (w : World) (hl : Rep w.heap (S2 (fun k => k < w.heap.size) Nope false) (.slice (.cons (.int .i64) (.cons (.int .i64) .nil))) [u] l)
    (hx : Rep w.heap (S2 (fun k => k < w.heap.size) Nope false) (.slice .str) [v] xs) (b1 : l.length ≤ bigL) (b2 : xs.length ≤ bigL) (b3 : ∀ y ∈ xs, y.size ≤ bigL)
    (hW : WordsAt w) (hP : Lib.TabIs Go.Proofs.Tryz.prog w "internal/strconv.uint64pow10" .u64 Lib.pow10Tab) :
    Calls Go.Proofs.Tryz.prog 3 #[.int .i64 x, .agg #[u], v] w fun e w' => e = .returned (.bool true) ∧ Below w.heap.size w w' := by
  obtain ⟨N, hN⟩ := k_FnExactBoxShow
  have hrun := hN N (Nat.le_refl _) x l xs b1 b2 b3
  have hok := (Prog.sound (seat_OK (known_of hW hP)) N 3 [] sg_w_FnExactBoxShow (by show look S 3 ≠ none; rw [show look S 3 = some [([], sg_w_FnExactBoxShow)] from rfl]; simp)).1
  have hc := hok w (fun k => k < w.heap.size) [.int .i64 x, .agg #[u], v] [] [] [] (x, (l, (xs, ()))) (true, ()) hrun
    ⟨⟨_, _, [], [], [], [], [], [], rfl, rfl, rfl, rfl, ⟨rfl, rfl, _, [], rfl, rfl, rfl, rfl⟩,
      _, _, [], [], [], [], [], [], rfl, rfl, rfl, rfl, ⟨rfl, rfl, [u], rfl, _, [], rfl, hl, rfl, rfl⟩,
      _, _, [], [], [], [], [], [], rfl, rfl, rfl, rfl, ⟨rfl, rfl, _, [], rfl, hx, rfl, rfl⟩, rfl, rfl, rfl, rfl⟩, List.nodup_nil, fun k hk => ⟨hk, by simp⟩, fun k o' h => ⟨h, by simp⟩⟩
  refine hc.mono fun e w' ⟨v, SF, us, b1, b2, he, H⟩ => ?_
  refine ⟨?_, H.os, H.tape, H.output, H.size, fun k hk => H.old k hk (by simp)⟩
  obtain ⟨v1, r, c1, c2, rfl, _, hone, rfl, _⟩ := H.outs
  rcases hone with ⟨h, _⟩ | ⟨_, us', ⟨v2, r2, hus, hrep, hr2⟩, hval⟩
  · cases h
  · obtain ⟨hr2, _⟩ := hr2
    have h2 : [v2] = [Value.bool true] := hrep
    injection h2 with h2 _
    rw [he, H.val, hval, hus, hr2, h2]
    rfl
end Go.Px.Seat
namespace Go.Proofs.YthallaeafilbbaaGreatDoor
open Go.ChangeShapes Go.WideShapes Go.ChangeAt Go.RowKit
set_option linter.unusedVariables false
set_option maxRecDepth 100000 in
theorem fnExactBoxShow_lifted (os : Os) (started : os.Started) (H : Type) (enc : TypeId × Value → H) :
    ReturnsInHanded {} Tryz.checked os 3 .any (fun w args => (Rows.fnExactBoxShowSpec.pre enc Tryz.prog Tryz.f3 [] false w args ∧ laidMetH Tryz.prog laidTab w) ∧ sizedMet enc Tryz.prog Tryz.f3 (OpenSpec.ofChange Rows.fnExactBoxShowSpec) false w args)
      (Rows.fnExactBoxShowSpec.post enc Tryz.prog Tryz.f3 false true false false) := by
  refine returnsInHanded_of_change_and (C := Tryz.checked) (X := fun w _ => laidMetH Tryz.prog laidTab w) (fun _ _ _ hh h => h.of_heap hh) own started (by kernel_rfl) Tryz.func3
    (ChangeSpec.witness_shaped (enc := enc) (C := Tryz.checked) (os := os) (X := fun w _ => laidMetH Tryz.prog laidTab w) false (World.laidAll Tryz.prog os laidTab) #[.int .i64 0, .agg #[.slice none 0 0], .slice none 0 0] 8 (World.laidAll_os _ _ _) (World.shaped_of_ZipB (by kernel_rfl) (by kernel_rfl)) (by kernel_rfl) (by kernel_rfl) (by kernel_rfl) (door_met os _)) ?_
  intro W base args ds gs before hval0 hW _ _ hL _
  have hval : ∀ (j : Nat) t v, Tryz.f3.params[j]? = some t → args[j]? = some v → Value.okWide Tryz.prog W .any base t v := hval0
  have hT := of_laid hL
  have hW' := hW
  obtain ⟨p, q, hA0, hV, rfl, hfz, hnd⟩ := hW
  have hA : DataW.TrodAll enc Tryz.prog W 0 (fun _ => true) true Tryz.f3.params.toList args.toList ds p := hA0
  rw [Tryz.params3] at hA hval
  obtain ⟨v0, vs0, d0, ds0, p0, q0, hargs, rfl, rfl, h0, r0⟩ := trodAll_cons hA
  obtain ⟨v1, vs1, d1, ds1, p1, q1, rfl, rfl, rfl, h1, r1⟩ := trodAll_cons r0
  obtain ⟨v2, vs2, d2, ds2, p2, q2, rfl, rfl, rfl, h2, r2⟩ := trodAll_cons r1
  obtain ⟨rfl, rfl, rfl⟩ := trodAll_nil r2
  obtain rfl : args = #[v0, v1, v2] := by cases args; simp_all
  have kV := hV
  obtain ⟨_, _, _, _, g, pg, rfl, _⟩ := trodVars_one hV
  obtain ⟨x, rfl, rfl, rfl, wx⟩ := open_int Tryz.underlying3 (hval 0 3 v0 rfl rfl) h0
  have k1 := h1
  have k2 := h2
  have lt1 : ∀ x ∈ p1, x.block < W.heap.size := by obtain ⟨m, hm⟩ := k1; exact DataW.trod_lt m _ _ _ hm
  have lt2 : ∀ x ∈ p2, x.block < W.heap.size := by obtain ⟨m, hm⟩ := k2; exact DataW.trod_lt m _ _ _ hm
  have hS : ∀ k, k < W.heap.size → Px.S2 (fun k => k < W.heap.size) Px.Nope false k := fun k hk => .inr ⟨rfl, hk⟩
  obtain ⟨cs, rfl, _⟩ := okWide_struct Tryz.underlying24 (hval 1 24 v1 rfl rfl)
  obtain ⟨⟨l, u⟩, ⟨c, d, hcd, hl, hd⟩, ⟨f1, _⟩, _⟩ := (Px.rep_trod hS Px.Seat.boxT).1 24 _ _ _ tyBox h1.choose_spec
  obtain ⟨xs, hx, f2, f3⟩ := (Px.rep_trod hS Px.Seat.strsT).1 25 _ _ _ tyStrs h2.choose_spec
  obtain ⟨a, n, cp, rfl, hrest⟩ := hl
  have hcs : cs = #[.slice a n cp] := by
    have hd' : d = [] := hd
    have : cs.toList = [.slice a n cp] := by
      have h := hcd
      rw [hd', List.append_nil] at h
      exact h
    exact Array.toList_inj.1 this
  subst hcs
  obtain ⟨a2, n2, c2, rfl⟩ := okWide_slice Tryz.underlying25 (hval 2 25 v2 rfl rfl)
  clear hA0 hval0
  refine (Px.Seat.walk_FnExactBoxShow x (.slice a n cp) (.slice a2 n2 c2) l xs W ⟨a, n, cp, rfl, hrest⟩ hx f1 f2 f3 hT.1 hT.2).mono fun e W' ⟨he, bel⟩ => ?_
  subst he
  exact ⟨_, rfl, _, _, _, [], _, _, hW', trodAll_mk1 (shut_bool Tryz.underlying4 _),
    (trodAll_cons_mk (shut_int Tryz.underlying3 wx) (trodAll_cons_mk (Below.trod laidOut (by kernel_rfl) (of_decide_eq_true (by kernel_rfl)) k1 bel lt1) (trodAll_cons_mk (Below.trod laidOut (by kernel_rfl) (of_decide_eq_true (by kernel_rfl)) k2 bel lt2) trodAll_mk0))), Below.trodVars laidOut bel (by kernel_rfl) kV, bel.frame _, fun h => by cases h⟩
theorem fnExactBoxShow_row : Rows.FnExactBoxShowSaid :=
  OpenClaim.holds_of_wide 3 Tryz.f3 rfl rfl rfl rfl rfl rfl rfl ⟨rfl, rfl, rfl, rfl, rfl⟩ rfl rfl rfl rfl rfl (by kernel_rfl) Tryz.func3 (by kernel_rfl)
    (of_decide_eq_true (by kernel_rfl)) (by unfold Func.isWrapper; first | (rw [if_pos (by decide +kernel)]; kernel_rfl) | (rw [if_neg (by decide +kernel)]; exact ⟨rfl, rfl⟩))
    (fun os started H enc _ => fnExactBoxShow_lifted os started H enc)
theorem fnExactBoxShow_holds : Rows.FnExactBoxShowCardSaid :=
  Claim7.holds_tied_plain_at .later [] [.data, .data, .data, .data, .widerDeep, .pinned] true (true, "798a5bb945c494ae641c11141beea7a2fb2073047e64cf18e3a9630af039c49e") true
    fnExactBoxShow_row (fun _ h => by cases h) (by kernel_rfl) (fun _ h => by cases h) fnExactBoxShow_row_tie rfl ⟨rfl, rfl⟩ (by kernel_rfl) rfl
    (fun f fn hf hfn => by
      obtain rfl : f = 3 := Option.some.inj ((show Tryz.prog.funcNamed "loop.example/pinfold/laws.FnExactBoxShow" = some 3 by kernel_rfl).symm.trans hf) |>.symm
      obtain rfl : fn = Tryz.f3 := (Option.some.inj (Tryz.func3.symm.trans hfn)).symm
      exact ⟨by kernel_rfl, fun j t ht => by
        rw [Tryz.params3] at ht
        have hm : t ∈ [3, 24, 25] := by simpa using Array.mem_of_getElem? ht
        have hall : ([3, 24, 25].all fun u => !Tryz.prog.wantsStandIn u) = true := by kernel_rfl
        exact (show Tryz.prog.wantsStandIn t = false by simpa using List.all_eq_true.1 hall t hm)⟩)
    (by kernel_rfl)
#print axioms fnExactBoxShow_holds
end Go.Proofs.YthallaeafilbbaaGreatDoor
