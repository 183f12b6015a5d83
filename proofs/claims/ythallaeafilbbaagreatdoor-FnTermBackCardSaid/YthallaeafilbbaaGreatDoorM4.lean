/- Own texts, part M4: PzC PzD PzE PzF PzG PzH PzI PuA PuB. -/
import Derived.Test.YthallaeafilbbaaGreatDoorM3
import Derived.Test.YthallaeafilbbaaGreatDoorM1
import Derived.Test.YthallaeafilbbaaGreatDoorM2
set_option linter.unusedVariables false

/- How the program writes a term: the stack of texts. Seat T. -/
namespace Pt
open Go.Px Go.Px.Seat
def wstep (S : List Wt) (x : Nd) : List Wt := S.take (S.length - (nargs x).toNat) ++ [wnode x.1 x.2.1 x.2.2 (S.drop (S.length - (nargs x).toNat))]
def wrun (S : List Wt) (l : List Nd) : List Wt := l.foldl wstep S
def tl (S : List Wt) : Nat := (S.map fun w => w.1.length).sum
theorem tl_app (a b : List Wt) : tl (a ++ b) = tl a + tl b := by simp [tl]
theorem tl_cut (S : List Wt) (i : Nat) : tl (S.take i) + tl (S.drop i) = tl S := by rw [← tl_app, List.take_append_drop]
theorem tl_at (S : List Wt) (i : Nat) : (S.getD i ([], 0)).1.length ≤ tl S := by
  induction S generalizing i with
  | nil => simp
  | cons w S ih =>
    cases i with
    | zero => simp [tl]
    | succ i =>
      have := ih i
      simp only [tl, List.map_cons, List.sum_cons, List.getD_cons_succ] at this ⊢
      omega
theorem tl_two (S : List Wt) : (S.getD 0 ([], 0)).1.length + (S.getD 1 ([], 0)).1.length ≤ tl S := by
  cases S with
  | nil => simp
  | cons w S =>
    have := tl_at S 0
    simp only [tl, List.map_cons, List.sum_cons, List.getD_cons_zero, List.getD_cons_succ] at this ⊢
    omega
theorem joinL_tl : ∀ S : List Wt, (joinL [44, 32] (S.map (·.1))).length ≤ tl S + 2 * S.length
  | [] => Nat.zero_le _
  | [w] => by simp [joinL, tl]
  | w :: v :: S => by
    have h := joinL_tl (v :: S)
    show (w.1 ++ ([44, 32] ++ joinL [44, 32] ((v :: S).map fun w : Wt => w.1))).length ≤ _
    rw [List.length_append, List.length_append]
    simp only [tl, List.map_cons, List.sum_cons, List.length_cons, List.length_nil] at h ⊢
    omega
theorem wnode_len {k m : Int} {t : List Nat} {ws : List Wt} (ht : t.length ≤ 100) (hw : ws.length ≤ 6) (hm : k = 8 → (itoa m).length ≤ 20) : (wnode k m t ws).1.length ≤ tl ws + 200 := by
  have h2 := tl_two ws
  have h0 := tl_at ws 0
  have hb : ∀ (i : Nat) v, (brk (ws.getD i ([], 0)) v).length ≤ (ws.getD i ([], 0)).1.length + 2 := fun i v => brk_len _ v
  have hj := joinL_tl ws
  have a0 := hb 0 1
  have a1 := hb 0 2
  have a2 := hb 0 3
  have a3 := hb 0 5
  have c0 := hb 1 2
  have c1 := hb 1 3
  have call : ∀ name : List Nat, name.length ≤ 100 → (callT name ws).1.length ≤ tl ws + 200 := fun name hn => by
    unfold callT
    simp only [List.length_append, List.length_cons, List.length_nil]
    omega
  unfold wnode
  by_cases h3 : k = 3
  · rw [if_pos h3]
    clear call hm hj
    simp only [List.length_append, List.length_cons, List.length_nil]; omega
  rw [if_neg h3]
  by_cases h4 : k = 4
  · rw [if_pos h4]
    clear call hm hj
    simp only [List.length_append, List.length_cons, List.length_nil]; omega
  rw [if_neg h4]
  by_cases h5 : k = 5
  · rw [if_pos h5]
    clear call hm hj
    simp only [List.length_append, List.length_cons, List.length_nil]; omega
  rw [if_neg h5]
  by_cases h6 : k = 6
  · rw [if_pos h6]
    clear call hm hj
    simp only [List.length_append, List.length_cons, List.length_nil]; omega
  rw [if_neg h6]
  by_cases h7 : k = 7
  · rw [if_pos h7]
    clear call hm hj
    simp only [List.length_append, List.length_cons, List.length_nil]; omega
  rw [if_neg h7]
  by_cases h8 : k = 8
  · rw [if_pos h8]
    have := hm h8
    clear call hm hj
    simp only [List.length_append, List.length_cons, List.length_nil]; omega
  rw [if_neg h8]
  by_cases h9 : k = 9
  · rw [if_pos h9]
    exact call _ (by decide)
  rw [if_neg h9]
  by_cases h10 : k = 10
  · rw [if_pos h10]
    exact call _ (by decide)
  rw [if_neg h10]
  by_cases h11 : k = 11
  · rw [if_pos h11]
    exact call _ (by decide)
  rw [if_neg h11]
  by_cases h12 : k = 12
  · rw [if_pos h12]
    exact call _ (by decide)
  rw [if_neg h12]
  by_cases h13 : k = 13
  · rw [if_pos h13]
    exact call _ ht
  rw [if_neg h13]
  exact Nat.le_trans ht (by omega)
theorem brk_bl {w : Wt} (h : Bl w.1) (v : Int) : Bl (brk w v) := by
  unfold brk
  split
  · exact bl_app.2 ⟨bl_app.2 ⟨by unfold Bl; decide, h⟩, by unfold Bl; decide⟩
  · exact h
theorem joinL_bl {s : List Nat} (hs : Bl s) : ∀ ps : List (List Nat), (∀ p ∈ ps, Bl p) → Bl (joinL s ps)
  | [], _ => fun x hx => by cases hx
  | [x], h => h x (List.mem_singleton.2 rfl)
  | x :: y :: r, h => bl_app.2 ⟨h x (List.mem_cons_self ..), bl_app.2 ⟨hs, joinL_bl hs (y :: r) fun p hp => h p (List.mem_cons_of_mem _ hp)⟩⟩
theorem wnode_bl {k m : Int} {t : List Nat} {ws : List Wt} (ht : Bl t) (hw : ∀ w ∈ ws, Bl w.1) (hm : Bl (itoa m)) : Bl (wnode k m t ws).1 := by
  have hat : ∀ i, Bl (ws.getD i ([], 0)).1 := fun i => by
    rw [List.getD_eq_getElem?_getD]
    cases hi : ws[i]? with
    | none => exact fun x hx => by cases hx
    | some w => exact hw w (List.mem_of_getElem? hi)
  have hb : ∀ i v, Bl (brk (ws.getD i ([], 0)) v) := fun i v => brk_bl (hat i) v
  have call : ∀ name : List Nat, Bl name → Bl (callT name ws).1 := fun name hn =>
    bl_app.2 ⟨bl_app.2 ⟨bl_app.2 ⟨hn, by unfold Bl; decide⟩, joinL_bl (by unfold Bl; decide) _ fun p hp => by
      obtain ⟨w, hw', rfl⟩ := List.mem_map.1 hp
      exact hw w hw'⟩, by unfold Bl; decide⟩
  have two : ∀ (s : List Nat) v v', Bl s → Bl ((brk (ws.getD 0 ([], 0)) v ++ s) ++ brk (ws.getD 1 ([], 0)) v') := fun s v v' hs => bl_app.2 ⟨bl_app.2 ⟨hb 0 v, hs⟩, hb 1 v'⟩
  unfold wnode
  by_cases h3 : k = 3
  · rw [if_pos h3]
    exact bl_app.2 ⟨by unfold Bl; decide, hb 0 3⟩
  rw [if_neg h3]
  by_cases h4 : k = 4
  · rw [if_pos h4]
    exact two _ _ _ (by unfold Bl; decide)
  rw [if_neg h4]
  by_cases h5 : k = 5
  · rw [if_pos h5]
    exact two _ _ _ (by unfold Bl; decide)
  rw [if_neg h5]
  by_cases h6 : k = 6
  · rw [if_pos h6]
    exact two _ _ _ (by unfold Bl; decide)
  rw [if_neg h6]
  by_cases h7 : k = 7
  · rw [if_pos h7]
    exact two _ _ _ (by unfold Bl; decide)
  rw [if_neg h7]
  by_cases h8 : k = 8
  · rw [if_pos h8]
    exact bl_app.2 ⟨bl_app.2 ⟨hb 0 5, by unfold Bl; decide⟩, hm⟩
  rw [if_neg h8]
  by_cases h9 : k = 9
  · rw [if_pos h9]
    exact call _ (by unfold Bl; decide)
  rw [if_neg h9]
  by_cases h10 : k = 10
  · rw [if_pos h10]
    exact call _ (by unfold Bl; decide)
  rw [if_neg h10]
  by_cases h11 : k = 11
  · rw [if_pos h11]
    exact call _ (by unfold Bl; decide)
  rw [if_neg h11]
  by_cases h12 : k = 12
  · rw [if_pos h12]
    exact call _ (by unfold Bl; decide)
  rw [if_neg h12]
  by_cases h13 : k = 13
  · rw [if_pos h13]
    exact call _ ht
  rw [if_neg h13]
  exact ht
end Pt

/- The program's text of a term is what the stack of texts comes to. Seat T. -/
namespace Go.Px.Seat
open Go Pm Pt
set_option linter.unusedVariables false
theorem itoa_small {m : Int} (h0 : 0 ≤ m) (h8 : m ≤ 8) : Bl (itoa m) ∧ (itoa m).length ≤ 20 := by
  obtain ⟨j, rfl⟩ : ∃ j : Nat, m = (j : Int) := ⟨m.toNat, by omega⟩
  have hj : j ≤ 8 := by omega
  unfold itoa
  rw [if_neg (by omega), Int.toNat_natCast, dec, dif_pos (by omega)]
  refine ⟨fun x hx => ?_, by simp⟩
  rw [List.mem_singleton.1 hx]
  omega
theorem nargs_pow {m : Int} {t : List Nat} (h : 0 ≤ nargs (8, m, t)) : 0 ≤ m ∧ m ≤ 8 := by
  unfold nargs at h
  simp only at h
  rw [if_neg (by decide), if_neg (by decide), if_neg (by decide), if_neg (by decide), if_pos trivial] at h
  split at h
  · rename_i hh; exact ⟨hh.1, hh.2.1⟩
  · omega
/-- texts that are not long, all together -/
def Good (S : List Wt) (i : Nat) : Prop := (∀ w ∈ S, Bl w.1) ∧ tl S ≤ 200 * i
theorem good_step {S : List Wt} {i : Nat} {x : Nd} (h : Good S i) (hx : Bl x.2.2 ∧ x.2.2.length ≤ 100) (h0 : 0 ≤ nargs x) (h1 : nargs x ≤ S.length) : Good (wstep S x) (i + 1) := by
  obtain ⟨k, m, t⟩ := x
  have hr := nargs_range (k, m, t)
  have hd : (S.drop (S.length - (nargs (k, m, t)).toNat)).length ≤ 6 := by rw [List.length_drop]; omega
  have hm : k = 8 → Bl (itoa m) ∧ (itoa m).length ≤ 20 := fun hk => by
    subst hk
    obtain ⟨a, b⟩ := nargs_pow h0
    exact itoa_small a b
  have hcut := tl_cut S (S.length - (nargs (k, m, t)).toNat)
  constructor
  · intro w hw
    rcases List.mem_append.1 hw with h' | h'
    · exact h.1 w (List.mem_of_mem_take h')
    · rw [List.mem_singleton.1 h']
      by_cases hk : k = 8
      · exact wnode_bl hx.1 (fun v hv => h.1 v (List.mem_of_mem_drop hv)) (hm hk).1
      · have : wnode k m t (S.drop (S.length - (nargs (k, m, t)).toNat)) = wnode k 0 t (S.drop (S.length - (nargs (k, m, t)).toNat)) := by
          unfold wnode
          rw [if_neg hk, if_neg hk]
        show Bl (wnode k m t _).1
        rw [this]
        exact wnode_bl hx.1 (fun v hv => h.1 v (List.mem_of_mem_drop hv)) (itoa_small (Int.le_refl 0) (by decide)).1
  · unfold wstep
    rw [tl_app]
    have := wnode_len (k := k) (m := m) (t := t) (ws := S.drop (S.length - (nargs (k, m, t)).toNat)) hx.2 hd (fun hk => (hm hk).2)
    have e : tl [wnode k m t (S.drop (S.length - (nargs (k, m, t)).toNat))] = (wnode k m t (S.drop (S.length - (nargs (k, m, t)).toNat))).1.length := by simp [tl]
    rw [e]
    have := h.2
    omega
theorem good_wd {S : List Wt} {i : Nat} (h : Good S i) (hi : i ≤ 1000) : WD S := fun w hw => ⟨h.1 w hw, by
  obtain ⟨j, hj, rfl⟩ := List.mem_iff_getElem.1 hw
  have := tl_at S j
  rw [List.getD_eq_getElem?_getD, List.getElem?_eq_getElem hj] at this
  have := h.2
  simp only [Option.getD_some] at *
  omega⟩
theorem wstep_len {S : List Wt} {x : Nd} (h0 : 0 ≤ nargs x) (h1 : nargs x ≤ S.length) : ((wstep S x).length : Int) = S.length - nargs x + 1 := by
  unfold wstep
  rw [List.length_append, List.length_take, List.length_singleton]
  omega
theorem part_all {α : Type} (l : List α) (a : Nat) (h : a ≤ l.length) : part l a (l.length - a) = l.drop a := by
  unfold part
  rw [Nat.add_sub_cancel' h, List.take_length]
theorem part_head {α : Type} (l : List α) (a : Nat) : part l 0 a = l.take a := by
  unfold part
  rw [Nat.zero_add]
  rfl
theorem k_fold : Ev fun n => ∀ l : List Nd, NDw l → termOk l = true →
    c_i_fold_impl_written_i_write ((C B0).run n) (l.map encN) = some (bs ((wrun [] l).getD 0 ([], 0)).1, (((wrun [] l).getD 0 ([], 0)).2, ())) := by
  refine (k_iParts.and k_write).succ fun n hn ⟨kp, kw⟩ l hl hok => ?_
  unfold termOk at hok
  simp only [Bool.and_eq_true, decide_eq_true_eq] at hok
  obtain ⟨h100, hsc⟩ := hok
  rw [run_succ, e_i_fold_impl_written_i_write]
  unfold p_i_fold_impl_written_i_write
  rw [len_eq, List.length_map]
  refine iter_const (fun q => ∃ (i : Nat) (S : List Wt), q = (((i : Int), ((l.length : Int), (l.map encN, ((), ((), ((), ())))))), (S.map encW, ((bs [], (0, ())), ()))) ∧ i ≤ l.length ∧ S = wrun [] (l.take i) ∧ scan (S.length : Int) (l.drop i) = some 1 ∧ Good S i) (fun q => (200 - q.1.1).toNat) _ ?_ n _ (by simp only; omega) ⟨0, [], rfl, Nat.zero_le _, rfl, hsc, (⟨fun w hw => (by cases hw), Nat.zero_le _⟩ : Good [] 0)⟩
  rintro rec _ ⟨i, S, rfl, hi, hS, hs, hg⟩ ih
  dsimp only
  rw [ilt_iff]
  by_cases h : i < l.length
  · rw [decide_eq_true (show (i : Int) < l.length by omega), cond_true, len_eq (l.map encN), List.length_map, ok_of (inB_true (by omega) (by omega)), Int.toNat_natCast, encN_getD h]
    have hx := ndw_get hl h
    rw [drop_nd h, scan] at hs
    have htk : l.take (i + 1) = l.take i ++ [l.getD i (0, 0, [])] := by
      rw [List.take_add_one, List.getElem?_eq_getElem h, List.getD_eq_getElem?_getD, List.getElem?_eq_getElem h]
      rfl
    obtain ⟨x, hxe⟩ : ∃ x, x = l.getD i (0, 0, []) := ⟨_, rfl⟩
    rw [← hxe] at hx hs htk ⊢
    split at hs
    · cases hs
    · rename_i hna
      have hr := nargs_range x
      have h0 : 0 ≤ nargs x := by omega
      have h1 : nargs x ≤ S.length := by omega
      have hSl : S.length ≤ 100 := by
        have : ∀ (l : List Nd) (T : List Wt), (wrun T l).length ≤ T.length + l.length := fun l => by
          induction l with
          | nil => intro T; exact Nat.le_refl _
          | cons y r ih =>
            intro T
            refine Nat.le_trans (ih (wstep T y)) ?_
            unfold wstep
            rw [List.length_append, List.length_take, List.length_singleton, List.length_cons]
            omega
        have := this (l.take i) []
        rw [← hS, List.length_take] at this
        simp only [List.length_nil] at this
        omega
      have hpa : c_i_TermNode_parts ((C B0).run n) (encN x).1 (encN x).2.1 (encN x).2.2.1 = some (nargs x, ()) := kp x.1 x.2.1 x.2.2 hx.1 (by omega)
      rw [hpa]
      simp only [Option.bind_some]
      obtain ⟨a, ha⟩ : ∃ a : Nat, a = S.length - (nargs x).toNat := ⟨_, rfl⟩
      have hal : ((S.length : Int) - nargs x) = (a : Int) := by omega
      rw [len_eq (S.map encW), List.length_map, isub_eq (by omega) (by omega), hal, ok_of (sliceOk_true (Int.le_refl _) (by omega) (by omega)), ok_of (sliceOk_true (by omega) (by omega) (Int.le_refl _)), Int.toNat_natCast, Int.toNat_natCast]
      have hpart : part (S.map encW) a (S.length - a) = (S.drop a).map encW := by
        have := part_all (S.map encW) a (by rw [List.length_map]; omega)
        rw [List.length_map] at this
        rw [this, List.map_drop]
      have hwd := good_wd hg (by omega)
      have hkw : c_i_write ((C B0).run n) (encN x).1 (encN x).2.1 (encN x).2.2.1 ((S.drop a).map encW) = some (bs (wnode x.1 x.2.1 x.2.2 (S.drop a)).1, ((wnode x.1 x.2.1 x.2.2 (S.drop a)).2, ())) :=
        kw x.1 x.2.1 x.2.2 (S.drop a) hx.1 hx.2 (fun w hw => hwd w (List.mem_of_mem_drop hw)) (by
          show nargs x = _
          rw [List.length_drop]; omega)
      rw [hpart, hkw]
      simp only [Option.bind_some]
      rw [part_head, ok_of (aok_true (by rw [List.length_append, List.length_take, List.length_map, List.length_singleton]; omega)), iadd_eq (by omega) (by omega)]
      have hst : wstep S x = S.take a ++ [wnode x.1 x.2.1 x.2.2 (S.drop a)] := by
        unfold wstep
        rw [← ha]
      refine (congrArg rec ?_).trans (ih _ ⟨i + 1, wstep S x, rfl, by omega, ?_, ?_, good_step hg hx h0 h1⟩ (by simp only; omega))
      · rw [show ((i : Int) + 1) = ((i + 1 : Nat) : Int) by omega, hst, List.map_append, List.map_take]
        rfl
      · rw [htk, hS]
        unfold wrun
        rw [List.foldl_append]
        rfl
      · rw [wstep_len h0 h1]
        exact hs
  · rw [decide_eq_false (show ¬ (i : Int) < l.length by omega), cond_false]
    have hi' : i = l.length := by omega
    subst hi'
    rw [List.drop_length, scan] at hs
    have h1 : S.length = 1 := by
      have := Option.some.inj hs
      omega
    rw [List.take_length] at hS
    rw [len_eq, List.length_map, ok_of (inB_true (by omega) (by omega)), show Int.toNat 0 = 0 from rfl, encW_getD, ← hS]
    rfl
end Go.Px.Seat

/- The program's TermText; what a term leaves on the stack. Seat T. -/
namespace Pt
open Go.Px Go.Px.Seat
/-- a term leaves one text -/
theorem wrun_trm : ∀ (n : Nat) (l : List Nd), l.length ≤ n → Trm l → ∃ w : Wt, ∀ S : List Wt, wrun S l = S ++ [w]
  | 0, l, hn, h => absurd h.pos (by omega)
  | n + 1, l, hn, h => by
    obtain ⟨ps, x, rfl, hps, hx⟩ := sub_split h
    have hl : ps.flatten.length ≤ n := by
      rw [List.length_append, List.length_singleton] at hn; omega
    have parts : ∀ (ps : List (List Nd)), (∀ p ∈ ps, Trm p) → ps.flatten.length ≤ n → ∃ ws : List Wt, ws.length = ps.length ∧ ∀ S : List Wt, wrun S ps.flatten = S ++ ws := fun ps => by
      induction ps with
      | nil => exact fun _ _ => ⟨[], rfl, fun S => (List.append_nil S).symm⟩
      | cons p ps ih =>
        intro h1 h2
        rw [List.flatten_cons, List.length_append] at h2
        obtain ⟨w, hw⟩ := wrun_trm n p (by omega) (h1 p (List.mem_cons_self ..))
        obtain ⟨ws, e1, e2⟩ := ih (fun q hq => h1 q (List.mem_cons_of_mem _ hq)) (by omega)
        refine ⟨w :: ws, by rw [List.length_cons, List.length_cons, e1], fun S => ?_⟩
        have hS := hw S
        have hT := e2 (S ++ [w])
        unfold wrun at hS hT ⊢
        rw [List.flatten_cons, List.foldl_append, hS, hT, List.append_assoc]
        rfl
    obtain ⟨ws, e1, e2⟩ := parts ps hps hl
    refine ⟨wnode x.1 x.2.1 x.2.2 ws, fun S => ?_⟩
    have hS := e2 S
    unfold wrun at hS ⊢
    rw [List.foldl_append, hS]
    show wstep (S ++ ws) x = _
    unfold wstep
    have hn' : (S ++ ws).length - (nargs x).toNat = S.length := by
      rw [hx, Int.toNat_natCast, List.length_append, e1]; omega
    rw [hn', List.take_left, List.drop_left]
/-- the text of a term, as the program writes it; none, where it is not ok -/
def termTxt (l : List Nd) : List Nat := if termOk l = true then ((wrun [] l).getD 0 ([], 0)).1 else []
end Pt
namespace Go.Px.Seat
open Go Pm Pt
set_option linter.unusedVariables false
theorem k_iTermText : Ev fun n => ∀ l : List Nd, NDw l → l.length ≤ 1000000 → c_i_TermText ((C B0).run n) (l.map encN) = some (bs (termTxt l), ()) := by
  have h0 : Ev fun n => ∀ l : List Nd, NDw l → termOk l = true → c_i_Term_text ((C B0).run n) (l.map encN) = some (bs ((wrun [] l).getD 0 ([], 0)).1, ()) := by
    refine k_fold.succ fun n hn k l hl ht => ?_
    rw [run_succ, e_i_Term_text]
    unfold p_i_Term_text
    rw [k l hl ht]
    rfl
  refine (k_iTermOk.and h0).succ fun n hn ⟨kt, kx⟩ l hl hlen => ?_
  rw [run_succ, e_i_TermText]
  unfold p_i_TermText termTxt
  rw [kt l hl hlen]
  simp only [Option.bind_some]
  cases ht : termOk l with
  | false => rfl
  | true =>
    rw [Bool.not_true, cond_false, kx l hl ht]
    rfl
end Go.Px.Seat

/- The reference's text of a term is the program's. Seat T. -/
namespace Go.Px
open Go Pm
/-- a text that is told, and how long it may be -/
def TxtE (T : List Nat) (k : Nat) (s : ByteArray) : Prop := s = bs T ∧ Bl T ∧ T.length ≤ k
theorem TxtE.txt {T : List Nat} {k : Nat} {s : ByteArray} (h : TxtE T k s) : Txt k s := ⟨T, h.1, h.2.1, h.2.2⟩
theorem TxtE.mono {T : List Nat} {k k' : Nat} {s : ByteArray} (h : TxtE T k s) (hk : k ≤ k') : TxtE T k' s := ⟨h.1, h.2.1, Nat.le_trans h.2.2 hk⟩
theorem TxtE.to {T T' : List Nat} {k k' : Nat} {s : ByteArray} (h : TxtE T k s) (e : T = T') (hk : k ≤ k') : TxtE T' k' s := e ▸ h.mono hk
theorem TxtE.app {T T' : List Nat} {k k' : Nat} {s s' : ByteArray} (h : TxtE T k s) (h' : TxtE T' k' s') : TxtE (T ++ T') (k + k') (s ++ s') :=
  ⟨by rw [h.1, h'.1, bs_app], bl_app.2 ⟨h.2.1, h'.2.1⟩, by rw [List.length_append]; have := h.2.2; have := h'.2.2; omega⟩
theorem TxtE.sok {T T' : List Nat} {k k' : Nat} {s s' : ByteArray} (h : TxtE T k s) (h' : TxtE T' k' s') (hk : k + k' ≤ 140737488355328) : sok s s' = true := h.txt.sok h'.txt hk
theorem txtE {l : List Nat} (k : Nat) (h : (l.all (fun x => decide (x < 256)) && decide (l.length ≤ k)) = true := by decide) : TxtE l k (bs l) := by
  simp only [Bool.and_eq_true, decide_eq_true_eq, List.all_eq_true] at h
  exact ⟨rfl, fun x hx => h.1 x hx, h.2⟩
end Go.Px
namespace Pt
open Go.Px Go.Px.Seat
/-- what a term leaves on the stack -/
def Wr (l : List Nd) (w : Wt) : Prop := ∀ S : List Wt, wrun S l = S ++ [w]
theorem Wr.inj {l : List Nd} {w w' : Wt} (h : Wr l w) (h' : Wr l w') : w = w' := by
  have := (h []).symm.trans (h' [])
  simpa using this
theorem wr_parts : ∀ (ps : List (List Nd)), (∀ p ∈ ps, Trm p) → ∃ ws : List Wt, ws.length = ps.length ∧ (∀ j, j < ps.length → Wr (ps.getD j []) (ws.getD j ([], 0))) ∧ ∀ S : List Wt, wrun S ps.flatten = S ++ ws
  | [], _ => ⟨[], rfl, fun j hj => absurd hj (Nat.not_lt_zero _), fun S => (List.append_nil S).symm⟩
  | p :: ps, h => by
    obtain ⟨w, hw⟩ := wrun_trm p.length p (Nat.le_refl _) (h p (List.mem_cons_self ..))
    obtain ⟨ws, e1, e2, e3⟩ := wr_parts ps (fun q hq => h q (List.mem_cons_of_mem _ hq))
    refine ⟨w :: ws, by rw [List.length_cons, List.length_cons, e1], fun j hj => ?_, fun S => ?_⟩
    · cases j with
      | zero => exact hw
      | succ j => exact e2 j (by rw [List.length_cons] at hj; omega)
    · have hS := hw S
      have hT := e3 (S ++ [w])
      unfold wrun at hS hT ⊢
      rw [List.flatten_cons, List.foldl_append, hS, hT, List.append_assoc]
      rfl
theorem wr_node {ps : List (List Nd)} {x : Nd} {ws : List Wt} (hx : nargs x = (ps.length : Int)) (e1 : ws.length = ps.length) (e3 : ∀ S : List Wt, wrun S ps.flatten = S ++ ws) : Wr (ps.flatten ++ [x]) (wnode x.1 x.2.1 x.2.2 ws) := fun S => by
  have hS := e3 S
  unfold wrun at hS ⊢
  rw [List.foldl_append, hS]
  show wstep (S ++ ws) x = _
  unfold wstep
  have hn' : (S ++ ws).length - (nargs x).toNat = S.length := by
    rw [hx, Int.toNat_natCast, List.length_append, e1]; omega
  rw [hn', List.take_left, List.drop_left]
theorem wnode_level (k m : Int) (t : List Nat) (ws : List Wt) : (wnode k m t ws).2 = level k := by
  unfold wnode level
  by_cases h3 : k = 3
  · subst h3; rfl
  by_cases h4 : k = 4
  · subst h4; rfl
  by_cases h5 : k = 5
  · subst h5; rfl
  by_cases h6 : k = 6
  · subst h6; rfl
  by_cases h7 : k = 7
  · subst h7; rfl
  by_cases h8 : k = 8
  · subst h8; rfl
  by_cases h9 : k = 9
  · subst h9; rfl
  by_cases h10 : k = 10
  · subst h10; rfl
  by_cases h11 : k = 11
  · subst h11; rfl
  by_cases h12 : k = 12
  · subst h12; rfl
  by_cases h13 : k = 13
  · subst h13; rfl
  rw [if_neg h3, if_neg h4, if_neg h5, if_neg h6, if_neg h7, if_neg h8, if_neg h9, if_neg h10, if_neg h11, if_neg h12, if_neg h13, if_neg (by omega), if_neg (by omega), if_neg h3, if_neg h8]
end Pt

/- The reference's text of a term is the program's: the round. Seat T. -/
namespace Pt
open Go.Px Go.Px.Seat
theorem joinL_snoc (s x : List Nat) : ∀ ps : List (List Nat), joinL s (ps ++ [x]) = if ps = [] then x else joinL s ps ++ (s ++ x)
  | [] => rfl
  | [y] => rfl
  | y :: z :: r => by
    have := joinL_snoc s x (z :: r)
    rw [if_neg (by simp)] at this
    rw [if_neg (by simp)]
    show y ++ (s ++ joinL s ((z :: r) ++ [x])) = (y ++ (s ++ joinL s (z :: r))) ++ (s ++ x)
    rw [this]
    simp only [List.append_assoc]
theorem wr_level {l : List Nd} {w : Wt} (h : Trm l) (hw : Wr l w) : 1 ≤ w.2 := by
  obtain ⟨ps, x, rfl, hps, hx⟩ := sub_split h
  obtain ⟨ws, e1, _, e3⟩ := wr_parts ps hps
  rw [hw.inj (wr_node hx e1 e3), wnode_level]
  exact (level_range _).1
theorem brk_one {w : Wt} (h : 1 ≤ w.2) : brk w 1 = w.1 := if_neg (by omega)
def callName (x : Nd) : List Nat := if x.1 = 9 then [115, 113, 114, 116] else if x.1 = 10 then [97, 98, 115] else if x.1 = 11 then [109, 105, 110] else if x.1 = 12 then [109, 97, 120] else x.2.2
theorem wnode_call {x : Nd} {ws : List Wt} (h : x.1 = 9 ∨ x.1 = 10 ∨ x.1 = 11 ∨ x.1 = 12 ∨ x.1 = 13) : wnode x.1 x.2.1 x.2.2 ws = callT (callName x) ws := by
  unfold wnode callName
  rw [if_neg (by omega), if_neg (by omega), if_neg (by omega), if_neg (by omega), if_neg (by omega), if_neg (by omega)]
  by_cases h9 : x.1 = 9
  · rw [if_pos h9, if_pos h9]
  rw [if_neg h9, if_neg h9]
  by_cases h10 : x.1 = 10
  · rw [if_pos h10, if_pos h10]
  rw [if_neg h10, if_neg h10]
  by_cases h11 : x.1 = 11
  · rw [if_pos h11, if_pos h11]
  rw [if_neg h11, if_neg h11]
  by_cases h12 : x.1 = 12
  · rw [if_pos h12, if_pos h12]
  rw [if_neg h12, if_neg h12, if_pos (by omega)]
theorem call_kind {x : Nd} (h : 0 ≤ nargs x) (h8 : x.1 ≠ 1 ∧ x.1 ≠ 2 ∧ x.1 ≠ 3 ∧ x.1 ≠ 4 ∧ x.1 ≠ 5 ∧ x.1 ≠ 6 ∧ x.1 ≠ 7 ∧ x.1 ≠ 8) : x.1 = 9 ∨ x.1 = 10 ∨ x.1 = 11 ∨ x.1 = 12 ∨ x.1 = 13 := by
  by_cases hc : x.1 = 9 ∨ x.1 = 10 ∨ x.1 = 11 ∨ x.1 = 12 ∨ x.1 = 13
  · exact hc
  · obtain ⟨k, m, t⟩ := x
    simp only at h8 hc
    unfold nargs at h
    simp only at h
    rw [if_neg (by omega), if_neg (by omega), if_neg (by omega), if_neg (by omega), if_neg (by omega), if_neg (by omega)] at h
    omega
theorem digit_txt {m : Int} (h0 : 0 ≤ m) (h8 : m ≤ 8) : TxtE (itoa m) 1 (ofInts [(Go.IntKind.wrap .u8 (iadd .i64 48 m))]) := by
  have e : itoa m = [48 + m.toNat] := by
    unfold itoa
    rw [if_neg (by omega), dec, dif_pos (by omega)]
  rw [e]
  have : m = 0 ∨ m = 1 ∨ m = 2 ∨ m = 3 ∨ m = 4 ∨ m = 5 ∨ m = 6 ∨ m = 7 ∨ m = 8 := by omega
  rcases this with rfl | rfl | rfl | rfl | rfl | rfl | rfl | rfl | rfl <;> exact ⟨rfl, by unfold Bl; decide, by decide⟩
end Pt
namespace Go.Px.Seat
open Go Pm Pt
set_option linter.unusedVariables false
def ShowE (n d : Nat) : Prop := ∀ (pre l post : List Nd) (v : Int) (w : Wt), Trm l → Wr l w → l.length ≤ d → ND (pre ++ l ++ post) → (pre ++ l ++ post).length ≤ 100 → Tot (c_s_l12Show ((C B0).run n) ((pre ++ l ++ post).map encN) (((pre.length + l.length : Nat) : Int) - 1) v) (fun r => TxtE (brk w v) (30 * l.length) r.1)
set_option maxRecDepth 4000 in
theorem showE_core {n d : Nat} (hn : 1152921504606846976 ≤ n)
    (kl : ∀ (k m : Int) (s : ByteArray), c_s_l12Level ((C B0).run n) k m s = some (level k, ()))
    (kp : ∀ (pre : List Nd) (ps : List (List Nd)) (x : Nd) (post : List Nd), (∀ p ∈ ps, Trm p) → nargs x = (ps.length : Int) → ND (pre ++ ps.flatten ++ x :: post) → (pre ++ ps.flatten ++ x :: post).length ≤ 1000 → c_s_l12Parts ((C B0).run n) ((pre ++ ps.flatten ++ x :: post).map encN) ((pre.length + ps.flatten.length : Nat) : Int) = some ((ends pre.length ps).map Int.ofNat, ()))
    (hB : ShowE n d) (pre : List Nd) (ps : List (List Nd)) (x : Nd) (post : List Nd) (v : Int) (ws : List Wt) (hps : ∀ p ∈ ps, Trm p) (hwl : ws.length = ps.length) (hw : ∀ j, j < ps.length → Wr (ps.getD j []) (ws.getD j ([], 0))) (hx : nargs x = (ps.length : Int)) (hd : ps.flatten.length ≤ d) (hnd : ND (pre ++ ps.flatten ++ x :: post)) (hlen : (pre ++ ps.flatten ++ x :: post).length ≤ 100)
    (hv : level x.1 < v → Tot (c_s_l12Show ((C B0).run n) ((pre ++ ps.flatten ++ x :: post).map encN) ((pre.length + ps.flatten.length : Nat) : Int) 1) (fun r => TxtE (wnode x.1 x.2.1 x.2.2 ws).1 (30 * ps.flatten.length + 28) r.1)) :
    Tot (c_s_l12Show ((C B0).run (n + 1)) ((pre ++ ps.flatten ++ x :: post).map encN) ((pre.length + ps.flatten.length : Nat) : Int) v) (fun r => TxtE (brk (wnode x.1 x.2.1 x.2.2 ws) v) (30 * ps.flatten.length + if level x.1 < v then 30 else 28) r.1) := by
  rw [run_succ, e_s_l12Show]
  unfold p_s_l12Show
  have hpart := fun j (h : j < ps.length) => part_at (pre := pre) (rest := x :: post) hps h
  have hshow : ∀ (j : Nat) (h : j < ps.length) (u : Int), Tot (c_s_l12Show ((C B0).run n) ((pre ++ ps.flatten ++ x :: post).map encN) (((ends pre.length ps).map Int.ofNat).getD j 0) u) (fun r => TxtE (brk (ws.getD j ([], 0)) u) (30 * (ps.getD j []).length) r.1) := by
    intro j h u
    obtain ⟨h1, h2, h3, h4, h5⟩ := hpart j h
    have := hB (pre ++ (ps.take j).flatten) (ps.getD j []) ((ps.drop (j + 1)).flatten ++ x :: post) u _ h1 (hw j h) (by omega) (by rw [← h2]; exact hnd) (by rw [← h2]; exact hlen)
    rw [← h2] at this
    rw [h3]
    exact this
  have hkp := kp pre ps x post hps hx hnd (by omega)
  obtain ⟨L, hL⟩ : ∃ L, L = pre ++ ps.flatten ++ x :: post := ⟨_, rfl⟩
  rw [← hL] at hnd hlen hv hshow hkp ⊢
  have hgx : L.getD (pre.length + ps.flatten.length) (0, 0, []) = x := by
    rw [hL, ← List.length_append]; exact getD_mid _ _ _ _
  have hin : pre.length + ps.flatten.length < L.length := by rw [hL]; simp
  have hxd := nd_get hnd hin
  rw [hgx] at hxd
  have hxt : TxtE x.2.2 11 (encN x).2.2.1 := ⟨rfl, hxd.1, hxd.2⟩
  have hfl : ps.flatten.length ≤ 100 := by omega
  refine tot_ok (inB_true (by omega) (by rw [len_eq, List.length_map]; omega)) ?_
  rw [Int.toNat_natCast, encN_getD hin, hgx]
  refine tot_eq (kl x.1 x.2.1 (bs x.2.2)) ?_
  dsimp only
  refine tot_if (fun hlt => ?_) (fun hge => ?_)
  · have hlt : level x.1 < v := by simpa using hlt
    rw [if_pos hlt]
    refine tot_bind _ (hv hlt) ?_
    rintro ⟨s, u⟩ hs
    have a1 := (txtE (l := [40]) 1).app hs
    exact tot_ok ((txtE (l := [40]) 1).sok hs (by omega)) (tot_ok (a1.sok (txtE (l := [41]) 1) (by omega)) (tot_some ((a1.app (txtE (l := [41]) 1)).to (by unfold brk; rw [if_pos (by rw [wnode_level]; exact hlt)]) (by omega))))
  · have hge : ¬ level x.1 < v := by simpa using hge
    have hbk : brk (wnode x.1 x.2.1 x.2.2 ws) v = (wnode x.1 x.2.1 x.2.2 ws).1 := if_neg (by rw [wnode_level]; exact hge)
    rw [if_neg hge, hbk]
    refine tot_eq hkp ?_
    dsimp only
    obtain ⟨E, hE⟩ : ∃ E, E = (ends pre.length ps).map Int.ofNat := ⟨_, rfl⟩
    have hEl : E.length = ps.length := by rw [hE, List.length_map, ends_len]
    rw [← hE] at hshow ⊢
    rw [jb_of (p := ((decide (x.1 = 1 ∨ x.1 = 2), ((), (x.1, ((), (E, (bs [], ())))))), (encN x, ((L.map encN, ()), ())))) (by
      show (bif x.1 == 1 then _ else _) = _
      by_cases h1 : x.1 = 1
      · rw [decide_eq_true (.inl h1), h1]; simp [encN, h1]
      · rw [beq_f h1, cond_false, decide_eq_decide.2 (show (x.1 = 1 ∨ x.1 = 2) ↔ x.1 = 2 by omega)]; rfl)]
    dsimp only
    refine tot_if (fun h12 => tot_some (hxt.to ?_ (by omega))) (fun h12 => ?_)
    · have h12 : x.1 = 1 ∨ x.1 = 2 := by simpa using h12
      unfold wnode
      rw [if_neg (by omega), if_neg (by omega), if_neg (by omega), if_neg (by omega), if_neg (by omega), if_neg (by omega), if_neg (by omega), if_neg (by omega), if_neg (by omega), if_neg (by omega), if_neg (by omega)]
    have h12 : ¬ (x.1 = 1 ∨ x.1 = 2) := by simpa using h12
    have two : (x.1 = 4 ∨ x.1 = 5 ∨ x.1 = 6 ∨ x.1 = 7) → ∀ (w1 w2 : Int) (c : Nat) (hc : c < 256), (wnode x.1 x.2.1 x.2.2 ws).1 = (brk (ws.getD 0 ([], 0)) w1 ++ [32, c, 32]) ++ brk (ws.getD 1 ([], 0)) w2 → Tot (ok (inB 0 (len E)) <| (c_s_l12Show ((C B0).run n) (L.map encN) (E.getD (Int.toNat 0) 0) w1).bind fun (r, _) => ok (sok r (bs [32, c, 32])) <| ok (inB 1 (len E)) <| (c_s_l12Show ((C B0).run n) (L.map encN) (E.getD (Int.toNat 1) 0) w2).bind fun (r', _) => ok (sok (r ++ (bs [32, c, 32])) r') <| some (((r ++ (bs [32, c, 32])) ++ r'), ())) (fun r => TxtE (wnode x.1 x.2.1 x.2.2 ws).1 (30 * ps.flatten.length + 28) r.1) := by
      intro hk w1 w2 c hc he
      have h2 : ps.length = 2 := nargs_two hx hk
      have a0 : (ps.take 0).flatten.length = 0 := rfl
      have a4 : (ps.take 1).flatten.length = (ps.take 0).flatten.length + (ps.getD 0 []).length := (hpart 0 (by omega)).2.2.2.1
      have b4 : (ps.take 2).flatten.length = (ps.take 1).flatten.length + (ps.getD 1 []).length := (hpart 1 (by omega)).2.2.2.1
      have b5 : (ps.take 2).flatten.length ≤ ps.flatten.length := (hpart 1 (by omega)).2.2.2.2
      have t3 : TxtE [32, c, 32] 3 (bs [32, c, 32]) := ⟨rfl, fun y hy => by simp at hy; omega, Nat.le_refl _⟩
      refine tot_ok (inB_true (by omega) (by rw [len_eq]; omega)) (tot_bind _ (hshow 0 (by omega) w1) ?_)
      rintro ⟨r, u⟩ hr
      have hr : TxtE _ _ r := hr
      refine tot_ok (hr.sok t3 (by omega)) (tot_ok (inB_true (by omega) (by rw [len_eq]; omega)) (tot_bind _ (hshow 1 (by omega) w2) ?_))
      rintro ⟨r', u'⟩ hr'
      have hr' : TxtE _ _ r' := hr'
      exact tot_ok ((hr.app t3).sok hr' (by omega)) (tot_some (((hr.app t3).app hr').to he.symm (by omega)))
    refine tot_if (fun hk => ?_) (fun n3 => tot_if (fun hk => ?_) (fun n4 => tot_if (fun hk => ?_) (fun n5 => tot_if (fun hk => ?_) (fun n6 => tot_if (fun hk => ?_) (fun n7 => tot_if (fun hk => ?_) (fun n8 => ?_))))))
    · have hk : x.1 = 3 := by simpa using hk
      have h1 : ps.length = 1 := nargs_one hx (.inl hk)
      have a0 : (ps.take 0).flatten.length = 0 := rfl
      have a4 : (ps.take 1).flatten.length = (ps.take 0).flatten.length + (ps.getD 0 []).length := (hpart 0 (by omega)).2.2.2.1
      have a5 : (ps.take 1).flatten.length ≤ ps.flatten.length := (hpart 0 (by omega)).2.2.2.2
      refine tot_ok (inB_true (by omega) (by rw [len_eq]; omega)) (tot_bind _ (hshow 0 (by omega) 3) ?_)
      rintro ⟨r, u⟩ hr
      have hr : TxtE _ _ r := hr
      exact tot_ok ((txtE (l := [45]) 1).sok hr (by omega)) (tot_some (((txtE (l := [45]) 1).app hr).to (by unfold wnode; rw [if_pos hk]) (by omega)))
    · have hk : x.1 = 4 := by simpa using hk
      exact two (by omega) 1 2 43 (by decide) (by unfold wnode; rw [if_neg (by omega), if_pos hk])
    · have hk : x.1 = 5 := by simpa using hk
      exact two (by omega) 1 2 45 (by decide) (by unfold wnode; rw [if_neg (by omega), if_neg (by omega), if_pos hk])
    · have hk : x.1 = 6 := by simpa using hk
      exact two (by omega) 2 3 42 (by decide) (by unfold wnode; rw [if_neg (by omega), if_neg (by omega), if_neg (by omega), if_pos hk])
    · have hk : x.1 = 7 := by simpa using hk
      exact two (by omega) 2 3 47 (by decide) (by unfold wnode; rw [if_neg (by omega), if_neg (by omega), if_neg (by omega), if_neg (by omega), if_pos hk])
    · have hk : x.1 = 8 := by simpa using hk
      have h1 : ps.length = 1 := nargs_one hx (.inr hk)
      have a0 : (ps.take 0).flatten.length = 0 := rfl
      have a4 : (ps.take 1).flatten.length = (ps.take 0).flatten.length + (ps.getD 0 []).length := (hpart 0 (by omega)).2.2.2.1
      have a5 : (ps.take 1).flatten.length ≤ ps.flatten.length := (hpart 0 (by omega)).2.2.2.2
      have hm : 0 ≤ x.2.1 ∧ x.2.1 ≤ 8 := nargs_pow (t := x.2.2) (by
        have : nargs (8, x.2.1, x.2.2) = nargs x := by rw [← hk]
        omega)
      have hdg := digit_txt hm.1 hm.2
      refine tot_ok (inB_true (by omega) (by rw [len_eq]; omega)) (tot_bind _ (hshow 0 (by omega) 5) ?_)
      rintro ⟨r, u⟩ hr
      have hr : TxtE _ _ r := hr
      exact tot_ok (hr.sok (txtE (l := [94]) 1) (by omega)) (tot_ok ((hr.app (txtE (l := [94]) 1)).sok hdg (by omega)) (tot_some (((hr.app (txtE (l := [94]) 1)).app hdg).to (by unfold wnode; rw [if_neg (by omega), if_neg (by omega), if_neg (by omega), if_neg (by omega), if_neg (by omega), if_pos hk]) (by omega))))
    · have n3 : x.1 ≠ 3 := by simpa using n3
      have n4 : x.1 ≠ 4 := by simpa using n4
      have n5 : x.1 ≠ 5 := by simpa using n5
      have n6 : x.1 ≠ 6 := by simpa using n6
      have n7 : x.1 ≠ 7 := by simpa using n7
      have n8 : x.1 ≠ 8 := by simpa using n8
      have hk := call_kind (x := x) (by omega) ⟨by omega, by omega, n3, n4, n5, n6, n7, n8⟩
      rw [wnode_call hk]
      refine tot_jb (fun q => ∃ s, q = ((s, (E, ((), (bs [], ())))), ((L.map encN, ()), ())) ∧ TxtE (callName x) 11 s) ?_ ?_
      · refine tot_if (fun h => tot_some ⟨_, rfl, ?_⟩) (fun h9 => tot_if (fun h => tot_some ⟨_, rfl, ?_⟩) (fun h10 => tot_if (fun h => tot_some ⟨_, rfl, ?_⟩) (fun h11 => tot_if (fun h => tot_some ⟨_, rfl, ?_⟩) (fun h12 => tot_some ⟨_, rfl, ?_⟩))))
        · have h : x.1 = 9 := by simpa [encN] using h
          unfold callName
          rw [if_pos h]
          exact txtE 11
        · have h9 : x.1 ≠ 9 := by simpa [encN] using h9
          have h : x.1 = 10 := by simpa [encN] using h
          unfold callName
          rw [if_neg h9, if_pos h]
          exact txtE 11
        · have h9 : x.1 ≠ 9 := by simpa [encN] using h9
          have h10 : x.1 ≠ 10 := by simpa [encN] using h10
          have h : x.1 = 11 := by simpa [encN] using h
          unfold callName
          rw [if_neg h9, if_neg h10, if_pos h]
          exact txtE 11
        · have h9 : x.1 ≠ 9 := by simpa [encN] using h9
          have h10 : x.1 ≠ 10 := by simpa [encN] using h10
          have h11 : x.1 ≠ 11 := by simpa [encN] using h11
          have h : x.1 = 12 := by simpa [encN] using h
          unfold callName
          rw [if_neg h9, if_neg h10, if_neg h11, if_pos h]
          exact txtE 11
        · have h9 : x.1 ≠ 9 := by simpa [encN] using h9
          have h10 : x.1 ≠ 10 := by simpa [encN] using h10
          have h11 : x.1 ≠ 11 := by simpa [encN] using h11
          have h12 : x.1 ≠ 12 := by simpa [encN] using h12
          unfold callName
          rw [if_neg h9, if_neg h10, if_neg h11, if_neg h12]
          exact hxt
      · rintro _ ⟨s, rfl, hs⟩
        dsimp only
        refine tot_ok (hs.sok (txtE (l := [40]) 1) (by omega)) ?_
        have h6 : ps.length ≤ 6 := by have := nargs_range x; omega
        obtain ⟨A, hA⟩ : ∃ A, A = callName x ++ [40] := ⟨_, rfl⟩
        have hsA : TxtE A 12 (s ++ bs [40]) := by rw [hA]; exact hs.app (txtE (l := [40]) 1)
        have hcall : (callT (callName x) ws).1 = (A ++ joinL [44, 32] ((ws.take ps.length).map (·.1))) ++ [41] := by
          rw [hA, ← hwl, List.take_length]; rfl
        rw [hcall]
        have hsnoc : ∀ j, j < ps.length → joinL [44, 32] ((ws.take (j + 1)).map (·.1)) = if j = 0 then (ws.getD j ([], 0)).1 else joinL [44, 32] ((ws.take j).map (·.1)) ++ ([44, 32] ++ (ws.getD j ([], 0)).1) := fun j hj => by
          have e : (ws.take (j + 1)).map (·.1) = (ws.take j).map (·.1) ++ [(ws.getD j ([], 0)).1] := by
            rw [List.take_add_one, List.map_append, List.getElem?_eq_getElem (by omega), List.getD_eq_getElem?_getD, List.getElem?_eq_getElem (by omega)]
            rfl
          rw [e, joinL_snoc]
          by_cases h0 : j = 0
          · subst h0; rfl
          · rw [if_neg h0, if_neg]
            intro h
            have := congrArg List.length h
            rw [List.length_map, List.length_take, List.length_nil] at this
            omega
        refine tot_iter (fun q => ∃ (j : Nat) (o : ByteArray), q = (((j : Int), (E, (o, ((), (bs [], ()))))), ((L.map encN, ()), ())) ∧ TxtE (A ++ joinL [44, 32] ((ws.take j).map (·.1))) (12 + 30 * (ps.take j).flatten.length + 2 * j) o ∧ j ≤ ps.length) (fun q => (100 - q.1.1).toNat) (by simp only; omega) ⟨0, _, rfl, hsA.to (by simp [joinL]) (by simp), Nat.zero_le _⟩ ?_
        rintro rec _ ⟨j, o, rfl, ho, hj⟩ ih
        dsimp only
        refine tot_if (fun hc => ?_) (fun hc => ?_)
        · have hc : j < ps.length := by
            rw [ilt_iff, decide_eq_true_eq, len_eq] at hc; omega
          obtain ⟨hpt, _, _, a4, a5⟩ := hpart j hc
          have hone := brk_one (wr_level hpt (hw j hc))
          refine tot_jb (fun q => ∃ o', q = ((o', ((), (E, ((j : Int), (bs [], ()))))), ((L.map encN, ()), ())) ∧ TxtE (if j = 0 then A else (A ++ joinL [44, 32] ((ws.take j).map (·.1))) ++ [44, 32]) (12 + 30 * (ps.take j).flatten.length + 2 * j + 2) o') ?_ ?_
          · refine tot_if (fun h => tot_ok (ho.sok (txtE (l := [44, 32]) 2) (by omega)) (tot_some ⟨_, rfl, ?_⟩)) (fun h => tot_some ⟨_, rfl, ?_⟩)
            · have h : j ≠ 0 := by
                rw [ilt_iff, decide_eq_true_eq] at h; omega
              rw [if_neg h]
              exact ho.app (txtE (l := [44, 32]) 2)
            · have h : j = 0 := by
                rw [ilt_iff, decide_eq_false_iff_not] at h; omega
              subst h
              rw [if_pos rfl]
              exact ho.to (by simp [joinL]) (by omega)
          · rintro _ ⟨o', rfl, ho'⟩
            dsimp only
            refine tot_ok (inB_true (by omega) (by rw [len_eq]; omega)) ?_
            rw [Int.toNat_natCast]
            refine tot_bind _ (hshow j hc 1) ?_
            rintro ⟨r, u⟩ hr
            have hr : TxtE _ _ r := hr
            rw [hone] at hr
            dsimp only
            refine tot_ok (ho'.sok hr (by omega)) ?_
            rw [iadd_eq (by omega) (by omega)]
            refine ih _ ⟨j + 1, _, by simp, (ho'.app hr).to ?_ (by omega), by omega⟩ (by simp only; omega)
            rw [hsnoc j hc]
            by_cases h0 : j = 0
            · rw [if_pos h0, if_pos h0]
            · rw [if_neg h0, if_neg h0]
              simp only [List.append_assoc]
        · have hj' : j = ps.length := by
            rw [ilt_iff, decide_eq_false_iff_not, len_eq] at hc; omega
          subst hj'
          have hj2 : (ps.take ps.length).flatten.length = ps.flatten.length := by rw [List.take_length]
          exact tot_ok (ho.sok (txtE (l := [41]) 1) (by omega)) (tot_some ((ho.app (txtE (l := [41]) 1)).mono (by omega)))
theorem showE_zero (n : Nat) : ShowE n 0 := fun pre l post v w hs _ hl => absurd hs.pos (by omega)
theorem k_showE : ∀ d : Nat, Ev fun n => ShowE n d
  | 0 => ⟨0, fun n _ => showE_zero n⟩
  | d + 1 => by
    have h1 : Ev fun n => ∀ (pre l post : List Nd) (w : Wt), Trm l → Wr l w → l.length ≤ d + 1 → ND (pre ++ l ++ post) → (pre ++ l ++ post).length ≤ 100 → Tot (c_s_l12Show ((C B0).run n) ((pre ++ l ++ post).map encN) (((pre.length + l.length : Nat) : Int) - 1) 1) (fun r => TxtE w.1 (30 * l.length - 2) r.1) := by
      refine (k_level.and (k_parts.and (k_showE d))).succ fun n hn ⟨kl, kp, hB⟩ pre l post w hs hw hl hnd hlen => ?_
      obtain ⟨ps, x, rfl, hps, hx⟩ := sub_split hs
      obtain ⟨ws, e1, e2, e3⟩ := wr_parts ps hps
      have hwe := hw.inj (wr_node hx e1 e3)
      have e : pre ++ (ps.flatten ++ [x]) ++ post = pre ++ ps.flatten ++ x :: post := by simp
      rw [e] at hnd hlen ⊢
      have hlv := level_range x.1
      have := showE_core hn kl kp hB pre ps x post 1 ws hps e1 e2 hx (by rw [List.length_append, List.length_singleton] at hl; omega) hnd hlen (fun h => absurd h (by omega))
      rw [if_neg (by omega)] at this
      rw [show ((pre.length + (ps.flatten ++ [x]).length : Nat) : Int) - 1 = ((pre.length + ps.flatten.length : Nat) : Int) by simp; omega]
      refine tot_mono this fun r hr => ?_
      rw [List.length_append, List.length_singleton]
      refine hr.to ?_ (by omega)
      rw [hwe, brk_one (by rw [wnode_level]; omega)]
    refine Ev.succ (k_level.and (k_parts.and ((k_showE d).and h1))) fun n hn ⟨kl, kp, hB, hA⟩ pre l post v w hs hw hl hnd hlen => ?_
    obtain ⟨ps, x, rfl, hps, hx⟩ := sub_split hs
    obtain ⟨ws, e1, e2, e3⟩ := wr_parts ps hps
    have hwe := hw.inj (wr_node hx e1 e3)
    have e : pre ++ (ps.flatten ++ [x]) ++ post = pre ++ ps.flatten ++ x :: post := by simp
    have hAx := hA pre (ps.flatten ++ [x]) post w hs hw hl hnd hlen
    have ei : ((pre.length + (ps.flatten ++ [x]).length : Nat) : Int) - 1 = ((pre.length + ps.flatten.length : Nat) : Int) := by simp; omega
    rw [ei, e] at hAx
    rw [ei]
    rw [e] at hnd hlen ⊢
    have := showE_core hn kl kp hB pre ps x post v ws hps e1 e2 hx (by rw [List.length_append, List.length_singleton] at hl; omega) hnd hlen (fun _ => tot_mono hAx fun r hr => by
      rw [List.length_append, List.length_singleton, hwe] at hr
      exact hr.mono (by omega))
    refine tot_mono this fun r hr => ?_
    rw [List.length_append, List.length_singleton, hwe]
    refine hr.mono ?_
    split <;> omega
/-- the reference writes a term as the program does -/
theorem k_sTermText : Ev fun n => ∀ l : List Nd, ND l → l.length ≤ 1000 → c_s_TermText ((C B0).run n) (l.map encN) = some (bs (termTxt l), ()) := by
  refine (k_termOk.and (k_showE 100)).succ fun n hn ⟨kt, ks⟩ l hl hlen => ?_
  rw [run_succ, e_s_TermText]
  unfold p_s_TermText termTxt
  rw [kt l hl]
  simp only [Option.bind_some]
  cases ht : termOk l with
  | false => rfl
  | true =>
    obtain ⟨hs, h100⟩ := termOk_sub ht
    have hp := hs.pos
    obtain ⟨w, hw⟩ := wrun_trm l.length l (Nat.le_refl _) hs
    rw [Bool.not_true, cond_false, len_eq, List.length_map, isub_eq (by omega) (by omega)]
    have := ks [] l [] 1 w hs hw h100 (by simpa using hl) (by simpa using h100)
    simp only [List.nil_append, List.append_nil, List.length_nil, Nat.zero_add] at this
    obtain ⟨⟨r, u⟩, e1, e2, _⟩ := this
    cases u
    rw [e1, if_pos rfl, hw []]
    have e2' : r = bs (brk w 1) := e2
    rw [e2', brk_one (wr_level hs hw)]
    rfl
end Go.Px.Seat

/- A term's text is not empty; terms that are the same. Seat T. -/
namespace Pt
open Go.Px Go.Px.Seat
theorem app_ne {a b : List Nat} (h : b ≠ []) : a ++ b ≠ [] := fun h' => h (List.append_eq_nil_iff.1 h').2
theorem app_ne' {a b : List Nat} (h : a ≠ []) : a ++ b ≠ [] := fun h' => h (List.append_eq_nil_iff.1 h').1
theorem wnode_ne {x : Nd} {ws : List Wt} (h : 0 ≤ nargs x) : (wnode x.1 x.2.1 x.2.2 ws).1 ≠ [] := by
  by_cases hc : x.1 = 9 ∨ x.1 = 10 ∨ x.1 = 11 ∨ x.1 = 12 ∨ x.1 = 13
  · rw [wnode_call hc]
    exact app_ne (by decide)
  · obtain ⟨k, m, t⟩ := x
    simp only at hc ⊢
    unfold wnode
    by_cases h3 : k = 3
    · rw [if_pos h3]
      exact app_ne' (by decide)
    rw [if_neg h3]
    by_cases h4 : k = 4
    · rw [if_pos h4]
      exact app_ne' (app_ne (by decide))
    rw [if_neg h4]
    by_cases h5 : k = 5
    · rw [if_pos h5]
      exact app_ne' (app_ne (by decide))
    rw [if_neg h5]
    by_cases h6 : k = 6
    · rw [if_pos h6]
      exact app_ne' (app_ne (by decide))
    rw [if_neg h6]
    by_cases h7 : k = 7
    · rw [if_pos h7]
      exact app_ne' (app_ne (by decide))
    rw [if_neg h7]
    by_cases h8 : k = 8
    · rw [if_pos h8]
      exact app_ne' (app_ne (by decide))
    rw [if_neg h8, if_neg (by omega), if_neg (by omega), if_neg (by omega), if_neg (by omega), if_neg (by omega)]
    intro ht
    have ht' : t = [] := ht
    subst ht'
    unfold nargs at h
    simp only at h
    by_cases h1 : k = 1
    · rw [if_pos h1, show numOk [] = false by decide] at h
      simp at h
    · rw [if_neg h1] at h
      by_cases h2 : k = 2
      · rw [if_pos h2, show nameOk [] = false by decide] at h
        simp at h
      · rw [if_neg h2, if_neg (by omega), if_neg (by omega), if_neg h8, if_neg (by omega)] at h
        omega
theorem wr_ne {l : List Nd} {w : Wt} (h : Trm l) (hw : Wr l w) : w.1 ≠ [] := by
  obtain ⟨ps, x, rfl, hps, hx⟩ := sub_split h
  obtain ⟨ws, e1, _, e3⟩ := wr_parts ps hps
  rw [hw.inj (wr_node hx e1 e3)]
  exact wnode_ne (by omega)
theorem termTxt_ne {l : List Nd} (h : termOk l = true) : termTxt l ≠ [] := by
  obtain ⟨hs, _⟩ := termOk_sub h
  obtain ⟨w, hw⟩ := wrun_trm l.length l (Nat.le_refl _) hs
  unfold termTxt
  rw [if_pos h, hw []]
  exact wr_ne hs hw
end Pt

/- ptTerm, ptComment. Seat T. -/
namespace Go.Px.Seat
open Go Pm Pt
set_option linter.unusedVariables false
theorem k_ptTerm : Ev fun n => ∀ l : List Tn, l.length ≤ 1000000 → c_w_ptTerm ((C B0).run n) l l = some (true, ()) := by
  refine Ev.triv.succ fun n hn _ l hl => ?_
  rw [run_succ, e_w_ptTerm]
  unfold p_w_ptTerm
  rw [show (len l != len l) = false by simp, cond_false]
  refine iter_const (fun p => ∃ i : Nat, p = (((i : Int), ((), ((), (false, ())))), ((l, ()), ((l, ()), ()))) ∧ i ≤ l.length) (fun p => l.length - p.1.1.toNat) _ ?_ n _ (by simp only; omega) ⟨0, rfl, Nat.zero_le _⟩
  rintro rec p ⟨i, rfl, hi⟩ ih
  dsimp only
  rw [ilt_iff, len_eq]
  by_cases h : i < l.length
  · rw [decide_eq_true (by omega), cond_true, ok_of (inB_true (by omega) (by omega)), ok_of (inB_true (by omega) (by omega)), seq_chs, decide_eq_true rfl, beq_self_eq_true, beq_self_eq_true]
    simp only [Bool.and_true, Bool.not_true, cond_false]
    rw [iadd_eq (by omega) (by omega)]
    exact ih _ ⟨i + 1, by simp, by omega⟩ (by simp only; omega)
  · rw [decide_eq_false (by omega), cond_false]
theorem k_ptComment : Ev fun n => ∀ l : List Nat, Bl l → l.length ≤ 1000000 → c_w_ptComment ((C B0).run n) (bs l) = some (decide (35 ∈ l), ()) := by
  refine Ev.triv.succ fun n hn _ l hl hlen => ?_
  rw [run_succ, e_w_ptComment]
  unfold p_w_ptComment
  refine iter_const (fun p => ∃ i : Nat, p = (((i : Int), (bs l, (false, ()))), ()) ∧ i ≤ l.length ∧ ∀ j, j < i → l.getD j 0 ≠ 35) (fun p => l.length - p.1.1.toNat) _ ?_ n _ (by simp only; omega) ⟨0, rfl, Nat.zero_le _, fun j hj => absurd hj (Nat.not_lt_zero _)⟩
  rintro rec p ⟨i, rfl, hi, hj⟩ ih
  dsimp only
  rw [ilt_iff, bs_len]
  by_cases h : i < l.length
  · rw [decide_eq_true (by omega), cond_true, ok_of (inB_true (by omega) (by omega)), bs_bt hl]
    by_cases hc : l.getD i 0 = 35
    · rw [hc, show (((35 : Nat) : Int) == 35) = true from rfl, cond_true, decide_eq_true (show 35 ∈ l by
        rw [← hc, List.getD_eq_getElem?_getD, List.getElem?_eq_getElem h]
        exact List.getElem_mem h)]
    · rw [beq_f (show ¬ ((l.getD i 0 : Nat) : Int) = 35 by omega), cond_false, iadd_eq (by omega) (by omega)]
      refine ih _ ⟨i + 1, by simp, by omega, fun j hj' => ?_⟩ (by simp only; omega)
      by_cases hji : j = i
      · subst hji; exact hc
      · exact hj j (by omega)
  · rw [decide_eq_false (by omega), cond_false, decide_eq_false]
    intro hm
    obtain ⟨j, hjl, e⟩ := List.mem_iff_getElem.1 hm
    exact hj j (by omega) (by rw [List.getD_eq_getElem?_getD, List.getElem?_eq_getElem hjl]; exact e)
end Go.Px.Seat

/- How tokens are read as a term: plain. -/
namespace Pt
/-- the tokens left, the nodes that are laid down, is there a call of too many -/
abbrev RSt := List Tok × List Nd × Bool
abbrev Rdr := RSt → Option RSt
def put (k n : Int) (t : List Nat) (s : RSt) : RSt := (s.1, s.2.1 ++ [(k, n, t)], s.2.2)
/-- more of the same, with one of two signs between -/
def loopP (nx : Rdr) (a b : List Nat) (ka kb : Int) (s : RSt) : Option RSt :=
  match h : s.1 with
  | [] => some s
  | t :: r =>
    if t = (3, a) ∨ t = (3, b) then
      match nx (r, s.2) with
      | none => none
      | some s' => if h' : s'.1.length ≤ r.length then loopP nx a b ka kb (put (if t = (3, b) then kb else ka) 0 [] s') else none
    else some s
termination_by s.1.length
decreasing_by
  simp only [put, h, List.length_cons]
  omega
def powP (s : RSt) : Option RSt :=
  match s.1 with
  | [] => some s
  | t :: r => if t = (3, [94]) then
      match r with
      | [] => none
      | u :: r' => if u.1 = 2 ∧ u.2.length = 1 ∧ u.2.getD 0 0 ≤ 56 then some (put 8 ((u.2.getD 0 0 : Int) - 48) [] (r', s.2)) else none
    else some s
def signedP (A : Rdr) : List Tok → List Nd → Bool → Option RSt
  | [], nd, m => (A ([], nd, m)).bind powP
  | t :: r, nd, m => if t = (3, [45]) then (signedP A r nd m).map (put 3 0 []) else (A (t :: r, nd, m)).bind powP
def closeP (s : RSt) : Option RSt :=
  match s.1 with
  | [] => none
  | t :: r => if t = (3, [41]) then some (r, s.2) else none
/-- what stands behind an argument: more of them, or the bracket's end -/
def argsP (S : Rdr) (s : RSt) (n : Nat) : Option (RSt × Nat) :=
  match h : s.1 with
  | [] => none
  | t :: r =>
    if t = (3, [44]) then
      match S (r, s.2) with
      | none => none
      | some s' => if h' : s'.1.length ≤ r.length then argsP S s' (n + 1) else none
    else if t = (3, [41]) then some ((r, s.2), n) else none
termination_by s.1.length
decreasing_by
  simp only [h, List.length_cons]
  omega
def callP (name : List Nat) (n : Nat) (s : RSt) : Option RSt :=
  if name ∉ words then some (s.1, s.2.1 ++ [(13, (n : Int), name)], s.2.2 || decide (6 < n))
  else if name = [115, 113, 114, 116] ∧ n = 1 then some (put 9 0 [] s)
  else if name = [97, 98, 115] ∧ n = 1 then some (put 10 0 [] s)
  else if name = [109, 105, 110] ∧ n = 2 then some (put 11 0 [] s)
  else if name = [109, 97, 120] ∧ n = 2 then some (put 12 0 [] s)
  else none
def nameP (t : List Nat) (s : RSt) : Option RSt := if t ∈ words then none else some (put 2 0 t s)
def atomP (S : Rdr) (s : RSt) : Option RSt :=
  match s.1 with
  | [] => none
  | t :: r =>
    if t = (3, [40]) then (S (r, s.2)).bind closeP
    else if t.1 = 2 then some (put 1 0 t.2 (r, s.2))
    else if t.1 = 1 then
      match r with
      | [] => nameP t.2 (r, s.2)
      | u :: r' => if u = (3, [40]) then ((S (r', s.2)).bind fun s' => argsP S s' 1).bind fun q => callP t.2 q.2 q.1 else nameP t.2 (r, s.2)
    else none
def sgnP (S : Rdr) (s : RSt) : Option RSt := signedP (atomP S) s.1 s.2.1 s.2.2
def prodP (S : Rdr) (s : RSt) : Option RSt := (sgnP S s).bind (loopP (sgnP S) [42] [47] 6 7)
def sumP1 (S : Rdr) (s : RSt) : Option RSt := (prodP S s).bind (loopP (prodP S) [43] [45] 4 5)
def sumP : Nat → Rdr
  | 0, _ => none
  | k + 1, s => sumP1 (sumP k) s

/-! ### The loops, a step at a time -/
theorem loopP_nil {nx : Rdr} {a b : List Nat} {ka kb : Int} {nd : List Nd} {m : Bool} : loopP nx a b ka kb ([], nd, m) = some ([], nd, m) := by
  rw [loopP]
theorem loopP_end {nx : Rdr} {a b : List Nat} {ka kb : Int} {t : Tok} {r : List Tok} {nd : List Nd} {m : Bool} (h : ¬ (t = (3, a) ∨ t = (3, b))) : loopP nx a b ka kb (t :: r, nd, m) = some (t :: r, nd, m) := by
  rw [loopP]
  simp only
  rw [if_neg h]
theorem loopP_on {nx : Rdr} {a b : List Nat} {ka kb : Int} {t : Tok} {r : List Tok} {nd : List Nd} {m : Bool} (h : t = (3, a) ∨ t = (3, b)) (hnx : ∀ s s', nx s = some s' → s'.1.length ≤ s.1.length) :
    loopP nx a b ka kb (t :: r, nd, m) = (nx (r, nd, m)).bind fun s' => loopP nx a b ka kb (put (if t = (3, b) then kb else ka) 0 [] s') := by
  rw [loopP]
  simp only
  rw [if_pos h]
  cases hq : nx (r, nd, m) with
  | none => rfl
  | some s' => simp only [Option.bind_some]; rw [dif_pos (hnx _ _ hq)]
theorem argsP_nil {S : Rdr} {nd : List Nd} {m : Bool} {n : Nat} : argsP S ([], nd, m) n = none := by
  rw [argsP]
theorem argsP_end {S : Rdr} {r : List Tok} {nd : List Nd} {m : Bool} {n : Nat} : argsP S ((3, [41]) :: r, nd, m) n = some ((r, nd, m), n) := by
  rw [argsP]
  simp only
  rw [if_neg (by decide), if_pos trivial]
theorem argsP_bad {S : Rdr} {t : Tok} {r : List Tok} {nd : List Nd} {m : Bool} {n : Nat} (h : t ≠ (3, [44])) (h' : t ≠ (3, [41])) : argsP S (t :: r, nd, m) n = none := by
  rw [argsP]
  simp only
  rw [if_neg h, if_neg h']
theorem argsP_on {S : Rdr} {r : List Tok} {nd : List Nd} {m : Bool} {n : Nat} (hS : ∀ s s', S s = some s' → s'.1.length ≤ s.1.length) :
    argsP S ((3, [44]) :: r, nd, m) n = (S (r, nd, m)).bind fun s' => argsP S s' (n + 1) := by
  rw [argsP]
  simp only
  rw [if_pos trivial]
  cases hq : S (r, nd, m) with
  | none => rfl
  | some s' => simp only [Option.bind_some]; rw [dif_pos (hS _ _ hq)]

/-! ### What is read is a term -/
def TokOk (t : Tok) : Prop := (∀ x ∈ t.2, x < 256) ∧ (t.1 = 1 ∨ t.1 = 2 ∨ t.1 = 3) ∧ (t.1 = 1 → plain t.2 = true) ∧ (t.1 = 2 → numOk t.2 = true)
def NDs (l : List Nd) : Prop := ∀ x ∈ l, (∀ y ∈ x.2.2, y < 256) ∧ x.2.2.length ≤ 100
/-- From s some tokens were taken, and nodes laid down, not more of them less e; if no call is of too many, they are so many terms. -/
def Took (j e : Nat) (s s' : RSt) : Prop := (∃ p, j + e ≤ p.length ∧ s.1 = p ++ s'.1 ∧ s'.2.1.length + e ≤ s.2.1.length + p.length) ∧
  ((∀ t ∈ s.1, TokOk t) → s'.2.2 = false → s.2.2 = false ∧ ∃ ps : List (List Nd), ps.length = j ∧ (∀ l ∈ ps, Trm l) ∧ NDs ps.flatten ∧ s'.2.1 = s.2.1 ++ ps.flatten)
theorem Took.len {j e : Nat} {s s' : RSt} (h : Took j e s s') : s'.1.length + (j + e) ≤ s.1.length := by
  obtain ⟨⟨p, h1, h2, _⟩, _⟩ := h
  rw [h2, List.length_append]
  omega
theorem Took.all {j e : Nat} {s s' : RSt} (h : Took j e s s') (hs : ∀ t ∈ s.1, TokOk t) : ∀ t ∈ s'.1, TokOk t := by
  obtain ⟨⟨p, _, h2, _⟩, _⟩ := h
  exact fun t ht => hs t (by rw [h2]; exact List.mem_append_right _ ht)
theorem Took.nodes {j e : Nat} {s s' : RSt} (h : Took j e s s') : s'.1.length + s'.2.1.length + e ≤ s.1.length + s.2.1.length := by
  obtain ⟨⟨p, _, h2, h3⟩, _⟩ := h
  rw [h2, List.length_append]
  omega
theorem Took.refl (s : RSt) : Took 0 0 s s := ⟨⟨[], Nat.zero_le _, rfl, Nat.le_refl _⟩, fun _ h => ⟨h, [], rfl, fun l hl => (by cases hl), fun x hx => (by cases hx), by simp⟩⟩
theorem Took.skip {j e : Nat} {t : Tok} {r : List Tok} {x : List Nd × Bool} {s' : RSt} (h : Took j e (r, x) s') : Took j (e + 1) (t :: r, x) s' := by
  obtain ⟨⟨p, h1, h2, h3⟩, h4⟩ := h
  exact ⟨⟨t :: p, by rw [List.length_cons]; omega, by rw [show r = p ++ s'.1 from h2]; rfl, by rw [List.length_cons]; simp only at h3 ⊢; omega⟩, fun ht => h4 fun u hu => ht u (List.mem_cons_of_mem _ hu)⟩
theorem Took.trans {j e i e' : Nat} {s s1 s2 : RSt} (h : Took j e s s1) (h' : Took i e' s1 s2) : Took (j + i) (e + e') s s2 := by
  have ha := h.all
  obtain ⟨⟨p, h1, h2, h3⟩, h4⟩ := h
  obtain ⟨⟨q, g1, g2, g3⟩, g4⟩ := h'
  refine ⟨⟨p ++ q, by rw [List.length_append]; omega, by rw [h2, g2, List.append_assoc], by rw [List.length_append]; omega⟩, fun ht hm => ?_⟩
  obtain ⟨m1, qs, k1, k2, k3, k4⟩ := g4 (ha ht) hm
  obtain ⟨m2, ps, l1, l2, l3, l4⟩ := h4 ht m1
  refine ⟨m2, ps ++ qs, by rw [List.length_append, k1, l1], fun l hl => (List.mem_append.1 hl).elim (l2 l) (k2 l), fun x hx => ?_, by rw [k4, l4, List.flatten_append, List.append_assoc]⟩
  rw [List.flatten_append] at hx
  exact (List.mem_append.1 hx).elim (l3 x) (k3 x)
theorem Took.weak {j e e' : Nat} {s s' : RSt} (h : Took j e s s') (he : e' ≤ e) : Took j e' s s' := by
  obtain ⟨⟨p, h1, h2, h3⟩, h4⟩ := h
  exact ⟨⟨p, by omega, h2, by omega⟩, h4⟩
theorem Took.node {j e : Nat} {s s' : RSt} {x : Nd} {c : Bool} (h : Took j (e + 1) s s') (hx : (∀ t ∈ s.1, TokOk t) → c = false → nargs x = (j : Int)) (hb : (∀ t ∈ s.1, TokOk t) → (∀ y ∈ x.2.2, y < 256) ∧ x.2.2.length ≤ 100) :
    Took 1 e s (s'.1, s'.2.1 ++ [x], s'.2.2 || c) := by
  obtain ⟨⟨p, h1, h2, h3⟩, h4⟩ := h
  refine ⟨⟨p, by omega, h2, by simp only [List.length_append, List.length_singleton]; omega⟩, fun ht hm => ?_⟩
  simp only [Bool.or_eq_false_iff] at hm
  obtain ⟨m1, ps, k1, k2, k3, k4⟩ := h4 ht hm.1
  refine ⟨m1, [ps.flatten ++ [x]], rfl, fun l hl => ?_, fun y hy => ?_, by rw [k4]; simp⟩
  · rw [List.mem_singleton.1 hl]
    exact Trm.mk ps x k2 (by rw [hx ht hm.2, k1])
  · simp only [List.flatten_cons, List.flatten_nil, List.append_nil] at hy
    rcases List.mem_append.1 hy with hy | hy
    · exact k3 y hy
    · rw [List.mem_singleton.1 hy]; exact hb ht
theorem Took.put {j e : Nat} {s s' : RSt} {k n : Int} {t : List Nat} (h : Took j (e + 1) s s') (hx : (∀ t ∈ s.1, TokOk t) → nargs (k, n, t) = (j : Int)) (hb : (∀ t ∈ s.1, TokOk t) → (∀ y ∈ t, y < 256) ∧ t.length ≤ 100) : Took 1 e s (put k n t s') := by
  have := h.node (x := (k, n, t)) (c := false) (fun ht _ => hx ht) hb
  rwa [Bool.or_false] at this
def Takes (nx : Rdr) : Prop := ∀ s s', nx s = some s' → Took 1 0 s s'
theorem Takes.le {nx : Rdr} (h : Takes nx) : ∀ s s', nx s = some s' → s'.1.length ≤ s.1.length := fun s s' hs => by
  have := (h s s' hs).len
  omega
theorem loop_took {nx : Rdr} (hnx : Takes nx) {a b : List Nat} {ka kb : Int} (ha : nargs (ka, 0, []) = 2) (hb : nargs (kb, 0, []) = 2) : ∀ (n : Nat) (s0 s s' : RSt), s.1.length ≤ n → Took 1 0 s0 s → loopP nx a b ka kb s = some s' → Took 1 0 s0 s'
  | n, s0, ([], nd, m), s', _, h, e => by
    rw [loopP_nil] at e
    cases e
    exact h
  | n, s0, (t :: r, nd, m), s', hn, h, e => by
    by_cases ht : t = (3, a) ∨ t = (3, b)
    · rw [loopP_on ht hnx.le] at e
      cases hq : nx (r, nd, m) with
      | none => rw [hq] at e; cases e
      | some s1 =>
        rw [hq] at e
        have h1 := hnx _ _ hq
        have h2 := h.trans (h1.skip (t := t))
        have h3 : Took 1 0 s0 (put (if t = (3, b) then kb else ka) 0 [] s1) := h2.put (fun _ => by split; exact hb; exact ha) (fun _ => ⟨fun y hy => (by cases hy), Nat.zero_le _⟩)
        have hl := h1.len
        simp only [List.length_cons] at hn hl
        match n, hn with
        | n + 1, hn => exact loop_took hnx ha hb n s0 _ s' (by show s1.1.length ≤ n; omega) h3 e
    · rw [loopP_end ht] at e
      cases e
      exact h
theorem args_took {S : Rdr} (hS : Takes S) : ∀ (l : Nat) (s0 s : RSt) (n e : Nat) (s' : RSt) (n' : Nat), s.1.length ≤ l → Took n e s0 s → argsP S s n = some (s', n') → 1 ≤ n → Took n' e s0 s' ∧ 1 ≤ n'
  | l, s0, ([], nd, m), n, e, s', n', _, h, he, _ => by
    rw [argsP_nil] at he
    cases he
  | l, s0, (t :: r, nd, m), n, e, s', n', hl, h, he, hn => by
    by_cases h1 : t = (3, [44])
    · subst h1
      rw [argsP_on hS.le] at he
      cases hq : S (r, nd, m) with
      | none => rw [hq] at he; cases he
      | some s1 =>
        rw [hq] at he
        have h2 := hS _ _ hq
        have h3 := (h.trans (h2.skip (t := (3, [44])))).weak (e' := e) (by omega)
        have hl2 := h2.len
        simp only [List.length_cons] at hl hl2
        match l, hl with
        | l + 1, hl => exact args_took hS l s0 s1 (n + 1) e s' n' (by omega) h3 he (by omega)
    · by_cases h2 : t = (3, [41])
      · subst h2
        rw [argsP_end] at he
        cases he
        have h3 := (h.trans ((Took.refl (r, nd, m)).skip (t := (3, [41])))).weak (e' := e) (by omega)
        exact ⟨by rwa [Nat.add_zero] at h3, hn⟩
      · rw [argsP_bad h1 h2] at he
        cases he
theorem plain_len {l : List Nat} (h : plain l = true) : l.length ≤ 100 := by
  unfold plain at h
  simp only [Bool.and_eq_true, decide_eq_true_eq] at h
  omega
theorem numOk_len {l : List Nat} (h : numOk l = true) : l.length ≤ 100 := by
  unfold numOk at h
  simp only [Bool.and_eq_true, decide_eq_true_eq] at h
  omega
theorem name_took {t : Tok} {r : List Tok} {x : List Nd × Bool} {s' : RSt} (h1 : t.1 = 1) (h : nameP t.2 (r, x) = some s') : Took 1 0 (t :: r, x) s' := by
  unfold nameP at h
  split at h
  · cases h
  · rename_i hw
    cases h
    refine ((Took.refl (r, x)).skip (t := t)).put (fun ht => ?_) (fun ht => ?_)
    · have := (ht t (List.mem_cons_self ..)).2.2.1 h1
      unfold nargs
      simp only
      rw [if_neg (by decide), if_pos trivial, if_pos ⟨trivial, by unfold nameOk; rw [this, decide_eq_false hw]; rfl⟩]
      rfl
    · have := ht t (List.mem_cons_self ..)
      exact ⟨this.1, plain_len (this.2.2.1 h1)⟩
theorem call_took {t u : Tok} {r : List Tok} {x : List Nd × Bool} {s1 s' : RSt} {n : Nat} (h1 : t.1 = 1) (h : Took n 0 (r, x) s1) (hn : 1 ≤ n) (hc : callP t.2 n s1 = some s') : Took 1 0 (t :: u :: r, x) s' := by
  have h2 := ((h.skip (t := u)).skip (t := t)).weak (e' := 1) (by omega)
  have nil : (∀ v ∈ t :: u :: r, TokOk v) → (∀ y ∈ ([] : List Nat), y < 256) ∧ ([] : List Nat).length ≤ 100 := fun _ => ⟨fun y hy => (by cases hy), Nat.zero_le _⟩
  unfold callP at hc
  split at hc
  · rename_i hw
    cases hc
    refine h2.node (fun ht hc => ?_) (fun ht => ?_)
    · have := (ht t (List.mem_cons_self ..)).2.2.1 h1
      have hn6 := of_decide_eq_false hc
      unfold nargs
      simp only
      rw [if_neg (by decide), if_neg (by decide), if_neg (by decide), if_neg (by decide), if_neg (by decide), if_pos trivial, if_pos ⟨by omega, by omega, by unfold nameOk; rw [this, decide_eq_false hw]; rfl⟩]
    · have := ht t (List.mem_cons_self ..)
      exact ⟨this.1, plain_len (this.2.2.1 h1)⟩
  · split at hc
    · rename_i hw
      cases hc
      obtain ⟨_, rfl⟩ := hw
      exact h2.put (fun _ => rfl) nil
    · split at hc
      · rename_i hw
        cases hc
        obtain ⟨_, rfl⟩ := hw
        exact h2.put (fun _ => rfl) nil
      · split at hc
        · rename_i hw
          cases hc
          obtain ⟨_, rfl⟩ := hw
          exact h2.put (fun _ => rfl) nil
        · split at hc
          · rename_i hw
            cases hc
            obtain ⟨_, rfl⟩ := hw
            exact h2.put (fun _ => rfl) nil
          · cases hc
theorem atom_took {S : Rdr} (hS : Takes S) : Takes (atomP S) := by
  rintro ⟨ts, x⟩ s' h
  unfold atomP at h
  simp only at h
  split at h
  · cases h
  · rename_i t r
    split at h
    · rename_i ht
      cases hq : S (r, x) with
      | none => rw [hq] at h; cases h
      | some s1 =>
        rw [hq] at h
        have h1 := (hS _ _ hq).skip (t := t)
        obtain ⟨ts1, x1⟩ := s1
        simp only [Option.bind_some, closeP] at h
        split at h
        · cases h
        · rename_i t' r'
          split at h
          · cases h
            exact (h1.trans ((Took.refl (r', x1)).skip (t := t'))).weak (by omega)
          · cases h
    · split at h
      · rename_i h2
        cases h
        refine ((Took.refl (r, x)).skip (t := t)).put (fun ht => ?_) (fun ht => ?_)
        · have := (ht t (List.mem_cons_self ..)).2.2.2 h2
          unfold nargs
          simp only
          rw [if_pos trivial, if_pos ⟨trivial, this⟩]
          rfl
        · have := ht t (List.mem_cons_self ..)
          exact ⟨this.1, numOk_len (this.2.2.2 h2)⟩
      · split at h
        · rename_i h1
          split at h
          · exact name_took h1 h
          · rename_i u r'
            split at h
            · cases hq : S (r', x) with
              | none => rw [hq] at h; cases h
              | some s1 =>
                rw [hq] at h
                simp only [Option.bind_some] at h
                cases ha : argsP S s1 1 with
                | none => rw [ha] at h; cases h
                | some q =>
                  obtain ⟨s2, n2⟩ := q
                  rw [ha] at h
                  obtain ⟨h3, h4⟩ := args_took hS _ (r', x) s1 1 0 s2 n2 (Nat.le_refl _) (hS _ _ hq) ha (Nat.le_refl _)
                  exact call_took h1 h3 h4 h
            · exact name_took h1 h
        · cases h
theorem pow_took {s0 s s' : RSt} (h0 : Took 1 0 s0 s) (h : powP s = some s') : Took 1 0 s0 s' := by
  obtain ⟨ts, x⟩ := s
  unfold powP at h
  simp only at h
  split at h
  · cases h; exact h0
  · rename_i t r
    split at h
    · rename_i ht
      split at h
      · cases h
      · rename_i u r'
        split at h
        · rename_i hu
          cases h
          have h1 := (h0.trans (((Took.refl (r', x)).skip (t := u)).skip (t := t))).weak (e' := 1) (by omega)
          refine h1.put (fun hs => ?_) (fun _ => ⟨fun y hy => (by cases hy), Nat.zero_le _⟩)
          have hu2 := h0.all hs u (by simp)
          have hn := hu2.2.2.2 hu.1
          obtain ⟨uk, ut⟩ := u
          simp only at hu hn ⊢
          match ut, hu.2.1 with
          | [d], _ =>
            have hd : digit d = true := by
              unfold numOk num at hn
              simp only [Bool.and_eq_true] at hn
              have hw := hn.1.1
              by_cases h46 : d = 46
              · subst h46; revert hw; decide
              · by_cases h101 : d = 101
                · subst h101; revert hw; decide
                · have e1 : cutAt 101 [d] = ([d], [], false) := by simp [cutAt, h101]
                  have e2 : cutAt 46 [d] = ([d], [], false) := by simp [cutAt, h46]
                  rw [e1] at hw
                  simp only [e2, whole, Bool.and_eq_true, List.all_cons, List.all_nil, Bool.and_true] at hw
                  exact hw.2.1
            have := digit_iff.1 hd
            have hu3 : d ≤ 56 := hu.2.2
            show nargs (8, (d : Int) - 48, []) = 1
            unfold nargs
            simp only
            rw [if_neg (by decide), if_neg (by decide), if_neg (by decide), if_neg (by decide), if_pos trivial, if_pos ⟨by omega, by omega, trivial⟩]
        · cases h
    · cases h; exact h0
theorem signed_took {A : Rdr} (hA : Takes A) : ∀ (ts : List Tok) (nd : List Nd) (m : Bool) (s' : RSt), signedP A ts nd m = some s' → Took 1 0 (ts, nd, m) s'
  | [], nd, m, s', h => by
    rw [signedP] at h
    cases hq : A ([], nd, m) with
    | none => rw [hq] at h; cases h
    | some s1 => rw [hq] at h; exact pow_took (hA _ _ hq) h
  | t :: r, nd, m, s', h => by
    rw [signedP] at h
    split at h
    · cases hq : signedP A r nd m with
      | none => rw [hq] at h; cases h
      | some s1 =>
        rw [hq] at h
        cases h
        exact ((signed_took hA r nd m s1 hq).skip (t := t)).put (fun _ => rfl) (fun _ => ⟨fun y hy => (by cases hy), Nat.zero_le _⟩)
    · cases hq : A (t :: r, nd, m) with
      | none => rw [hq] at h; cases h
      | some s1 => rw [hq] at h; exact pow_took (hA _ _ hq) h
theorem sgn_took {S : Rdr} (hS : Takes S) : Takes (sgnP S) := fun s s' h => signed_took (atom_took hS) s.1 s.2.1 s.2.2 s' h
theorem prod_took {S : Rdr} (hS : Takes S) : Takes (prodP S) := fun s s' h => by
  unfold prodP at h
  cases hq : sgnP S s with
  | none => rw [hq] at h; cases h
  | some s1 => rw [hq] at h; exact loop_took (sgn_took hS) rfl rfl _ s s1 s' (Nat.le_refl _) (sgn_took hS _ _ hq) h
theorem sum1_took {S : Rdr} (hS : Takes S) : Takes (sumP1 S) := fun s s' h => by
  unfold sumP1 at h
  cases hq : prodP S s with
  | none => rw [hq] at h; cases h
  | some s1 => rw [hq] at h; exact loop_took (prod_took hS) rfl rfl _ s s1 s' (Nat.le_refl _) (prod_took hS _ _ hq) h
theorem sum_took : ∀ k, Takes (sumP k)
  | 0 => fun s s' h => by cases h
  | k + 1 => sum1_took (sum_took k)
end Pt

/- The program's reader of terms: its small functions, its loops. Seat T. -/
namespace Go.Px.Seat
open Go Pm Pt
set_option linter.unusedVariables false
abbrev TE := Int × (ByteArray × Unit)
abbrev RT := List TE × (List Tn × (Bool × (Bool × Unit)))
theorem unit_ex {α : Type} {x : Option (α × Unit)} {q : α → Prop} (h : Tot x fun r => q r.1) : ∃ r : α, x = some (r, ()) ∧ q r := by
  obtain ⟨⟨r, u⟩, h1, h2⟩ := h
  cases u
  exact ⟨r, h1, h2⟩
theorem k_IndexR : Ev fun n => ∀ (L : List ByteArray) (v : ByteArray), L.length ≤ 4000000 → ∃ r : Int, c_slices_Index_string_string ((C B0).run n) L v = some (r, ()) ∧ ile 0 r = L.any (fun x => seq v x) := by
  refine Ev.triv.succ fun n hn _ L v hl => ?_
  rw [run_succ, e_slices_Index_string_string]
  unfold p_slices_Index_string_string
  refine unit_ex (q := fun r => ile 0 r = L.any (fun x => seq v x)) ?_
  refine tot_iter (fun p => ∃ i : Nat, p = (((i : Int), ((L.length : Int), (v, (L, (0, ()))))), ()) ∧ i ≤ L.length ∧ (L.take i).any (fun x => seq v x) = false) (fun p => L.length - p.1.1.toNat) (by simp only; omega) ⟨0, rfl, Nat.zero_le _, rfl⟩ ?_
  rintro rec p ⟨i, rfl, hi, hj⟩ ih
  dsimp only
  rw [ilt_iff]
  by_cases h : i < L.length
  · rw [decide_eq_true (by omega), cond_true, len_eq, ok_of (inB_true (by omega) (by omega)), Int.toNat_natCast]
    have hg : L.getD i (bs []) = L[i] := by rw [List.getD_eq_getElem?_getD, List.getElem?_eq_getElem h]; rfl
    rw [hg]
    cases he : seq v L[i] with
    | true =>
      rw [cond_true]
      refine tot_some ?_
      dsimp only
      rw [ile_iff, decide_eq_true (by omega), eq_comm, List.any_eq_true]
      exact ⟨L[i], List.getElem_mem h, he⟩
    | false =>
      rw [cond_false, iadd_eq (by omega) (by omega)]
      refine ih _ ⟨i + 1, by simp, by omega, ?_⟩ (by simp only; omega)
      rw [List.take_add_one, List.getElem?_eq_getElem h, List.any_append, hj]
      simp [he]
  · rw [decide_eq_false (by omega), cond_false]
    refine tot_some ?_
    dsimp only
    rw [List.take_of_length_le (by omega)] at hj
    rw [hj]
    rfl
theorem k_ContainsR : Ev fun n => ∀ (L : List ByteArray) (v : ByteArray), L.length ≤ 4000000 → c_slices_Contains_string_string ((C B0).run n) L v = some (L.any (fun x => seq v x), ()) := by
  refine k_IndexR.succ fun n hn k L v hl => ?_
  obtain ⟨r, h1, h2⟩ := k L v hl
  rw [run_succ, e_slices_Contains_string_string]
  unfold p_slices_Contains_string_string
  rw [h1]
  simp only [Option.bind_some]
  rw [h2]
/-- is the next token one of some signs -/
def atR (L : List ByteArray) : List TE → Bool
  | [] => false
  | t :: _ => (t.1 == 3) && L.any (fun x => seq t.2.1 x)
theorem k_at : Ev fun n => ∀ (ts : List TE) (nd : List Tn) (b m : Bool) (L : List ByteArray), L.length ≤ 100 → c_i_termReader_at ((C B0).run n) ts nd b m L = some (atR L ts, (ts, (nd, (b, (m, ()))))) := by
  refine k_ContainsR.succ fun n hn k ts nd b m L hL => ?_
  rw [run_succ, e_i_termReader_at]
  unfold p_i_termReader_at
  rw [len_eq, ilt_iff]
  cases ts with
  | nil => rfl
  | cons t r =>
    have h0 : (0 : Int) < ((t :: r).length : Int) := by rw [List.length_cons]; omega
    rw [decide_eq_true h0, cond_true, ok_of (inB_true (Int.le_refl _) h0)]
    rw [show List.getD (t :: r) (Int.toNat 0) (0, ((bs []), ())) = t from rfl]
    show _ = some (((t.1 == 3) && L.any (fun x => seq t.2.1 x)), (t :: r, (nd, (b, (m, ())))))
    cases h3 : t.1 == 3 with
    | false => rfl
    | true =>
      rw [cond_true, ok_of (inB_true (Int.le_refl _) h0), k L t.2.1 (by omega), Bool.true_and]
      rfl
theorem k_next0 : Ev fun n => ∀ (nd : List Tn) (b m : Bool), c_i_termReader_next ((C B0).run n) [] nd b m = some (0, (bs [], ([], (nd, (true, (m, ())))))) := by
  refine Ev.triv.succ fun n hn _ nd b m => ?_
  rw [run_succ, e_i_termReader_next]
  rfl
theorem k_next : Ev fun n => ∀ (t : TE) (r : List TE) (nd : List Tn) (b m : Bool), c_i_termReader_next ((C B0).run n) (t :: r) nd b m = some (t.1, (t.2.1, (r, (nd, (b, (m, ())))))) := by
  refine Ev.triv.succ fun n hn _ t r nd b m => ?_
  rw [run_succ, e_i_termReader_next]
  unfold p_i_termReader_next
  have h0 : (0 : Int) < ((t :: r).length : Int) := by rw [List.length_cons]; omega
  rw [len_eq, beq_f (by omega), cond_false, ok_of (inB_true (Int.le_refl _) h0), ok_of (sliceOk_true (by omega) (by omega) (Int.le_refl _)), Int.toNat_natCast, List.take_length]
  rfl
theorem k_put : Ev fun n => ∀ (ts : List TE) (nd : List Tn) (b m : Bool) (x y : Int) (s : ByteArray), nd.length ≤ 1000000 → c_i_termReader_put ((C B0).run n) ts nd b m x y s = some (ts, (nd ++ [(x, (y, (s, ())))], (b, (m, ())))) := by
  refine Ev.triv.succ fun n hn _ ts nd b m x y s h => ?_
  rw [run_succ, e_i_termReader_put]
  unfold p_i_termReader_put
  rw [ok_of (aok_true (by rw [List.length_append, List.length_singleton]; omega))]
/-- is a token not the sign that is asked for -/
def notS (c : ByteArray) (t : TE) : Bool := !((t.1 == 3) && seq t.2.1 c)
theorem k_take0 : Ev fun n => ∀ (nd : List Tn) (b m : Bool) (c : ByteArray), c_i_termReader_take ((C B0).run n) [] nd b m c = some ([], (nd, (true, (m, ())))) := by
  refine k_next0.succ fun n hn k nd b m c => ?_
  rw [run_succ, e_i_termReader_take]
  unfold p_i_termReader_take
  rw [k]
  rfl
theorem k_take : Ev fun n => ∀ (t : TE) (r : List TE) (nd : List Tn) (b m : Bool) (c : ByteArray), c_i_termReader_take ((C B0).run n) (t :: r) nd b m c = some (r, (nd, (b || notS c t, (m, ())))) := by
  refine k_next.succ fun n hn k t r nd b m c => ?_
  rw [run_succ, e_i_termReader_take]
  unfold p_i_termReader_take
  rw [k]
  simp only [Option.bind_some]
  unfold notS
  rw [show (t.1 != 3) = !(t.1 == 3) from rfl]
  cases h3 : t.1 == 3 with
  | false => cases b <;> rfl
  | true =>
    simp only [Bool.not_true, cond_false, jb_inr, Bool.true_and]
    cases seq t.2.1 c <;> cases b <;> rfl
/-! ### Tokens that are good -/
theorem tok_at {t : Tok} (ht : TokOk t) {a : List Nat} (ha : Bl a) : (((enc t).1 == 3) && seq (enc t).2.1 (bs a)) = decide (t = (3, a)) := by
  obtain ⟨k, x⟩ := t
  have h1 : ∀ y ∈ x, y < 256 := ht.1
  show (((k : Int) == 3) && seq (bs x) (bs a)) = _
  rw [bs_seq h1 ha]
  by_cases h3 : k = 3
  · subst h3
    simp
  · rw [beq_f (by omega), Bool.false_and]
    exact (decide_eq_false (fun h => h3 (congrArg Prod.fst h))).symm
def hd (p : Tok → Bool) : List Tok → Bool
  | [] => false
  | t :: _ => p t
theorem atR_one {a : List Nat} (ha : Bl a) {ts : List Tok} (ht : ∀ t ∈ ts, TokOk t) : atR [bs a] (ts.map enc) = hd (fun t => decide (t = (3, a))) ts := by
  cases ts with
  | nil => rfl
  | cons t r =>
    show _ = decide (t = (3, a))
    rw [← tok_at (ht t (List.mem_cons_self ..)) ha]
    simp [atR]
theorem atR_two {a b : List Nat} (ha : Bl a) (hb : Bl b) {ts : List Tok} (ht : ∀ t ∈ ts, TokOk t) : atR [bs a, bs b] (ts.map enc) = hd (fun t => decide (t = (3, a) ∨ t = (3, b))) ts := by
  cases ts with
  | nil => rfl
  | cons t r =>
    show _ = decide (t = (3, a) ∨ t = (3, b))
    simp only [atR, List.map_cons, List.any_cons, List.any_nil, Bool.or_false, Bool.and_or_distrib_left]
    rw [tok_at (ht t (List.mem_cons_self ..)) ha, tok_at (ht t (List.mem_cons_self ..)) hb, Bool.decide_or]
theorem notS_tok {t : Tok} (ht : TokOk t) {a : List Nat} (ha : Bl a) : notS (bs a) (enc t) = !(decide (t = (3, a))) := by
  unfold notS
  rw [tok_at ht ha]
def encR (s : RSt) (b : Bool) : RT := (s.1.map enc, (s.2.1.map encN, (b, (s.2.2, ()))))
/-- a reader's end: as it is told, or bad -/
def BadR (s0 : RSt) (q : RT) : Prop := ∃ ts nd m, q = (ts, (nd, (true, (m, ())))) ∧ ts.length ≤ s0.1.length ∧ ts.length + nd.length ≤ s0.1.length + s0.2.1.length
def Res (o : Option RSt) (s0 : RSt) (q : RT) : Prop := match o with
  | some s => q = encR s false
  | none => BadR s0 q
abbrev Cal := List TE → List Tn → Bool → Bool → Option RT
/-- a reader of fewer than k tokens reads as it is told -/
def RdsB (c : Cal) (f : Rdr) (k : Nat) : Prop := ∀ s : RSt, s.1.length < k → (∀ t ∈ s.1, TokOk t) → s.1.length + s.2.1.length ≤ 100000 → Tot (c (s.1.map enc) (s.2.1.map encN) false s.2.2) (Res (f s) s)
abbrev PB : Type := (Unit × Unit) × ((List TE × (Unit × (Bool × (Bool × Unit)))) × ((List Tn) × Unit))
noncomputable def loopI (R : Run) (n : Nat) (c : Cal) (a b : List Nat) (ka kb : Int) (q : RT) : Option RT :=
  iter (P := (((Unit × Unit)) × ((((List ((Int × (ByteArray × Unit)))) × (Unit × (Bool × (Bool × Unit))))) × ((List ((Int × (Int × (ByteArray × Unit))))) × Unit)))) (fun rec ((_, _), ((o0a, (_, (o0b, (o0c, _)))), (o1, _))) =>
      jb (P := (((Bool × (Unit × Unit))) × ((((List ((Int × (ByteArray × Unit)))) × (Unit × (Bool × (Bool × Unit))))) × ((List ((Int × (Int × (ByteArray × Unit))))) × Unit)))) (
          bif (!o0b) then
            (c_i_termReader_at R o0a o1 o0b o0c [(bs a), (bs b)]).bind fun (r121_1, (r121b, (r121c, (r121d, (r121e, _))))) =>
            some (.inr ((r121_1, ((), ())), ((r121b, ((), (r121d, (r121e, ())))), (r121c, ()))))
          else
          some (.inr ((false, ((), ())), ((o0a, ((), (o0b, (o0c, ())))), (o1, ()))))) fun ((t14, (_, _)), ((o0a_1, (_, (o0b_1, (o0c_1, _)))), (o1_1, _))) =>
      bif t14 then
        jb (P := (((Unit × (Int × Unit))) × ((((List ((Int × (ByteArray × Unit)))) × (Unit × (Bool × (Bool × Unit))))) × ((List ((Int × (Int × (ByteArray × Unit))))) × Unit)))) (
            (c_i_termReader_next R o0a_1 o1_1 o0b_1 o0c_1).bind fun (r122_1, (r122b, (r122c, (r122d, (r122e, (r122f, _)))))) =>
            bif (seq r122b (bs b)) then
              some (.inr (((), (kb, ())), ((r122c, ((), (r122e, (r122f, ())))), (r122d, ()))))
            else
            some (.inr (((), (ka, ())), ((r122c, ((), (r122e, (r122f, ())))), (r122d, ()))))) fun ((_, (kind2, _)), ((o0a_2, (_, (o0b_2, (o0c_2, _)))), (o1_2, _))) =>
        (c o0a_2 o1_2 o0b_2 o0c_2).bind fun (r120_2_1, (r120_2b, (r120_2c, (r120_2d, _)))) =>
        (c_i_termReader_put R r120_2_1 r120_2b r120_2c r120_2d kind2 0 (bs [])).bind fun (r123_1, (r123b, (r123c, (r123d, _)))) =>
        rec (((), ()), ((r123_1, ((), (r123c, (r123d, ())))), (r123b, ())))
      else
      some (o0a_1, (o1_1, (o0b_1, (o0c_1, ()))))) n (((), ()), ((q.1, ((), (q.2.2.1, (q.2.2.2.1, ())))), (q.2.1, ())))
section
variable {n : Nat} (hn : 1152921504606846976 ≤ n)
  (kat : ∀ (ts : List TE) (nd : List Tn) (b m : Bool) (L : List ByteArray), L.length ≤ 100 → c_i_termReader_at ((C B0).run n) ts nd b m L = some (atR L ts, (ts, (nd, (b, (m, ()))))))
  (knx : ∀ (t : TE) (r : List TE) (nd : List Tn) (b m : Bool), c_i_termReader_next ((C B0).run n) (t :: r) nd b m = some (t.1, (t.2.1, (r, (nd, (b, (m, ())))))))
  (kpt : ∀ (ts : List TE) (nd : List Tn) (b m : Bool) (x y : Int) (s : ByteArray), nd.length ≤ 1000000 → c_i_termReader_put ((C B0).run n) ts nd b m x y s = some (ts, (nd ++ [(x, (y, (s, ())))], (b, (m, ())))))
include hn kat knx kpt
theorem loop_tot {c : Cal} {f : Rdr} (hf : Takes f) {k : Nat} (hc : RdsB c f k) {a b : List Nat} (ha : Bl a) (hb : Bl b) (ka kb : Int) {s : RSt} (hk : s.1.length ≤ k) (ht : ∀ t ∈ s.1, TokOk t) (hl : s.1.length + s.2.1.length ≤ 100000) :
    Tot (loopI ((C B0).run n) n c a b ka kb (encR s false)) (Res (loopP f a b ka kb s) s) := by
  unfold loopI
  refine tot_iter (fun q : PB => (∃ s1 : RSt, q = (((), ()), ((s1.1.map enc, ((), (false, (s1.2.2, ())))), (s1.2.1.map encN, ()))) ∧ loopP f a b ka kb s1 = loopP f a b ka kb s ∧ (∀ t ∈ s1.1, TokOk t) ∧ s1.1.length ≤ s.1.length ∧ s1.1.length + s1.2.1.length ≤ s.1.length + s.2.1.length) ∨
    (∃ ts nd m, q = (((), ()), ((ts, ((), (true, (m, ())))), (nd, ()))) ∧ loopP f a b ka kb s = none ∧ ts.length ≤ s.1.length ∧ ts.length + nd.length ≤ s.1.length + s.2.1.length)) (fun q => q.2.1.1.length) (by simp only [encR, List.length_map]; omega) (.inl ⟨s, rfl, rfl, ht, Nat.le_refl _, Nat.le_refl _⟩) ?_
  rintro rec q (⟨⟨ts, nd, m⟩, rfl, hF, ht1, hl1, hl2⟩ | ⟨ts, nd, m, rfl, hF, hl1, hl2⟩) ih
  · dsimp only at hF ht1 hl1 hl2 ⊢
    rw [Bool.not_false, cond_true, kat _ _ _ _ _ (by simp), atR_two ha hb ht1]
    simp only [Option.bind_some, jb_inr]
    cases ts with
    | nil =>
      dsimp only [hd]
      rw [cond_false]
      refine tot_some ?_
      rw [← hF, loopP_nil]
      rfl
    | cons t r =>
      dsimp only [hd]
      by_cases h : t = (3, a) ∨ t = (3, b)
      · rw [decide_eq_true h, cond_true, List.map_cons, knx]
        simp only [Option.bind_some]
        have htt := ht1 t (List.mem_cons_self ..)
        have hkb : seq (enc t).2.1 (bs b) = decide (t = (3, b)) := by
          show seq (bs t.2) (bs b) = _
          rw [bs_seq htt.1 hb]
          rcases h with h | h <;> subst h <;> simp
        rw [hkb, jb_of (p := (((), ((if t = (3, b) then kb else ka), ())), ((r.map enc, ((), (false, (m, ())))), (nd.map encN, ())))) (by
          by_cases h' : t = (3, b)
          · rw [decide_eq_true h', if_pos h']; rfl
          · rw [decide_eq_false h', if_neg h']; rfl)]
        dsimp only
        simp only [List.length_cons] at hl1 hl2
        have hcr := hc (r, nd, m) (by simp only; omega) (fun u hu => ht1 u (List.mem_cons_of_mem _ hu)) (by simp only; omega)
        rw [loopP_on h hf.le] at hF
        refine tot_bind (Res (f (r, nd, m)) (r, nd, m)) hcr fun q hq => ?_
        cases hfr : f (r, nd, m) with
        | none =>
          rw [hfr] at hq hF
          obtain ⟨ts', nd', m', rfl, h1, h2⟩ := hq
          simp only at h1 h2 ⊢
          rw [kpt _ _ _ _ _ _ _ (by omega)]
          simp only [Option.bind_some]
          exact ih _ (.inr ⟨ts', _, m', rfl, hF.symm, by omega, by simp only [List.length_append, List.length_singleton]; omega⟩) (by simp only [List.length_cons, List.length_map]; omega)
        | some s' =>
          rw [hfr] at hq hF
          have hto := hf _ _ hfr
          have hle := hto.len
          have hnd := hto.nodes
          simp only at hle hnd
          have hq' : q = encR s' false := hq
          subst hq'
          dsimp only [encR]
          rw [kpt _ _ _ _ _ _ _ (by rw [List.length_map]; omega)]
          simp only [Option.bind_some]
          refine ih _ (.inl ⟨put (if t = (3, b) then kb else ka) 0 [] s', ?_, hF, fun u hu => hto.all (fun v hv => ht1 v (List.mem_cons_of_mem _ hv)) u hu, ?_, ?_⟩) ?_
          · simp only [put, List.map_append, List.map_cons, List.map_nil, encN]
          · simp only [put]; omega
          · simp only [put, List.length_append, List.length_singleton]; omega
          · simp only [List.length_map, List.length_cons]; omega
      · rw [decide_eq_false h, cond_false]
        refine tot_some ?_
        rw [← hF, loopP_end h]
        rfl
  · dsimp only
    rw [Bool.not_true, cond_false]
    simp only [jb_inr]
    rw [cond_false]
    refine tot_some ?_
    rw [hF]
    exact ⟨ts, nd, m, rfl, hl1, hl2⟩
end
end Go.Px.Seat
