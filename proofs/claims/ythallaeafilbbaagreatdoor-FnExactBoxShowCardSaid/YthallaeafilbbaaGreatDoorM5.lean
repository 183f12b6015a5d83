/- Own texts, part M5: PtNm PeK PeL PzA PeM. -/
import Derived.Test.YthallaeafilbbaaGreatDoorM2
import Derived.Test.YthallaeafilbbaaGreatDoorM4
import Derived.Test.YthallaeafilbbaaGreatDoorA5
import Derived.WideShapes
import Derived.ChangeArms
import Derived.ChangeOld
set_option linter.unusedVariables false

/- Names, of both sides. -/
namespace Go.Px.Seat
open Go Pm Pt
set_option linter.unusedVariables false
variable {B : Run}
theorem two_if {a b : Bool} : jb (P := (((Bool × Unit)) × Unit)) (R := Bool × Unit) (bif a then some (.inr ((b, ()), ())) else some (.inr ((false, ()), ()))) (fun ((t, _), _) => some (t, ())) = some (a && b, ()) := by cases a <;> rfl
theorem k_isLetter : Ev fun n => ∀ c : Nat, c_i_isLetter ((C B).run n) (c : Int) = some (letter c, ()) := by
  refine Ev.triv.succ fun n hn _ c => ?_
  rw [run_succ, e_i_isLetter]
  refine two_if.trans ?_
  unfold letter
  rw [ile_iff, ile_iff, decide_eq_decide.2 (show (97 : Int) ≤ c ↔ 97 ≤ c by omega), decide_eq_decide.2 (show (c : Int) ≤ 122 ↔ c ≤ 122 by omega)]
theorem k_isFigure : Ev fun n => ∀ c : Nat, c_i_isFigure ((C B).run n) (c : Int) = some (digit c, ()) := by
  refine Ev.triv.succ fun n hn _ c => ?_
  rw [run_succ, e_i_isFigure]
  refine two_if.trans ?_
  unfold digit
  rw [ile_iff, ile_iff, decide_eq_decide.2 (show (48 : Int) ≤ c ↔ 48 ≤ c by omega), decide_eq_decide.2 (show (c : Int) ≤ 57 ↔ c ≤ 57 by omega)]
theorem k_l11Letter : Ev fun n => ∀ c : Nat, c_s_l11Letter ((C B).run n) (c : Int) = some (letter c, ()) := by
  refine Ev.triv.succ fun n hn _ c => ?_
  rw [run_succ, e_s_l11Letter]
  refine two_if.trans ?_
  unfold letter
  rw [ile_iff, ile_iff, decide_eq_decide.2 (show (97 : Int) ≤ c ↔ 97 ≤ c by omega), decide_eq_decide.2 (show (c : Int) ≤ 122 ↔ c ≤ 122 by omega)]
theorem k_l11Digit : Ev fun n => ∀ c : Nat, c_s_l11Digit ((C B).run n) (c : Int) = some (digit c, ()) := by
  refine Ev.triv.succ fun n hn _ c => ?_
  rw [run_succ, e_s_l11Digit]
  refine two_if.trans ?_
  unfold digit
  rw [ile_iff, ile_iff, decide_eq_decide.2 (show (48 : Int) ≤ c ↔ 48 ≤ c by omega), decide_eq_decide.2 (show (c : Int) ≤ 57 ↔ c ≤ 57 by omega)]
theorem k_in2 : Ev fun n => ∀ x a b : Int, c_i_in ((C B).run n) x a b = some (decide (a ≤ x) && decide (x ≤ b), ()) := by
  refine Ev.triv.succ fun n hn _ x a b => ?_
  rw [run_succ, e_i_in]
  exact two_if
theorem all_get {p : Nat → Bool} {l : List Nat} (h : ∀ j, j < l.length → p (l.getD j 0) = true) : l.all p = true := by
  refine List.all_eq_true.2 fun x hx => ?_
  obtain ⟨j, hj, rfl⟩ := List.mem_iff_getElem.1 hx
  have := h j hj
  rwa [List.getD_eq_getElem?_getD, List.getElem?_eq_getElem hj] at this
theorem all_bad {p : Nat → Bool} {l : List Nat} {j : Nat} (hj : j < l.length) (h : p (l.getD j 0) = false) : l.all p = false := by
  refine Bool.eq_false_iff.2 fun ha => ?_
  have := List.all_eq_true.1 ha (l.getD j 0) (by
    rw [List.getD_eq_getElem?_getD, List.getElem?_eq_getElem hj]
    exact List.getElem_mem hj)
  rw [h] at this
  cases this
def lod (c : Nat) : Bool := letter c || digit c
theorem k_wordOk : Ev fun n => ∀ l : List Nat, Bl l → l.length ≤ 4000000 → c_i_wordOk ((C B).run n) (bs l) = some (plain l, ()) := by
  refine ((k_isLetter (B := B)).and ((k_isFigure (B := B)).and (k_in2 (B := B)))).succ fun n hn ⟨kl, kf, ki⟩ l hl hb => ?_
  rw [run_succ, e_i_wordOk]
  unfold p_i_wordOk
  rw [bs_len]
  refine iter_const (fun p => ∃ k : Nat, p = (((k : Int), ((l.length : Int), (bs l, (false, ())))), ()) ∧ k ≤ l.length ∧ ∀ j, j < k → lod (l.getD j 0) = true) (fun p => 4000000 - p.1.1.toNat) _ ?_ n _ (by simp only; omega) ⟨0, rfl, Nat.zero_le _, fun j hj => absurd hj (Nat.not_lt_zero _)⟩
  rintro rec p ⟨k, rfl, hk, hd⟩ ih
  simp only
  rw [ilt_iff]
  by_cases h1 : k < l.length
  · rw [decide_eq_true (show (k : Int) < l.length by omega), cond_true, bs_len, ok_of (inB_true (by omega) (by omega)), bs_bt hl, kl]
    rw [jb_of (p := ((!(lod (l.getD k 0)), ((k : Int), ((l.length : Int), (bs l, (false, ()))))), ())) (by
      show (bif !(letter (l.getD k 0)) then _ else _) = _
      unfold lod
      cases letter (l.getD k 0) with
      | true => rfl
      | false =>
        simp only [Bool.not_false, cond_true, Bool.false_or]
        rw [ok_of (inB_true (by omega) (by omega)), kf]
        rfl)]
    simp only
    cases hg : lod (l.getD k 0) with
    | true =>
      show rec (((iadd .i64 (k : Int) 1), ((l.length : Int), (bs l, (false, ())))), ()) = _
      rw [iadd_eq (by omega) (by omega)]
      refine ih _ ⟨k + 1, by simp, by omega, fun j hj => ?_⟩ (by simp only; omega)
      by_cases hjk : j = k
      · rw [hjk]; exact hg
      · exact hd j (by omega)
    | false =>
      have : plain l = false := by
        unfold plain
        rw [show (l.all fun c => letter c || digit c) = false from all_bad (p := lod) h1 hg]
        simp
      rw [this]; rfl
  · rw [decide_eq_false (show ¬ (k : Int) < l.length by omega), cond_false]
    have ha : (l.all fun c => letter c || digit c) = true := all_get (p := lod) (fun j hj => hd j (by omega))
    unfold plain
    rw [ha, bs_len, ki, decide_eq_decide.2 (show (1 : Int) ≤ l.length ↔ 1 ≤ l.length by omega), decide_eq_decide.2 (show (l.length : Int) ≤ 8 ↔ l.length ≤ 8 by omega)]
    simp only [Option.bind_some, Bool.and_true]
    by_cases h2 : 1 ≤ l.length
    · rw [decide_eq_true h2, Bool.true_and]
      by_cases h3 : l.length ≤ 8
      · have hb0 : bt (bs l) 0 = ((l.getD 0 0 : Nat) : Int) := bs_bt hl 0
        rw [decide_eq_true h3, cond_true, ok_of (inB_true (by omega) (by omega)), hb0, kl]
        rfl
      · rw [decide_eq_false h3]; rfl
    · rw [decide_eq_false h2]; rfl
theorem k_plain : Ev fun n => ∀ l : List Nat, Bl l → l.length ≤ 4000000 → c_s_l11Plain ((C B).run n) (bs l) = some (plain l, ()) := by
  refine ((k_l11Letter (B := B)).and (k_l11Digit (B := B))).succ fun n hn ⟨kl, kf⟩ l hl hb => ?_
  rw [run_succ, e_s_l11Plain]
  unfold p_s_l11Plain
  have hb0 : bt (bs l) 0 = ((l.getD 0 0 : Nat) : Int) := bs_bt hl 0
  rw [jb_of (p := ((!(decide (1 ≤ l.length) && (decide (l.length ≤ 8) && letter (l.getD 0 0))), (bs l, (false, ()))), ())) (by
    rw [bs_len, ilt_iff, ilt_iff]
    by_cases h1 : 1 ≤ l.length
    · rw [decide_eq_false (show ¬ (l.length : Int) < 1 by omega), decide_eq_true h1, cond_false]
      by_cases h2 : l.length ≤ 8
      · rw [decide_eq_false (show ¬ (8 : Int) < l.length by omega), decide_eq_true h2, cond_false, ok_of (inB_true (by omega) (by omega)), hb0, kl]
        rfl
      · rw [decide_eq_true (show (8 : Int) < l.length by omega), decide_eq_false h2]; rfl
    · rw [decide_eq_true (show (l.length : Int) < 1 by omega), decide_eq_false h1]; rfl)]
  simp only
  unfold plain
  cases hc : (decide (1 ≤ l.length) && (decide (l.length ≤ 8) && letter (l.getD 0 0))) with
  | false =>
    rw [← Bool.and_assoc (decide (l.length ≤ 8)), ← Bool.and_assoc, hc]
    rfl
  | true =>
    rw [← Bool.and_assoc (decide (l.length ≤ 8)), ← Bool.and_assoc, hc]
    simp only [Bool.not_true, cond_false, Bool.true_and]
    have h1 : 1 ≤ l.length := by
      simp only [Bool.and_eq_true, decide_eq_true_eq] at hc
      exact hc.1
    have hl0 : lod (l.getD 0 0) = true := by
      simp only [Bool.and_eq_true] at hc
      unfold lod
      rw [hc.2.2]; rfl
    refine iter_const (fun p => ∃ k : Nat, p = (((k : Int), (bs l, (false, ()))), ()) ∧ k ≤ l.length ∧ ∀ j, j < k → lod (l.getD j 0) = true) (fun p => 4000000 - p.1.1.toNat) _ ?_ n _ (by simp only; omega) ⟨1, rfl, h1, fun j hj => by rw [show j = 0 by omega]; exact hl0⟩
    rintro rec p ⟨k, rfl, hk, hd⟩ ih
    simp only
    rw [bs_len, ilt_iff]
    by_cases h2 : k < l.length
    · rw [decide_eq_true (show (k : Int) < l.length by omega), cond_true, ok_of (inB_true (by omega) (by omega)), bs_bt hl, kl]
      rw [jb_of (p := ((!(lod (l.getD k 0)), ((k : Int), (bs l, (false, ())))), ())) (by
        show (bif !(letter (l.getD k 0)) then _ else _) = _
        unfold lod
        cases letter (l.getD k 0) with
        | true => rfl
        | false =>
          simp only [Bool.not_false, cond_true, Bool.false_or]
          rw [ok_of (inB_true (by omega) (by omega)), kf]
          rfl)]
      simp only
      cases hg : lod (l.getD k 0) with
      | true =>
        show rec (((iadd .i64 (k : Int) 1), (bs l, (false, ()))), ()) = _
        rw [iadd_eq (by omega) (by omega)]
        refine ih _ ⟨k + 1, by simp, by omega, fun j hj => ?_⟩ (by simp only; omega)
        by_cases hjk : j = k
        · rw [hjk]; exact hg
        · exact hd j (by omega)
      | false =>
        rw [show (l.all fun c => letter c || digit c) = false from all_bad (p := lod) h2 hg]
        rfl
    · rw [decide_eq_false (show ¬ (k : Int) < l.length by omega)]
      rw [show (l.all fun c => letter c || digit c) = true from all_get (p := lod) (fun j hj => hd j (by omega))]
      rfl
theorem k_l11Word : Ev fun n => ∀ l : List Nat, Bl l → c_s_l11Word ((C B).run n) (bs l) = some (decide (l ∈ words), ()) := by
  refine Ev.triv.succ fun n hn _ l hl => ?_
  rw [run_succ, e_s_l11Word]
  unfold p_s_l11Word
  rw [bs_seq hl (by unfold Bl; decide), bs_seq hl (by unfold Bl; decide), bs_seq hl (by unfold Bl; decide), bs_seq hl (by unfold Bl; decide), bs_seq hl (by unfold Bl; decide), bs_seq hl (by unfold Bl; decide)]
  have e : decide (l ∈ words) = (decide (l = [100, 101, 102]) || (decide (l = [118, 97, 114]) || (decide (l = [115, 113, 114, 116]) || (decide (l = [97, 98, 115]) || (decide (l = [109, 105, 110]) || decide (l = [109, 97, 120])))))) := by
    rw [Bool.eq_iff_iff]
    simp [words]
  rw [e]
  cases decide (l = [100, 101, 102]) <;> cases decide (l = [118, 97, 114]) <;> cases decide (l = [115, 113, 114, 116]) <;> cases decide (l = [97, 98, 115]) <;> cases decide (l = [109, 105, 110]) <;> rfl
theorem k_sNameOk : Ev fun n => ∀ l : List Nat, Bl l → l.length ≤ 4000000 → c_s_LangNameOk ((C B).run n) (bs l) = some (nameOk l, ()) := by
  refine ((k_plain (B := B)).and (k_l11Word (B := B))).succ fun n hn ⟨kp, kw⟩ l hl hb => ?_
  rw [run_succ, e_s_LangNameOk]
  unfold p_s_LangNameOk
  rw [kp l hl hb]
  simp only [Option.bind_some]
  unfold nameOk
  cases plain l with
  | false => rfl
  | true =>
    rw [cond_true, kw l hl]
    rfl
end Go.Px.Seat

/- Pairs, lists of pairs and of texts: what the program and the reference say of them. -/
namespace Go.Px.Seat
open Go Pm Pt
set_option linter.unusedVariables false
variable {B : Run}
theorem k_sPairOk : Ev fun n => ∀ w lo hi : Int, c_s_PairOk ((C B).run n) w lo hi = some (pok w lo hi, ()) := by
  refine ((k_sBitOk (B := B)).and (k_sTop' (B := B))).succ fun n hn ⟨hB, hT⟩ w lo hi => ?_
  rw [run_succ, e_s_PairOk]
  unfold p_s_PairOk
  rw [hT, hB, hB]
  simp only [Option.bind_some, ile_iff, ilt_iff, ineg_top]
  unfold pok
  cases bok w lo
  · simp
  · cases bok w hi
    · simp
    · by_cases h : lo ≤ hi
      · by_cases h2 : lo < top w <;> simp [h, h2]
      · simp [h]
theorem k_PairOk : Ev fun n => ∀ w lo hi : Int, c_i_PairOk ((C B).run n) w lo hi = some (pok w lo hi, ()) := by
  refine ((k_BitOk (B := B)).and (k_BitTop (B := B))).succ fun n hn ⟨hB, hT⟩ w lo hi => ?_
  rw [run_succ, e_i_PairOk]
  unfold p_i_PairOk
  rw [hT, hB, hB]
  simp only [Option.bind_some, ile_iff, ineg_top]
  cases h1 : bok w lo
  · simp [pok, h1]
  · cases h2 : bok w hi
    · simp [pok, h1, h2]
    · obtain ⟨a1, a2, a3⟩ := bok_iff.1 h1
      obtain ⟨b1, b2, b3⟩ := bok_iff.1 h2
      unfold pok
      rw [h1, h2]
      simp only [cond_true, Bool.true_and]
      by_cases h : lo ≤ hi
      · by_cases h3 : lo = top w
        · have e1 : (lo != top w) = false := by simp [h3]
          simp only [h, decide_true, cond_true, e1, cond_false, jb_inr]
          congr 2
          exact (decide_eq_false (by omega)).symm
        · have e1 : (lo != top w) = true := by simpa using h3
          simp only [h, decide_true, cond_true, e1, jb_inr]
          congr 2
          rw [Bool.eq_iff_iff, bne_iff_ne, decide_eq_true_iff]
          constructor
          · intro h4
            refine ⟨trivial, by omega, ?_⟩
            have h5 : hi ≠ -top w := h4
            omega
          · rintro ⟨_, _, h4⟩ h5
            omega
      · simp [h]
abbrev Pr := Int × (Int × Unit)
/-- bounds of what came in -/
def bigL : Nat := 9223372036854775807
theorem getD_bs (L : List (List Nat)) (i : Nat) : (L.map bs).getD i (bs []) = bs (L.getD i []) := by
  rw [List.getD_eq_getElem?_getD, List.getD_eq_getElem?_getD, List.getElem?_map]
  cases L[i]? <;> rfl
theorem bl_at {L : List (List Nat)} (h : ∀ x ∈ L, Bl x) (i : Nat) : Bl (L.getD i []) := by
  rw [List.getD_eq_getElem?_getD]
  cases hi : L[i]? with
  | none => exact fun x hx => by cases hx
  | some x => exact h x (List.mem_of_getElem? hi)
theorem cp_step {α : Type} (d : α) (xs : List α) (i : Nat) (h : i < xs.length) : (xs.take i ++ List.replicate (xs.length - i) d).set i (xs.getD i d) = xs.take (i + 1) ++ List.replicate (xs.length - (i + 1)) d := by
  apply List.ext_getElem?
  intro j
  have hl : (xs.take i).length = i := by rw [List.length_take]; omega
  have hl2 : (xs.take (i + 1)).length = i + 1 := by rw [List.length_take]; omega
  rw [List.getElem?_set]
  by_cases hj : i = j
  · subst hj
    rw [if_pos rfl, if_pos (by rw [List.length_append, hl, List.length_replicate]; omega), List.getElem?_append_left (by omega), List.getElem?_take, if_pos (by omega), List.getD_eq_getElem?_getD, List.getElem?_eq_getElem h]
    rfl
  · rw [if_neg hj]
    by_cases h1 : j < i
    · rw [List.getElem?_append_left (by omega), List.getElem?_append_left (by omega), List.getElem?_take, List.getElem?_take, if_pos h1, if_pos (by omega)]
    · rw [List.getElem?_append_right (by omega), List.getElem?_append_right (by omega), hl, hl2, List.getElem?_replicate, List.getElem?_replicate]
      by_cases h2 : j < xs.length
      · rw [if_pos (by omega), if_pos (by omega)]
      · rw [if_neg (by omega), if_neg (by omega)]
/-! what is copied, what is the same -/
theorem k_toPairS : Ev fun n => ∀ l : List Pr, l.length ≤ 4000000 → c_w_toPairS ((C B).run n) l = some (l, ()) := by
  have h0 : Ev fun n => ∀ a b : Int, c_w_toPair ((C B).run n) a b = some (a, (b, ())) := by
    refine Ev.triv.succ fun n hn _ a b => ?_
    rw [run_succ, e_w_toPair]; rfl
  refine h0.succ fun n hn k0 l hl => ?_
  rw [run_succ, e_w_toPairS]
  unfold p_w_toPairS
  rw [ok_of (mkOk_true (by rw [len_eq]; omega) (Int.le_refl _) (by rw [len_eq]; omega))]
  refine iter_const (fun p => ∃ i : Nat, p = (((i : Int), (l, ((), ((), ())))), (l.take i ++ List.replicate (l.length - i) (0, (0, ())), ())) ∧ i ≤ l.length) (fun p => l.length - p.1.1.toNat) _ ?_ n _ (by simp only; omega) ⟨0, rfl, Nat.zero_le _⟩
  rintro rec p ⟨i, rfl, hi⟩ ih
  simp only
  rw [ilt_iff, len_eq]
  by_cases h : i < l.length
  · have hlen : (l.take i ++ List.replicate (l.length - i) ((0, (0, ())) : Pr)).length = l.length := by
      rw [List.length_append, List.length_take, List.length_replicate]; omega
    rw [decide_eq_true (by omega), cond_true, ok_of (inB_true (by omega) (by omega)), k0]
    simp only [Option.bind_some]
    rw [len_eq, hlen, ok_of (inB_true (by omega) (by omega)), iadd_eq (by omega) (by omega), Int.toNat_natCast]
    refine (congrArg rec ?_).trans (ih _ ⟨i + 1, rfl, by omega⟩ (by simp only; omega))
    rw [show ((i : Int) + 1) = ((i + 1 : Nat) : Int) by omega]
    refine congrArg (fun o => ((((i + 1 : Nat) : Int), (l, ((), ((), ())))), (o, ()))) ?_
    exact cp_step ((0, (0, ())) : Pr) l i h
  · rw [decide_eq_false (by omega), cond_false]
    have : i = l.length := by omega
    subst this
    simp
theorem k_toBox : Ev fun n => ∀ l : List Pr, l.length ≤ 4000000 → c_w_toBox ((C B).run n) l = some (l, ()) := by
  refine (k_toPairS (B := B)).succ fun n hn k l hl => ?_
  rw [run_succ, e_w_toBox]
  unfold p_w_toBox
  rw [k l hl]; rfl
theorem k_toStringS : Ev fun n => ∀ l : List ByteArray, l.length ≤ 4000000 → c_w_toStringS ((C B).run n) l = some (l, ()) := by
  refine Ev.triv.succ fun n hn _ l hl => ?_
  rw [run_succ, e_w_toStringS]
  unfold p_w_toStringS
  rw [ok_of (mkOk_true (by rw [len_eq]; omega) (Int.le_refl _) (by rw [len_eq]; omega))]
  refine iter_const (fun p => ∃ i : Nat, p = (((i : Int), (l, ((), ((), ())))), (l.take i ++ List.replicate (l.length - i) (bs []), ())) ∧ i ≤ l.length) (fun p => l.length - p.1.1.toNat) _ ?_ n _ (by simp only; omega) ⟨0, rfl, Nat.zero_le _⟩
  rintro rec p ⟨i, rfl, hi⟩ ih
  simp only
  rw [ilt_iff, len_eq]
  by_cases h : i < l.length
  · have hlen : (l.take i ++ List.replicate (l.length - i) (bs [])).length = l.length := by
      rw [List.length_append, List.length_take, List.length_replicate]; omega
    rw [decide_eq_true (by omega), cond_true, ok_of (inB_true (by omega) (by omega)), len_eq, hlen, ok_of (inB_true (by omega) (by omega)), iadd_eq (by omega) (by omega), Int.toNat_natCast]
    refine (congrArg rec ?_).trans (ih _ ⟨i + 1, rfl, by omega⟩ (by simp only; omega))
    rw [show ((i : Int) + 1) = ((i + 1 : Nat) : Int) by omega]
    refine congrArg (fun o => ((((i + 1 : Nat) : Int), (l, ((), ((), ())))), (o, ()))) ?_
    exact cp_step (bs []) l i h
  · rw [decide_eq_false (by omega), cond_false]
    have : i = l.length := by omega
    subst this
    simp
theorem k_eqPairS : Ev fun n => ∀ l : List Pr, l.length ≤ 4000000 → c_w_eqPairS ((C B).run n) l l = some (true, ()) := by
  have h0 : Ev fun n => ∀ a b : Int, c_w_eqPair ((C B).run n) a b a b = some (true, ()) := by
    refine Ev.triv.succ fun n hn _ a b => ?_
    rw [run_succ, e_w_eqPair]
    unfold p_w_eqPair
    simp
  refine h0.succ fun n hn k0 l hl => ?_
  rw [run_succ, e_w_eqPairS]
  unfold p_w_eqPairS
  rw [show (len l != len l) = false by simp, cond_false]
  refine iter_const (fun p => ∃ i : Nat, p = (((i : Int), (l, (l, (false, ())))), ()) ∧ i ≤ l.length) (fun p => l.length - p.1.1.toNat) _ ?_ n _ (by simp only; omega) ⟨0, rfl, Nat.zero_le _⟩
  rintro rec p ⟨i, rfl, hi⟩ ih
  simp only
  rw [ilt_iff, len_eq]
  by_cases h : i < l.length
  · rw [decide_eq_true (by omega), cond_true, ok_of (inB_true (by omega) (by omega)), ok_of (inB_true (by omega) (by omega)), k0]
    simp only [Option.bind_some, Bool.not_true, cond_false]
    rw [iadd_eq (by omega) (by omega)]
    exact ih _ ⟨i + 1, by simp, by omega⟩ (by simp only; omega)
  · rw [decide_eq_false (by omega), cond_false]
theorem k_eqBox : Ev fun n => ∀ l : List Pr, l.length ≤ 4000000 → c_w_eqBox ((C B).run n) l l = some (true, ()) := by
  refine (k_eqPairS (B := B)).succ fun n hn k l hl => ?_
  rw [run_succ, e_w_eqBox]
  unfold p_w_eqBox
  rw [k l hl]; rfl
theorem k_eqStringS : Ev fun n => ∀ l : List ByteArray, l.length ≤ 4000000 → c_w_eqStringS ((C B).run n) l l = some (true, ()) := by
  refine Ev.triv.succ fun n hn _ l hl => ?_
  rw [run_succ, e_w_eqStringS]
  unfold p_w_eqStringS
  rw [show (len l != len l) = false by simp, cond_false]
  refine iter_const (fun p => ∃ i : Nat, p = (((i : Int), (l, (l, (false, ())))), ()) ∧ i ≤ l.length) (fun p => l.length - p.1.1.toNat) _ ?_ n _ (by simp only; omega) ⟨0, rfl, Nat.zero_le _⟩
  rintro rec p ⟨i, rfl, hi⟩ ih
  simp only
  rw [ilt_iff, len_eq]
  by_cases h : i < l.length
  · rw [decide_eq_true (by omega), cond_true, ok_of (inB_true (by omega) (by omega)), ok_of (inB_true (by omega) (by omega)), seq_chs, decide_eq_true rfl]
    simp only [Bool.not_true, cond_false]
    rw [iadd_eq (by omega) (by omega)]
    exact ih _ ⟨i + 1, by simp, by omega⟩ (by simp only; omega)
  · rw [decide_eq_false (by omega), cond_false]
/-! how much came in -/
theorem k_szBox : Ev fun n => ∀ l : List Pr, l.length ≤ bigL → c_w_szBox ((C B).run n) l 1048576 = some ((if l.length ≤ 1048576 then 1048576 - (l.length : Int) else -1), ()) := by
  have h0 : Ev fun n => ∀ l : List Pr, l.length ≤ bigL → c_w_szPairS ((C B).run n) l 1048576 = some ((if l.length ≤ 1048576 then 1048576 - (l.length : Int) else -1), ()) := by
    refine Ev.triv.succ fun n hn _ l hl => ?_
    unfold bigL at hl
    rw [run_succ, e_w_szPairS]
    unfold p_w_szPairS
    rw [len_eq, isub_eq (by omega) (by omega), ilt_iff]
    by_cases h : l.length ≤ 1048576
    · rw [if_pos h, decide_eq_false (by omega), cond_false]
    · rw [if_neg h, decide_eq_true (by omega), cond_true]
  refine h0.succ fun n hn k l hl => ?_
  rw [run_succ, e_w_szBox]
  unfold p_w_szBox
  rw [k l hl]
  simp only [Option.bind_some]
  rw [ilt_iff]
  by_cases h : l.length ≤ 1048576
  · rw [if_pos h, decide_eq_false (by omega), cond_false]
  · rw [if_neg h]; rfl
theorem k_szStringS : Ev fun n => ∀ (l : List ByteArray) (b : Int), 0 ≤ b → b ≤ 1048576 → l.length ≤ bigL → (∀ x ∈ l, x.size ≤ bigL) →
    ∃ r, c_w_szStringS ((C B).run n) l b = some (r, ()) ∧ (r < 0 ∨ (l.length ≤ 1048576 ∧ ∀ x ∈ l, x.size ≤ 1048576)) := by
  refine Ev.triv.succ fun n hn _ l b hb hb' hl hx => ?_
  unfold bigL at hl hx
  rw [run_succ, e_w_szStringS]
  unfold p_w_szStringS
  rw [len_eq, isub_eq (by omega) (by omega), ilt_iff]
  by_cases h : (b - (l.length : Int)) < 0
  · rw [decide_eq_true h, cond_true]
    exact ⟨_, rfl, .inl (by decide)⟩
  · rw [decide_eq_false h, cond_false]
    suffices hs : ∃ r : Int × Unit, iter _ n _ = some r ∧ (r.1 < 0 ∨ (l.length ≤ 1048576 ∧ ∀ x ∈ l, x.size ≤ 1048576)) by
      obtain ⟨⟨r, u⟩, h1, h2⟩ := hs
      cases u
      exact ⟨r, h1, h2⟩
    refine iter_ex (fun p => ∃ (i : Nat) (c : Int), p = (((i : Int), (l, (c, (0, ())))), ()) ∧ i ≤ l.length ∧ 0 ≤ c ∧ c ≤ 1048576 ∧ ∀ j, j < i → (l.getD j (bs [])).size ≤ 1048576) (fun p => l.length - p.1.1.toNat) (fun r : Int × Unit => r.1 < 0 ∨ (l.length ≤ 1048576 ∧ ∀ x ∈ l, x.size ≤ 1048576)) ?_ n _ (by simp only; omega) ⟨0, _, rfl, Nat.zero_le _, by omega, by omega, fun j hj => absurd hj (Nat.not_lt_zero _)⟩
    rintro rec p ⟨i, c, rfl, hi, hc, hc', hj⟩ ih
    simp only
    rw [ilt_iff, len_eq]
    by_cases h1 : i < l.length
    · have hsz : (l.getD i (bs [])).size ≤ 9223372036854775807 := by
        rw [List.getD_eq_getElem?_getD, List.getElem?_eq_getElem h1]
        exact hx _ (List.getElem_mem h1)
      rw [decide_eq_true (by omega), cond_true, ok_of (inB_true (by omega) (by omega)), Int.toNat_natCast, slen_eq, isub_eq (by omega) (by omega), ilt_iff]
      by_cases h2 : (c - ((l.getD i (bs [])).size : Int)) < 0
      · rw [decide_eq_true h2, cond_true]
        exact ⟨_, rfl, .inl (by decide)⟩
      · rw [decide_eq_false h2, cond_false, iadd_eq (by omega) (by omega)]
        rw [show ((i : Int) + 1) = ((i + 1 : Nat) : Int) by omega]
        refine ih _ ⟨i + 1, c - ((l.getD i (bs [])).size : Int), rfl, by omega, by omega, by omega, fun j hj' => ?_⟩ (by simp only; omega)
        by_cases hji : j = i
        · subst hji; omega
        · exact hj j (by omega)
    · rw [decide_eq_false (by omega), cond_false]
      refine ⟨_, rfl, .inr ⟨by omega, fun x hx => ?_⟩⟩
      obtain ⟨j, hjl, rfl⟩ := List.mem_iff_getElem.1 hx
      have := hj j (by omega)
      rwa [List.getD_eq_getElem?_getD, List.getElem?_eq_getElem hjl] at this
/-! boxes -/
def bxok (w : Int) (l : List Pr) : Bool := decide (1 ≤ l.length) && (decide (l.length ≤ 6) && l.all fun p => pok w p.1 p.2.1)
theorem pr_get {p : Pr → Bool} {l : List Pr} (h : ∀ j, j < l.length → p (l.getD j (0, (0, ()))) = true) : l.all p = true := by
  refine List.all_eq_true.2 fun x hx => ?_
  obtain ⟨j, hj, rfl⟩ := List.mem_iff_getElem.1 hx
  have := h j hj
  rwa [List.getD_eq_getElem?_getD, List.getElem?_eq_getElem hj] at this
theorem pr_bad {p : Pr → Bool} {l : List Pr} {j : Nat} (hj : j < l.length) (h : p (l.getD j (0, (0, ()))) = false) : l.all p = false := by
  refine Bool.eq_false_iff.2 fun ha => ?_
  have := List.all_eq_true.1 ha (l.getD j (0, (0, ()))) (by
    rw [List.getD_eq_getElem?_getD, List.getElem?_eq_getElem hj]
    exact List.getElem_mem hj)
  rw [h] at this
  cases this
theorem k_sBoxOk : Ev fun n => ∀ (w : Int) (l : List Pr), c_s_BoxOk ((C B).run n) w l = some (bxok w l, ()) := by
  refine (k_sPairOk (B := B)).succ fun n hn k w l => ?_
  rw [run_succ, e_s_BoxOk]
  unfold p_s_BoxOk bxok
  rw [len_eq, ilt_iff, ilt_iff]
  by_cases h1 : 1 ≤ l.length
  · rw [decide_eq_false (show ¬ (l.length : Int) < 1 by omega), decide_eq_true h1, cond_false, Bool.true_and]
    simp only [jb_inr]
    by_cases h2 : l.length ≤ 6
    · rw [decide_eq_false (show ¬ (6 : Int) < l.length by omega), decide_eq_true h2, cond_false, Bool.true_and]
      refine iter_const (fun p => ∃ i : Nat, p = (((i : Int), ((), (w, (false, ())))), ((l, ()), ())) ∧ i ≤ l.length ∧ ∀ j, j < i → (fun p : Pr => pok w p.1 p.2.1) (l.getD j (0, (0, ()))) = true) (fun p => l.length - p.1.1.toNat) _ ?_ n _ (by simp only; omega) ⟨0, rfl, Nat.zero_le _, fun j hj => absurd hj (Nat.not_lt_zero _)⟩
      rintro rec p ⟨i, rfl, hi, hj⟩ ih
      simp only
      rw [ilt_iff, len_eq]
      by_cases h : i < l.length
      · rw [decide_eq_true (by omega), cond_true, ok_of (inB_true (by omega) (by omega)), k, Int.toNat_natCast]
        simp only [Option.bind_some]
        cases hp : pok w (l.getD i (0, (0, ()))).1 (l.getD i (0, (0, ()))).2.1 with
        | false =>
          rw [pr_bad (p := fun p : Pr => pok w p.1 p.2.1) h hp]
          rfl
        | true =>
          rw [Bool.not_true, cond_false, iadd_eq (by omega) (by omega)]
          refine ih _ ⟨i + 1, by simp, by omega, fun j hj' => ?_⟩ (by simp only; omega)
          by_cases hji : j = i
          · subst hji; exact hp
          · exact hj j (by omega)
      · rw [decide_eq_false (by omega), cond_false, pr_get (p := fun p : Pr => pok w p.1 p.2.1) (fun j hj' => hj j (by omega))]
    · rw [decide_eq_true (show (6 : Int) < l.length by omega), decide_eq_false h2]; rfl
  · rw [decide_eq_true (show (l.length : Int) < 1 by omega), decide_eq_false h1]; rfl
theorem ex_back {x : Option (Int × (Int × Unit))} {w : Int} {q : Int → Prop} (h : ∃ r, x = some r ∧ (r.2.1 = w ∧ q r.1)) : ∃ r : Int, x = some (r, (w, ())) ∧ q r := by
  obtain ⟨⟨r, w', u⟩, h1, h2, h3⟩ := h
  cases u
  cases h2
  exact ⟨r, h1, h3⟩
theorem k_BoxOk : Ev fun n => ∀ (w : Int) (l : List Pr), l.length ≤ 4000000 → c_i_BoxOk ((C B).run n) w l = some (bxok w l, ()) := by
  have h0 : Ev fun n => ∀ a b w : Int, c_i_BoxOk_1 ((C B).run n) a b w = some (!(pok w a b), (w, ())) := by
    refine (k_PairOk (B := B)).succ fun n hn k a b w => ?_
    rw [run_succ, e_i_BoxOk_1]
    unfold p_i_BoxOk_1
    rw [k]; rfl
  have h1 : Ev fun n => ∀ (w : Int) (l : List Pr), l.length ≤ 4000000 → ∃ r : Int, c_slices_IndexFunc_impl_Pair_impl_Pair_i_BoxOk_1 ((C B).run n) l w = some (r, (w, ())) ∧ ile 0 r = !(l.all fun p => pok w p.1 p.2.1) := by
    refine h0.succ fun n hn k0 w l hl => ?_
    rw [run_succ, e_slices_IndexFunc_impl_Pair_impl_Pair_i_BoxOk_1]
    unfold p_slices_IndexFunc_impl_Pair_impl_Pair_i_BoxOk_1
    refine ex_back (q := fun r => ile 0 r = !(l.all fun p => pok w p.1 p.2.1)) ?_
    refine iter_ex (fun p => ∃ i : Nat, p = (((i : Int), ((l.length : Int), ((), (l, (0, ()))))), ((w, ()), ())) ∧ i ≤ l.length ∧ ∀ j, j < i → (fun p : Pr => pok w p.1 p.2.1) (l.getD j (0, (0, ()))) = true) (fun p => l.length - p.1.1.toNat) (fun r : Int × (Int × Unit) => r.2.1 = w ∧ ile 0 r.1 = !(l.all fun p => pok w p.1 p.2.1)) ?_ n _ (by simp only; omega) ⟨0, rfl, Nat.zero_le _, fun j hj => absurd hj (Nat.not_lt_zero _)⟩
    rintro rec p ⟨i, rfl, hi, hj⟩ ih
    simp only
    rw [ilt_iff]
    by_cases h : i < l.length
    · rw [decide_eq_true (by omega), cond_true, len_eq, ok_of (inB_true (by omega) (by omega)), k0, Int.toNat_natCast]
      simp only [Option.bind_some]
      cases hp : pok w (l.getD i (0, (0, ()))).1 (l.getD i (0, (0, ()))).2.1 with
      | false =>
        rw [Bool.not_false, cond_true]
        refine ⟨_, rfl, rfl, ?_⟩
        rw [pr_bad (p := fun p : Pr => pok w p.1 p.2.1) h hp, ile_iff]
        exact decide_eq_true (by simp only; omega)
      | true =>
        rw [Bool.not_true, cond_false, iadd_eq (by omega) (by omega)]
        refine ih _ ⟨i + 1, by simp, by omega, fun j hj' => ?_⟩ (by simp only; omega)
        by_cases hji : j = i
        · subst hji; exact hp
        · exact hj j (by omega)
    · rw [decide_eq_false (by omega), cond_false]
      refine ⟨_, rfl, rfl, ?_⟩
      rw [pr_get (p := fun p : Pr => pok w p.1 p.2.1) (fun j hj' => hj j (by omega))]
      rfl
  have h2 : Ev fun n => ∀ (w : Int) (l : List Pr), l.length ≤ 4000000 → c_slices_ContainsFunc_impl_Pair_impl_Pair_i_BoxOk_1 ((C B).run n) l w = some (!(l.all fun p => pok w p.1 p.2.1), (w, ())) := by
    refine h1.succ fun n hn k w l hl => ?_
    obtain ⟨r, e1, e2⟩ := k w l hl
    rw [run_succ, e_slices_ContainsFunc_impl_Pair_impl_Pair_i_BoxOk_1]
    unfold p_slices_ContainsFunc_impl_Pair_impl_Pair_i_BoxOk_1
    rw [e1]
    simp only [Option.bind_some]
    rw [e2]
  refine (h2.and (k_in (B := B))).succ fun n hn ⟨k, ki⟩ w l hl => ?_
  rw [run_succ, e_i_BoxOk]
  unfold p_i_BoxOk bxok
  rw [len_eq, ki]
  simp only [Option.bind_some]
  by_cases h : 1 ≤ l.length ∧ l.length ≤ 6
  · rw [decide_eq_true (show (1 : Int) ≤ l.length ∧ (l.length : Int) ≤ 6 by omega), decide_eq_true h.1, decide_eq_true h.2, cond_true, k w l hl]
    simp only [Option.bind_some, jb_inr, Bool.not_not, Bool.true_and]
  · rw [decide_eq_false (show ¬ ((1 : Int) ≤ l.length ∧ (l.length : Int) ≤ 6) by omega), cond_false]
    simp only [jb_inr]
    by_cases h1 : 1 ≤ l.length
    · rw [decide_eq_true h1, decide_eq_false (show ¬ l.length ≤ 6 from fun h' => h ⟨h1, h'⟩)]; rfl
    · rw [decide_eq_false h1]; rfl
end Go.Px.Seat

/- Names that are apart, the text of a box, the law. -/
namespace Pt
def dupL (L : List (List Nat)) : Bool := (List.range L.length).any fun i => decide (L.getD i [] ∈ L.take i)
def disL (L : List (List Nat)) : Bool := (List.range L.length).all fun i => nameOk (L.getD i []) && !decide (L.getD i [] ∈ L.take i)
theorem dupL_true {L : List (List Nat)} {i : Nat} (h : i < L.length) (h' : L.getD i [] ∈ L.take i) : dupL L = true :=
  List.any_eq_true.2 ⟨i, List.mem_range.2 h, decide_eq_true h'⟩
theorem dupL_false {L : List (List Nat)} (h : ∀ i, i < L.length → ¬ L.getD i [] ∈ L.take i) : dupL L = false := by
  refine Bool.eq_false_iff.2 fun h' => ?_
  obtain ⟨i, h1, h2⟩ := List.any_eq_true.1 h'
  exact h i (List.mem_range.1 h1) (of_decide_eq_true h2)
theorem disL_true {L : List (List Nat)} (h : ∀ i, i < L.length → nameOk (L.getD i []) = true ∧ ¬ L.getD i [] ∈ L.take i) : disL L = true :=
  List.all_eq_true.2 fun i hi => by
    obtain ⟨h1, h2⟩ := h i (List.mem_range.1 hi)
    simp only [h1, Bool.true_and, decide_eq_false h2, Bool.not_false]
theorem disL_false {L : List (List Nat)} {i : Nat} (h : i < L.length) (h' : nameOk (L.getD i []) = false ∨ L.getD i [] ∈ L.take i) : disL L = false := by
  refine Bool.eq_false_iff.2 fun hh => ?_
  have := List.all_eq_true.1 hh i (List.mem_range.2 h)
  simp only [Bool.and_eq_true, Bool.not_eq_true', decide_eq_false_iff_not] at this
  rcases h' with h1 | h1
  · rw [h1] at this; cases this.1
  · exact this.2 h1
theorem disL_eq (L : List (List Nat)) : disL L = (!dupL L && L.all nameOk) := by
  cases hd : dupL L with
  | true =>
    obtain ⟨i, h1, h2⟩ := List.any_eq_true.1 hd
    rw [disL_false (List.mem_range.1 h1) (.inr (of_decide_eq_true h2))]
    rfl
  | false =>
    rw [Bool.not_false, Bool.true_and]
    have hd' : ∀ i, i < L.length → ¬ L.getD i [] ∈ L.take i := fun i hi h => by
      rw [dupL_true hi h] at hd; cases hd
    cases ha : L.all nameOk with
    | true =>
      refine disL_true fun i hi => ⟨?_, hd' i hi⟩
      have := List.all_eq_true.1 ha (L.getD i []) (by
        rw [List.getD_eq_getElem?_getD, List.getElem?_eq_getElem hi]
        exact List.getElem_mem hi)
      exact this
    | false =>
      obtain ⟨x, h1, h2⟩ := List.all_eq_false.1 ha
      obtain ⟨i, hi, rfl⟩ := List.mem_iff_getElem.1 h1
      refine disL_false hi (.inl ?_)
      rw [List.getD_eq_getElem?_getD, List.getElem?_eq_getElem hi]
      simpa using h2
theorem joinL_snoc (s x : List Nat) : ∀ ps : List (List Nat), joinL s (ps ++ [x]) = if ps = [] then x else joinL s ps ++ (s ++ x)
  | [] => rfl
  | [y] => rfl
  | y :: z :: r => by
    have := joinL_snoc s x (z :: r)
    rw [if_neg (by simp)] at this
    rw [if_neg (by simp)]
    show y ++ (s ++ joinL s ((z :: r) ++ [x])) = (y ++ (s ++ joinL s (z :: r))) ++ (s ++ x)
    rw [this]
    simp only [List.append_assoc]
end Pt
namespace Go.Px.Seat
open Go Pm Pt
set_option linter.unusedVariables false
variable {B : Run}
def Bls (L : List (List Nat)) : Prop := ∀ x ∈ L, Bl x
theorem Bls.take {L : List (List Nat)} (h : Bls L) (i : Nat) : Bls (L.take i) := fun x hx => h x (List.mem_of_mem_take hx)
theorem len_bs (L : List (List Nat)) : len (L.map bs) = (L.length : Int) := by rw [len_eq, List.length_map]
theorem mem_at {L : List (List Nat)} {i : Nat} (h : i < L.length) : L.getD i [] ∈ L := by
  rw [List.getD_eq_getElem?_getD, List.getElem?_eq_getElem h]
  exact List.getElem_mem h
theorem not_mem {L : List (List Nat)} {v : List Nat} (h : ∀ j, j < L.length → L.getD j [] ≠ v) : ¬ v ∈ L := fun hv => by
  obtain ⟨j, hj, rfl⟩ := List.mem_iff_getElem.1 hv
  exact h j hj (by rw [List.getD_eq_getElem?_getD, List.getElem?_eq_getElem hj]; rfl)
theorem ex_unit {α : Type} {x : Option (α × Unit)} {q : α → Prop} (h : ∃ r : α × Unit, x = some r ∧ q r.1) : ∃ r : α, x = some (r, ()) ∧ q r := by
  obtain ⟨⟨r, u⟩, h1, h2⟩ := h
  cases u
  exact ⟨r, h1, h2⟩
theorem k_Index : Ev fun n => ∀ (L : List (List Nat)) (v : List Nat), Bls L → Bl v → L.length ≤ 4000000 → ∃ r : Int, c_slices_Index_string_string ((C B).run n) (L.map bs) (bs v) = some (r, ()) ∧ ile 0 r = decide (v ∈ L) := by
  refine Ev.triv.succ fun n hn _ L v hL hv hl => ?_
  rw [run_succ, e_slices_Index_string_string]
  unfold p_slices_Index_string_string
  rw [len_bs]
  refine ex_unit (q := fun r => ile 0 r = decide (v ∈ L)) ?_
  refine iter_ex (fun p => ∃ i : Nat, p = (((i : Int), ((L.length : Int), (bs v, (L.map bs, (0, ()))))), ()) ∧ i ≤ L.length ∧ ∀ j, j < i → L.getD j [] ≠ v) (fun p => L.length - p.1.1.toNat) (fun r : Int × Unit => ile 0 r.1 = decide (v ∈ L)) ?_ n _ (by simp only; omega) ⟨0, rfl, Nat.zero_le _, fun j hj => absurd hj (Nat.not_lt_zero _)⟩
  rintro rec p ⟨i, rfl, hi, hj⟩ ih
  simp only
  rw [ilt_iff]
  by_cases h : i < L.length
  · rw [decide_eq_true (by omega), cond_true, len_bs, ok_of (inB_true (by omega) (by omega)), Int.toNat_natCast, getD_bs, bs_seq hv (bl_at hL i)]
    by_cases he : v = L.getD i []
    · rw [decide_eq_true he, cond_true]
      refine ⟨_, rfl, ?_⟩
      rw [ile_iff, decide_eq_true (show v ∈ L by rw [he]; exact mem_at h)]
      exact decide_eq_true (by simp only; omega)
    · rw [decide_eq_false he, cond_false, iadd_eq (by omega) (by omega)]
      refine ih _ ⟨i + 1, by simp, by omega, fun j hj' => ?_⟩ (by simp only; omega)
      by_cases hji : j = i
      · subst hji; exact fun h' => he h'.symm
      · exact hj j (by omega)
  · rw [decide_eq_false (by omega), cond_false]
    refine ⟨_, rfl, ?_⟩
    rw [decide_eq_false (not_mem fun j hj' => hj j (by omega))]
    rfl
theorem k_Contains : Ev fun n => ∀ (L : List (List Nat)) (v : List Nat), Bls L → Bl v → L.length ≤ 4000000 → c_slices_Contains_string_string ((C B).run n) (L.map bs) (bs v) = some (decide (v ∈ L), ()) := by
  refine (k_Index (B := B)).succ fun n hn k L v hL hv hl => ?_
  obtain ⟨r, h1, h2⟩ := k L v hL hv hl
  rw [run_succ, e_slices_Contains_string_string]
  unfold p_slices_Contains_string_string
  rw [h1]
  simp only [Option.bind_some]
  rw [h2]
theorem k_l12Find : Ev fun n => ∀ (L : List (List Nat)) (v : List Nat), Bls L → Bl v → L.length ≤ 4000000 → ∃ r : Int, c_s_l12Find ((C B).run n) (L.map bs) (bs v) = some (r, ()) ∧ ile 0 r = decide (v ∈ L) := by
  refine Ev.triv.succ fun n hn _ L v hL hv hl => ?_
  rw [run_succ, e_s_l12Find]
  unfold p_s_l12Find
  refine ex_unit (q := fun r => ile 0 r = decide (v ∈ L)) ?_
  refine iter_ex (fun p => ∃ i : Nat, p = (((i : Int), (L.map bs, (bs v, (0, ())))), ()) ∧ i ≤ L.length ∧ ∀ j, j < i → L.getD j [] ≠ v) (fun p => L.length - p.1.1.toNat) (fun r : Int × Unit => ile 0 r.1 = decide (v ∈ L)) ?_ n _ (by simp only; omega) ⟨0, rfl, Nat.zero_le _, fun j hj => absurd hj (Nat.not_lt_zero _)⟩
  rintro rec p ⟨i, rfl, hi, hj⟩ ih
  simp only
  rw [ilt_iff, len_bs]
  by_cases h : i < L.length
  · rw [decide_eq_true (by omega), cond_true, ok_of (inB_true (by omega) (by omega)), Int.toNat_natCast, getD_bs, bs_seq (bl_at hL i) hv]
    by_cases he : L.getD i [] = v
    · rw [decide_eq_true he, cond_true]
      refine ⟨_, rfl, ?_⟩
      rw [ile_iff, decide_eq_true (show v ∈ L by rw [← he]; exact mem_at h)]
      exact decide_eq_true (by simp only; omega)
    · rw [decide_eq_false he, cond_false, iadd_eq (by omega) (by omega)]
      refine ih _ ⟨i + 1, by simp, by omega, fun j hj' => ?_⟩ (by simp only; omega)
      by_cases hji : j = i
      · subst hji; exact he
      · exact hj j (by omega)
  · rw [decide_eq_false (by omega), cond_false]
    refine ⟨_, rfl, ?_⟩
    rw [decide_eq_false (not_mem fun j hj' => hj j (by omega))]
    rfl
theorem take_bs (L : List (List Nat)) (i : Nat) : List.drop (Int.toNat 0) (List.take i (L.map bs)) = (L.take i).map bs := by
  rw [List.map_take]; rfl
theorem k_twice : Ev fun n => ∀ L : List (List Nat), Bls L → L.length ≤ 4000000 → c_i_twice ((C B).run n) (L.map bs) = some (dupL L, ()) := by
  refine (k_Contains (B := B)).succ fun n hn k L hL hl => ?_
  rw [run_succ, e_i_twice]
  unfold p_i_twice
  rw [len_bs]
  refine iter_const (fun p => ∃ i : Nat, p = (((i : Int), ((L.length : Int), (L.map bs, (L.map bs, (false, ()))))), ()) ∧ i ≤ L.length ∧ ∀ j, j < i → ¬ L.getD j [] ∈ L.take j) (fun p => L.length - p.1.1.toNat) _ ?_ n _ (by simp only; omega) ⟨0, rfl, Nat.zero_le _, fun j hj => absurd hj (Nat.not_lt_zero _)⟩
  rintro rec p ⟨i, rfl, hi, hj⟩ ih
  simp only
  rw [ilt_iff]
  by_cases h : i < L.length
  · rw [decide_eq_true (by omega), cond_true, len_bs, ok_of (inB_true (by omega) (by omega)), ok_of (sliceOk_true (Int.le_refl _) (by omega) (by omega)), Int.toNat_natCast, take_bs, getD_bs, k _ _ (hL.take i) (bl_at hL i) (by rw [List.length_take]; omega)]
    simp only [Option.bind_some]
    by_cases he : L.getD i [] ∈ L.take i
    · rw [decide_eq_true he, cond_true, dupL_true h he]
    · rw [decide_eq_false he, cond_false, iadd_eq (by omega) (by omega)]
      refine ih _ ⟨i + 1, by simp, by omega, fun j hj' => ?_⟩ (by simp only; omega)
      by_cases hji : j = i
      · subst hji; exact he
      · exact hj j (by omega)
  · rw [decide_eq_false (by omega), cond_false, dupL_false fun j hj' => hj j (by omega)]
theorem nm_all {p : List Nat → Bool} {L : List (List Nat)} (h : ∀ j, j < L.length → p (L.getD j []) = true) : L.all p = true := by
  refine List.all_eq_true.2 fun x hx => ?_
  obtain ⟨j, hj, rfl⟩ := List.mem_iff_getElem.1 hx
  have := h j hj
  rwa [List.getD_eq_getElem?_getD, List.getElem?_eq_getElem hj] at this
theorem nm_bad {p : List Nat → Bool} {L : List (List Nat)} {j : Nat} (hj : j < L.length) (h : p (L.getD j []) = false) : L.all p = false := by
  refine Bool.eq_false_iff.2 fun ha => ?_
  have := List.all_eq_true.1 ha _ (mem_at hj)
  rw [h] at this
  cases this
theorem len_at {L : List (List Nat)} {m : Nat} (h : ∀ x ∈ L, x.length ≤ m) (i : Nat) : (L.getD i []).length ≤ m := by
  rw [List.getD_eq_getElem?_getD]
  cases hi : L[i]? with
  | none => exact Nat.zero_le _
  | some x => exact h x (List.mem_of_getElem? hi)
theorem k_badName : Ev fun n => ∀ L : List (List Nat), Bls L → L.length ≤ 4000000 → (∀ x ∈ L, x.length ≤ 4000000) → c_slices_ContainsFunc_string_string_i_BoxShow_1 ((C B0).run n) (L.map bs) = some (!(L.all nameOk), ()) := by
  have h0 : Ev fun n => ∀ l : List Nat, Bl l → l.length ≤ 4000000 → c_i_BoxShow_1 ((C B0).run n) (bs l) = some (!(nameOk l), ()) := by
    refine k_NameOk.succ fun n hn k l hl hb => ?_
    rw [run_succ, e_i_BoxShow_1]
    unfold p_i_BoxShow_1
    rw [k l hl hb]; rfl
  have h1 : Ev fun n => ∀ L : List (List Nat), Bls L → L.length ≤ 4000000 → (∀ x ∈ L, x.length ≤ 4000000) → ∃ r : Int, c_slices_IndexFunc_string_string_i_BoxShow_1 ((C B0).run n) (L.map bs) = some (r, ()) ∧ ile 0 r = !(L.all nameOk) := by
    refine h0.succ fun n hn k0 L hL hl hx => ?_
    rw [run_succ, e_slices_IndexFunc_string_string_i_BoxShow_1]
    unfold p_slices_IndexFunc_string_string_i_BoxShow_1
    rw [len_bs]
    refine ex_unit (q := fun r => ile 0 r = !(L.all nameOk)) ?_
    refine iter_ex (fun p => ∃ i : Nat, p = (((i : Int), ((L.length : Int), ((), (L.map bs, (0, ()))))), ()) ∧ i ≤ L.length ∧ ∀ j, j < i → nameOk (L.getD j []) = true) (fun p => L.length - p.1.1.toNat) (fun r : Int × Unit => ile 0 r.1 = !(L.all nameOk)) ?_ n _ (by simp only; omega) ⟨0, rfl, Nat.zero_le _, fun j hj => absurd hj (Nat.not_lt_zero _)⟩
    rintro rec p ⟨i, rfl, hi, hj⟩ ih
    simp only
    rw [ilt_iff]
    by_cases h : i < L.length
    · rw [decide_eq_true (by omega), cond_true, len_bs, ok_of (inB_true (by omega) (by omega)), Int.toNat_natCast, getD_bs, k0 _ (bl_at hL i) (len_at hx i)]
      simp only [Option.bind_some]
      cases hp : nameOk (L.getD i []) with
      | false =>
        rw [Bool.not_false, cond_true]
        refine ⟨_, rfl, ?_⟩
        rw [nm_bad h hp, ile_iff]
        exact decide_eq_true (by simp only; omega)
      | true =>
        rw [Bool.not_true, cond_false, iadd_eq (by omega) (by omega)]
        refine ih _ ⟨i + 1, by simp, by omega, fun j hj' => ?_⟩ (by simp only; omega)
        by_cases hji : j = i
        · subst hji; exact hp
        · exact hj j (by omega)
    · rw [decide_eq_false (by omega), cond_false]
      refine ⟨_, rfl, ?_⟩
      rw [nm_all fun j hj' => hj j (by omega)]
      rfl
  refine h1.succ fun n hn k L hL hl hx => ?_
  obtain ⟨r, e1, e2⟩ := k L hL hl hx
  rw [run_succ, e_slices_ContainsFunc_string_string_i_BoxShow_1]
  unfold p_slices_ContainsFunc_string_string_i_BoxShow_1
  rw [e1]
  simp only [Option.bind_some]
  rw [e2]
theorem k_distinct : Ev fun n => ∀ L : List (List Nat), Bls L → L.length ≤ 4000000 → (∀ x ∈ L, x.length ≤ 4000000) → c_s_l13Distinct ((C B).run n) (L.map bs) = some (disL L, ()) := by
  refine ((k_sNameOk (B := B)).and (k_l12Find (B := B))).succ fun n hn ⟨kn, kf⟩ L hL hl hx => ?_
  rw [run_succ, e_s_l13Distinct]
  unfold p_s_l13Distinct
  refine iter_const (fun p => ∃ i : Nat, p = (((i : Int), (L.map bs, (false, ()))), ()) ∧ i ≤ L.length ∧ ∀ j, j < i → nameOk (L.getD j []) = true ∧ ¬ L.getD j [] ∈ L.take j) (fun p => L.length - p.1.1.toNat) _ ?_ n _ (by simp only; omega) ⟨0, rfl, Nat.zero_le _, fun j hj => absurd hj (Nat.not_lt_zero _)⟩
  rintro rec p ⟨i, rfl, hi, hj⟩ ih
  simp only
  rw [ilt_iff, len_bs]
  by_cases h : i < L.length
  · rw [decide_eq_true (by omega), cond_true, ok_of (inB_true (by omega) (by omega)), Int.toNat_natCast, getD_bs, kn _ (bl_at hL i) (len_at hx i)]
    simp only [Option.bind_some]
    cases hp : nameOk (L.getD i []) with
    | false =>
      rw [disL_false h (.inl hp)]
      rfl
    | true =>
      rw [Bool.not_true, cond_false, ok_of (sliceOk_true (Int.le_refl _) (by omega) (by omega)), ok_of (inB_true (by omega) (by omega)), take_bs]
      obtain ⟨r, e1, e2⟩ := kf _ _ (hL.take i) (bl_at hL i) (by rw [List.length_take]; omega)
      rw [e1]
      simp only [Option.bind_some, jb_inr]
      rw [e2]
      by_cases he : L.getD i [] ∈ L.take i
      · rw [decide_eq_true he, cond_true, disL_false h (.inr he)]
      · rw [decide_eq_false he, cond_false, iadd_eq (by omega) (by omega)]
        refine ih _ ⟨i + 1, by simp, by omega, fun j hj' => ?_⟩ (by simp only; omega)
        by_cases hji : j = i
        · subst hji; exact ⟨hp, he⟩
        · exact hj j (by omega)
  · rw [decide_eq_false (by omega), cond_false, disL_true fun j hj' => hj j (by omega)]
end Go.Px.Seat

/- What came in, as it is read, is a datum: by the kinds of data, for any program. -/
namespace Go.Px
open Go Go.WideShapes
set_option linter.unusedVariables false
/-- A type of the program is of a kind; a struct's fields, from a place on, are. -/
def TyQ (P : Program) : Ty → (TypeId → Prop) × (List Field → Nat → Prop)
  | .int k => (fun t => P.underlying t = some (.int k), fun _ _ => False)
  | .bool => (fun t => P.underlying t = some .bool, fun _ _ => False)
  | .str => (fun t => P.underlying t = some .string, fun _ _ => False)
  | .err => (fun _ => False, fun _ _ => False)
  | .slice e => (fun t => ∃ u, P.underlying t = some (.slice u) ∧ P.cellsOf u = e.size ∧ 0 < e.size ∧ (TyQ P e).1 u, fun _ _ => False)
  | .nil => (fun _ => False, fun fs _ => fs = [])
  | .cons a b =>
    (fun t => ∃ fs, P.underlying t = some (.struct fs) ∧ P.cellsOf t = a.size + b.size ∧ ∃ f r, fs.toList = f :: r ∧ f.offset = 0 ∧ P.cellsOf f.type = a.size ∧ (TyQ P a).1 f.type ∧ (TyQ P b).2 r (0 + a.size),
      fun fs off => ∃ f r, fs = f :: r ∧ f.offset = off ∧ P.cellsOf f.type = a.size ∧ (TyQ P a).1 f.type ∧ (TyQ P b).2 r (off + a.size))
/-- What a datum that is read keeps to. -/
def Kept : (t : Ty) → t.den → Prop
  | .int k, x => (Lit.int k x).wf = true
  | .bool, _ => True
  | .str, s => ByteArray.size s ≤ maxLen
  | .err, _ => True
  | .slice e, l => List.length (α := e.den) l ≤ maxLen ∧ ∀ x ∈ (show List e.den from l), Kept e x
  | .nil, _ => True
  | .cons a b, x => Kept a x.1 ∧ Kept b x.2
section
variable {H : Type} {enc : TypeId × Value → H} {P : Program} {w : World} {spare : Nat → Bool} {held : Bool}
/-- a row of cells, cut -/
theorem chop_of {α : Type} {R : List Value → α → Prop} {F : α → Prop} {k : Nat} : ∀ (n : Nat) (V : List Value), n * k ≤ V.length → (∀ i, i < n → ∃ y, R ((V.drop (i * k)).take k) y ∧ F y) → ∃ l : List α, l.length = n ∧ Chop R l (V.take (n * k)) ∧ ∀ y ∈ l, F y
  | 0, V, _, _ => ⟨[], rfl, by rw [Nat.zero_mul]; rfl, fun y hy => by cases hy⟩
  | n + 1, V, hl, h => by
    have hk : (n + 1) * k = k + n * k := by rw [Nat.add_mul, Nat.one_mul, Nat.add_comm]
    obtain ⟨y, h1, h2⟩ := h 0 (Nat.succ_pos n)
    rw [Nat.zero_mul, List.drop_zero] at h1
    obtain ⟨l, e1, e2, e3⟩ := chop_of (R := R) (F := F) (k := k) n (V.drop k) (by rw [List.length_drop]; omega) (fun i hi => by
      obtain ⟨z, z1, z2⟩ := h (i + 1) (by omega)
      refine ⟨z, ?_, z2⟩
      rw [List.drop_drop]
      rwa [show (i + 1) * k = k + i * k by rw [Nat.add_mul, Nat.one_mul, Nat.add_comm]] at z1)
    refine ⟨y :: l, by rw [List.length_cons, e1], ?_, fun z hz => ?_⟩
    · rw [hk, List.take_add]
      exact ⟨_, _, rfl, h1, e2⟩
    · rcases List.mem_cons.1 hz with rfl | hz
      · exact h2
      · exact e3 z hz
theorem rep_trod {S : Nat → Prop} (hS : ∀ k, k < w.heap.size → S k) : ∀ ty : Ty,
    (∀ (t : TypeId) (fuel : Nat) (cs : List Value) (x : DataW H × List MemPlace), (TyQ P ty).1 t → DataW.trod enc P w 0 spare held fuel t cs = some x → ∃ y : ty.den, Rep w.heap S ty cs y ∧ Kept ty y) ∧
    (∀ (fs : List Field) (off fuel : Nat) (cs : List Value) (xs : List (DataW H × List MemPlace)), (TyQ P ty).2 fs off → cs.length = off + ty.size → xs.length = fs.length →
      (∀ (i : Nat) (f : Field), fs[i]? = some f → DataW.trod enc P w 0 spare held fuel f.type ((cs.drop f.offset).take (P.cellsOf f.type)) = xs[i]?) → ∃ y : ty.den, Rep w.heap S ty (cs.drop off) y ∧ Kept ty y)
  | .int k => ⟨fun t fuel cs x ht h => by
      obtain ⟨n, rfl, rfl, hw⟩ := DataW.trod_int ht h
      exact ⟨n, rfl, hw⟩, fun _ _ _ _ _ h => h.elim⟩
  | .bool => ⟨fun t fuel cs x ht h => by
      obtain ⟨b, rfl, rfl⟩ := DataW.trod_bool ht h
      exact ⟨b, rfl, trivial⟩, fun _ _ _ _ _ h => h.elim⟩
  | .str => ⟨fun t fuel cs x ht h => by
      obtain ⟨s, rfl, rfl, hw⟩ := DataW.trod_string ht h
      exact ⟨s, rfl, hw⟩, fun _ _ _ _ _ h => h.elim⟩
  | .err => ⟨fun _ _ _ _ h => h.elim, fun _ _ _ _ _ h => h.elim⟩
  | .nil => ⟨fun _ _ _ _ h => h.elim, fun fs off fuel cs xs hf hl hx hat => ⟨(), by
      show cs.drop off = []
      exact List.drop_eq_nil_of_le (by rw [hl]; exact Nat.le_refl _), trivial⟩⟩
  | .slice e => ⟨fun t fuel cs x ⟨u, ht, hc, hpos, hu⟩ h => by
      rcases DataW.trod_slice ht h with ⟨rfl, rfl⟩ | ⟨a, len, cap, elems, rest, n, _, rfl, rfl, hb, hl, hm, hlen, hel, _, _⟩
      · exact ⟨([] : List e.den), ⟨none, 0, 0, rfl, rfl, Nat.le_refl _, .inl rfl⟩, Nat.zero_le _, fun x hx => by cases hx⟩
      · by_cases h0 : len = 0
        · subst h0
          exact ⟨([] : List e.den), ⟨some a, 0, cap, rfl, rfl, Nat.zero_le _, .inl rfl⟩, Nat.zero_le _, fun x hx => by cases hx⟩
        · have hat : ∀ i, i < len → ∃ ci yi, w.cells? 0 (a.add (i * P.cellsOf u)) (P.cellsOf u) = some ci ∧ DataW.trod enc P w 0 spare held n u ci = some yi := fun i hi => by
            have h1 := hel i hi
            rw [List.getElem?_eq_getElem (by omega)] at h1
            obtain ⟨ci, c1, c2⟩ := Option.bind_eq_some_iff.1 h1
            exact ⟨ci, _, c1, c2⟩
          rw [hc] at hat
          have hcell : ∀ i j ci, i < len → j < e.size → w.cells? 0 (a.add (i * e.size)) e.size = some ci → w.cell? ((a.add (i * e.size)).add j) = ci[j]? := fun i j ci _ hj h => (World.cells?_some h).2.2 j hj
          obtain ⟨b, off, spot⟩ := a
          have hspot : spot = none := by
            obtain ⟨ci, yi, c1, _⟩ := hat 0 (by omega)
            have h1 := hcell 0 0 ci (by omega) hpos c1
            rw [List.getElem?_eq_getElem (by rw [(World.cells?_some c1).2.1]; exact hpos)] at h1
            have := World.cell?_spot h1
            unfold Addr.add at this
            cases spot with
            | none => rfl
            | some s => simp at this
          subst hspot
          have hplace : ∀ i j, ((⟨b, off, none⟩ : Addr).add (i * e.size)).add j = ⟨b, off + i * e.size + j, none⟩ := fun i j => by rw [add_plain, add_plain]
          obtain ⟨arr, et, fr, harr⟩ : ∃ arr et fr, w.heap[b]? = some (.cells arr et fr) := by
            obtain ⟨ci, yi, c1, _⟩ := hat 0 (by omega)
            have h1 := hcell 0 0 ci (by omega) hpos c1
            rw [hplace, List.getElem?_eq_getElem (by rw [(World.cells?_some c1).2.1]; exact hpos)] at h1
            unfold World.cell? at h1
            split at h1
            · rename_i harr
              exact ⟨_, _, _, harr⟩
            · cases h1
          have hget : ∀ i j ci, i < len → j < e.size → w.cells? 0 ((⟨b, off, none⟩ : Addr).add (i * e.size)) e.size = some ci → arr[off + i * e.size + j]? = ci[j]? := fun i j ci hi hj h => by
            have h1 := hcell i j ci hi hj h
            rw [hplace] at h1
            simpa [World.cell?, harr] using h1
          have hfit : off + len * e.size ≤ arr.size := by
            obtain ⟨ci, yi, c1, _⟩ := hat (len - 1) (by omega)
            have h1 := hget (len - 1) (e.size - 1) ci (by omega) (by omega) c1
            rw [List.getElem?_eq_getElem (by rw [(World.cells?_some c1).2.1]; omega)] at h1
            have h2 := (Array.getElem?_eq_some_iff.1 h1).1
            have h3 : len * e.size = (len - 1) * e.size + e.size := by
              conv => lhs; rw [show len = (len - 1) + 1 by omega]
              rw [Nat.add_mul, Nat.one_mul]
            omega
          have hV : len * e.size ≤ (arr.toList.drop off).length := by rw [List.length_drop, Array.length_toList]; omega
          obtain ⟨l, l1, l2, l3⟩ := chop_of (R := Rep w.heap S e) (F := Kept e) (k := e.size) len (arr.toList.drop off) hV (fun i hi => by
            obtain ⟨ci, yi, c1, c2⟩ := hat i hi
            obtain ⟨y, r1, r2⟩ := (rep_trod hS e).1 u n ci yi hu c2
            refine ⟨y, ?_, r2⟩
            have : ((arr.toList.drop off).drop (i * e.size)).take e.size = ci := by
              apply List.ext_getElem?
              intro j
              rw [List.drop_drop, List.getElem?_take, List.getElem?_drop]
              by_cases hj : j < e.size
              · rw [if_pos hj, ← hget i j ci hi hj c1, Array.getElem?_toList]
              · rw [if_neg hj, List.getElem?_eq_none (by rw [(World.cells?_some c1).2.1]; omega)]
            rw [this]
            exact r1)
          exact ⟨l, ⟨_, len, cap, rfl, l1, hl, .inr ⟨b, off, arr, et, fr, rfl, hS b (Array.getElem?_eq_some_iff.1 harr).1, harr, hfit, l2⟩⟩, by
            show List.length (α := e.den) l ≤ maxLen
            omega, l3⟩, fun _ _ _ _ _ h => h.elim⟩
  | .cons a b => by
    have key : ∀ (fs : List Field) (off fuel : Nat) (cs : List Value) (xs : List (DataW H × List MemPlace)), (TyQ P (.cons a b)).2 fs off → cs.length = off + (Ty.cons a b).size → xs.length = fs.length →
        (∀ (i : Nat) (f : Field), fs[i]? = some f → DataW.trod enc P w 0 spare held fuel f.type ((cs.drop f.offset).take (P.cellsOf f.type)) = xs[i]?) → ∃ y : (Ty.cons a b).den, Rep w.heap S (.cons a b) (cs.drop off) y ∧ Kept (.cons a b) y := by
      rintro fs off fuel cs xs ⟨f, r, rfl, rfl, hc, ha, hb⟩ hl hx hat
      match xs, hx with
      | x0 :: xs', hx =>
        have h0 := hat 0 f rfl
        rw [hc, List.getElem?_cons_zero] at h0
        obtain ⟨y, y1, y2⟩ := (rep_trod hS a).1 f.type fuel _ x0 ha h0
        obtain ⟨z, z1, z2⟩ := (rep_trod hS b).2 r (f.offset + a.size) fuel cs xs' hb (by rw [hl]; show _ = f.offset + a.size + b.size; rw [Nat.add_assoc]; rfl) (by simpa using hx) (fun i g hg => hat (i + 1) g (by simpa using hg))
        refine ⟨(y, z), ⟨_, _, ?_, y1, z1⟩, y2, z2⟩
        conv => lhs; rw [← List.take_append_drop a.size (cs.drop f.offset)]
        rw [List.drop_drop]
    refine ⟨fun t fuel cs x ht h => ?_, key⟩
    obtain ⟨fs, h1, h2, hrest⟩ := ht
    obtain ⟨xs, n, _, rfl, hl, hlen, hf⟩ := DataW.trod_struct h1 h
    have := key fs.toList 0 n cs xs hrest (by rw [hl, h2, Nat.zero_add]; rfl) (by rw [hlen, Array.length_toList]) (fun i f hi => hf i f (by rw [← Array.getElem?_toList]; exact hi))
    rwa [List.drop_zero] at this
end
end Go.Px

/- The text of a box; the law. -/
namespace Go.Px.Seat
open Go Pm Pt
set_option linter.unusedVariables false
/-- what is shown of one name -/
noncomputable def prt (w : Int) (p : Pr) (x : List Nat) : List Nat := ((((x ++ [32, 105, 110, 32, 91]) ++ fsh w p.1 false) ++ [44, 32]) ++ fsh w p.2.1 true) ++ [93]
noncomputable def pts (w : Int) (l : List Pr) (L : List (List Nat)) (k : Nat) : List (List Nat) := (List.range k).map fun i => prt w (l.getD i (0, (0, ()))) (L.getD i [])
theorem pts_succ (w : Int) (l : List Pr) (L : List (List Nat)) (k : Nat) : pts w l L (k + 1) = pts w l L k ++ [prt w (l.getD k (0, (0, ()))) (L.getD k [])] := by
  unfold pts
  rw [List.range_succ, List.map_append]
  rfl
theorem pts_len (w : Int) (l : List Pr) (L : List (List Nat)) (k : Nat) : (pts w l L k).length = k := by
  unfold pts
  rw [List.length_map, List.length_range]
theorem pts_nil {w : Int} {l : List Pr} {L : List (List Nat)} {k : Nat} (h : k ≠ 0) : pts w l L k ≠ [] := fun h' => by
  have := pts_len w l L k
  rw [h'] at this
  exact h this.symm
noncomputable def txt (w : Int) (l : List Pr) (L : List (List Nat)) (k : Nat) : List Nat := joinL [44, 32] (pts w l L k)
theorem txt_zero (w : Int) (l : List Pr) (L : List (List Nat)) : txt w l L 0 = [] := rfl
theorem txt_one (w : Int) (l : List Pr) (L : List (List Nat)) : txt w l L (0 + 1) = prt w (l.getD 0 (0, (0, ()))) (L.getD 0 []) := rfl
theorem txt_succ {w : Int} {l : List Pr} {L : List (List Nat)} {k : Nat} (h : k ≠ 0) : txt w l L (k + 1) = txt w l L k ++ ([44, 32] ++ prt w (l.getD k (0, (0, ()))) (L.getD k [])) := by
  unfold txt
  rw [pts_succ, joinL_snoc, if_neg (pts_nil h)]
theorem bxok_at {w : Int} {l : List Pr} (h : bxok w l = true) : 1 ≤ l.length ∧ l.length ≤ 6 ∧ ∀ i, i < l.length → bok w (l.getD i (0, (0, ()))).1 = true ∧ bok w (l.getD i (0, (0, ()))).2.1 = true := by
  unfold bxok at h
  simp only [Bool.and_eq_true, decide_eq_true_eq] at h
  obtain ⟨h1, h2, h3⟩ := h
  refine ⟨h1, h2, fun i hi => ?_⟩
  have := List.all_eq_true.1 h3 (l.getD i (0, (0, ()))) (by
    rw [List.getD_eq_getElem?_getD, List.getElem?_eq_getElem hi]
    exact List.getElem_mem hi)
  unfold pok at this
  simp only [Bool.and_eq_true] at this
  exact ⟨this.1, this.2.1⟩
theorem prt_len {w : Int} {p : Pr} {x : List Nat} (hx : x.length ≤ 1048576) (h1 : (fsh w p.1 false).length ≤ 201) (h2 : (fsh w p.2.1 true).length ≤ 201) : (prt w p x).length ≤ 1049000 := by
  unfold prt
  simp only [List.length_append, List.length_cons, List.length_nil]
  omega
theorem prt_bl {w : Int} {p : Pr} {x : List Nat} (hx : Bl x) (h1 : Bl (fsh w p.1 false)) (h2 : Bl (fsh w p.2.1 true)) : Bl (prt w p x) := by
  unfold prt
  refine bl_app.2 ⟨bl_app.2 ⟨bl_app.2 ⟨bl_app.2 ⟨bl_app.2 ⟨hx, ?_⟩, h1⟩, ?_⟩, h2⟩, ?_⟩ <;> (unfold Bl; decide)
theorem txt_len {w : Int} {l : List Pr} {L : List (List Nat)} (h : ∀ i, i < l.length → (prt w (l.getD i (0, (0, ()))) (L.getD i [])).length ≤ 1049000) : ∀ k, k ≤ l.length → (txt w l L k).length ≤ k * 1049002
  | 0, _ => Nat.zero_le _
  | 1, hk => by
    have := h 0 (by omega)
    rw [txt_one]; omega
  | k + 2, hk => by
    have h1 := txt_len h (k + 1) (by omega)
    have h2 := h (k + 1) (by omega)
    rw [txt_succ (by omega)]
    simp only [List.length_append, List.length_cons, List.length_nil]
    omega
theorem k_iText : Ev fun n => ∀ (w : Int) (l : List Pr) (L : List (List Nat)), bxok w l = true → L.length = l.length → Bls L → (∀ x ∈ L, x.length ≤ 1048576) →
    c_i_boxShow ((C B0).run n) w l (L.map bs) = some (bs (txt w l L l.length), ()) := by
  refine (k_both.and k_Join).succ fun n hn ⟨kb, kj⟩ w l L hb hlen hL hx => ?_
  obtain ⟨h1, h2, h3⟩ := bxok_at hb
  have hat : ∀ i, i < l.length → (prt w (l.getD i (0, (0, ()))) (L.getD i [])).length ≤ 1049000 ∧ Bl (prt w (l.getD i (0, (0, ()))) (L.getD i [])) := fun i hi => by
    obtain ⟨_, _, a3, a4⟩ := kb w _ false (h3 i hi).1
    obtain ⟨_, _, b3, b4⟩ := kb w _ true (h3 i hi).2
    exact ⟨prt_len (len_at hx i) a4 b4, prt_bl (bl_at hL i) a3 b3⟩
  rw [run_succ, e_i_boxShow]
  unfold p_i_boxShow
  rw [len_eq]
  refine iter_const (fun p => ∃ i : Nat, p = (((i : Int), ((l.length : Int), (l, ((), (L.map bs, (w, (bs [], ()))))))), ((pts w l L i).map bs, ())) ∧ i ≤ l.length) (fun p => l.length - p.1.1.toNat) _ ?_ n _ (by simp only; omega) ⟨0, rfl, Nat.zero_le _⟩
  rintro rec p ⟨i, rfl, hi⟩ ih
  simp only
  rw [ilt_iff]
  by_cases h : i < l.length
  · obtain ⟨a1, a2, a3, a4⟩ := kb w _ false (h3 i h).1
    obtain ⟨b1, b2, b3, b4⟩ := kb w _ true (h3 i h).2
    have hn1 := len_at hx i
    rw [decide_eq_true (by omega), cond_true, len_eq, len_bs, ok_of (inB_true (by omega) (by omega)), ok_of (inB_true (by omega) (by omega)), Int.toNat_natCast, getD_bs, a2, b2]
    simp only [Option.bind_some]
    simp only [bs_app]
    rw [bs_sok, ok_of (decide_eq_true (by first | omega | (simp only [List.length_append, List.length_cons, List.length_nil]; omega))), bs_sok, ok_of (decide_eq_true (by first | omega | (simp only [List.length_append, List.length_cons, List.length_nil]; omega))), bs_sok, ok_of (decide_eq_true (by first | omega | (simp only [List.length_append, List.length_cons, List.length_nil]; omega))), bs_sok, ok_of (decide_eq_true (by first | omega | (simp only [List.length_append, List.length_cons, List.length_nil]; omega))), bs_sok, ok_of (decide_eq_true (by first | omega | (simp only [List.length_append, List.length_cons, List.length_nil]; omega)))]
    rw [ok_of (aok_true (by rw [List.length_append, List.length_map, pts_len, List.length_singleton]; omega)), iadd_eq (by omega) (by omega)]
    refine (congrArg rec ?_).trans (ih _ ⟨i + 1, rfl, by omega⟩ (by simp only; omega))
    rw [show ((i : Int) + 1) = ((i + 1 : Nat) : Int) by omega, pts_succ, List.map_append]
    rfl
  · rw [decide_eq_false (by omega), cond_false]
    have : i = l.length := by omega
    subst this
    have hj := kj (pts w l L l.length) [44, 32] (pts_nil (by omega)) (by rw [pts_len]; omega) (by
      have := txt_len (fun i hi => (hat i hi).1) l.length (Nat.le_refl _)
      unfold txt at this
      omega) (fun x hx => by
        obtain ⟨i, hi, rfl⟩ := List.mem_map.1 hx
        exact (hat i (List.mem_range.1 hi)).2) (by unfold Bl; decide)
    rw [hj]
    rfl
/-- the text of a box; none, where it is not ok -/
noncomputable def bst (w : Int) (l : List Pr) (L : List (List Nat)) : List Nat := if bxok w l = true ∧ L.length = l.length ∧ disL L = true then txt w l L l.length else []
theorem k_iBoxShow : Ev fun n => ∀ (w : Int) (l : List Pr) (L : List (List Nat)), l.length ≤ 4000000 → L.length ≤ 4000000 → Bls L → (∀ x ∈ L, x.length ≤ 1048576) →
    c_i_BoxShow ((C B0).run n) w l (L.map bs) = some (bs (bst w l L), ()) := by
  refine ((k_BoxOk (B := B0)).and ((k_twice (B := B0)).and (k_badName.and k_iText))).succ fun n hn ⟨kb, kt, kn, kx⟩ w l L hl hLl hL hx => ?_
  rw [run_succ, e_i_BoxShow]
  unfold p_i_BoxShow bst
  rw [kb w l hl]
  simp only [Option.bind_some]
  cases hb : bxok w l with
  | false => rfl
  | true =>
    rw [Bool.not_true, cond_false, len_bs, len_eq]
    by_cases hlen : L.length = l.length
    · rw [show ((L.length : Int) != (l.length : Int)) = false by rw [hlen]; simp, cond_false, kt L hL hLl]
      simp only [Option.bind_some]
      rw [disL_eq]
      cases hd : dupL L with
      | true =>
        rw [if_neg (fun h => by cases h.2.2)]
        rfl
      | false =>
        rw [cond_false, kn L hL hLl (fun x h => Nat.le_trans (hx x h) (by decide))]
        simp only [Option.bind_some, jb_inr]
        cases hn : L.all nameOk with
        | false =>
          rw [if_neg (fun h => by cases h.2.2)]
          rfl
        | true =>
          rw [Bool.not_true, cond_false, kx w l L hb hlen hL hx, if_pos ⟨trivial, hlen, rfl⟩]
          rfl
    · rw [show ((L.length : Int) != (l.length : Int)) = true by simpa using fun h => hlen (by omega), cond_true, if_neg (fun h => hlen h.2.1)]
      rfl
theorem k_sBoxShow : Ev fun n => ∀ (w : Int) (l : List Pr) (L : List (List Nat)), L.length ≤ 4000000 → Bls L → (∀ x ∈ L, x.length ≤ 1048576) →
    c_s_BoxShow ((C B0).run n) w l (L.map bs) = some (bs (bst w l L), ()) := by
  refine ((k_sBoxOk (B := B0)).and ((k_distinct (B := B0)).and k_both)).succ fun n hn ⟨kb, kd, kf⟩ w l L hLl hL hx => ?_
  rw [run_succ, e_s_BoxShow]
  unfold p_s_BoxShow bst
  rw [kb w l]
  simp only [Option.bind_some]
  cases hb : bxok w l with
  | false => rfl
  | true =>
    rw [Bool.not_true, cond_false, len_bs, len_eq]
    by_cases hlen : L.length = l.length
    · rw [show ((L.length : Int) != (l.length : Int)) = false by rw [hlen]; simp, cond_false, kd L hL hLl (fun x h => Nat.le_trans (hx x h) (by decide))]
      simp only [Option.bind_some, jb_inr]
      cases hd : disL L with
      | false =>
        rw [if_neg (fun h => by cases h.2.2)]
        rfl
      | true =>
        rw [Bool.not_true, cond_false, if_pos ⟨trivial, hlen, rfl⟩]
        obtain ⟨h1, h2, h3⟩ := bxok_at hb
        have hat : ∀ i, i < l.length → (prt w (l.getD i (0, (0, ()))) (L.getD i [])).length ≤ 1049000 := fun i hi => by
          obtain ⟨_, _, a3, a4⟩ := kf w _ false (h3 i hi).1
          obtain ⟨_, _, b3, b4⟩ := kf w _ true (h3 i hi).2
          exact prt_len (len_at hx i) a4 b4
        refine iter_const (fun p => ∃ i : Nat, p = (((i : Int), (L.map bs, (bs (txt w l L i), (w, ((), (bs [], ())))))), ((l, ()), ())) ∧ i ≤ l.length) (fun p => l.length - p.1.1.toNat) _ ?_ n _ (by simp only; omega) ⟨0, rfl, Nat.zero_le _⟩
        rintro rec p ⟨i, rfl, hi⟩ ih
        simp only
        rw [ilt_iff, len_bs]
        by_cases h : i < l.length
        · obtain ⟨a1, a2, a3, a4⟩ := kf w _ false (h3 i h).1
          obtain ⟨b1, b2, b3, b4⟩ := kf w _ true (h3 i h).2
          have hn1 := len_at hx i
          have hn2 := txt_len hat i (by omega)
          have key : ∀ s : List Nat, s.length ≤ 7000000 → s ++ prt w (l.getD i (0, (0, ()))) (L.getD i []) = txt w l L (i + 1) →
              (ok (inB (i : Int) (len (L.map bs))) <| ok (sok (bs s) (List.getD (L.map bs) (Int.toNat (i : Int)) (bs []))) <| ok (sok ((bs s) ++ (List.getD (L.map bs) (Int.toNat (i : Int)) (bs []))) (bs [32, 105, 110, 32, 91])) <| ok (inB (i : Int) (len l)) <|
                (c_s_FloatShow ((C B0).run n) w (List.getD l (Int.toNat (i : Int)) (0, (0, ()))).1 false).bind fun (r25_1, _) =>
                ok (sok (((bs s) ++ (List.getD (L.map bs) (Int.toNat (i : Int)) (bs []))) ++ (bs [32, 105, 110, 32, 91])) r25_1) <|
                ok (sok ((((bs s) ++ (List.getD (L.map bs) (Int.toNat (i : Int)) (bs []))) ++ (bs [32, 105, 110, 32, 91])) ++ r25_1) (bs [44, 32])) <|
                ok (inB (i : Int) (len l)) <|
                (c_s_FloatShow ((C B0).run n) w (List.getD l (Int.toNat (i : Int)) (0, (0, ()))).2.1 true).bind fun (r25_2_1, _) =>
                ok (sok (((((bs s) ++ (List.getD (L.map bs) (Int.toNat (i : Int)) (bs []))) ++ (bs [32, 105, 110, 32, 91])) ++ r25_1) ++ (bs [44, 32])) r25_2_1) <|
                ok (sok ((((((bs s) ++ (List.getD (L.map bs) (Int.toNat (i : Int)) (bs []))) ++ (bs [32, 105, 110, 32, 91])) ++ r25_1) ++ (bs [44, 32])) ++ r25_2_1) (bs [93])) <|
                rec (((iadd .i64 (i : Int) 1), (L.map bs, (((((((bs s) ++ (List.getD (L.map bs) (Int.toNat (i : Int)) (bs []))) ++ (bs [32, 105, 110, 32, 91])) ++ r25_1) ++ (bs [44, 32])) ++ r25_2_1) ++ (bs [93]), (w, ((), (bs [], ())))))), ((l, ()), ()))) = some (bs (txt w l L l.length), ()) := fun s hs he => by
            rw [len_bs, len_eq, ok_of (inB_true (by omega) (by omega)), Int.toNat_natCast, getD_bs, a1, b1]
            simp only [Option.bind_some]
            simp only [bs_app]
            rw [ok_of (inB_true (by omega) (by omega)), ok_of (inB_true (by omega) (by omega)), bs_sok, ok_of (decide_eq_true (by first | omega | (simp only [List.length_append, List.length_cons, List.length_nil]; omega))), bs_sok, ok_of (decide_eq_true (by first | omega | (simp only [List.length_append, List.length_cons, List.length_nil]; omega))), bs_sok, ok_of (decide_eq_true (by first | omega | (simp only [List.length_append, List.length_cons, List.length_nil]; omega))), bs_sok, ok_of (decide_eq_true (by first | omega | (simp only [List.length_append, List.length_cons, List.length_nil]; omega))), bs_sok, ok_of (decide_eq_true (by first | omega | (simp only [List.length_append, List.length_cons, List.length_nil]; omega))), bs_sok, ok_of (decide_eq_true (by first | omega | (simp only [List.length_append, List.length_cons, List.length_nil]; omega)))]
            rw [iadd_eq (by omega) (by omega)]
            refine (congrArg rec ?_).trans (ih _ ⟨i + 1, rfl, by omega⟩ (by simp only; omega))
            rw [show ((i : Int) + 1) = ((i + 1 : Nat) : Int) by omega, ← he]
            unfold prt
            simp only [List.append_assoc]
          rw [decide_eq_true (by omega), cond_true]
          by_cases h0 : i = 0
          · subst h0
            rw [ilt_iff, decide_eq_false (show ¬ (0 : Int) < ((0 : Nat) : Int) by omega), cond_false, txt_zero]
            refine key [] (Nat.zero_le _) ?_
            rw [txt_one]
            rfl
          · rw [ilt_iff, decide_eq_true (show (0 : Int) < i by omega), cond_true, bs_sok, ok_of (decide_eq_true (by simp only [List.length_cons, List.length_nil]; omega)), bs_app]
            refine key (txt w l L i ++ [44, 32]) (by first | omega | (simp only [List.length_append, List.length_cons, List.length_nil]; omega)) ?_
            rw [txt_succ h0, List.append_assoc]
        · rw [decide_eq_false (by omega), cond_false]
          have : i = l.length := by omega
          subst this
          rfl
    · rw [show ((L.length : Int) != (l.length : Int)) = true by simpa using fun h => hlen (by omega), cond_true, if_neg (fun h => hlen h.2.1)]
      rfl
theorem k_FnExactBoxShow : Ev fun n => ∀ (w : Int) (l : List Pr) (xs : List ByteArray), l.length ≤ bigL → xs.length ≤ bigL → (∀ x ∈ xs, x.size ≤ bigL) → c_w_FnExactBoxShow ((C B0).run n) w l xs = some (true, ()) := by
  refine ((k_szBox (B := B0)).and ((k_szStringS (B := B0)).and ((k_toBox (B := B0)).and ((k_toStringS (B := B0)).and ((k_eqBox (B := B0)).and ((k_eqStringS (B := B0)).and (k_iBoxShow.and k_sBoxShow))))))).succ fun n hn ⟨k1, k2, k3, k4, k5, k6, k7, k8⟩ w l xs hl hxl hx => ?_
  rw [run_succ, e_w_FnExactBoxShow]
  unfold p_w_FnExactBoxShow
  rw [k1 l hl]
  simp only [Option.bind_some]
  rw [ilt_iff]
  by_cases h1 : l.length ≤ 1048576
  · rw [if_pos h1, decide_eq_false (by omega), cond_false]
    obtain ⟨r, e1, e2⟩ := k2 xs (1048576 - (l.length : Int)) (by omega) (by omega) hxl hx
    rw [e1]
    simp only [Option.bind_some]
    rw [ilt_iff]
    by_cases h2 : r < 0
    · rw [decide_eq_true h2, cond_true]
    · rw [decide_eq_false h2, cond_false]
      obtain ⟨h3, h4⟩ := e2.resolve_left h2
      have hxs : (xs.map chs).map bs = xs := by
        rw [List.map_map]
        exact (List.map_congr_left fun x _ => bs_chs x).trans (List.map_id xs)
      have hL : Bls (xs.map chs) := fun x h => by
        obtain ⟨y, _, rfl⟩ := List.mem_map.1 h
        exact bl_chs y
      have hLx : ∀ x ∈ xs.map chs, x.length ≤ 1048576 := fun x h => by
        obtain ⟨y, hy, rfl⟩ := List.mem_map.1 h
        rw [chs_len]
        exact h4 y hy
      have h7 := k7 w l (xs.map chs) (by omega) (by rw [List.length_map]; omega) hL hLx
      have h8 := k8 w l (xs.map chs) (by rw [List.length_map]; omega) hL hLx
      rw [hxs] at h7 h8
      rw [k3 l (by omega), k4 xs (by omega)]
      simp only [Option.bind_some]
      rw [h7, h8]
      simp only [Option.bind_some]
      rw [seq_chs, decide_eq_true rfl, k5 l (by omega), k6 xs (by omega)]
      rfl
  · rw [if_neg h1]
    rfl
end Go.Px.Seat
