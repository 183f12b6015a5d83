/- Own texts, part M2: PtI PtJ PtL PtM PtN PtO PtQ PtR PtS. -/
import Derived.Test.YthallaeafilbbaaGreatDoorM1
set_option linter.unusedVariables false

/- Lengths of words, signs, of both sides. Seat D. -/
namespace Go.Px.Seat
open Go Pm Pt
set_option linter.unusedVariables false
def prv (l : List Nat) (k : Nat) : Nat := if k = 0 then 0 else l.getD (k - 1) 0
theorem wlen_at {d : Bool} {l : List Nat} {k p : Nat} (h : k < l.length) : wlen d p (l.drop k) = if wc d p (l.getD k 0) then 1 + wlen d (l.getD k 0) (l.drop (k + 1)) else 0 := by
  rw [drop_cons h]; rfl
theorem k_wordLength : Ev fun n => ∀ l : List Nat, Bl l → l.length ≤ 100000 → c_i_wordLength ((C B0).run n) (bs l) = some ((wlen (digit (l.getD 0 0)) 0 l : Int), ()) := by
  refine (k_isLetter.and k_isFigure).succ fun n hn ⟨kl, kf⟩ l hl hb => ?_
  rw [run_succ, e_i_wordLength]
  unfold p_i_wordLength
  have hb0 : bt (bs l) 0 = ((l.getD 0 0 : Nat) : Int) := bs_bt hl 0
  obtain ⟨d, hd⟩ : ∃ d, d = digit (l.getD 0 0) := ⟨_, rfl⟩
  rw [← hd]
  refine iter_const (fun p => ∃ k : Nat, p = (((k : Int), (bs l, (0, ()))), ()) ∧ k ≤ l.length ∧ wlen d 0 l = k + wlen d (prv l k) (l.drop k)) (fun p => 100000 - p.1.1.toNat) _ ?_ n _ (by simp only; omega) ⟨0, rfl, Nat.zero_le _, by simp [prv]⟩
  rintro rec p ⟨k, rfl, hk, hw⟩ ih
  simp only
  rw [bs_len]
  by_cases h1 : k < l.length
  · rw [wlen_at h1] at hw
    rw [jb_of (p := ((wc d (prv l k) (l.getD k 0), ((k : Int), (bs l, (0, ())))), ())) (by
      rw [ilt_iff, decide_eq_true (show (k : Int) < l.length by omega), cond_true, ok_of (inB_true (by omega) (by omega)), bs_bt hl, kl]
      unfold wc
      simp only [Option.bind_some]
      cases letter (l.getD k 0) with
      | true => rfl
      | false =>
        simp only [cond_false, Bool.false_or]
        rw [ok_of (inB_true (by omega) (by omega)), kf]
        simp only [Option.bind_some]
        cases hdg : digit (l.getD k 0) with
        | true => rfl
        | false =>
          simp only [cond_false, Bool.false_or]
          rw [ok_of (inB_true (by omega) (by omega))]
          by_cases h46 : l.getD k 0 = 46
          · rw [h46]; rfl
          · rw [beq_f (show ¬ ((l.getD k 0 : Nat) : Int) = 46 by omega), show (l.getD k 0 == 46) = false from by simpa using h46]
            simp only [cond_false, Bool.false_or]
            rw [ok_of (inB_true (by omega) (by omega))]
            by_cases h45 : l.getD k 0 = 45
            · rw [show (((l.getD k 0 : Nat) : Int) == 45) = true from by rw [h45]; rfl, show (l.getD k 0 == 45) = true from by rw [h45]; rfl]
              simp only [cond_true, Bool.true_and]
              rw [ok_of (inB_true (by omega) (by omega)), hb0, kf, ← hd]
              simp only [Option.bind_some]
              cases d with
              | false => rfl
              | true =>
                have hk0 : k ≠ 0 := fun h => by rw [h, ← hd] at hdg; cases hdg
                simp only [cond_true, Bool.true_and]
                rw [isub_eq (by omega) (by omega), ok_of (inB_true (by omega) (by omega)), show (k : Int) - 1 = ((k - 1 : Nat) : Int) by omega, bs_bt hl]
                unfold prv
                rw [if_neg hk0]
                by_cases h101 : l.getD (k - 1) 0 = 101
                · rw [h101]; rfl
                · rw [beq_f (show ¬ ((l.getD (k - 1) 0 : Nat) : Int) = 101 by omega), show (l.getD (k - 1) 0 == 101) = false from by simpa using h101]
            · rw [beq_f (show ¬ ((l.getD k 0 : Nat) : Int) = 45 by omega), show (l.getD k 0 == 45) = false from by simpa using h45]
              rfl)]
    simp only
    cases hwc : wc d (prv l k) (l.getD k 0) with
    | true =>
      rw [hwc] at hw
      show rec (((iadd .i64 (k : Int) 1), (bs l, (0, ()))), ()) = _
      rw [iadd_eq (by omega) (by omega)]
      refine ih _ ⟨k + 1, by simp, by omega, ?_⟩ (by simp only; omega)
      rw [hw]
      simp only [if_true]
      unfold prv
      rw [if_neg (by omega), Nat.add_sub_cancel, Nat.add_assoc]
    | false =>
      rw [hwc] at hw
      rw [hw]
      simp
  · rw [ilt_iff, decide_eq_false (show ¬ (k : Int) < l.length by omega)]
    rw [show l.drop k = [] from List.drop_eq_nil_of_le (by omega)] at hw
    rw [hw]
    simp [wlen]
theorem k_l11End : Ev fun n => ∀ (l : List Nat) (a : Nat), Bl l → l.length ≤ 100000 → a < l.length → lod (l.getD a 0) = true → c_s_l11End ((C B0).run n) (bs l) (a : Int) = some (((a + wlen (digit (l.getD a 0)) 0 (l.drop a) : Nat) : Int), ()) := by
  refine (k_l11Letter.and k_l11Digit).succ fun n hn ⟨kl, kf⟩ l a hl hb ha hlod => ?_
  rw [run_succ, e_s_l11End]
  unfold p_s_l11End
  obtain ⟨d, hd⟩ : ∃ d, d = digit (l.getD a 0) := ⟨_, rfl⟩
  rw [← hd]
  have hw0 : wlen d 0 (l.drop a) = 1 + wlen d (l.getD a 0) (l.drop (a + 1)) := by
    rw [wlen_at ha, if_pos]
    unfold wc
    unfold lod at hlod
    cases h : letter (l.getD a 0) with
    | true => rfl
    | false => rw [h] at hlod; rw [show digit (l.getD a 0) = true from hlod]; rfl
  rw [iadd_eq (by omega) (by omega), show (a : Int) + 1 = ((a + 1 : Nat) : Int) by omega]
  refine iter_const (fun p => ∃ k : Nat, p = (((k : Int), (bs l, ((a : Int), (0, ())))), ()) ∧ a + 1 ≤ k ∧ k ≤ l.length ∧ a + wlen d 0 (l.drop a) = k + wlen d (l.getD (k - 1) 0) (l.drop k)) (fun p => 100000 - p.1.1.toNat) _ ?_ n _ (by simp only; omega) ⟨a + 1, rfl, Nat.le_refl _, ha, by rw [hw0, Nat.add_sub_cancel, Nat.add_assoc]⟩
  rintro rec p ⟨k, rfl, hak, hk, hw⟩ ih
  simp only
  rw [bs_len]
  by_cases h1 : k < l.length
  · rw [wlen_at h1] at hw
    rw [ilt_iff, decide_eq_true (show (k : Int) < l.length by omega), cond_true, ok_of (inB_true (by omega) (by omega)), bs_bt hl, kl]
    rw [jb_of (p := ((!(wc d (l.getD (k - 1) 0) (l.getD k 0)), ((k : Int), (bs l, ((a : Int), (0, ()))))), ())) (by
      unfold wc
      simp only [Option.bind_some]
      cases letter (l.getD k 0) with
      | true => rfl
      | false =>
        simp only [Bool.not_false, cond_true, Bool.false_or]
        rw [kf]
        simp only [Option.bind_some]
        cases hdg : digit (l.getD k 0) with
        | true => rfl
        | false =>
          simp only [Bool.not_false, cond_true, Bool.false_or]
          by_cases h46 : l.getD k 0 = 46
          · rw [h46]; rfl
          · rw [show (((l.getD k 0 : Nat) : Int) != 46) = true from by simp only [bne_iff_ne, ne_eq]; omega, show (l.getD k 0 == 46) = false from by simpa using h46]
            simp only [cond_true, Bool.false_or]
            by_cases h45 : l.getD k 0 = 45
            · rw [show (((l.getD k 0 : Nat) : Int) == 45) = true from by rw [h45]; rfl, show (l.getD k 0 == 45) = true from by rw [h45]; rfl]
              simp only [cond_true, Bool.true_and]
              rw [ok_of (inB_true (by omega) (by omega)), bs_bt hl, kf, ← hd]
              simp only [Option.bind_some]
              cases d with
              | false => rfl
              | true =>
                simp only [cond_true, Bool.true_and]
                rw [isub_eq (by omega) (by omega), ok_of (inB_true (by omega) (by omega)), show (k : Int) - 1 = ((k - 1 : Nat) : Int) by omega, bs_bt hl]
                by_cases h101 : l.getD (k - 1) 0 = 101
                · rw [h101]; rfl
                · rw [beq_f (show ¬ ((l.getD (k - 1) 0 : Nat) : Int) = 101 by omega), show (l.getD (k - 1) 0 == 101) = false from by simpa using h101]
            · rw [beq_f (show ¬ ((l.getD k 0 : Nat) : Int) = 45 by omega), show (l.getD k 0 == 45) = false from by simpa using h45]
              rfl)]
    simp only
    cases hwc : wc d (l.getD (k - 1) 0) (l.getD k 0) with
    | true =>
      rw [hwc] at hw
      show rec (((iadd .i64 (k : Int) 1), (bs l, ((a : Int), (0, ())))), ()) = _
      rw [iadd_eq (by omega) (by omega)]
      refine ih _ ⟨k + 1, by simp, by omega, by omega, ?_⟩ (by simp only; omega)
      rw [hw]
      simp only [if_true]
      rw [Nat.add_sub_cancel, Nat.add_assoc]
    | false =>
      rw [hwc] at hw
      rw [hw]
      simp
  · rw [ilt_iff, decide_eq_false (show ¬ (k : Int) < l.length by omega)]
    rw [show l.drop k = [] from List.drop_eq_nil_of_le (by omega)] at hw
    rw [hw]
    simp [wlen]
end Go.Px.Seat

/- Signs of both sides. Seat D. -/
namespace Go.Px.Seat
open Go Pm Pt
set_option linter.unusedVariables false
theorem sgn_len (l : List Nat) : (sgn l).length ≤ l.length ∧ (sgn l).length ≤ 2 := by
  unfold sgn
  split
  · simp
  · simp
  · split <;> simp
  · simp
theorem sgn_pre (l : List Nat) : l.take (sgn l).length = sgn l := by
  unfold sgn
  split
  · rfl
  · rfl
  · split <;> rfl
  · rfl
theorem sgn_two {l : List Nat} (h : l.take 2 = [60, 61] ∨ l.take 2 = [62, 61]) : sgn l = l.take 2 := by
  match l with
  | [] => simp at h
  | [a] => simp at h
  | a :: b :: r =>
    simp only [List.take_succ_cons, List.take_zero, List.cons.injEq, and_true] at h
    rcases h with ⟨rfl, rfl⟩ | ⟨rfl, rfl⟩ <;> rfl
theorem sgn_one {c : Nat} {r : List Nat} (h : ¬ ((c :: r).take 2 = [60, 61] ∨ (c :: r).take 2 = [62, 61])) : sgn (c :: r) = if c ∈ signs then [c] else [] := by
  unfold sgn
  split
  · rename_i h'; cases h'; exact absurd (.inl rfl) h
  · rename_i h'; cases h'; exact absurd (.inr rfl) h
  · rename_i h'; cases h'; rfl
  · rename_i h'; cases h'
theorem idx_signs (c : Nat) : (ile 0 (idx signs c)) = decide (c ∈ signs) := by
  unfold idx
  by_cases h : c ∈ signs
  · rw [if_pos h, decide_eq_true h, ile_iff, decide_eq_true (by omega)]
  · rw [if_neg h, decide_eq_false h]; rfl
theorem k_strIndexByte : Ev fun n => ∀ (l : List Nat) (c : Nat), Bl l → c < 256 → c_strings_IndexByte ((C B0).run n) (bs l) (c : Int) = some (idx l c, ()) := by
  refine k_ib.succ fun n hn h l c hl hc => ?_
  rw [run_succ, e_strings_IndexByte]
  unfold p_strings_IndexByte
  rw [h l c hl hc]
  rfl
theorem k_signOf : Ev fun n => ∀ l : List Nat, Bl l → l ≠ [] → c_i_signOf ((C B0).run n) (bs l) = some (bs (sgn l), ()) := by
  refine (k_hasPrefix.and k_strIndexByte).succ fun n hn ⟨kp, ki⟩ l hl h0 => ?_
  rw [run_succ, e_i_signOf]
  unfold p_i_signOf
  have hb0 : bt (bs l) 0 = ((l.getD 0 0 : Nat) : Int) := bs_bt hl 0
  have hp : 0 < l.length := List.length_pos_iff.2 h0
  rw [kp l [60, 61] hl (fun x hx => by simp at hx; omega), kp l [62, 61] hl (fun x hx => by simp at hx; omega)]
  have e1 : pre [60, 61] l = decide (l.take 2 = [60, 61]) := rfl
  have e2 : pre [62, 61] l = decide (l.take 2 = [62, 61]) := rfl
  rw [jb_of (p := ((decide (l.take 2 = [60, 61] ∨ l.take 2 = [62, 61]), (bs l, (bs [], ()))), ())) (by
    simp only [Option.bind_some]
    rw [e1, e2]
    by_cases h1 : l.take 2 = [60, 61]
    · rw [decide_eq_true (show l.take 2 = [60, 61] ∨ l.take 2 = [62, 61] from .inl h1), decide_eq_true h1]; rfl
    · rw [decide_eq_false h1, cond_false, decide_eq_decide.2 (show (l.take 2 = [60, 61] ∨ l.take 2 = [62, 61]) ↔ l.take 2 = [62, 61] from ⟨fun h => h.resolve_left h1, .inr⟩)])]
  simp only
  by_cases h : l.take 2 = [60, 61] ∨ l.take 2 = [62, 61]
  · have hl2 : 2 ≤ l.length := by
      have : (l.take 2).length = 2 := by rcases h with h | h <;> rw [h] <;> rfl
      rw [List.length_take] at this
      omega
    rw [decide_eq_true h, cond_true, bs_len, ok_of (sliceOk_true (by omega) (by omega) (by omega)), bs_sub, sgn_two h]
    rfl
  · rw [decide_eq_false h, cond_false, bs_len, ok_of (inB_true (by omega) (by omega)), hb0]
    match l, h0 with
    | c :: r, _ =>
      have hc : c < 256 := hl c (List.mem_cons_self ..)
      rw [sgn_one h]
      show (c_strings_IndexByte _ (bs signs) ((c : Nat) : Int)).bind _ = _
      rw [ki signs c (fun x hx => by simp [signs] at hx; omega) hc]
      simp only [Option.bind_some]
      rw [idx_signs]
      by_cases hm : c ∈ signs
      · rw [decide_eq_true hm, if_pos hm, cond_true, ok_of (sliceOk_true (by omega) (by omega) (by simp at hp ⊢; omega)), bs_sub]
        rfl
      · rw [decide_eq_false hm, if_neg hm]
        rfl
theorem take_two {l : List Nat} {a : Nat} (h : a + 1 < l.length) : (l.drop a).take 2 = [l.getD a 0, l.getD (a + 1) 0] := by
  rw [drop_cons (by omega), drop_cons h]
  rfl
theorem take_last {l : List Nat} {a : Nat} (h : a < l.length) (h' : ¬ a + 1 < l.length) : (l.drop a).take 2 = [l.getD a 0] := by
  rw [drop_cons h, List.drop_eq_nil_of_le (by omega)]
  rfl
theorem k_l11Sign : Ev fun n => ∀ (l : List Nat) (a : Nat), Bl l → l.length ≤ 100000 → a < l.length → c_s_l11Sign ((C B0).run n) (bs l) (a : Int) = some (bs (sgn (l.drop a)), ()) := by
  refine Ev.triv.succ fun n hn _ l a hl hb ha => ?_
  rw [run_succ, e_s_l11Sign]
  unfold p_s_l11Sign
  rw [iadd_eq (by omega) (by omega), bs_len]
  have b1 : bt (bs l) ((a : Int) + 1) = ((l.getD (a + 1) 0 : Nat) : Int) := by rw [show (a : Int) + 1 = ((a + 1 : Nat) : Int) by omega, bs_bt hl]
  rw [jb_of (p := ((decide ((l.drop a).take 2 = [60, 61] ∨ (l.drop a).take 2 = [62, 61]), (bs l, ((a : Int), (bs [], ())))), ())) (by
    rw [ilt_iff]
    by_cases h1 : a + 1 < l.length
    · rw [decide_eq_true (show (a : Int) + 1 < l.length by omega), cond_true, ok_of (inB_true (by omega) (by omega)), bs_bt hl, b1, take_two h1]
      simp only [List.cons.injEq, and_true]
      by_cases h60 : l.getD a 0 = 60
      · rw [show (((l.getD a 0 : Nat) : Int) == 60) = true from by rw [h60]; rfl, cond_true, ok_of (inB_true (by omega) (by omega)), h60]
        by_cases h61 : l.getD (a + 1) 0 = 61
        · rw [h61]; rfl
        · rw [beq_f (show ¬ ((l.getD (a + 1) 0 : Nat) : Int) = 61 by omega), decide_eq_false (by omega)]
      · rw [beq_f (show ¬ ((l.getD a 0 : Nat) : Int) = 60 by omega), cond_false, ok_of (inB_true (by omega) (by omega))]
        by_cases h62 : l.getD a 0 = 62
        · rw [show (((l.getD a 0 : Nat) : Int) == 62) = true from by rw [h62]; rfl, cond_true, ok_of (inB_true (by omega) (by omega)), h62]
          by_cases h61 : l.getD (a + 1) 0 = 61
          · rw [h61]; rfl
          · rw [beq_f (show ¬ ((l.getD (a + 1) 0 : Nat) : Int) = 61 by omega), decide_eq_false (by omega)]
        · rw [beq_f (show ¬ ((l.getD a 0 : Nat) : Int) = 62 by omega), decide_eq_false (by omega)]
          rfl
    · rw [decide_eq_false (show ¬ (a : Int) + 1 < l.length by omega), take_last ha h1, decide_eq_false (by simp)]
      rfl)]
  simp only
  by_cases h : (l.drop a).take 2 = [60, 61] ∨ (l.drop a).take 2 = [62, 61]
  · have hl2 : a + 2 ≤ l.length := by
      have : ((l.drop a).take 2).length = 2 := by rcases h with h | h <;> rw [h] <;> rfl
      rw [List.length_take, List.length_drop] at this
      omega
    rw [decide_eq_true h, cond_true, bs_len, iadd_eq (by omega) (by omega), ok_of (sliceOk_true (by omega) (by omega) (by omega)), bs_sub, sgn_two h]
    rw [Int.toNat_natCast, show ((a : Int) + 2).toNat = a + 2 by omega, List.drop_take, show a + 2 - a = 2 by omega]
  · rw [decide_eq_false h, cond_false, bs_len, ok_of (inB_true (by omega) (by omega)), bs_bt hl]
    rw [jb_of (p := ((decide (l.getD a 0 ∈ signs), (bs l, ((a : Int), (bs [], ())))), ())) (by
      have key : ∀ c : Nat, decide (c ∈ signs) = (decide (c = 43) || (decide (c = 45) || (decide (c = 42) || (decide (c = 47) || (decide (c = 94) || (decide (c = 40) || (decide (c = 41) || (decide (c = 44) || decide (c = 61))))))))) := fun c => by
        rw [Bool.eq_iff_iff]
        simp [signs]
      have eq : ∀ (c k : Nat), (((c : Nat) : Int) == ((k : Nat) : Int)) = decide (c = k) := fun c k => by
        by_cases h : c = k
        · rw [h]; simp
        · rw [decide_eq_false h, beq_f (by omega)]
      have e43 : (((l.getD a 0 : Nat) : Int) == 43) = decide (l.getD a 0 = 43) := eq (l.getD a 0) 43
      have e45 : (((l.getD a 0 : Nat) : Int) == 45) = decide (l.getD a 0 = 45) := eq (l.getD a 0) 45
      have e42 : (((l.getD a 0 : Nat) : Int) == 42) = decide (l.getD a 0 = 42) := eq (l.getD a 0) 42
      have e47 : (((l.getD a 0 : Nat) : Int) == 47) = decide (l.getD a 0 = 47) := eq (l.getD a 0) 47
      have e94 : (((l.getD a 0 : Nat) : Int) == 94) = decide (l.getD a 0 = 94) := eq (l.getD a 0) 94
      have e40 : (((l.getD a 0 : Nat) : Int) == 40) = decide (l.getD a 0 = 40) := eq (l.getD a 0) 40
      have e41 : (((l.getD a 0 : Nat) : Int) == 41) = decide (l.getD a 0 = 41) := eq (l.getD a 0) 41
      have e44 : (((l.getD a 0 : Nat) : Int) == 44) = decide (l.getD a 0 = 44) := eq (l.getD a 0) 44
      have e61 : (((l.getD a 0 : Nat) : Int) == 61) = decide (l.getD a 0 = 61) := eq (l.getD a 0) 61
      rw [key]
      rw [e43, e45, e42, e47, e94, e40, e41, e44, e61]
      cases decide (l.getD a 0 = 43) <;> cases decide (l.getD a 0 = 45) <;> cases decide (l.getD a 0 = 42) <;> cases decide (l.getD a 0 = 47) <;> cases decide (l.getD a 0 = 94) <;> cases decide (l.getD a 0 = 40) <;> cases decide (l.getD a 0 = 41) <;> cases decide (l.getD a 0 = 44) <;> rfl)]
    simp only
    rw [drop_cons ha] at h ⊢
    rw [sgn_one h]
    by_cases hm : l.getD a 0 ∈ signs
    · rw [decide_eq_true hm, if_pos hm, cond_true, bs_len, iadd_eq (by omega) (by omega), ok_of (sliceOk_true (by omega) (by omega) (by omega)), bs_sub, Int.toNat_natCast, show ((a : Int) + 1).toNat = a + 1 by omega, List.drop_take, show a + 1 - a = 1 by omega, drop_cons ha]
      rfl
    · rw [decide_eq_false hm, if_neg hm]
      rfl
end Go.Px.Seat

/- Tokens of a line: what stands behind # does not count; tokens written out are read again. Plain. -/
namespace Pt
abbrev ahead (l : List Nat) : List Nat := l.takeWhile (· != 35)
theorem ahead_cons {c : Nat} {r : List Nat} (h : c ≠ 35) : ahead (c :: r) = c :: ahead r := by
  unfold ahead
  rw [List.takeWhile_cons, if_pos (by simpa using h)]
theorem ahead_hash {r : List Nat} : ahead (35 :: r) = [] := rfl
theorem wlen_ahead {d : Bool} : ∀ (l : List Nat) (p : Nat), wlen d p (ahead l) = wlen d p l
  | [], _ => rfl
  | c :: r, p => by
    by_cases h : c = 35
    · subst h
      rw [ahead_hash, wlen, wlen, wc_end (.inr rfl)]; rfl
    · rw [ahead_cons h, wlen, wlen, wlen_ahead r c]
theorem ahead_drop : ∀ (l : List Nat) (k : Nat), k ≤ (ahead l).length → ahead (l.drop k) = (ahead l).drop k
  | _, 0, _ => rfl
  | [], k + 1, h => by simp at h
  | c :: r, k + 1, h => by
    by_cases hc : c = 35
    · subst hc; rw [ahead_hash] at h; simp at h
    · rw [ahead_cons hc] at h ⊢
      rw [List.drop_succ_cons, List.drop_succ_cons]
      exact ahead_drop r k (by simpa using h)
theorem ahead_take : ∀ (l : List Nat) (k : Nat), k ≤ (ahead l).length → (ahead l).take k = l.take k
  | _, 0, _ => rfl
  | [], k + 1, h => rfl
  | c :: r, k + 1, h => by
    by_cases hc : c = 35
    · subst hc; rw [ahead_hash] at h; simp at h
    · rw [ahead_cons hc] at h ⊢
      rw [List.take_succ_cons, List.take_succ_cons, ahead_take r k (by simpa using h)]
theorem sgn_cons (c : Nat) (r : List Nat) : sgn (c :: r) = if (c = 60 ∨ c = 62) ∧ r.head? = some 61 then [c, 61] else if c ∈ signs then [c] else [] := by
  unfold sgn
  split
  · rename_i h; cases h; simp
  · rename_i h; cases h; simp
  · rename_i c' r' h1 h2 h3
    cases h3
    have hno : ¬ ((c = 60 ∨ c = 62) ∧ r.head? = some 61) := by
      rintro ⟨h, h'⟩
      cases r with
      | nil => cases h'
      | cons x s =>
        simp only [List.head?_cons, Option.some.injEq] at h'
        subst h'
        rcases h with h | h
        · exact h1 s h rfl
        · exact h2 s h rfl
    rw [if_neg hno]
  · rename_i h; cases h
theorem sgn_ahead (l : List Nat) : sgn (ahead l) = sgn l := by
  match l with
  | [] => rfl
  | c :: r =>
    by_cases hc : c = 35
    · subst hc
      rw [ahead_hash, sgn_cons, if_neg (by omega), if_neg (by decide)]
      rfl
    · rw [ahead_cons hc, sgn_cons, sgn_cons]
      have : (ahead r).head? = some 61 ↔ r.head? = some 61 := by
        match r with
        | [] => exact Iff.rfl
        | x :: s =>
          by_cases hx : x = 35
          · subst hx; rw [ahead_hash]; simp
          · rw [ahead_cons hx]; simp
      simp only [this]
theorem one_ahead {c : Nat} {r : List Nat} (h : c ≠ 35) : one (ahead (c :: r)) = one (c :: r) := by
  unfold one
  have e : (ahead (c :: r)).getD 0 0 = (c :: r).getD 0 0 := by rw [ahead_cons h]; rfl
  have hw : wlen (digit ((c :: r).getD 0 0)) 0 (ahead (c :: r)) ≤ (ahead (c :: r)).length := wlen_le' _ _
  simp only [e, sgn_ahead]
  rw [ahead_take _ _ hw, wlen_ahead]
theorem one_len {l : List Nat} {t : Tok} (h : one l = some t) : 1 ≤ t.2.length ∧ t.2.length ≤ l.length := by
  unfold one at h
  simp only at h
  split at h
  · rename_i hc
    have hp := wlen_pos hc
    have hle := wlen_le' (d := digit (l.getD 0 0)) l 0
    have key : (l.take (wlen (digit (l.getD 0 0)) 0 l)).length = wlen (digit (l.getD 0 0)) 0 l := by rw [List.length_take]; omega
    split at h
    · cases h; exact ⟨by rw [key]; exact hp, by rw [key]; exact hle⟩
    · split at h
      · cases h; exact ⟨by rw [key]; exact hp, by rw [key]; exact hle⟩
      · cases h
  · split at h
    · cases h
    · rename_i hs
      cases h
      refine ⟨List.length_pos_iff.2 hs, ?_⟩
      unfold sgn
      split
      · simp
      · simp
      · split <;> simp
      · simp
theorem toks_ahead : ∀ (f : Nat) (l : List Nat), toks f (ahead l) = toks f l
  | 0, _ => rfl
  | f + 1, [] => rfl
  | f + 1, c :: r => by
    by_cases h : c = 35
    · subst h; rfl
    · have e1 := one_ahead (r := r) h
      rw [ahead_cons h] at e1 ⊢
      rw [toks, toks, if_neg h, if_neg h, e1, toks_ahead f r]
      split
      · rfl
      · cases ho : one (c :: r) with
        | none => rfl
        | some t =>
          have hl := (one_len (e1.trans ho)).2
          rw [← ahead_cons h] at hl ⊢
          simp only
          rw [← ahead_drop _ _ hl, toks_ahead f]
def again : List Tok → List Nat → List Nat
  | [], r => 35 :: r
  | t :: ts, r => t.2 ++ 32 :: 32 :: again ts r
end Pt

/- The program's tokens. Seat D. -/
namespace Go.Px.Seat
open Go Pm Pt
set_option linter.unusedVariables false
def enc (t : Tok) : Int × (ByteArray × Unit) := ((t.1 : Int), (bs t.2, ()))
def badTok (t : Tok) : Bool := decide (t.1 = 2) && !(num t.2 && decide (t.2.length ≤ 60))
def resI (b : Bool) (acc : List Tok) : Option (List Tok) → List (Int × (ByteArray × Unit)) × (Int × Unit)
  | none => ([], (2, ()))
  | some ts => if (b || ts.any badTok) = true then ([], (3, ())) else if 300 < (acc ++ ts).length then ([], (5, ())) else ((acc ++ ts).map enc, (0, ()))
theorem ite_bool {α : Type} {a b : Bool} (h : a = b) (x y : α) : (if a = true then x else y) = if b = true then x else y := by subst h; rfl
theorem resI_cons (b : Bool) (acc : List Tok) (t : Tok) (o : Option (List Tok)) : resI b acc (o.map (t :: ·)) = resI (b || badTok t) (acc ++ [t]) o := by
  cases o with
  | none => rfl
  | some ts => simp only [Option.map_some, resI, List.any_cons, List.append_assoc, List.singleton_append]; exact ite_bool (Bool.or_assoc _ _ _).symm _ _
theorem k_clip : Ev fun n => ∀ l : List (Int × (ByteArray × Unit)), c_slices_Clip_impl_LangToken_impl_LangToken ((C B0).run n) l = some (l, ()) := by
  refine Ev.triv.succ fun n hn _ l => ?_
  rw [run_succ, e_slices_Clip_impl_LangToken_impl_LangToken]
  unfold p_slices_Clip_impl_LangToken_impl_LangToken
  rw [len_eq, ok_of (by rw [sliceOk_true (by omega) (by omega) (by omega), ile_iff]; simp), Int.toNat_natCast, List.take_of_length_le (Nat.le_refl _)]
  rfl
theorem k_iTokens : Ev fun n => ∀ l : List Nat, Bl l → l.length ≤ 100000 → c_i_LangTokens ((C B0).run n) (bs l) = some (if 1000 < l.length then ([], (1, ())) else resI false [] (toks l.length l)) := by
  refine (k_cut.and (k_signOf.and (k_isLetter.and (k_isFigure.and (k_wordLength.and (k_iNumOk.and (k_wordOk.and k_clip))))))).succ fun n hn ⟨kc, ks, kl, kf, kw, kn, ko, kp⟩ l hl hb => ?_
  rw [run_succ, e_i_LangTokens]
  unfold p_i_LangTokens
  rw [bs_len, ilt_iff, decide_eq_decide.2 (show (1000 : Int) < l.length ↔ 1000 < l.length by omega)]
  by_cases h1000 : 1000 < l.length
  · rw [decide_eq_true h1000, if_pos h1000]; rfl
  · rw [decide_eq_false h1000, if_neg h1000, cond_false, kc l 35 hl (by decide) hb]
    simp only [Option.bind_some]
    rw [← toks_ahead]
    have hR : (cutAt 35 l).1 = Pt.ahead l := rfl
    rw [hR]
    have hRl : (Pt.ahead l).length ≤ l.length := tw_le (p := (· != 35)) l
    have hRb : Bl (Pt.ahead l) := fun x hx => hl x ((List.takeWhile_sublist _).subset hx)
    have hRh : ∀ x ∈ Pt.ahead l, x ≠ 35 := fun x hx => by simpa using takeWhile_all x hx
    refine iter_const (fun p => ∃ (f : Nat) (R : List Nat) (b : Bool) (acc : List Tok), p = ((bs R, (b, ((), ((), (0, ()))))), (acc.map enc, ())) ∧ (∀ x ∈ R, x ≠ 35) ∧ Bl R ∧ R.length ≤ f ∧ acc.length + R.length ≤ 1000 ∧ resI b acc (toks f R) = resI false [] (toks l.length (Pt.ahead l))) (fun p => p.1.1.size) _ ?_ n _ (by simp only; rw [bs_size]; omega) ⟨l.length, Pt.ahead l, false, [], rfl, hRh, hRb, hRl, by simp only [List.length_nil]; omega, rfl⟩
    rintro rec p ⟨f, R, b, acc, rfl, h35, hRB, hf, hacc, hres⟩ ih
    rw [← hres]
    simp only
    cases hRc : R with
    | nil =>
      subst hRc
      rw [bs_seq (fun x hx => by cases hx) (fun x hx => by cases hx)]
      have ht : toks f [] = some [] := by cases f <;> rfl
      rw [ht]
      show (bif b then _ else _) = _
      unfold resI
      simp only [List.any_nil, Bool.or_false, List.append_nil]
      cases b with
      | true => rfl
      | false =>
        simp only [cond_false, Bool.false_eq_true, if_false]
        rw [len_eq, List.length_map, ilt_iff]
        by_cases h3 : 300 < acc.length
        · rw [decide_eq_true (show (300 : Int) < acc.length by omega), if_pos h3]; rfl
        · rw [decide_eq_false (show ¬ (300 : Int) < acc.length by omega), if_neg h3, cond_false, kp]; rfl
    | cons c r =>
      subst hRc
      have hc35 : c ≠ 35 := h35 c (List.mem_cons_self ..)
      have hb0 : bt (bs (c :: r)) 0 = ((c : Nat) : Int) := bs_bt hRB 0
      rw [bs_seq hRB (fun x hx => by cases hx), decide_eq_false (by simp), Bool.not_false, cond_true, bs_len, ok_of (inB_true (by omega) (by simp only [List.length_cons]; omega)), hb0]
      obtain ⟨f, rfl⟩ : ∃ g, f = g + 1 := ⟨f - 1, by simp only [List.length_cons] at hf; omega⟩
      have htk : toks (f + 1) (c :: r) = if c = 32 then toks f r else match one (c :: r) with
          | none => none
          | some t => (toks f ((c :: r).drop t.2.length)).map (t :: ·) := by
        rw [toks, if_neg hc35] <;>
        rfl
      have h35r : ∀ x ∈ r, x ≠ 35 := fun x hx => h35 x (List.mem_cons_of_mem _ hx)
      by_cases h32 : c = 32
      · rw [htk, if_pos h32, show (((c : Nat) : Int) == 32) = true from by rw [h32]; rfl, cond_true, ok_of (sliceOk_true (by omega) (by simp only [List.length_cons]; omega) (by omega)), bs_sub]
        have hre : List.drop (Int.toNat 1) (List.take (Int.toNat (((c :: r).length : Nat) : Int)) (c :: r)) = r := by
          rw [Int.toNat_natCast, List.take_of_length_le (Nat.le_refl _)]; rfl
        rw [hre]
        have e : resI b acc (toks f r) = resI false [] (toks l.length (Pt.ahead l)) := by rw [← hres, htk, if_pos h32]
        rw [e]
        refine ih _ ⟨f, r, b, acc, rfl, h35r, fun x hx => hRB x (List.mem_cons_of_mem _ hx), by simpa using hf, by simp only [List.length_cons] at hacc; omega, e⟩ ?_
        simp only
        rw [bs_size, bs_size]
        exact Nat.lt_succ_self _
      · rw [show (((c : Nat) : Int) == 32) = false from beq_f (by omega), cond_false, ks (c :: r) hRB (by simp)]
        simp only [Option.bind_some]
        have hlb : (c :: r).length ≤ 1000 := by omega
        -- the round behind the token's making
        have fin : ∀ (t : Tok) (b' : Bool), one (c :: r) = some t → b' = (b || badTok t) → rec ((bs ((c :: r).drop t.2.length), (b', ((), ((), (0, ()))))), ((acc ++ [t]).map enc, ())) = some (resI b acc (toks (f + 1) (c :: r))) := by
          intro t b' ho hb'
          have hl1 := one_len ho
          have e1 : toks (f + 1) (c :: r) = (toks f ((c :: r).drop t.2.length)).map (t :: ·) := by rw [htk, if_neg h32, ho]
          have e2 : resI b' (acc ++ [t]) (toks f ((c :: r).drop t.2.length)) = resI b acc (toks (f + 1) (c :: r)) := by rw [e1, resI_cons, hb']
          rw [hres]
          refine ih _ ⟨f, _, b', acc ++ [t], rfl, fun x hx => h35 x (List.mem_of_mem_drop hx), bl_drop hRB _, by rw [List.length_drop]; omega, by rw [List.length_drop, List.length_append, List.length_singleton]; omega, by rw [e2, hres]⟩ ?_
          simp only
          rw [bs_size, bs_size, List.length_drop]
          omega
        obtain ⟨W, hW⟩ : ∃ W, W = wlen (digit c) 0 (c :: r) := ⟨_, rfl⟩
        have hWl : W ≤ (c :: r).length := by rw [hW]; exact wlen_le' _ _
        obtain ⟨K, hK⟩ : ∃ K : Nat, K = if digit c = true then 2 else if letter c = true then 1 else 3 := ⟨_, rfl⟩
        obtain ⟨X, hX⟩ : ∃ X : List Nat, X = if (letter c || digit c) = true then (c :: r).take W else sgn (c :: r) := ⟨_, rfl⟩
        obtain ⟨b', hb'⟩ : ∃ b', b' = if digit c = true then (b || !(num X && decide (X.length ≤ 60))) else b := ⟨_, rfl⟩
        have hld : digit c = true → letter c = false := fun h => by
          have := digit_iff.1 h
          cases hl' : letter c with
          | false => rfl
          | true => have := letter_iff.1 hl'; omega
        have hXB : Bl X := by
          rw [hX]
          split
          · exact bl_take hRB _
          · rw [← sgn_pre (c :: r)]; exact bl_take hRB _
        have hXl : X.length ≤ (c :: r).length := by
          rw [hX]
          split
          · rw [List.length_take]; omega
          · exact (sgn_len (c :: r)).1
        have hT : ByteArray.extract (bs (c :: r)) (Int.toNat 0) (Int.toNat (W : Int)) = bs ((c :: r).take W) := by
          rw [bs_sub, Int.toNat_natCast]; rfl
        rw [jb_of (p := (((), ((), (bs (c :: r), (b', ((), (0, ())))))), ((((K : Nat) : Int), (bs X, ())), (acc.map enc, ())))) (by
          rw [jb_of (p := (((letter c || digit c), (bs (c :: r), ((), (b, ((), ((), (0, ()))))))), ((3, (bs (sgn (c :: r)), ())), (acc.map enc, ())))) (by
            rw [ok_of (inB_true (by omega) (by simp only [List.length_cons]; omega)), kl c]
            simp only [Option.bind_some]
            cases letter c with
            | true => rfl
            | false =>
              simp only [cond_false, Bool.false_or]
              rw [ok_of (inB_true (by omega) (by simp only [List.length_cons]; omega)), kf c]
              rfl)]
          simp only
          cases hlod : (letter c || digit c) with
          | false =>
            rw [hlod] at hX
            rw [Bool.or_eq_false_iff] at hlod
            rw [hlod.1, hlod.2] at hK
            rw [hlod.2] at hb'
            rw [hK, hX, hb']
            rfl
          | true =>
            rw [hlod, if_pos rfl] at hX
            rw [cond_true, kw (c :: r) hRB (by omega)]
            simp only [Option.bind_some, List.getD_cons_zero]
            rw [← hW, bs_len, ok_of (sliceOk_true (by omega) (by omega) (by omega)), ok_of (inB_true (by omega) (by simp only [List.length_cons]; omega)), hb0, kf c, hT, ← hX]
            simp only [Option.bind_some]
            cases hdc : digit c with
            | true =>
              rw [hdc, if_pos rfl] at hK hb'
              rw [cond_true, hK, hb']
              cases b with
              | true => rfl
              | false =>
                rw [cond_false, kn X hXB (by omega)]
                rfl
            | false =>
              rw [hdc] at hlod hK hb'
              rw [Bool.or_false] at hlod
              rw [hlod] at hK
              rw [hK, hb']
              rfl)]
        simp only
        rw [jb_of (p := (((decide (X = []) || (decide (K = 1) && !plain X)), ((), ((), (bs (c :: r), (b', ((), (0, ()))))))), (acc.map enc, ((((K : Nat) : Int), (bs X, ())), ())))) (by
          rw [bs_seq hXB (fun x hx => by cases hx)]
          by_cases h0 : X = []
          · rw [decide_eq_true h0]; rfl
          · rw [decide_eq_false h0, cond_false]
            by_cases h1 : K = 1
            · rw [show (((K : Nat) : Int) == 1) = true from by rw [h1]; rfl, cond_true, ko X hXB (by omega), decide_eq_true h1]; rfl
            · rw [beq_f (show ¬ ((K : Nat) : Int) = 1 by omega), decide_eq_false h1]; rfl)]
        simp only
        have hone : one (c :: r) = if (decide (X = []) || (decide (K = 1) && !plain X)) = true then none else some (K, X) := by
          unfold one
          simp only [List.getD_cons_zero]
          rw [← hW]
          have hT0 : (letter c || digit c) = true → (c :: r).take W ≠ [] := fun h h' => by
            have hp := wlen_pos (l := c :: r) h
            have hp : 1 ≤ W := by rw [hW]; exact hp
            have := congrArg List.length h'
            rw [List.length_take] at this
            simp only [List.length_cons, List.length_nil] at this
            omega
          cases hdc : digit c with
          | true =>
            rw [hdc, if_pos rfl] at hK
            rw [hdc, Bool.or_true, if_pos rfl] at hX
            rw [hdc, Bool.or_true] at hT0
            rw [hK, hX, Bool.or_true, if_pos rfl, if_pos rfl, decide_eq_false (hT0 rfl)]
            rfl
          | false =>
            rw [hdc] at hK hX hT0
            cases hlc : letter c with
            | true =>
              rw [hlc] at hK hX hT0
              have hX : X = (c :: r).take W := hX
              have hK : K = 1 := hK
              rw [hK, hX, decide_eq_false (hT0 rfl)]
              cases plain ((c :: r).take W) <;> rfl
            | false =>
              rw [hlc] at hK hX
              have hX : X = sgn (c :: r) := hX
              have hK : K = 3 := hK
              rw [hK, hX]
              by_cases h0 : sgn (c :: r) = []
              · rw [decide_eq_true h0]; simp [h0]
              · rw [decide_eq_false h0]; simp [h0]
        have hbt : b' = (b || badTok (K, X)) := by
          unfold badTok
          cases hdc : digit c with
          | true =>
            rw [hdc, if_pos rfl] at hK hb'
            rw [hb', hK]
            rfl
          | false =>
            rw [hdc] at hK hb'
            have hb' : b' = b := hb'
            have : K ≠ 2 := by
              rw [hK]
              cases letter c <;> decide
            rw [hb', decide_eq_false this]
            simp
        cases hv : (decide (X = []) || (decide (K = 1) && !plain X)) with
        | true =>
          rw [hv, if_pos rfl] at hone
          rw [htk, if_neg h32, hone]
          rfl
        | false =>
          rw [hv] at hone
          simp only [Bool.false_eq_true, if_false] at hone
          have := fin (K, X) b' hone hbt
          rw [cond_false, ok_of (aok_true (by rw [List.length_append, List.length_map, List.length_singleton]; omega)), bs_len, bs_len, ok_of (sliceOk_true (by omega) (by omega) (by omega)), bs_sub, Int.toNat_natCast, Int.toNat_natCast, List.take_of_length_le (Nat.le_refl _)]
          rw [← this, List.map_append]
          rfl
end Go.Px.Seat

/- The reference's tokens. Seat D. -/
namespace Go.Px.Seat
open Go Pm Pt
set_option linter.unusedVariables false
def bad3 (b : Bool) : Int := if b = true then 3 else 0
theorem k_sTokens : Ev fun n => ∀ l : List Nat, Bl l → l.length ≤ 100000 → c_s_LangTokens ((C B0).run n) (bs l) = some (if 1000 < l.length then ([], (1, ())) else resI false [] (toks l.length l)) := by
  refine (k_l11Letter.and (k_l11Digit.and (k_l11End.and (k_sNumOk.and (k_plain.and k_l11Sign))))).succ fun n hn ⟨kl, kf, ke, kn, kp, ks⟩ l hl hb => ?_
  rw [run_succ, e_s_LangTokens]
  unfold p_s_LangTokens
  rw [bs_len, ilt_iff, decide_eq_decide.2 (show (1000 : Int) < l.length ↔ 1000 < l.length by omega)]
  by_cases h1000 : 1000 < l.length
  · rw [decide_eq_true h1000, if_pos h1000]; rfl
  · rw [decide_eq_false h1000, if_neg h1000, cond_false]
    refine iter_const (fun p => ∃ (f a : Nat) (b : Bool) (acc : List Tok), p = (((a : Int), (bs l, (bad3 b, ((), ((), (0, ())))))), (acc.map enc, ())) ∧ a ≤ l.length ∧ l.length - a ≤ f ∧ acc.length + (l.length - a) ≤ 1000 ∧ resI b acc (toks f (l.drop a)) = resI false [] (toks l.length l)) (fun p => 100000 - p.1.1.toNat) _ ?_ n _ (by simp only; omega) ⟨l.length, 0, false, [], rfl, Nat.zero_le _, Nat.le_refl _, by simp only [List.length_nil]; omega, rfl⟩
    rintro rec p ⟨f, a, b, acc, rfl, ha, hf, hacc, hres⟩ ih
    rw [← hres]
    simp only
    rw [jb_of (p := ((decide (a < l.length ∧ l.getD a 0 ≠ 35), (bs l, ((a : Int), (bad3 b, ((), ((), (0, ()))))))), (acc.map enc, ()))) (by
      rw [bs_len, ilt_iff]
      by_cases h1 : a < l.length
      · rw [decide_eq_true (show (a : Int) < l.length by omega), cond_true, ok_of (inB_true (by omega) (by omega)), bs_bt hl]
        by_cases h2 : l.getD a 0 = 35
        · rw [h2, decide_eq_false (fun h => h.2 rfl)]; rfl
        · rw [decide_eq_true ⟨h1, h2⟩, show (((l.getD a 0 : Nat) : Int) != 35) = true from by simp only [bne_iff_ne, ne_eq]; omega]
      · rw [decide_eq_false (show ¬ (a : Int) < l.length by omega), decide_eq_false (fun h => h1 h.1)]; rfl)]
    simp only
    by_cases hgo : a < l.length ∧ l.getD a 0 ≠ 35
    · obtain ⟨h1, h35⟩ := hgo
      rw [decide_eq_true ⟨h1, h35⟩, cond_true, bs_len, ok_of (inB_true (by omega) (by omega)), bs_bt hl]
      have hdc := drop_cons h1
      obtain ⟨f, rfl⟩ : ∃ g, f = g + 1 := ⟨f - 1, by omega⟩
      have htk : toks (f + 1) (l.drop a) = if l.getD a 0 = 32 then toks f (l.drop (a + 1)) else match one (l.drop a) with
          | none => none
          | some t => (toks f ((l.drop a).drop t.2.length)).map (t :: ·) := by
        rw [hdc, toks, if_neg h35] <;>
        rfl
      by_cases h32 : l.getD a 0 = 32
      · rw [htk, if_pos h32, show (((l.getD a 0 : Nat) : Int) == 32) = true from by rw [h32]; rfl, cond_true, iadd_eq (by omega) (by omega)]
        have e : resI b acc (toks f (l.drop (a + 1))) = resI false [] (toks l.length l) := by rw [← hres, htk, if_pos h32]
        rw [e]
        exact ih _ ⟨f, a + 1, b, acc, by simp, by omega, by omega, by omega, e⟩ (by simp only; omega)
      · rw [beq_f (show ¬ ((l.getD a 0 : Nat) : Int) = 32 by omega), cond_false]
        obtain ⟨c, hc⟩ : ∃ c, c = l.getD a 0 := ⟨_, rfl⟩
        rw [← hc]
        have hg0 : (l.drop a).getD 0 0 = c := by rw [hdc, hc]; rfl
        have hRl : (l.drop a).length = l.length - a := List.length_drop
        have fin : ∀ (t : Tok) (b' : Bool), one (l.drop a) = some t → b' = (b || badTok t) → rec ((((a + t.2.length : Nat) : Int), (bs l, (bad3 b', ((), ((), (0, ())))))), ((acc ++ [t]).map enc, ())) = some (resI b acc (toks (f + 1) (l.drop a))) := by
          intro t b' ho hb'
          have hl1 := one_len ho
          have e1 : toks (f + 1) (l.drop a) = (toks f ((l.drop a).drop t.2.length)).map (t :: ·) := by rw [htk, if_neg h32, ho]
          have e2 : resI b' (acc ++ [t]) (toks f (l.drop (a + t.2.length))) = resI b acc (toks (f + 1) (l.drop a)) := by rw [e1, resI_cons, hb', List.drop_drop]
          rw [hres]
          refine ih _ ⟨f, _, b', acc ++ [t], rfl, by omega, by omega, by rw [List.length_append, List.length_singleton]; omega, by rw [e2, hres]⟩ ?_
          simp only
          omega
        obtain ⟨W, hW⟩ : ∃ W, W = wlen (digit c) 0 (l.drop a) := ⟨_, rfl⟩
        have hWl : W ≤ (l.drop a).length := by rw [hW]; exact wlen_le' _ _
        obtain ⟨X, hX⟩ : ∃ X : List Nat, X = (l.drop a).take W := ⟨_, rfl⟩
        have hXB : Bl X := by rw [hX]; exact bl_take (bl_drop hl _) _
        have hXl : X.length = W := by rw [hX, List.length_take]; omega
        have hone : one (l.drop a) = if (letter c || digit c) = true then (if digit c = true then some (2, X) else if plain X = true then some (1, X) else none) else if sgn (l.drop a) = [] then none else some (3, sgn (l.drop a)) := by
          unfold one
          simp only
          rw [hg0, ← hW, ← hX]
        rw [jb_of (p := (((letter c || digit c), (bs l, ((a : Int), ((c : Int), (bad3 b, ((), ((), (0, ())))))))), (acc.map enc, ()))) (by
          rw [kl]
          simp only [Option.bind_some]
          cases letter c with
          | true => rfl
          | false =>
            simp only [cond_false, Bool.false_or]
            rw [kf]
            rfl)]
        simp only
        cases hlod : (letter c || digit c) with
        | true =>
          rw [hlod, if_pos rfl] at hone
          rw [cond_true, ke l a hl hb h1 (by unfold lod; rw [← hc]; exact hlod), ← hc, ← hW]
          simp only [Option.bind_some]
          have hex : ByteArray.extract (bs l) (Int.toNat (a : Int)) (Int.toNat ((a + W : Nat) : Int)) = bs X := by
            rw [bs_sub, Int.toNat_natCast, Int.toNat_natCast, List.drop_take, show a + W - a = W by omega, hX]
          rw [bs_len, ok_of (sliceOk_true (by omega) (by omega) (by omega)), hex, kf]
          simp only [Option.bind_some]
          cases hdg : digit c with
          | true =>
            rw [hdg, if_pos rfl] at hone
            rw [cond_true, jb_of (p := (((), ((), (((a + W : Nat) : Int), (bs l, ((a : Int), (bad3 (b || !(num X && decide (X.length ≤ 60))), ((), (0, ())))))))), (acc.map enc, ((2, (bs X, ())), ())))) (by
              rw [jb_of (p := (((!b && !(num X && decide (X.length ≤ 60))), ((), ((), (((a + W : Nat) : Int), (bs l, ((a : Int), (bad3 b, ((), (0, ()))))))))), (acc.map enc, ((2, (bs X, ())), ())))) (by
                cases b with
                | true => rfl
                | false =>
                  show (c_s_LangNumOk _ (bs X)).bind _ = _
                  rw [kn X hXB (by omega), ← num_rnum]
                  rfl)]
              simp only
              cases b with
              | true => rfl
              | false => cases hq : (num X && decide (X.length ≤ 60)) <;> rfl)]
            simp only
            rw [ok_of (aok_true (by rw [List.length_append, List.length_map, List.length_singleton]; omega))]
            have := fin (2, X) (b || !(num X && decide (X.length ≤ 60))) hone rfl
            rw [← this, List.map_append, hXl]
            rfl
          | false =>
            rw [hdg] at hone
            simp only [Bool.false_eq_true, if_false] at hone
            rw [cond_false, kp X hXB (by omega)]
            simp only [Option.bind_some]
            cases hp : plain X with
            | true =>
              rw [hp, if_pos rfl] at hone
              rw [Bool.not_true, cond_false, jb_inr]
              simp only
              rw [ok_of (aok_true (by rw [List.length_append, List.length_map, List.length_singleton]; omega))]
              have := fin (1, X) b hone (by unfold badTok; simp)
              rw [← this, List.map_append, hXl]
              rfl
            | false =>
              rw [hp] at hone
              simp only [Bool.false_eq_true, if_false] at hone
              rw [htk, if_neg h32, hone]
              rfl
        | false =>
          rw [hlod] at hone
          simp only [Bool.false_eq_true, if_false] at hone
          rw [cond_false, ks l a hl hb h1]
          simp only [Option.bind_some]
          have hsB : Bl (sgn (l.drop a)) := by rw [← sgn_pre (l.drop a)]; exact bl_take (bl_drop hl _) _
          rw [bs_seq hsB (fun x hx => by cases hx)]
          by_cases h0 : sgn (l.drop a) = []
          · rw [if_pos h0] at hone
            rw [decide_eq_true h0, htk, if_neg h32, hone]
            rfl
          · rw [if_neg h0] at hone
            have hsl := (sgn_len (l.drop a)).1
            rw [decide_eq_false h0, cond_false, ok_of (aok_true (by rw [List.length_append, List.length_map, List.length_singleton]; omega)), bs_len, iadd_eq (by omega) (by omega)]
            have := fin (3, sgn (l.drop a)) b hone (by unfold badTok; simp)
            rw [← this, List.map_append, Int.natCast_add]
            rfl
    · have ht : toks f (l.drop a) = some [] := by
        by_cases h1 : a < l.length
        · have h2 : l.getD a 0 = 35 := by
            by_cases h : l.getD a 0 = 35
            · exact h
            · exact absurd ⟨h1, h⟩ hgo
          obtain ⟨g, rfl⟩ : ∃ g, f = g + 1 := ⟨f - 1, by omega⟩
          rw [drop_cons h1, h2]; rfl
        · rw [List.drop_eq_nil_of_le (by omega)]
          cases f <;> rfl
      rw [decide_eq_false hgo, cond_false, ht]
      unfold resI bad3
      simp only [List.any_nil, Bool.or_false, List.append_nil]
      cases b with
      | true => rfl
      | false =>
        simp only [Bool.false_eq_true, if_false]
        rw [len_eq, List.length_map, ilt_iff]
        show (bif decide ((300 : Int) < acc.length) then _ else _) = _
        by_cases h3 : 300 < acc.length
        · rw [decide_eq_true (show (300 : Int) < acc.length by omega), if_pos h3]; rfl
        · rw [decide_eq_false (show ¬ (300 : Int) < acc.length by omega), if_neg h3]; rfl
end Go.Px.Seat

/- Rules for calls that come to something. -/
namespace Go.Px
open Go Pm
/-- It comes to something of which Q holds. -/
def Tot {R : Type} (x : Option R) (Q : R → Prop) : Prop := ∃ r, x = some r ∧ Q r
section
variable {R P α : Type} {Q : R → Prop}
theorem tot_some {r : R} (h : Q r) : Tot (some r) Q := ⟨r, rfl, h⟩
theorem tot_ok {c : Bool} {x : Option R} (hc : c = true) (h : Tot x Q) : Tot (ok c x) Q := by rw [ok_of hc]; exact h
theorem tot_if {c : Bool} {x y : Option R} (h1 : c = true → Tot x Q) (h2 : c = false → Tot y Q) : Tot (bif c then x else y) Q := by
  cases c with
  | true => exact h1 rfl
  | false => exact h2 rfl
theorem tot_eq {x : Option α} {a : α} {f : α → Option R} (h : x = some a) (h' : Tot (f a) Q) : Tot (x.bind f) Q := by rw [h]; exact h'
theorem tot_bind {x : Option α} {f : α → Option R} (I : α → Prop) (h : Tot x I) (h' : ∀ a, I a → Tot (f a) Q) : Tot (x.bind f) Q := by
  obtain ⟨a, h1, h2⟩ := h
  rw [h1]; exact h' a h2
theorem tot_jb {x : Option (R ⊕ P)} {f : P → Option R} (I : P → Prop) (h : Tot x (fun s => match s with | .inl r => Q r | .inr p => I p)) (h' : ∀ p, I p → Tot (f p) Q) : Tot (jb x f) Q := by
  obtain ⟨s, h1, h2⟩ := h
  rw [h1]
  cases s with
  | inl r => exact ⟨r, rfl, h2⟩
  | inr p => exact h' p h2
theorem tot_iter {F : (P → Option R) → P → Option R} {n : Nat} {p : P} (I : P → Prop) (m : P → Nat) (hm : m p < n) (hI : I p)
    (step : ∀ rec p, I p → (∀ q, I q → m q < m p → Tot (rec q) Q) → Tot (F rec p) Q) : Tot (iter F n p) Q :=
  iter_ex I m Q step n p hm hI
theorem tot_mono {x : Option R} {Q' : R → Prop} (h : Tot x Q) (hq : ∀ r, Q r → Q' r) : Tot x Q' := let ⟨r, h1, h2⟩ := h; ⟨r, h1, hq r h2⟩
end
/-- A text of bytes, not longer than so many. -/
def Txt (k : Nat) (s : ByteArray) : Prop := ∃ l, s = bs l ∧ Bl l ∧ l.length ≤ k
theorem Txt.mono {k k' : Nat} {s : ByteArray} (h : Txt k s) (hk : k ≤ k') : Txt k' s := let ⟨l, h1, h2, h3⟩ := h; ⟨l, h1, h2, Nat.le_trans h3 hk⟩
theorem Txt.app {k k' : Nat} {s t : ByteArray} (h : Txt k s) (h' : Txt k' t) : Txt (k + k') (s ++ t) := by
  obtain ⟨l, rfl, h2, h3⟩ := h
  obtain ⟨l', rfl, h5, h6⟩ := h'
  exact ⟨l ++ l', bs_app _ _, bl_app.2 ⟨h2, h5⟩, by rw [List.length_append]; omega⟩
theorem Txt.sok {k k' : Nat} {s t : ByteArray} (h : Txt k s) (h' : Txt k' t) (hk : k + k' ≤ 140737488355328) : sok s t = true := by
  obtain ⟨l, rfl, h2, h3⟩ := h
  obtain ⟨l', rfl, h5, h6⟩ := h'
  rw [bs_sok]
  exact decide_eq_true (by omega)
theorem txt_bs {l : List Nat} (k : Nat) (h : ∀ x ∈ l, x < 256) (hk : l.length ≤ k) : Txt k (bs l) := ⟨l, rfl, h, hk⟩
theorem txt_list {k : Nat} {L : List (List Nat)} (h : ∀ l ∈ L, Bl l ∧ l.length ≤ k) (i : Nat) : Txt k ((L.map bs).getD i (bs [])) := by
  rw [List.getD_eq_getElem?_getD, List.getElem?_map]
  cases hi : L[i]? with
  | none => exact ⟨[], rfl, fun x hx => (by cases hx), Nat.zero_le _⟩
  | some l =>
    have hm := List.mem_of_getElem? hi
    exact ⟨l, rfl, (h l hm).1, (h l hm).2⟩
end Go.Px

/- What is drawn of a code: numbers, names, words, lines. Seat D. -/
namespace Go.Px.Seat
open Go Pm Pt
set_option linter.unusedVariables false
def Code (b : List Int) : Prop := b.length ≤ 2000 ∧ ∀ x ∈ b, 0 ≤ x ∧ x < 256
theorem code_at {b : List Int} (h : Code b) (i : Nat) : 0 ≤ b.getD i 0 ∧ b.getD i 0 < 256 := by
  rw [List.getD_eq_getElem?_getD]
  cases hi : b[i]? with
  | none => exact ⟨Int.le_refl _, by decide⟩
  | some x => exact h.2 x (List.mem_of_getElem? hi)
theorem ixor_nn {x y : Int} (h : 0 ≤ x) (h' : x < 4611686018427387904) (h2 : 0 ≤ y) (h2' : y < 4611686018427387904) : 0 ≤ ixor .i64 x y := by
  have e1 : (BitVec.ofInt 64 x).toNat = x.toNat := by
    simp [BitVec.toNat_ofInt]; omega
  have e2 : (BitVec.ofInt 64 y).toNat = y.toNat := by
    simp [BitVec.toNat_ofInt]; omega
  show 0 ≤ IntKind.i64.wrap (((BitVec.ofInt 64 x ^^^ BitVec.ofInt 64 y).toNat : Nat) : Int)
  rw [BitVec.toNat_xor, e1, e2]
  have : x.toNat ^^^ y.toNat < 2 ^ 62 := Nat.xor_lt_two_pow (by omega) (by omega)
  rw [wrap64 (by omega) (by omega)]
  omega
theorem irem_range {x k : Int} (h : 0 ≤ x) (hk : 1 ≤ k) : 0 ≤ irem .i64 x k ∧ irem .i64 x k < k := by
  rw [irem_eq h]
  exact ⟨Int.emod_nonneg _ (by omega), Int.emod_lt_of_pos _ (by omega)⟩
theorem k_pick : Ev fun n => ∀ (b : List Int) (p k : Int), Code b → 0 ≤ p → p ≤ 1000000000000000 → ∃ v, c_s_l34Rd_pick ((C B0).run n) b p k = some (v, (b, (p + 1, ()))) ∧ 0 ≤ v ∧ (1 ≤ k → v < k) := by
  refine Ev.triv.succ fun n hn _ b p k hc h0 h1 => ?_
  rw [run_succ, e_s_l34Rd_pick]
  unfold p_s_l34Rd_pick
  have hl := hc.1
  rw [iadd_eq (by omega) (by omega)]
  rw [jb_of (p := (((decide (k < 1) || decide (b.length = 0)), ((), (k, (0, ())))), ((b, (p + 1, ())), ()))) (by
    rw [ilt_iff, len_eq]
    by_cases h : k < 1
    · rw [decide_eq_true h]; rfl
    · rw [decide_eq_false h, cond_false, Bool.false_or]
      by_cases h2 : b.length = 0
      · rw [h2]; rfl
      · rw [decide_eq_false h2, beq_f (show ¬ ((b.length : Nat) : Int) = 0 by omega)])]
  simp only
  cases hz : (decide (k < 1) || decide (b.length = 0)) with
  | true => exact ⟨0, rfl, by omega, by omega⟩
  | false =>
    rw [Bool.or_eq_false_iff, decide_eq_false_iff_not, decide_eq_false_iff_not] at hz
    rw [cond_false, isub_eq (by omega) (by omega), show p + 1 - 1 = p by omega, ilt_iff, len_eq]
    by_cases hp : p < b.length
    · rw [decide_eq_true hp, cond_true, ok_of (inB_true h0 hp), ok_ne (by omega)]
      have := code_at hc p.toNat
      rw [wrap64 (by omega) (by omega)]
      have := irem_range this.1 (show 1 ≤ k by omega)
      exact ⟨_, rfl, this.1, fun _ => this.2⟩
    · have hb : ((b.length : Nat) : Int) ≠ 0 := by omega
      have r1 := irem_range h0 (show 1 ≤ ((b.length : Nat) : Int) by omega)
      rw [decide_eq_false hp, cond_false, ok_ne hb, ok_of (inB_true r1.1 r1.2), ok_ne hb, imul_eq (by omega) (by omega), iadd_eq (x := p * 7) (y := 3) (by omega) (by omega)]
      have r2 := irem_range (show 0 ≤ p * 7 + 3 by omega) (show 1 ≤ ((b.length : Nat) : Int) by omega)
      rw [ok_of (inB_true r2.1 r2.2), ok_ne hb, ok_ne (by omega)]
      have c1 := code_at hc (irem .i64 p b.length).toNat
      have c2 := code_at hc (irem .i64 (p * 7 + 3) b.length).toNat
      obtain ⟨A, hA⟩ : ∃ A, A = b.getD (irem .i64 p b.length).toNat 0 := ⟨_, rfl⟩
      obtain ⟨B, hB⟩ : ∃ B, B = b.getD (irem .i64 (p * 7 + 3) b.length).toNat 0 := ⟨_, rfl⟩
      rw [← hA] at c1 ⊢
      rw [← hB] at c2 ⊢
      rw [wrap64 (x := A) (by omega) (by omega), wrap64 (x := B) (by omega) (by omega), iquo_eq h0 (by omega) (by omega)]
      have q1 : 0 ≤ p / b.length := Int.ediv_nonneg h0 (by omega)
      have q2 : p / b.length ≤ p := Int.ediv_le_self _ h0
      obtain ⟨D, hD⟩ : ∃ D, D = p / b.length := ⟨_, rfl⟩
      rw [← hD] at q1 q2 ⊢
      rw [imul_eq (x := A) (by omega) (by omega), imul_eq (x := B) (by omega) (by omega), imul_eq (x := p) (by omega) (by omega), imul_eq (x := D) (by omega) (by omega), iadd_eq (x := A * 131) (by omega) (by omega), iadd_eq (x := A * 131 + B * 1117) (by omega) (by omega), iadd_eq (x := A * 131 + B * 1117 + p * 29) (by omega) (by omega)]
      obtain ⟨X, hX⟩ : ∃ X, X = A * 131 + B * 1117 + p * 29 + D * 53 := ⟨_, rfl⟩
      rw [← hX, iquo_eq (x := X) (by omega) (by omega) (by omega)]
      have := irem_range (ixor_nn (x := X) (y := X / 64) (by omega) (by omega) (by omega) (by omega)) (show 1 ≤ k by omega)
      exact ⟨_, rfl, this.1, fun _ => this.2⟩
theorem k_open : Ev fun n => ∀ b : List Int, (∀ x ∈ b, 0 ≤ x ∧ x < 256) → ∃ b', c_s_l34Open ((C B0).run n) b = some (b', (0, ())) ∧ Code b' := by
  refine Ev.triv.succ fun n hn _ b hb => ?_
  rw [run_succ, e_s_l34Open]
  unfold p_s_l34Open
  rw [len_eq, ilt_iff]
  by_cases h : (2000 : Int) < b.length
  · rw [decide_eq_true h, cond_true, ok_of (sliceOk_true (by omega) (by omega) (by omega))]
    exact ⟨_, rfl, by show ((b.take 2000).drop 0).length ≤ 2000; rw [List.drop_zero, List.length_take]; omega, fun x hx => hb x (List.mem_of_mem_take (List.mem_of_mem_drop hx))⟩
  · rw [decide_eq_false h, cond_false]
    exact ⟨_, rfl, by omega, hb⟩
/-- a text that is picked out of a list -/
theorem pick_of {L : List (List Nat)} {k : Nat} {v : Int} (m : Int) (hm : m = (L.length : Int)) (h0 : 0 ≤ v) (h : 1 ≤ m → v < m) (hL : ∀ l ∈ L, Bl l ∧ l.length ≤ k) (h1 : 1 ≤ L.length) : inB v (len (L.map bs)) = true ∧ Txt k ((L.map bs).getD v.toNat (bs [])) := by
  refine ⟨inB_true h0 ?_, txt_list hL _⟩
  rw [len_eq, List.length_map]
  have := h (by omega)
  omega
theorem bl_dec {k : Nat} {L : List (List Nat)} (h : (L.all fun l => l.all (fun x => decide (x < 256)) && decide (l.length ≤ k)) = true) : ∀ l ∈ L, Bl l ∧ l.length ≤ k := by
  intro l hl
  have := List.all_eq_true.1 h l hl
  rw [Bool.and_eq_true, List.all_eq_true, decide_eq_true_eq] at this
  exact ⟨fun x hx => by simpa using this.1 x hx, this.2⟩
theorem k_name : Ev fun n => ∀ (b : List Int) (p : Int), Code b → 0 ≤ p → p ≤ 1000000000000000 → ∃ s, c_s_l34Rd_name ((C B0).run n) b p = some (s, (b, (p + 1, ()))) ∧ Txt 11 s := by
  refine k_pick.succ fun n hn kp b p hc h0 h1 => ?_
  rw [run_succ, e_s_l34Rd_name]
  unfold p_s_l34Rd_name
  obtain ⟨v, hv, v0, v1⟩ := kp b p 12 hc h0 h1
  rw [hv]
  simp only [Option.bind_some]
  obtain ⟨i1, i2⟩ := pick_of (L := [[97], [98], [99], [120], [121], [122], [102], [103], [104], [107, 49], [108, 111, 110, 103, 110, 97, 109, 101], [101]]) (k := 11) 12 rfl v0 v1 (bl_dec (by decide)) (by decide)
  exact ⟨_, ok_of i1 _, i2⟩
theorem k_number : Ev fun n => ∀ (b : List Int) (p : Int), Code b → 0 ≤ p → p ≤ 1000000000000000 → ∃ s, c_s_l34Rd_number ((C B0).run n) b p = some (s, (b, (p + 1, ()))) ∧ Txt 11 s := by
  refine k_pick.succ fun n hn kp b p hc h0 h1 => ?_
  rw [run_succ, e_s_l34Rd_number]
  unfold p_s_l34Rd_number
  obtain ⟨v, hv, v0, v1⟩ := kp b p 12 hc h0 h1
  rw [hv]
  simp only [Option.bind_some]
  obtain ⟨i1, i2⟩ := pick_of (L := [[48], [49], [50], [51], [49, 48], [48, 46, 53], [49, 46, 50, 53], [50, 101, 51], [50, 46, 53, 101, 45, 49], [49, 48, 48], [55], [49, 101, 45, 52, 48, 48]]) (k := 11) 12 rfl v0 v1 (bl_dec (by decide)) (by decide)
  exact ⟨_, ok_of i1 _, i2⟩
theorem k_word : Ev fun n => ∀ (b : List Int) (p : Int), Code b → 0 ≤ p → p ≤ 100000000000000 → ∃ s p', c_s_l34Rd_word ((C B0).run n) b p = some (s, (b, (p', ()))) ∧ Txt 11 s ∧ p ≤ p' ∧ p' ≤ p + 2 := by
  refine (k_pick.and (k_name.and k_number)).succ fun n hn ⟨kp, kn, km⟩ b p hc h0 h1 => ?_
  rw [run_succ, e_s_l34Rd_word]
  unfold p_s_l34Rd_word
  obtain ⟨v, hv, v0, v1⟩ := kp b p 10 hc h0 (by omega)
  rw [hv]
  simp only [Option.bind_some]
  cases (v == 0) with
  | true =>
    obtain ⟨s, hs, ht⟩ := km b (p + 1) hc (by omega) (by omega)
    rw [cond_true, hs]
    exact ⟨s, p + 1 + 1, rfl, ht, by omega, by omega⟩
  | false =>
    rw [cond_false]
    cases (v == 1) with
    | true =>
      obtain ⟨w, hw, w0, w1⟩ := kp b (p + 1) 11 hc (by omega) (by omega)
      rw [cond_true, hw]
      simp only [Option.bind_some]
      obtain ⟨i1, i2⟩ := pick_of (L := [[43], [45], [42], [47], [94], [40], [41], [44], [61], [60, 61], [62, 61]]) (k := 11) 11 rfl w0 w1 (bl_dec (by decide)) (by decide)
      exact ⟨_, _, ok_of i1 _, i2, by omega, by omega⟩
    | false =>
      rw [cond_false]
      cases (v == 2) with
      | true =>
        obtain ⟨w, hw, w0, w1⟩ := kp b (p + 1) 6 hc (by omega) (by omega)
        rw [cond_true, hw]
        simp only [Option.bind_some]
        obtain ⟨i1, i2⟩ := pick_of (L := [[115, 113, 114, 116], [97, 98, 115], [109, 105, 110], [109, 97, 120], [100, 101, 102], [118, 97, 114]]) (k := 11) 6 rfl w0 w1 (bl_dec (by decide)) (by decide)
        exact ⟨_, _, ok_of i1 _, i2, by omega, by omega⟩
      | false =>
        obtain ⟨s, hs, ht⟩ := kn b (p + 1) hc (by omega) (by omega)
        rw [cond_false, hs]
        exact ⟨s, p + 1 + 1, rfl, ht, by omega, by omega⟩
theorem k_many : Ev fun n => ∀ (c m : Nat), c < 256 → m ≤ 2000 → Tot (c_s_l34Many ((C B0).run n) (bs [c]) (m : Int)) (fun r => Txt (m + 1) r.1) := by
  refine Ev.triv.succ fun n hn _ c m hc hm => ?_
  rw [run_succ, e_s_l34Many]
  unfold p_s_l34Many
  refine tot_iter (fun p => ∃ (k a b : Nat) (s o t : ByteArray), p = ((((k : Nat) : Int), (o, (s, (t, ())))), ()) ∧ Txt b s ∧ Txt a o ∧ a + k * b ≤ m ∧ k ≤ 2000 ∧ b ≤ 4096 ∧ (k = 0 ∨ b * k ≤ m)) (fun p => p.1.1.toNat) (by simp only; omega) ⟨m, 0, 1, bs [c], bs [], bs [], rfl, txt_bs _ (fun x hx => by simp at hx; omega) (Nat.le_refl _), txt_bs _ (fun x hx => by cases hx) (Nat.zero_le _), by omega, by omega, by omega, .inr (by omega)⟩ ?_
  rintro rec p ⟨k, a, b, s, o, t, rfl, hs, ho, hk, hk2, hb, hbk⟩ ih
  simp only
  rw [ilt_iff]
  by_cases h : (0 : Int) < (k : Int)
  · have hk0 : 1 ≤ k := by omega
    rw [decide_eq_true h, cond_true]
    have hbm : b ≤ m := by
      rcases hbk with hbk | hbk
      · omega
      · exact Nat.le_trans (Nat.le_mul_of_pos_right _ hk0) hbk
    have hq : 2 * (k / 2) + k % 2 = k := Nat.div_add_mod k 2
    refine tot_jb (fun p => ∃ o', p = ((s, ((k : Int), (o', (t, ())))), ()) ∧ Txt (a + (k % 2) * b) o') ?_ ?_
    · rw [irem_eq (by omega)]
      refine tot_if (fun hc => ?_) (fun hc => ?_)
      · have h2 : k % 2 = 1 := by
          have : (k : Int) % 2 = 1 := by simpa using hc
          omega
        have ham : a ≤ 5000 := by omega
        refine tot_ok (Txt.sok ho hs (by omega)) (tot_some ⟨_, rfl, ?_⟩)
        rw [h2, Nat.one_mul]
        exact ho.app hs
      · exact tot_some ⟨_, rfl, ho.mono (Nat.le_add_right _ _)⟩
    · rintro p ⟨o', rfl, ho'⟩
      simp only
      refine tot_ok (hs.sok hs (by omega)) ?_
      rw [iquo_eq (by omega) (by omega) (by decide)]
      have e : k * b = (k % 2) * b + (k / 2) * (b + b) := by
        conv => lhs; rw [← hq, Nat.add_mul]
        rw [Nat.add_comm, Nat.mul_comm 2, Nat.mul_assoc, Nat.two_mul]
      refine ih _ ⟨k / 2, _, b + b, _, _, _, rfl, hs.app hs, ho', by omega, by omega, by omega, ?_⟩ (by simp only; omega)
      by_cases h0 : k / 2 = 0
      · exact .inl h0
      · refine .inr ?_
        have : (b + b) * (k / 2) ≤ k * b := by rw [e, Nat.mul_comm (b + b)]; exact Nat.le_add_left _ _
        rcases hbk with hbk | hbk
        · omega
        · rw [Nat.mul_comm] at hbk; omega
  · rw [decide_eq_false h, cond_false]
    exact tot_some (ho.mono (by omega))
theorem k_times : Ev fun n => ∀ (c m : Nat), c < 256 → m ≤ 2000 → Tot (c_s_l14Times ((C B0).run n) (bs [c]) (m : Int)) (fun r => Txt (m + 1) r.1) := by
  refine k_many.succ fun n hn km c m hc hm => ?_
  rw [run_succ, e_s_l14Times]
  unfold p_s_l14Times
  refine tot_bind _ (km c m hc hm) ?_
  rintro ⟨s, u⟩ h
  exact tot_some h
end Go.Px.Seat

/- Lines that are drawn of a code. Seat D. -/
namespace Go.Px.Seat
open Go Pm Pt
set_option linter.unusedVariables false
theorem txt1 (c : Nat) (h : c < 256 := by decide) : Txt 1 (bs [c]) := txt_bs _ (fun x hx => by rw [List.mem_singleton.1 hx]; exact h) (Nat.le_refl _)
theorem txt2 (c d : Nat) (h : c < 256 ∧ d < 256 := by decide) : Txt 2 (bs [c, d]) := txt_bs _ (fun x hx => by simp at hx; omega) (Nat.le_refl _)
theorem k_line : Ev fun n => ∀ (b : List Int) (p : Int), Code b → 0 ≤ p → p ≤ 10000000000000 → ∃ s p', c_s_l34Rd_line ((C B0).run n) b p = some (s, (b, (p', ()))) ∧ Txt 5000 s ∧ p ≤ p' ∧ p' ≤ p + 100 := by
  refine (k_pick.and (k_word.and (k_name.and k_times))).succ fun n hn ⟨kp, kw, kn, kt⟩ b p hc h0 h1 => ?_
  have key : Tot (c_s_l34Rd_line ((C B0).run (n + 1)) b p) (fun r : ByteArray × (List Int × (Int × Unit)) => ∃ s p', r = (s, (b, (p', ()))) ∧ Txt 5000 s ∧ p ≤ p' ∧ p' ≤ p + 100) := by
    rw [run_succ, e_s_l34Rd_line]
    unfold p_s_l34Rd_line
    obtain ⟨v, hv, v0, v1⟩ := kp b p 8 hc h0 (by omega)
    have v1 := v1 (by decide)
    refine tot_eq hv ?_
    dsimp only
    refine tot_iter (fun q => ∃ (i : Nat) (s t : ByteArray) (p1 : Int), q = (((i : Int), (v, (s, ((), (t, ()))))), ((b, (p1, ())), ())) ∧ Txt (20 * i) s ∧ (i : Int) ≤ v ∧ p + 1 ≤ p1 ∧ p1 ≤ p + 1 + 3 * i) (fun q => (v - q.1.1).toNat) (by simp only; omega) ⟨0, bs [], bs [], p + 1, rfl, txt_bs _ (fun x hx => by cases hx) (by decide), by omega, by omega, by omega⟩ ?_
    rintro rec _ ⟨i, s, t, p1, rfl, hs, hi, hp1, hp2⟩ ih
    dsimp only
    refine tot_if (fun hlt => ?_) (fun hlt => ?_)
    · have hlt : (i : Int) < v := by simpa using hlt
      refine tot_jb (fun q => ∃ s' p2, q = (((i : Int), (v, (s', ((), (t, ()))))), ((b, (p2, ())), ())) ∧ Txt (20 * (i + 1)) s' ∧ p1 ≤ p2 ∧ p2 ≤ p1 + 3) ?_ ?_
      · obtain ⟨w, pw, hw, tw, q1, q2⟩ := kw b p1 hc (by omega) (by omega)
        refine tot_eq hw ?_
        dsimp only
        refine tot_ok (hs.sok tw (by omega)) ?_
        obtain ⟨x, hx, x0, x1⟩ := kp b pw 4 hc (by omega) (by omega)
        refine tot_eq hx ?_
        dsimp only
        refine tot_if (fun _ => ?_) (fun _ => ?_)
        · exact tot_ok ((hs.app tw).sok (txt1 32) (by omega)) (tot_some ⟨_, _, rfl, ((hs.app tw).app (txt1 32)).mono (by omega), by omega, by omega⟩)
        · exact tot_some ⟨_, _, rfl, (hs.app tw).mono (by omega), by omega, by omega⟩
      · rintro _ ⟨s', p2, rfl, hs', hp3, hp4⟩
        dsimp only
        rw [iadd_eq (by omega) (by omega)]
        exact ih _ ⟨i + 1, s', t, p2, by simp, hs', by omega, by omega, by omega⟩ (by simp only; omega)
    · have hi8 : 20 * i ≤ 140 := by omega
      have hs := hs.mono hi8
      refine tot_jb (fun q => ∃ s' p2, q = ((s', (t, ((), ()))), ((b, (p2, ())), ())) ∧ Txt 5000 s' ∧ p1 ≤ p2 ∧ p2 ≤ p1 + 5) ?_ ?_
      · obtain ⟨w, hw, w0, w1⟩ := kp b p1 16 hc (by omega) (by omega)
        refine tot_eq hw ?_
        dsimp only
        refine tot_if (fun _ => ?_) (fun _ => tot_if (fun _ => ?_) (fun _ => tot_if (fun _ => ?_) (fun _ => tot_if (fun _ => ?_) (fun _ => ?_))))
        · obtain ⟨x, hx, x0, x1⟩ := kp b (p1 + 1) 11 hc (by omega) (by omega)
          refine tot_eq hx ?_
          obtain ⟨i1, i2⟩ := pick_of (L := [[50, 101, 45, 120], [48, 49], [49, 46], [120, 46, 53], [116, 111, 111, 108, 111, 110, 103, 110, 97, 109, 101], [50, 120], [65], [9], [60], [49, 101, 52, 48, 49], [95]]) (k := 11) 11 rfl x0 x1 (bl_dec (by decide)) (by decide)
          exact tot_ok i1 (tot_ok (hs.sok i2 (by omega)) (tot_some ⟨_, p1 + 1 + 1, rfl, (hs.app i2).mono (by omega), by omega, by omega⟩))
        · obtain ⟨x, hx, ht⟩ := kn b (p1 + 1) hc (by omega) (by omega)
          refine tot_ok (hs.sok (txt2 35 32) (by omega)) (tot_eq hx ?_)
          have a1 := hs.app (txt2 35 32)
          have a2 := a1.app ht
          exact tot_ok (a1.sok ht (by omega)) (tot_ok (a2.sok (txt2 32 123) (by omega)) (tot_some ⟨_, p1 + 1 + 1, rfl, (a2.app (txt2 32 123)).mono (by omega), by omega, by omega⟩))
        · obtain ⟨x, hx, x0, x1⟩ := kp b (p1 + 1) 8 hc (by omega) (by omega)
          refine tot_eq hx ?_
          dsimp only
          refine tot_if (fun _ => ?_) (fun _ => tot_some ⟨_, _, rfl, hs.mono (by omega), by omega, by omega⟩)
          obtain ⟨y, hy, y0, y1⟩ := kp b (p1 + 1 + 1) 15 hc (by omega) (by omega)
          have y1 := y1 (by decide)
          refine tot_eq hy ?_
          dsimp only
          obtain ⟨⟨z, u⟩, hz, tz⟩ := kt 45 (290 + y).toNat (by decide) (by omega)
          rw [iadd_eq (by omega) (by omega), show (290 : Int) + y = ((290 + y).toNat : Int) by omega]
          refine tot_eq hz ?_
          have tz : Txt 1000 z := tz.mono (by omega)
          exact tot_ok (tz.sok (txt1 49) (by omega)) (tot_some ⟨_, _, rfl, (tz.app (txt1 49)).mono (by omega), by omega, by omega⟩)
        · obtain ⟨x, hx, x0, x1⟩ := kp b (p1 + 1) 8 hc (by omega) (by omega)
          refine tot_eq hx ?_
          dsimp only
          refine tot_if (fun _ => ?_) (fun _ => tot_some ⟨_, _, rfl, hs.mono (by omega), by omega, by omega⟩)
          obtain ⟨y, hy, y0, y1⟩ := kp b (p1 + 1 + 1) 12 hc (by omega) (by omega)
          have y1 := y1 (by decide)
          refine tot_eq hy ?_
          dsimp only
          obtain ⟨⟨z, u⟩, hz, tz⟩ := kt 32 (990 + y).toNat (by decide) (by omega)
          rw [iadd_eq (by omega) (by omega), show (990 : Int) + y = ((990 + y).toNat : Int) by omega]
          refine tot_eq hz ?_
          have tz : Txt 2000 z := tz.mono (by omega)
          exact tot_ok (hs.sok tz (by omega)) (tot_some ⟨_, _, rfl, (hs.app tz).mono (by omega), by omega, by omega⟩)
        · exact tot_some ⟨_, _, rfl, hs.mono (by omega), by omega, by omega⟩
      · rintro _ ⟨s', p2, rfl, hs', hp3, hp4⟩
        exact tot_some ⟨s', p2, rfl, hs', by omega, by omega⟩
  obtain ⟨r, hr, s, p', rfl, h2, h3, h4⟩ := key
  exact ⟨s, p', hr, h2, h3, h4⟩
end Go.Px.Seat

/- Parts of nodes, of the reference. Seat D. -/
namespace Go.Px.Seat
open Go Pm Pt
set_option linter.unusedVariables false
theorem k_l11Word : Ev fun n => ∀ l : List Nat, Bl l → c_s_l11Word ((C B0).run n) (bs l) = some (decide (l ∈ words), ()) := by
  refine Ev.triv.succ fun n hn _ l hl => ?_
  rw [run_succ, e_s_l11Word]
  unfold p_s_l11Word
  rw [bs_seq hl (by unfold Bl; decide), bs_seq hl (by unfold Bl; decide), bs_seq hl (by unfold Bl; decide), bs_seq hl (by unfold Bl; decide), bs_seq hl (by unfold Bl; decide), bs_seq hl (by unfold Bl; decide)]
  have e : decide (l ∈ words) = (decide (l = [100, 101, 102]) || (decide (l = [118, 97, 114]) || (decide (l = [115, 113, 114, 116]) || (decide (l = [97, 98, 115]) || (decide (l = [109, 105, 110]) || decide (l = [109, 97, 120])))))) := by
    rw [Bool.eq_iff_iff]
    simp [words]
  rw [e]
  cases decide (l = [100, 101, 102]) <;> cases decide (l = [118, 97, 114]) <;> cases decide (l = [115, 113, 114, 116]) <;> cases decide (l = [97, 98, 115]) <;> cases decide (l = [109, 105, 110]) <;> rfl
theorem k_sNameOk : Ev fun n => ∀ l : List Nat, Bl l → l.length ≤ 100000 → c_s_LangNameOk ((C B0).run n) (bs l) = some (nameOk l, ()) := by
  refine (k_plain.and k_l11Word).succ fun n hn ⟨kp, kw⟩ l hl hb => ?_
  rw [run_succ, e_s_LangNameOk]
  unfold p_s_LangNameOk
  rw [kp l hl hb]
  simp only [Option.bind_some]
  unfold nameOk
  cases plain l with
  | false => rfl
  | true =>
    rw [cond_true, kw l hl]
    rfl
theorem bq {x y : Int} : (x == y) = decide (x = y) := rfl
theorem k_args : Ev fun n => ∀ (k m : Int) (l : List Nat), Bl l → l.length ≤ 100000 → c_s_l12Args ((C B0).run n) k m (bs l) = some (nargs (k, m, l), ()) := by
  refine (k_sNumOk.and k_sNameOk).succ fun n hn ⟨kn, km⟩ k m l hl hb => ?_
  rw [run_succ, e_s_l12Args]
  unfold p_s_l12Args
  have e0 : seq (bs l) (bs []) = decide (l = []) := bs_seq hl (fun x hx => by cases hx)
  have kn' := kn l hl hb
  rw [← num_rnum] at kn'
  have km' := km l hl hb
  unfold nargs
  simp only
  by_cases h1 : k = 1
  · subst h1
    rw [if_pos rfl, show ((1 : Int) == 1) = true from rfl, cond_true]
    by_cases hm : m = 0
    · subst hm
      rw [show ((0 : Int) == 0) = true from rfl, cond_true, kn']
      unfold numOk
      cases (num l && decide (l.length ≤ 60)) <;> rfl
    · rw [beq_f hm, cond_false, if_neg (fun h => hm h.1)]; rfl
  rw [if_neg h1, beq_f h1, cond_false]
  by_cases h2 : k = 2
  · subst h2
    rw [if_pos rfl, show ((2 : Int) == 2) = true from rfl, cond_true]
    by_cases hm : m = 0
    · subst hm
      rw [show ((0 : Int) == 0) = true from rfl, cond_true, km']
      cases nameOk l <;> rfl
    · rw [beq_f hm, cond_false, if_neg (fun h => hm h.1)]; rfl
  rw [if_neg h2, beq_f h2, cond_false]
  rw [jb_of (x := bif (k == 3) then _ else _) (p := ((decide (k = 3 ∨ k = 9 ∨ k = 10), ((), (k, (0, ())))), ((k, (m, (bs l, ()))), ()))) (by
    by_cases h3 : k = 3
    · subst h3; rfl
    · rw [beq_f h3, cond_false]
      by_cases h9 : k = 9
      · subst h9; rfl
      · rw [beq_f h9, cond_false, bq, decide_eq_decide.2 (show (k = 3 ∨ k = 9 ∨ k = 10) ↔ k = 10 by omega)])]
  simp only
  have fin : ∀ (v : Int), (jb (P := (((Bool × (Int × Unit))) × Unit)) (bif (m == 0) then some (.inr (((seq (bs l) (bs [])), (0, ())), ())) else some (.inr ((false, (0, ())), ()))) fun ((t36, (t2_3, _)), _) => bif t36 then (some (.inl (v, ())) : Option ((Int × Unit) ⊕ ((Int × Unit) × Unit))) else some (.inr ((t2_3, ()), ()))) = if m = 0 ∧ l = [] then some (.inl (v, ())) else some (.inr ((0, ()), ())) := by
    intro v
    by_cases hm : m = 0
    · subst hm
      rw [e0]
      by_cases hl0 : l = []
      · rw [decide_eq_true hl0, if_pos ⟨rfl, hl0⟩]; rfl
      · rw [decide_eq_false hl0, if_neg (fun h => hl0 h.2)]; rfl
    · rw [beq_f hm, if_neg (fun h => hm h.1)]; rfl
  by_cases h3 : k = 3 ∨ k = 9 ∨ k = 10
  · rw [if_pos h3, decide_eq_true h3, cond_true, fin 1]
    by_cases h : m = 0 ∧ l = []
    · rw [if_pos h, if_pos h]; rfl
    · rw [if_neg h, if_neg h]; rfl
  rw [if_neg h3, decide_eq_false h3, cond_false]
  rw [jb_of (x := bif (k == 4) then _ else _) (p := ((decide (k = 4 ∨ k = 5 ∨ k = 6 ∨ k = 7 ∨ k = 11 ∨ k = 12), ((), (k, (0, ())))), ((k, (m, (bs l, ()))), ()))) (by
    by_cases h4 : k = 4
    · subst h4; rfl
    · rw [beq_f h4, cond_false]
      by_cases h5 : k = 5
      · subst h5; rfl
      · rw [beq_f h5, cond_false]
        by_cases h6 : k = 6
        · subst h6; rfl
        · rw [beq_f h6, cond_false]
          by_cases h7 : k = 7
          · subst h7; rfl
          · rw [beq_f h7, cond_false]
            by_cases h11 : k = 11
            · subst h11; rfl
            · rw [beq_f h11, cond_false, bq, decide_eq_decide.2 (show (k = 4 ∨ k = 5 ∨ k = 6 ∨ k = 7 ∨ k = 11 ∨ k = 12) ↔ k = 12 by omega)])]
  simp only
  by_cases h4 : k = 4 ∨ k = 5 ∨ k = 6 ∨ k = 7 ∨ k = 11 ∨ k = 12
  · rw [if_pos h4, decide_eq_true h4, cond_true, fin 2]
    by_cases h : m = 0 ∧ l = []
    · rw [if_pos h, if_pos h]; rfl
    · rw [if_neg h, if_neg h]; rfl
  rw [if_neg h4, decide_eq_false h4, cond_false]
  by_cases h8 : k = 8
  · subst h8
    rw [if_pos rfl, show ((8 : Int) == 8) = true from rfl, cond_true, ile_iff, ile_iff, e0]
    by_cases ha : 0 ≤ m
    · by_cases hb8 : m ≤ 8
      · by_cases hl0 : l = []
        · rw [if_pos ⟨ha, hb8, hl0⟩, decide_eq_true ha, decide_eq_true hb8, decide_eq_true hl0]; rfl
        · rw [if_neg (fun h => hl0 h.2.2), decide_eq_true ha, decide_eq_true hb8, decide_eq_false hl0]; rfl
      · rw [if_neg (fun h => hb8 h.2.1), decide_eq_true ha, decide_eq_false hb8]; rfl
    · rw [if_neg (fun h => ha h.1), decide_eq_false ha]; rfl
  rw [if_neg h8, beq_f h8, cond_false]
  by_cases h13 : k = 13
  · subst h13
    rw [if_pos rfl, show ((13 : Int) == 13) = true from rfl, cond_true, ile_iff, ile_iff, km']
    by_cases ha : 1 ≤ m
    · by_cases hb6 : m ≤ 6
      · cases hl0 : nameOk l with
        | true => rw [if_pos ⟨ha, hb6, rfl⟩, decide_eq_true ha, decide_eq_true hb6]; rfl
        | false => rw [if_neg (fun h => by cases h.2.2), decide_eq_true ha, decide_eq_true hb6]; rfl
      · rw [if_neg (fun h => hb6 h.2.1), decide_eq_true ha, decide_eq_false hb6]; rfl
    · rw [if_neg (fun h => ha h.1), decide_eq_false ha]; rfl
  rw [if_neg h13, beq_f h13]
  rfl
theorem k_level : Ev fun n => ∀ (k m : Int) (s : ByteArray), c_s_l12Level ((C B0).run n) k m s = some (level k, ()) := by
  refine Ev.triv.succ fun n hn _ k m s => ?_
  rw [run_succ, e_s_l12Level]
  unfold p_s_l12Level level
  by_cases h4 : k = 4
  · subst h4; rfl
  by_cases h5 : k = 5
  · subst h5; rfl
  by_cases h6 : k = 6
  · subst h6; rfl
  by_cases h7 : k = 7
  · subst h7; rfl
  by_cases h3 : k = 3
  · subst h3; rfl
  by_cases h8 : k = 8
  · subst h8; rfl
  rw [beq_f h4, beq_f h5, cond_false, jb_inr]
  simp only
  rw [beq_f h6, beq_f h7, cond_false, cond_false, jb_inr]
  simp only
  rw [beq_f h3, beq_f h8, if_neg (by omega), if_neg (by omega), if_neg h3, if_neg h8]
  rfl
end Go.Px.Seat
