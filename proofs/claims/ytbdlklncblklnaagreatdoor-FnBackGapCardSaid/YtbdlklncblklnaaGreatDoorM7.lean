/- Own texts, part M7: PnH PnI PnK PmZf PmZg PmZh PnJ PnL. -/
import Derived.Test.YtbdlklncblklnaaGreatDoorM6
import Derived.Test.YtbdlklncblklnaaGreatDoorM5
set_option linter.unusedVariables false

/- What is reckoned of spans: the reference's. Seat ZD. -/
namespace Pm
open Go.Px Go.Px.Seat
noncomputable def du (w : Int) (u : Bool) (a : Lm) : Int := if u = true then up w a else dn w a
theorem du_lim {w o : Int} (hw : wd w = true) (ho : rng w o) (u : Bool) : du w u (lim w o) = o := by
  unfold du
  split
  · exact up_lim hw ho
  · exact dn_lim hw ho
theorem du_zero {w : Int} (hw : wd w = true) (u : Bool) : du w u (.num 0) = 0 := by
  have ht := top_pos hw
  rw [← lim_zero hw]
  exact du_lim hw (by unfold rng; omega) u
theorem du_inf {w : Int} (u : Bool) : du w u .pos = top w ∧ du w u .neg = -top w := by
  unfold du
  cases u <;> simp
theorem sgn_lim {w o : Int} (hw : wd w = true) (ho : rng w o) : (lim w o).sgn = if o < 0 then -1 else if o = 0 then 0 else 1 := by
  have h1 := nonneg_lim hw ho
  have h2 := nonpos_lim hw ho
  have h3 := (sgn_nonneg (lim w o))
  have h4 := (sgn_nonpos (lim w o))
  have h5 := sgn_rng (lim w o)
  by_cases h : o < 0
  · rw [if_pos h]
    have : ¬ 0 ≤ (lim w o).sgn := fun h' => by have := h1.2 (h3.1 h'); omega
    omega
  · rw [if_neg h]
    by_cases h0 : o = 0
    · rw [if_pos h0]
      have := h3.2 (h1.1 (by omega))
      have := h4.2 (h2.1 (by omega))
      omega
    · rw [if_neg h0]
      have : ¬ (lim w o).sgn ≤ 0 := fun h' => by have := h2.2 (h4.1 h'); omega
      omega
theorem mk_quot {b : Bool} {p q r s : Nat} (hr : r ≠ 0) : mkRat (sg b (p * s)) (q * r) = mkRat (sg b p) q / mkRat (sg false r) s := by
  have e : (mkRat (sg false r) s)⁻¹ = mkRat (sg false s) r := by
    rw [← Rat.divInt_ofNat, Rat.inv_divInt]
    show Rat.divInt (s : Int) (r : Int) = _
    rw [Rat.divInt_ofNat]; rfl
  rw [Rat.div_def, e, Rat.mkRat_mul_mkRat]
  congr 1
  have := sg_mul b false p s
  simpa using this
theorem mul_zero' (a : Lm) : Lm.mul (.num 0) a = .num 0 := by
  cases a with
  | neg => rfl
  | pos => rfl
  | num s => simp only [Lm.mul, Rat.zero_mul]
theorem div_pos_inf (a : Lm) : Lm.div a .pos = .num 0 := by cases a <;> rfl
theorem stm4 (w a1 a2 b1 b2 : Int) : stm w (stm w (stm w (stm w spn a1 b1) a1 b2) a2 b1) a2 b2 =
    sp (min (min (du w false (Lm.mul (lim w a1) (lim w b1))) (du w false (Lm.mul (lim w a1) (lim w b2)))) (min (du w false (Lm.mul (lim w a2) (lim w b1))) (du w false (Lm.mul (lim w a2) (lim w b2)))))
      (max (max (du w true (Lm.mul (lim w a1) (lim w b1))) (du w true (Lm.mul (lim w a1) (lim w b2)))) (max (du w true (Lm.mul (lim w a2) (lim w b1))) (du w true (Lm.mul (lim w a2) (lim w b2))))) := by
  unfold stm stp du
  simp only [spn, sp, Bool.false_eq_true, if_false, if_true]
  congr 1
  congr 1
  · omega
  · congr 1
    omega
end Pm
namespace Go.Px.Seat
open Go Pm
set_option linter.unusedVariables false
variable {B : Run}
theorem k_sRoundD : Ev fun n => ∀ (w : Int) (b u : Bool) (p q : Nat), wd w = true → q ≠ 0 → (dig p).length ≤ 1024 → (dig q).length ≤ 1024 →
    c_s_l8Round ((C B).run n) w b (dig p) (dig q) u = some (du w u (.num (mkRat (sg b p) q)), ()) := by
  refine (k_sRoundX (B := B)).mono fun n h w b u p q hw hq l1 l2 => ?_
  obtain ⟨m, h1, h2⟩ := h w b u p q hw hq l1 l2
  rw [h1]
  unfold du
  cases u
  · simp only [Bool.false_eq_true, if_false] at h2 ⊢
    rw [dn_num h2]
  · simp only [if_true] at h2 ⊢
    rw [up_num h2]
theorem k_sInf : Ev fun n => ∀ (w o : Int), wd w = true → c_s_l9Infinite ((C B).run n) w o = some (decide (o = top w ∨ o = -top w), ()) := by
  refine (k_sTop' (B := B)).succ fun n hn hT w o hw => ?_
  rw [run_succ, e_s_l9Infinite]
  unfold p_s_l9Infinite
  rw [hT]
  simp only [Option.bind_some, ineg_top]
  by_cases h : o = top w
  · rw [show (o == top w) = true by simpa using h, cond_true]
    simp [h]
  · rw [beq_f h, cond_false]
    by_cases h' : o = -top w
    · simp [h', jb_inr]
    · simp [h, h', jb_inr, beq_f h']
theorem k_sNegS : Ev fun n => ∀ (w : Int) (a : Sp), c_s_SpanNeg ((C B).run n) w a.1 a.2.1 a.2.2.1 = some (negS w a) := by
  refine ((k_sSpanOk (B := B)).and (k_sOf (B := B))).succ fun n hn ⟨hO, hSo⟩ w a => ?_
  rw [run_succ, e_s_SpanNeg]
  unfold p_s_SpanNeg negS ok1
  obtain ⟨s1, a1, a2, u⟩ := a
  simp only
  rw [hO]
  simp only [Option.bind_some]
  cases h1 : spk w (s1, (a1, (a2, ())))
  · simp only [Bool.not_false, cond_true, jb_inr, Bool.and_false, Bool.false_eq_true, if_false]; rfl
  cases s1
  · rfl
  simp only [Bool.not_true, cond_false, jb_inr, Bool.and_true, if_true]
  have hp : pok w a1 a2 = true := h1
  obtain ⟨h1, h2, h3, h4, h5, h6⟩ := pok_iff.1 hp
  have htn := top_nonneg w
  rw [ineg_eq (by omega) (by omega), ineg_eq (by omega) (by omega), hSo]
  rfl
theorem k_sHullS : Ev fun n => ∀ (w : Int) (a b : Sp), c_s_SpanHull ((C B).run n) w a.1 a.2.1 a.2.2.1 b.1 b.2.1 b.2.2.1 = some (hullS w a b) := by
  refine ((k_sSpanOk (B := B)).and ((k_sOf (B := B)).and ((k_sMin (B := B)).and (k_sMax (B := B))))).succ fun n hn ⟨hO, hSo, hMi, hMa⟩ w a b => ?_
  rw [run_succ, e_s_SpanHull]
  unfold p_s_SpanHull hullS
  obtain ⟨s1, a1, a2, u⟩ := a
  obtain ⟨s2, b1, b2, u'⟩ := b
  simp only
  rw [hO]
  simp only [Option.bind_some]
  cases h1 : spk w (s1, (a1, (a2, ())))
  · rfl
  simp only [Bool.not_true, cond_false]
  rw [hO]
  simp only [Option.bind_some, jb_inr]
  cases h2 : spk w (s2, (b1, (b2, ())))
  · rfl
  cases s1
  · rfl
  cases s2
  · rfl
  simp only [Bool.not_true, cond_false]
  rw [hMi, hMa]
  simp only [Option.bind_some]
  rw [hSo]
  rfl
theorem k_sQuot : Ev fun n => ∀ (w a b : Int) (u : Bool), wd w = true → rng w a → rng w b → 0 < b → c_s_l9Quot ((C B).run n) w a b u = some (du w u (Lm.div (lim w a) (lim w b)), ()) := by
  refine ((k_sInf (B := B)).and ((k_sOfF (B := B)).and ((k_sMul (B := B)).and (k_sRoundD (B := B))))).succ fun n hn ⟨hI, hO, hM, hR⟩ w a b u hw ra rb hb => ?_
  rw [run_succ, e_s_l9Quot]
  unfold p_s_l9Quot
  have ht := top_pos hw
  have za : a = 0 → Lm.div (lim w a) (lim w b) = .num 0 := fun h => by rw [h, lim_zero hw, zero_div]
  by_cases h0 : a = 0
  · rw [za h0, du_zero hw, show (a == 0) = true by simpa using h0, cond_true]
    rfl
  rw [beq_f h0, cond_false, hI w b hw]
  simp only [Option.bind_some, jb_inr]
  by_cases hbt : b = top w
  · rw [decide_eq_true (.inl hbt), cond_true, hbt, lim_top, div_pos_inf, du_zero hw]
  rw [decide_eq_false (by omega), cond_false, hI w a hw]
  simp only [Option.bind_some]
  have fb' : fin w b := ⟨hw, by omega, by unfold rng at rb; omega⟩
  rcases lim_cases hw ra with ⟨h, e⟩ | ⟨h, e⟩ | ⟨h, e⟩
  · rw [decide_eq_true (.inr h), cond_true, e, lim_num fb']
    show some (a, ()) = some (du w u .neg, ())
    rw [(du_inf u).2, h]
  · rw [decide_eq_true (.inl h), cond_true, e, lim_num fb']
    show some (a, ()) = some (du w u .pos, ())
    rw [(du_inf u).1, h]
  · have h1 := h.2.1
    have h2 := h.2.2
    rw [decide_eq_false (by omega), cond_false]
    obtain ⟨p, q, g1, g2, g3, g4, g5, g6⟩ := hO w a h
    obtain ⟨r, s, k1, k2, k3, k4, k5, k6⟩ := hO w b fb'
    rw [g1, k1]
    simp only [Option.bind_some]
    have l1 := len_dig_mul p s
    have l2 := len_dig_mul q r
    have hr : r ≠ 0 := fun h => by have := k6.1 h; omega
    rw [hM _ _ (by omega) (by omega), hM _ _ (by omega) (by omega)]
    simp only [Option.bind_some]
    rw [hR w _ u _ _ hw (Nat.mul_ne_zero g2 hr) (by omega) (by omega)]
    rw [decide_eq_false (show ¬ b < 0 by omega)] at k3
    rw [mk_quot hr, g3, k3, e, lim_num fb']
    rfl
theorem k_sMulB : Ev fun n => ∀ (w a b : Int) (u : Bool), wd w = true → rng w a → rng w b → c_s_l9Mul ((C B).run n) w a b u = some (du w u (Lm.mul (lim w a) (lim w b)), ()) := by
  refine ((k_sInf (B := B)).and ((k_sOfF (B := B)).and ((k_sMul (B := B)).and ((k_sRoundD (B := B)).and (k_sTop' (B := B)))))).succ fun n hn ⟨hI, hO, hM, hR, hT⟩ w a b u hw ra rb => ?_
  rw [run_succ, e_s_l9Mul]
  unfold p_s_l9Mul
  have ht := top_pos hw
  by_cases h0 : a = 0
  · rw [h0, lim_zero hw, mul_zero', du_zero hw]
    rfl
  rw [beq_f h0, cond_false]
  simp only [jb_inr]
  by_cases h1 : b = 0
  · rw [h1, lim_zero hw, Lm.mul_comm, mul_zero', du_zero hw]
    rfl
  rw [beq_f h1, cond_false, hI w a hw]
  simp only [Option.bind_some, ilt_iff, beqB_eq]
  have inf : (a = top w ∨ a = -top w) ∨ (b = top w ∨ b = -top w) →
      (bif (!(decide (a < 0) == decide (b < 0))) then (c_s_BitTop ((C B).run n) w).bind fun (r99_1, _) => some ((ineg .i64 r99_1), ())
        else (c_s_BitTop ((C B).run n) w).bind fun (r99_2_1, _) => some (r99_2_1, ())) = some (du w u (Lm.mul (lim w a) (lim w b)), ()) := by
    intro h
    have hm : Lm.mul (lim w a) (lim w b) = Lm.inf ((lim w a).sgn * (lim w b).sgn) := by
      refine mul_inf fun r s ⟨e1, e2⟩ => ?_
      rcases h with h | h
      · rcases h with h | h
        · rw [h, lim_top] at e1; cases e1
        · rw [h, lim_bot hw] at e1; cases e1
      · rcases h with h | h
        · rw [h, lim_top] at e2; cases e2
        · rw [h, lim_bot hw] at e2; cases e2
    rw [hm, sgn_lim hw ra, sgn_lim hw rb, if_neg h0, if_neg h1, hT]
    simp only [Option.bind_some, ineg_top]
    by_cases g1 : a < 0 <;> by_cases g2 : b < 0 <;> simp [g1, g2, Lm.inf, du_inf]
  by_cases ia : a = top w ∨ a = -top w
  · rw [decide_eq_true ia, cond_true]
    simp only [jb_inr, cond_true]
    exact inf (.inl ia)
  rw [decide_eq_false ia, cond_false, hI w b hw]
  simp only [Option.bind_some, jb_inr]
  by_cases ib : b = top w ∨ b = -top w
  · rw [decide_eq_true ib, cond_true]
    exact inf (.inr ib)
  rw [decide_eq_false ib, cond_false]
  have fa : fin w a := ⟨hw, by unfold rng at ra; omega, by unfold rng at ra; omega⟩
  have fb' : fin w b := ⟨hw, by unfold rng at rb; omega, by unfold rng at rb; omega⟩
  obtain ⟨p, q, g1, g2, g3, g4, g5, g6⟩ := hO w a fa
  obtain ⟨r, s, k1, k2, k3, k4, k5, k6⟩ := hO w b fb'
  rw [g1, k1]
  simp only [Option.bind_some]
  have l1 := len_dig_mul p r
  have l2 := len_dig_mul q s
  rw [hM _ _ (by omega) (by omega), hM _ _ (by omega) (by omega)]
  simp only [Option.bind_some]
  rw [hR w _ u _ _ hw (Nat.mul_ne_zero g2 k2) (by omega) (by omega)]
  have e : (!(decide (a < 0) == decide (b < 0))) = (decide (a < 0) != decide (b < 0)) := rfl
  rw [e, sg_mul, ← Rat.mkRat_mul_mkRat, g3, k3, lim_num fa, lim_num fb']
  rfl
theorem k_sMulS : Ev fun n => ∀ (w : Int) (a b : Sp), c_s_SpanMul ((C B).run n) w a.1 a.2.1 a.2.2.1 b.1 b.2.1 b.2.2.1 = some (mulS w a b) := by
  refine ((k_sBoth (B := B)).and ((k_sMulB (B := B)).and ((k_sOf (B := B)).and ((k_sMin (B := B)).and (k_sMax (B := B)))))).succ fun n hn ⟨hB, hM, hSo, hMi, hMa⟩ w a b => ?_
  rw [run_succ, e_s_SpanMul]
  unfold p_s_SpanMul mulS
  rw [hB]
  simp only [Option.bind_some]
  cases h : both w a b
  · rfl
  rw [both_ok1, Bool.and_eq_true] at h
  obtain ⟨a1, a2, rfl, pa⟩ := ok1_iff.1 h.1
  obtain ⟨b1, b2, rfl, pb⟩ := ok1_iff.1 h.2
  obtain ⟨hw, ra1, ra2, _⟩ := pok_rng pa
  obtain ⟨_, rb1, rb2, _⟩ := pok_rng pb
  simp only [Bool.not_true, cond_false, sp, if_true]
  rw [stm4]
  simp only [hM w a1 b1 _ hw ra1 rb1, hM w a1 b2 _ hw ra1 rb2, hM w a2 b1 _ hw ra2 rb1, hM w a2 b2 _ hw ra2 rb2, Option.bind_some, hMi, hMa, hSo]
theorem k_sQuotS : Ev fun n => ∀ (w : Int) (a b : Sp), ok1 w a = true → ok1 w b = true → c_s_l9Part ((C B).run n) w a.1 a.2.1 a.2.2.1 b.1 b.2.1 b.2.2.1 = some (quotS w a b) := by
  refine ((k_sTop' (B := B)).and ((k_sQuot (B := B)).and ((k_sOf (B := B)).and (k_sMax (B := B))))).succ fun n hn ⟨hT, hQ, hSo, hMa⟩ w a b ha hb => ?_
  obtain ⟨a1, a2, rfl, pa⟩ := ok1_iff.1 ha
  obtain ⟨b1, b2, rfl, pb⟩ := ok1_iff.1 hb
  obtain ⟨hw, ra1, ra2, _⟩ := pok_rng pa
  obtain ⟨_, rb1, rb2, _⟩ := pok_rng pb
  rw [run_succ, e_s_l9Part]
  unfold p_s_l9Part
  have e : quotS w (sp a1 a2) (sp b1 b2) = if b2 ≤ 0 then spn else sp (dn w (qlo (lim w a1) (lim w b1) (lim w b2))) (up w (qhi (lim w a2) (lim w b1) (lim w b2))) := rfl
  rw [e]
  simp only [sp, ile_iff, ilt_iff]
  by_cases h : b2 ≤ 0
  · rw [decide_eq_true h, if_pos h]; rfl
  rw [decide_eq_false h, if_neg h, cond_false, hMa, hT]
  simp only [Option.bind_some, ineg_top]
  have hlo : (bif (decide (0 ≤ a1)) then
        (c_s_l9Quot ((C B).run n) w a1 b2 false).bind fun (r162_1, _) => some r162_1
      else bif (decide (0 < max b1 0)) then
        (c_s_l9Quot ((C B).run n) w a1 (max b1 0) false).bind fun (r162_1, _) => some r162_1
      else some (-top w)) = some (dn w (qlo (lim w a1) (lim w b1) (lim w b2))) := by
    unfold qlo
    by_cases g : 0 ≤ a1
    · rw [decide_eq_true g, cond_true, if_pos ((nonneg_lim hw ra1).1 g), hQ w a1 b2 false hw ra1 rb2 (by omega)]; rfl
    · rw [decide_eq_false g, cond_false, if_neg (fun h' => g ((nonneg_lim hw ra1).2 h'))]
      by_cases g' : b1 ≤ 0
      · rw [decide_eq_false (by omega), cond_false, if_pos ((nonpos_lim hw rb1).1 g'), dn_neg']
      · rw [decide_eq_true (by omega), cond_true, if_neg (fun h' => g' ((nonpos_lim hw rb1).2 h')), show max b1 0 = b1 by omega, hQ w a1 b1 false hw ra1 rb1 (by omega)]; rfl
  have hhi : (bif (decide (a2 ≤ 0)) then
        (c_s_l9Quot ((C B).run n) w a2 b2 true).bind fun (r162_1, _) => some r162_1
      else bif (decide (0 < max b1 0)) then
        (c_s_l9Quot ((C B).run n) w a2 (max b1 0) true).bind fun (r162_1, _) => some r162_1
      else some (top w)) = some (up w (qhi (lim w a2) (lim w b1) (lim w b2))) := by
    unfold qhi
    by_cases g : a2 ≤ 0
    · rw [decide_eq_true g, cond_true, if_pos ((nonpos_lim hw ra2).1 g), hQ w a2 b2 true hw ra2 rb2 (by omega)]; rfl
    · rw [decide_eq_false g, cond_false, if_neg (fun h' => g ((nonpos_lim hw ra2).2 h'))]
      by_cases g' : b1 ≤ 0
      · rw [decide_eq_false (by omega), cond_false, if_pos ((nonpos_lim hw rb1).1 g'), up_pos']
      · rw [decide_eq_true (by omega), cond_true, if_neg (fun h' => g' ((nonpos_lim hw rb1).2 h')), show max b1 0 = b1 by omega, hQ w a2 b1 true hw ra2 rb1 (by omega)]; rfl
  generalize dn w (qlo (lim w a1) (lim w b1) (lim w b2)) = L at hlo ⊢
  generalize up w (qhi (lim w a2) (lim w b1) (lim w b2)) = U at hhi ⊢
  have jlo : ∀ {R P : Type} (F : Int → P) (K : P → Option R), jb (bif (decide (0 ≤ a1)) then
        (c_s_l9Quot ((C B).run n) w a1 b2 false).bind fun (r162_1, _) => some (.inr (F r162_1))
      else bif (decide (0 < max b1 0)) then
        (c_s_l9Quot ((C B).run n) w a1 (max b1 0) false).bind fun (r162_1, _) => some (.inr (F r162_1))
      else some (.inr (F (-top w)))) K = K (F L) := by
    intro R P F K
    cases g : decide (0 ≤ a1)
    · rw [g] at hlo
      simp only [cond_false] at hlo ⊢
      cases g' : decide (0 < max b1 0)
      · rw [g'] at hlo
        simp only [cond_false, Option.some.injEq] at hlo ⊢
        rw [hlo]; rfl
      · rw [g'] at hlo
        simp only [cond_true] at hlo ⊢
        cases g2 : c_s_l9Quot ((C B).run n) w a1 (max b1 0) false with
        | none => rw [g2] at hlo; cases hlo
        | some z => rw [g2] at hlo; cases hlo; rfl
    · rw [g] at hlo
      simp only [cond_true] at hlo ⊢
      cases g2 : c_s_l9Quot ((C B).run n) w a1 b2 false with
      | none => rw [g2] at hlo; cases hlo
      | some z => rw [g2] at hlo; cases hlo; rfl
  have jhi : ∀ {R P : Type} (F : Int → P) (K : P → Option R), jb (bif (decide (a2 ≤ 0)) then
        (c_s_l9Quot ((C B).run n) w a2 b2 true).bind fun (r162_1, _) => some (.inr (F r162_1))
      else bif (decide (0 < max b1 0)) then
        (c_s_l9Quot ((C B).run n) w a2 (max b1 0) true).bind fun (r162_1, _) => some (.inr (F r162_1))
      else some (.inr (F (top w)))) K = K (F U) := by
    intro R P F K
    cases g : decide (a2 ≤ 0)
    · rw [g] at hhi
      simp only [cond_false] at hhi ⊢
      cases g' : decide (0 < max b1 0)
      · rw [g'] at hhi
        simp only [cond_false, Option.some.injEq] at hhi ⊢
        rw [hhi]; rfl
      · rw [g'] at hhi
        simp only [cond_true] at hhi ⊢
        cases g2 : c_s_l9Quot ((C B).run n) w a2 (max b1 0) true with
        | none => rw [g2] at hhi; cases hhi
        | some z => rw [g2] at hhi; cases hhi; rfl
    · rw [g] at hhi
      simp only [cond_true] at hhi ⊢
      cases g2 : c_s_l9Quot ((C B).run n) w a2 b2 true with
      | none => rw [g2] at hhi; cases hhi
      | some z => rw [g2] at hhi; cases hhi; rfl
  refine (jlo (fun z => ((w, ((), ((), ((max b1 0), (z, ((), ())))))), ((true, (a1, (a2, ()))), ((true, (b1, (b2, ()))), ((false, (0, (0, ()))), ()))))) _).trans ?_
  simp only
  rw [hT]
  simp only [Option.bind_some]
  refine (jhi (fun z => ((L, (z, ((), ()))), ((false, (0, (0, ()))), ()))) _).trans ?_
  simp only
  rw [hSo]
  rfl
theorem k_sDivTwoS : Ev fun n => ∀ (w : Int) (a b : Sp), c_s_SpanDivTwo ((C B).run n) w a.1 a.2.1 a.2.2.1 b.1 b.2.1 b.2.2.1 = some (out2 (divTwoS w a b)) := by
  refine ((k_sBoth (B := B)).and ((k_sQuotS (B := B)).and ((k_sNegS (B := B)).and ((k_sHullS (B := B)).and (k_sMeet (B := B)))))).succ fun n hn ⟨hB, hQ, hN, hH, hM⟩ w a b => ?_
  rw [run_succ, e_s_SpanDivTwo]
  unfold p_s_SpanDivTwo divTwoS
  rw [hB]
  simp only [Option.bind_some]
  cases h : both w a b
  · rfl
  have h' := h
  rw [both_ok1, Bool.and_eq_true] at h'
  have hw : wd w = true := by
    obtain ⟨a1, a2, rfl, pa⟩ := ok1_iff.1 h'.1
    exact (pok_rng pa).1
  simp only [Bool.not_true, cond_false, if_true]
  rw [hQ w a b h'.1 h'.2]
  simp only [Option.bind_some]
  rw [hN]
  simp only [Option.bind_some]
  rw [hQ w _ _ h'.1 (ok1_neg h'.2)]
  simp only [Option.bind_some]
  rw [hN, quot_neg h'.1 (ok1_neg h'.2)]
  simp only [Option.bind_some]
  have hp : spk w (quotS w a b) = true := quot_spk hw h'.1 h'.2
  have hq : spk w (quotS w (negS w a) (negS w b)) = true := quot_spk hw (ok1_neg h'.1) (ok1_neg h'.2)
  have nonp : (quotS w a b).1 = false → quotS w a b = spn := by
    unfold quotS
    split
    · intro _; rfl
    · intro h; cases h
  have nonq : (quotS w (negS w a) (negS w b)).1 = false → quotS w (negS w a) (negS w b) = spn := by
    unfold quotS
    split
    · intro _; rfl
    · intro h; cases h
  generalize quotS w a b = p at hp nonp ⊢
  generalize quotS w (negS w a) (negS w b) = q at hq nonq ⊢
  obtain ⟨s, p1, p2, u⟩ := p
  obtain ⟨t, q1, q2, u'⟩ := q
  unfold parts
  cases s
  · have e := nonp rfl
    rw [e] at hp ⊢
    simp only [spn, Bool.not_false, cond_true, Bool.false_and, Bool.false_eq_true, if_false]
    unfold hullS
    rw [if_pos (by rw [Bool.and_eq_true]; exact ⟨hp, hq⟩)]
    rfl
  cases t
  · have e := nonq rfl
    rw [e] at hq ⊢
    simp only [spn, Bool.not_false, Bool.not_true, cond_true, cond_false, Bool.false_and, Bool.and_false, Bool.false_eq_true, if_false]
    unfold hullS
    rw [if_pos (by rw [Bool.and_eq_true]; exact ⟨hp, hq⟩)]
    rfl
  have pp : pok w p1 p2 = true := hp
  have pq : pok w q1 q2 = true := hq
  have hb : both w (true, (p1, (p2, ()))) (true, (q1, (q2, ()))) = true := by
    rw [both_ok1, Bool.and_eq_true]
    exact ⟨by unfold ok1; exact hp, by unfold ok1; exact hq⟩
  simp only [Bool.not_true, cond_false, Bool.true_and]
  rw [hB w (true, (p1, (p2, ()))) (true, (q1, (q2, ()))), hb]
  simp only [Option.bind_some, cond_true]
  rw [hM w (true, (p1, (p2, ()))) (true, (q1, (q2, ())))]
  simp only [Option.bind_some, jb_inr, ilt_iff]
  obtain ⟨_, x1, x2, x3, x4, x5⟩ := pok_rng pp
  obtain ⟨_, y1, y2, y3, y4, y5⟩ := pok_rng pq
  have em : (meet w (true, (p1, (p2, ()))) (true, (q1, (q2, ())))).1 = decide (max p1 q1 ≤ min p2 q2) := by
    unfold meet
    by_cases g : max p1 q1 ≤ min p2 q2
    · rw [if_pos ⟨hb, g⟩, decide_eq_true g]; rfl
    · rw [if_neg (fun h => g h.2), decide_eq_false g]; rfl
  rw [em]
  by_cases g : p2 < q1
  · rw [decide_eq_false (show ¬ max p1 q1 ≤ min p2 q2 by omega), cond_false, decide_eq_true g, if_pos rfl, decide_eq_true (show p1 < q1 by omega), cond_true]
    rfl
  · rw [decide_eq_false g, if_neg (by simp)]
    by_cases g' : q2 < p1
    · rw [decide_eq_false (show ¬ max p1 q1 ≤ min p2 q2 by omega), cond_false, decide_eq_true g', if_pos rfl, decide_eq_false (show ¬ p1 < q1 by omega), cond_false]
      rfl
    · rw [decide_eq_true (show max p1 q1 ≤ min p2 q2 by omega), cond_true, decide_eq_false g', if_neg (by simp), hH w (true, (p1, (p2, ()))) (true, (q1, (q2, ())))]
      rfl
theorem k_sDivS : Ev fun n => ∀ (w : Int) (a b : Sp), c_s_SpanDiv ((C B).run n) w a.1 a.2.1 a.2.2.1 b.1 b.2.1 b.2.2.1 = some (divS w a b) := by
  refine ((k_sDivTwoS (B := B)).and (k_sHullS (B := B))).succ fun n hn ⟨hD, hH⟩ w a b => ?_
  rw [run_succ, e_s_SpanDiv]
  unfold p_s_SpanDiv divS
  rw [hD]
  simp only [Option.bind_some, out2]
  rw [hH w (divTwoS w a b).1 (divTwoS w a b).2]
  rfl
end Go.Px.Seat

/- What lies in spans; spans in spans. -/
namespace Pm
open Go.Px Go.Px.Seat
/-- a number in a span -/
def psI (w : Int) (s : Sp) (r : Rat) : Bool := s.1 && (pok w s.2.1 s.2.2.1 && inn w s.2.1 s.2.2.1 r)
def memS (w : Int) (s : Sp) (r : Rat) : Prop := ∃ lo hi, s = sp lo hi ∧ pok w lo hi = true ∧ lim w lo ≤ .num r ∧ .num r ≤ lim w hi
theorem psI_iff {w : Int} {s : Sp} {r : Rat} : psI w s r = true ↔ memS w s r := by
  obtain ⟨b, lo, hi, u⟩ := s
  unfold psI memS
  simp only [Bool.and_eq_true]
  constructor
  · rintro ⟨rfl, h1, h2⟩
    exact ⟨lo, hi, rfl, h1, (inn_lim h1).1 h2⟩
  · rintro ⟨lo', hi', h, h1, h2⟩
    cases h
    exact ⟨rfl, h1, (inn_lim h1).2 h2⟩
theorem memS_of {w lo hi : Int} {r : Rat} (hw : wd w = true) (h1 : rng w lo) (h2 : rng w hi) (h3 : lim w lo ≤ .num r) (h4 : .num r ≤ lim w hi) : memS w (sp lo hi) r := by
  refine ⟨lo, hi, rfl, pok_of hw h1 h2 ((lim_le hw h1 h2).1 (Lm.trans h3 h4)) ?_ ?_, h3, h4⟩
  · rcases lim_cases hw h1 with ⟨h, e⟩ | ⟨h, e⟩ | ⟨h, e⟩
    · have := top_pos hw; omega
    · rw [e] at h3; simp at h3
    · exact h.2.2
  · rcases lim_cases hw h2 with ⟨h, e⟩ | ⟨h, e⟩ | ⟨h, e⟩
    · rw [e] at h4; simp at h4
    · have := top_pos hw; omega
    · exact h.2.1
theorem memS_du {w : Int} {a b : Lm} {r : Rat} (hw : wd w = true) (h1 : a ≤ .num r) (h2 : .num r ≤ b) : memS w (sp (dn w a) (up w b)) r :=
  memS_of hw (dn_rng hw a) (up_rng hw b) (Lm.trans (lim_dn hw a) h1) (Lm.trans h2 (lim_up hw b))
theorem memS.ok1 {w : Int} {s : Sp} {r : Rat} (h : memS w s r) : ok1 w s = true := by
  obtain ⟨lo, hi, rfl, h1, _⟩ := h
  rwa [ok1_sp]
theorem memS.wd {w : Int} {s : Sp} {r : Rat} (h : memS w s r) : wd w = true := by
  obtain ⟨lo, hi, rfl, h1, _⟩ := h
  exact (pok_rng h1).1
theorem both_mem {w : Int} {a b : Sp} {f g : Rat} (h : memS w a f) (h' : memS w b g) : both w a b = true := by
  rw [both_ok1, h.ok1, h'.ok1]; rfl
theorem add_le {a b : Lm} {f g : Rat} (h : a ≤ .num f) (h' : b ≤ .num g) : Lm.add a b ≤ .num (f + g) := by
  cases a <;> cases b <;> simp_all [Lm.add]
  grind
theorem le_add {a b : Lm} {f g : Rat} (h : .num f ≤ a) (h' : .num g ≤ b) : .num (f + g) ≤ Lm.add a b := by
  cases a <;> cases b <;> simp_all [Lm.add]
  grind
theorem addS_sp {w a1 a2 b1 b2 : Int} (pa : pok w a1 a2 = true) (pb : pok w b1 b2 = true) : addS w (sp a1 a2) (sp b1 b2) = sp (dn w (Lm.add (lim w a1) (lim w b1))) (up w (Lm.add (lim w a2) (lim w b2))) := by
  have : both w (sp a1 a2) (sp b1 b2) = true := by rw [both_ok1, ok1_sp, ok1_sp, pa, pb]; rfl
  unfold addS
  rw [if_pos this]; rfl
theorem mulS_sp {w a1 a2 b1 b2 : Int} (pa : pok w a1 a2 = true) (pb : pok w b1 b2 = true) : mulS w (sp a1 a2) (sp b1 b2) =
    sp (min (min (dn w (Lm.mul (lim w a1) (lim w b1))) (dn w (Lm.mul (lim w a1) (lim w b2)))) (min (dn w (Lm.mul (lim w a2) (lim w b1))) (dn w (Lm.mul (lim w a2) (lim w b2)))))
      (max (max (up w (Lm.mul (lim w a1) (lim w b1))) (up w (Lm.mul (lim w a1) (lim w b2)))) (max (up w (Lm.mul (lim w a2) (lim w b1))) (up w (Lm.mul (lim w a2) (lim w b2))))) := by
  have : both w (sp a1 a2) (sp b1 b2) = true := by rw [both_ok1, ok1_sp, ok1_sp, pa, pb]; rfl
  unfold mulS
  rw [if_pos this]
  exact stm4 w a1 a2 b1 b2
theorem memS_add {w : Int} {a b : Sp} {f g : Rat} (h : memS w a f) (h' : memS w b g) : memS w (addS w a b) (f + g) := by
  have hw := h.wd
  obtain ⟨a1, a2, rfl, pa, l1, l2⟩ := h
  obtain ⟨b1, b2, rfl, pb, m1, m2⟩ := h'
  rw [addS_sp pa pb]
  exact memS_du hw (add_le l1 m1) (le_add l2 m2)
theorem memS_neg {w : Int} {a : Sp} {f : Rat} (h : memS w a f) : memS w (negS w a) (-f) := by
  have hw := h.wd
  obtain ⟨a1, a2, rfl, pa, l1, l2⟩ := h
  obtain ⟨_, r1, r2, _⟩ := pok_rng pa
  rw [negS_sp pa]
  refine ⟨-a2, -a1, rfl, pok_neg pa, ?_, ?_⟩
  · rw [lim_opp hw r2, show Lm.num (-f) = (Lm.num f).opp from rfl, Lm.opp_le]; exact l2
  · rw [lim_opp hw r1, show Lm.num (-f) = (Lm.num f).opp from rfl, Lm.opp_le]; exact l1
theorem memS_sub {w : Int} {a b : Sp} {f g : Rat} (h : memS w a f) (h' : memS w b g) : memS w (subS w a b) (f - g) := by
  rw [Rat.sub_eq_add_neg]
  exact memS_add h (memS_neg h')
theorem min4_rng {w a b c d : Int} (ha : rng w a) (hb : rng w b) (hc : rng w c) (hd : rng w d) : rng w (min (min a b) (min c d)) ∧ rng w (max (max a b) (max c d)) := by
  unfold rng at *; omega
theorem memS_mul {w : Int} {a b : Sp} {f g : Rat} (h : memS w a f) (h' : memS w b g) : memS w (mulS w a b) (f * g) := by
  have hw := h.wd
  obtain ⟨a1, a2, rfl, pa, l1, l2⟩ := h
  obtain ⟨b1, b2, rfl, pb, m1, m2⟩ := h'
  rw [mulS_sp pa pb]
  have hd := fun x => dn_rng hw x
  have hu := fun x => up_rng hw x
  have hbox := Lm.mul_box l1 l2 m1 m2
  rw [show Lm.mul (.num f) (.num g) = .num (f * g) from rfl] at hbox
  have kd : ∀ x : Lm, ∀ m : Int, rng w m → m ≤ dn w x → x ≤ .num (f * g) → lim w m ≤ .num (f * g) := fun x m hm h1 h2 =>
    Lm.trans ((lim_le hw hm (hd x)).2 h1) (Lm.trans (lim_dn hw x) h2)
  have ku : ∀ x : Lm, ∀ m : Int, rng w m → up w x ≤ m → .num (f * g) ≤ x → .num (f * g) ≤ lim w m := fun x m hm h1 h2 =>
    Lm.trans h2 (Lm.trans (lim_up hw x) ((lim_le hw (hu x) hm).2 h1))
  refine memS_of hw (min4_rng (hd _) (hd _) (hd _) (hd _)).1 (min4_rng (hu _) (hu _) (hu _) (hu _)).2 ?_ ?_
  · have hm := (min4_rng (hd (Lm.mul (lim w a1) (lim w b1))) (hd (Lm.mul (lim w a1) (lim w b2))) (hd (Lm.mul (lim w a2) (lim w b1))) (hd (Lm.mul (lim w a2) (lim w b2)))).1
    rcases hbox.1 with q | q | q | q
    · exact kd _ _ hm (by omega) q
    · exact kd _ _ hm (by omega) q
    · exact kd _ _ hm (by omega) q
    · exact kd _ _ hm (by omega) q
  · have hm := (min4_rng (hu (Lm.mul (lim w a1) (lim w b1))) (hu (Lm.mul (lim w a1) (lim w b2))) (hu (Lm.mul (lim w a2) (lim w b1))) (hu (Lm.mul (lim w a2) (lim w b2)))).2
    rcases hbox.2 with q | q | q | q
    · exact ku _ _ hm (by omega) q
    · exact ku _ _ hm (by omega) q
    · exact ku _ _ hm (by omega) q
    · exact ku _ _ hm (by omega) q
theorem hullS_spn {w : Int} {a : Sp} (h : spk w a = true) (hw : wd w = true) : hullS w a spn = a := by
  unfold hullS
  rw [h, spk_spn, hw]
  simp only [Bool.and_self, if_true, spn, Bool.false_eq_true, if_false]
  by_cases h1 : a.1 = true
  · rw [if_pos h1]
  · rw [if_neg h1]
    obtain ⟨s, lo, hi, u⟩ := a
    simp only [Bool.not_eq_true] at h1
    subst h1
    simp [spk] at h
    rw [h.2.1, h.2.2]
theorem hullS_sp {w a1 a2 b1 b2 : Int} (pa : pok w a1 a2 = true) (pb : pok w b1 b2 = true) : hullS w (sp a1 a2) (sp b1 b2) = sp (min a1 b1) (max a2 b2) := by
  unfold hullS
  rw [spk_sp, spk_sp, pa, pb]; rfl
theorem spn_hullS {w : Int} {a : Sp} (h : spk w a = true) (hw : wd w = true) : hullS w spn a = a := by
  unfold hullS
  rw [h, spk_spn, hw]; rfl
theorem spk_cases {w : Int} {a : Sp} (h : spk w a = true) : a = spn ∨ ∃ lo hi, a = sp lo hi ∧ pok w lo hi = true := by
  obtain ⟨s, lo, hi, u⟩ := a
  cases s
  · simp [spk] at h
    left
    rw [h.2.1, h.2.2]; rfl
  · exact .inr ⟨lo, hi, rfl, h⟩
theorem memS_hull {w : Int} {a b : Sp} {r : Rat} (ha : spk w a = true) (hb : spk w b = true) (h : memS w a r ∨ memS w b r) : memS w (hullS w a b) r := by
  have hw : wd w = true := by rcases h with h | h <;> exact h.wd
  have no : ¬ memS w spn r := fun ⟨_, _, h, _⟩ => by cases h
  rcases spk_cases ha with rfl | ⟨a1, a2, rfl, pa⟩
  · rw [spn_hullS hb hw]
    exact h.resolve_left no
  rcases spk_cases hb with rfl | ⟨b1, b2, rfl, pb⟩
  · rw [hullS_spn ha hw]
    exact h.resolve_right no
  rw [hullS_sp pa pb]
  obtain ⟨_, x1, x2, x3, x4, x5⟩ := pok_rng pa
  obtain ⟨_, y1, y2, y3, y4, y5⟩ := pok_rng pb
  have k1 : rng w (min a1 b1) := by unfold rng at *; omega
  have k2 : rng w (max a2 b2) := by unfold rng at *; omega
  rcases h with ⟨_, _, h, _, h1, h2⟩ | ⟨_, _, h, _, h1, h2⟩ <;> cases h
  · exact memS_of hw k1 k2 (Lm.trans ((lim_le hw k1 x1).2 (by omega)) h1) (Lm.trans h2 ((lim_le hw x2 k2).2 (by omega)))
  · exact memS_of hw k1 k2 (Lm.trans ((lim_le hw k1 y1).2 (by omega)) h1) (Lm.trans h2 ((lim_le hw y2 k2).2 (by omega)))
theorem quotS_sp (w a1 a2 b1 b2 : Int) : quotS w (sp a1 a2) (sp b1 b2) = if b2 ≤ 0 then spn else sp (dn w (qlo (lim w a1) (lim w b1) (lim w b2))) (up w (qhi (lim w a2) (lim w b1) (lim w b2))) := rfl
theorem memS_quot {w : Int} {a b : Sp} {f g : Rat} (h : memS w a f) (h' : memS w b g) (hg : 0 < g) : memS w (quotS w a b) (f / g) := by
  have hw := h.wd
  obtain ⟨a1, a2, rfl, pa, l1, l2⟩ := h
  obtain ⟨b1, b2, rfl, pb, m1, m2⟩ := h'
  obtain ⟨_, rb1, rb2, _⟩ := pok_rng pb
  have hy : ¬ Lm.num g ≤ .num 0 := by simp; exact Rat.not_le.2 hg
  have hb : 0 < b2 := (pos_lim' hw rb2).2 fun h => hy (Lm.trans m2 h)
  rw [quotS_sp, if_neg (by omega)]
  exact memS_du hw (qlo_le (x := .num f) (y := .num g) l1 m1 m2 hy) (le_qhi (x := .num f) (y := .num g) l2 m1 m2 hy)
theorem parts_or (w : Int) (p q : Sp) : (parts w p q = (p, q) ∧ p.1 = true ∧ q.1 = true ∧ p.2.2.1 < q.2.1) ∨ (parts w p q = (q, p) ∧ p.1 = true ∧ q.1 = true ∧ q.2.2.1 < p.2.1) ∨ parts w p q = (hullS w p q, spn) := by
  unfold parts
  by_cases h : (p.1 && q.1 && decide (p.2.2.1 < q.2.1)) = true
  · rw [if_pos h]
    simp only [Bool.and_eq_true, decide_eq_true_iff] at h
    exact .inl ⟨rfl, h.1.1, h.1.2, h.2⟩
  · rw [if_neg h]
    by_cases h' : (p.1 && q.1 && decide (q.2.2.1 < p.2.1)) = true
    · rw [if_pos h']
      simp only [Bool.and_eq_true, decide_eq_true_iff] at h'
      exact .inr (.inl ⟨rfl, h'.1.1, h'.1.2, h'.2⟩)
    · rw [if_neg h']; exact .inr (.inr rfl)
theorem divTwoS_eq {w : Int} {a b : Sp} (h : both w a b = true) : divTwoS w a b = parts w (quotS w a b) (quotS w (negS w a) (negS w b)) := by
  unfold divTwoS
  rw [if_pos h]
theorem hull_comm {w : Int} {a b : Sp} (ha : spk w a = true) (hb : spk w b = true) (hw : wd w = true) : hullS w a b = hullS w b a := by
  rcases spk_cases ha with rfl | ⟨a1, a2, rfl, pa⟩
  · rw [spn_hullS hb hw, hullS_spn hb hw]
  rcases spk_cases hb with rfl | ⟨b1, b2, rfl, pb⟩
  · rw [hullS_spn ha hw, spn_hullS ha hw]
  rw [hullS_sp pa pb, hullS_sp pb pa]
  unfold sp
  congr 2
  · omega
  · congr 1; omega
theorem hull_spk {w : Int} {a b : Sp} (ha : spk w a = true) (hb : spk w b = true) (hw : wd w = true) : spk w (hullS w a b) = true := by
  rcases spk_cases ha with rfl | ⟨a1, a2, rfl, pa⟩
  · rwa [spn_hullS hb hw]
  rcases spk_cases hb with rfl | ⟨b1, b2, rfl, pb⟩
  · rwa [hullS_spn ha hw]
  rw [hullS_sp pa pb, spk_sp]
  obtain ⟨_, x1, x2, x3, x4, x5⟩ := pok_rng pa
  obtain ⟨_, y1, y2, y3, y4, y5⟩ := pok_rng pb
  exact pok_of hw (by unfold rng at *; omega) (by unfold rng at *; omega) (by omega) (by omega) (by omega)
theorem divS_eq {w : Int} {a b : Sp} (h : both w a b = true) : divS w a b = hullS w (quotS w a b) (quotS w (negS w a) (negS w b)) := by
  have h' := h
  rw [both_ok1, Bool.and_eq_true] at h'
  have hw : wd w = true := by
    obtain ⟨a1, a2, rfl, pa⟩ := ok1_iff.1 h'.1
    exact (pok_rng pa).1
  have hp := quot_spk hw h'.1 h'.2
  have hq := quot_spk hw (ok1_neg h'.1) (ok1_neg h'.2)
  unfold divS
  rw [divTwoS_eq h]
  rcases parts_or w (quotS w a b) (quotS w (negS w a) (negS w b)) with ⟨e, _⟩ | ⟨e, _⟩ | e <;> rw [e]
  · exact hull_comm hq hp hw
  · exact hullS_spn (hull_spk hp hq hw) hw
/-- a quotient lies in one of both parts -/
theorem memS_divTwo {w : Int} {a b : Sp} {f g : Rat} (h : memS w a f) (h' : memS w b g) (hg : g ≠ 0) : memS w (divTwoS w a b).1 (f / g) ∨ memS w (divTwoS w a b).2 (f / g) := by
  have hb := both_mem h h'
  rw [divTwoS_eq hb]
  have hp := quot_spk h.wd h.ok1 h'.ok1
  have hq := quot_spk h.wd (ok1_neg h.ok1) (ok1_neg h'.ok1)
  have hm : memS w (quotS w a b) (f / g) ∨ memS w (quotS w (negS w a) (negS w b)) (f / g) := by
    by_cases h0 : 0 < g
    · exact .inl (memS_quot h h' h0)
    · right
      have := memS_quot (memS_neg h) (memS_neg h') (by grind)
      have e : -f / -g = f / g := by
        have e2 : (-g)⁻¹ = -(g⁻¹) := by
          refine Rat.inv_eq_of_mul_eq_one ?_
          rw [Rat.neg_mul, Rat.mul_neg, Rat.neg_neg, Rat.mul_inv_cancel g hg]
        rw [Rat.div_def, Rat.div_def, e2, Rat.neg_mul, Rat.mul_neg, Rat.neg_neg]
      rwa [e] at this
  rcases parts_or w (quotS w a b) (quotS w (negS w a) (negS w b)) with ⟨e, _⟩ | ⟨e, _⟩ | e <;> rw [e]
  · exact hm
  · exact hm.symm
  · exact .inl (memS_hull hp hq hm)
theorem memS_div {w : Int} {a b : Sp} {f g : Rat} (h : memS w a f) (h' : memS w b g) (hg : g ≠ 0) : memS w (divS w a b) (f / g) := by
  have hb := both_mem h h'
  have hw := h.wd
  have hp := quot_spk hw h.ok1 h'.ok1
  have hq := quot_spk hw (ok1_neg h.ok1) (ok1_neg h'.ok1)
  unfold divS
  have key := memS_divTwo h h' hg
  rw [divTwoS_eq hb] at key ⊢
  rcases parts_or w (quotS w a b) (quotS w (negS w a) (negS w b)) with ⟨e, _⟩ | ⟨e, _⟩ | e <;> rw [e] at key ⊢
  · exact memS_hull hp hq key
  · exact memS_hull hq hp key
  · exact memS_hull (hull_spk hp hq hw) (by rw [spk_spn, hw]) key
end Pm

/- Backward over a product: both sides; bytes turned round. Seat ZD. -/
namespace Pm
open Go.Px Go.Px.Seat
/-- has 0 -/
def nuS (s : Sp) : Bool := decide (s.2.1 ≤ 0 ∧ 0 ≤ s.2.2.1)
def three (w : Int) (z y x : Sp) : Bool := ok1 w z && (ok1 w y && ok1 w x)
noncomputable def bparts (w : Int) (z y x : Sp) : Sp × Sp := (meet w x (divTwoS w z y).1, meet w x (divTwoS w z y).2)
noncomputable def bmulS (w : Int) (z y x : Sp) : Sp := if three w z y x = true then (if (nuS z && nuS y) = true then x else hullS w (bparts w z y x).1 (bparts w z y x).2) else spn
noncomputable def gapS (w : Int) (z y x : Sp) : Int × (Int × (Bool × Unit)) :=
  if (three w z y x && (!(nuS z && nuS y) && ((bparts w z y x).1.1 && (bparts w z y x).2.1))) = true then ((bparts w z y x).1.2.2.1, ((bparts w z y x).2.2.1, (true, ()))) else (0, (0, (false, ())))
theorem full3 (w : Int) (z y x : Sp) : ([z, y, x].all fun s => s.1 && spk w s) = three w z y x := by simp [three, ok1]
theorem meet_cases (w : Int) (a b : Sp) : meet w a b = spn ∨ ∃ a1 a2 b1 b2, a = sp a1 a2 ∧ b = sp b1 b2 ∧ pok w a1 a2 = true ∧ pok w b1 b2 = true ∧ max a1 b1 ≤ min a2 b2 ∧ meet w a b = sp (max a1 b1) (min a2 b2) := by
  unfold meet
  by_cases h : both w a b = true ∧ max a.2.1 b.2.1 ≤ min a.2.2.1 b.2.2.1
  · right
    have h1 := h.1
    rw [both_ok1, Bool.and_eq_true] at h1
    obtain ⟨a1, a2, rfl, pa⟩ := ok1_iff.1 h1.1
    obtain ⟨b1, b2, rfl, pb⟩ := ok1_iff.1 h1.2
    exact ⟨a1, a2, b1, b2, rfl, rfl, pa, pb, h.2, if_pos h⟩
  · exact .inl (if_neg h)
theorem meet_pok2 {w a1 a2 b1 b2 : Int} (pa : pok w a1 a2 = true) (pb : pok w b1 b2 = true) (h : max a1 b1 ≤ min a2 b2) : pok w (max a1 b1) (min a2 b2) = true := by
  obtain ⟨hw, x1, x2, x3, x4, x5⟩ := pok_rng pa
  obtain ⟨_, y1, y2, y3, y4, y5⟩ := pok_rng pb
  exact pok_of hw (by unfold rng at *; omega) (by unfold rng at *; omega) h (by omega) (by omega)
theorem meet_spk {w : Int} {a b : Sp} (hw : wd w = true) : spk w (meet w a b) = true := by
  rcases meet_cases w a b with h | ⟨a1, a2, b1, b2, rfl, rfl, pa, pb, h, e⟩
  · rw [h, spk_spn, hw]
  · rw [e, spk_sp]; exact meet_pok2 pa pb h
theorem memS_meet {w : Int} {a b : Sp} {r : Rat} (h : memS w a r) (h' : memS w b r) : memS w (meet w a b) r := by
  have hw := h.wd
  have hb := both_mem h h'
  obtain ⟨a1, a2, rfl, pa, l1, l2⟩ := h
  obtain ⟨b1, b2, rfl, pb, m1, m2⟩ := h'
  obtain ⟨_, x1, x2, x3, x4, x5⟩ := pok_rng pa
  obtain ⟨_, y1, y2, y3, y4, y5⟩ := pok_rng pb
  have k1 : rng w (max a1 b1) := by unfold rng at *; omega
  have k2 : rng w (min a2 b2) := by unfold rng at *; omega
  have g1 : lim w (max a1 b1) ≤ .num r := by
    rcases Int.le_total a1 b1 with h | h
    · rw [show max a1 b1 = b1 by omega]; exact m1
    · rw [show max a1 b1 = a1 by omega]; exact l1
  have g2 : .num r ≤ lim w (min a2 b2) := by
    rcases Int.le_total a2 b2 with h | h
    · rw [show min a2 b2 = a2 by omega]; exact l2
    · rw [show min a2 b2 = b2 by omega]; exact m2
  have hle := (lim_le hw k1 k2).1 (Lm.trans g1 g2)
  have e : meet w (sp a1 a2) (sp b1 b2) = sp (max a1 b1) (min a2 b2) := if_pos ⟨hb, hle⟩
  rw [e]
  exact memS_of hw k1 k2 g1 g2
theorem memS_nu {w : Int} {a : Sp} (h : memS w a 0) : nuS a = true := by
  have hw := h.wd
  obtain ⟨a1, a2, rfl, pa, l1, l2⟩ := h
  obtain ⟨_, x1, x2, x3, x4, x5⟩ := pok_rng pa
  unfold nuS
  rw [decide_eq_true_iff]
  exact ⟨(nonpos_lim hw x1).2 l1, (nonneg_lim hw x2).2 l2⟩
theorem nuS_sp (lo hi : Int) : nuS (true, (lo, (hi, ()))) = decide (lo ≤ 0 ∧ 0 ≤ hi) := rfl
end Pm
namespace Go.Px.Seat
open Go Pm
set_option linter.unusedVariables false
variable {B : Run}
theorem k_zero : Ev fun n => ∀ (s : Sp), c_i_Span_zero ((C B).run n) s.1 s.2.1 s.2.2.1 = some (nuS s, ()) := by
  refine Ev.triv.succ fun n hn _ s => ?_
  rw [run_succ, e_i_Span_zero]
  unfold p_i_Span_zero nuS
  obtain ⟨b, lo, hi, u⟩ := s
  simp only [ile_iff]
  by_cases h : lo ≤ 0
  · rw [decide_eq_true h, cond_true, jb_inr]
    simp [h]
  · rw [decide_eq_false h, cond_false, jb_inr]
    simp [h]
theorem k_nought : Ev fun n => ∀ (s : Sp), s.1 = true → c_s_l10Nought ((C B).run n) s.1 s.2.1 s.2.2.1 = some (nuS s, ()) := by
  refine Ev.triv.succ fun n hn _ s hs => ?_
  rw [run_succ, e_s_l10Nought]
  unfold p_s_l10Nought nuS
  obtain ⟨b, lo, hi, u⟩ := s
  simp only at hs
  subst hs
  simp only [ile_iff, cond_true]
  by_cases h : lo ≤ 0
  · rw [decide_eq_true h, cond_true, jb_inr]
    simp [h]
  · rw [decide_eq_false h, cond_false, jb_inr]
    simp [h]
theorem k_three : Ev fun n => ∀ (w : Int) (z y x : Sp), c_s_l10Three ((C B).run n) w z.1 z.2.1 z.2.2.1 y.1 y.2.1 y.2.2.1 x.1 x.2.1 x.2.2.1 = some (three w z y x, ()) := by
  refine ((k_sBoth (B := B)).and (k_sSpanOk (B := B))).succ fun n hn ⟨hB, hO⟩ w z y x => ?_
  rw [run_succ, e_s_l10Three]
  unfold p_s_l10Three
  rw [hB]
  have e : three w z y x = (both w z y && (spk w x && x.1)) := by
    unfold three
    rw [both_ok1, show ok1 w x = (spk w x && x.1) by unfold ok1; rw [Bool.and_comm]]
    cases ok1 w z <;> cases ok1 w y <;> simp
  rw [e]
  obtain ⟨b, lo, hi, u⟩ := x
  simp only [Option.bind_some]
  cases both w z y
  · rfl
  · simp only [cond_true]
    rw [hO]
    simp only [Option.bind_some]
    cases spk w (b, (lo, (hi, ())))
    · rfl
    · rfl
theorem k_bparts : Ev fun n => ∀ (w : Int) (z y x : Sp), c_i_backParts ((C B0).run n) w z.1 z.2.1 z.2.2.1 y.1 y.2.1 y.2.2.1 x.1 x.2.1 x.2.2.1 = some (out2 (bparts w z y x)) := by
  refine (k_divTwoS.and (k_Meet (B := B0))).succ fun n hn ⟨hD, hM⟩ w z y x => ?_
  rw [run_succ, e_i_backParts]
  unfold p_i_backParts bparts
  rw [hD]
  simp only [Option.bind_some, out2]
  rw [hM w x (divTwoS w z y).1]
  simp only [Option.bind_some]
  rw [hM w x (divTwoS w z y).2]
  rfl
theorem three_some {w : Int} {z y x : Sp} (h : three w z y x = true) : z.1 = true ∧ y.1 = true ∧ x.1 = true := by
  simp only [three, ok1, Bool.and_eq_true] at h
  exact ⟨h.1.1, h.2.1.1, h.2.2.1⟩
theorem k_bmulS : Ev fun n => ∀ (w : Int) (z y x : Sp), c_i_BackMul ((C B0).run n) w z.1 z.2.1 z.2.2.1 y.1 y.2.1 y.2.2.1 x.1 x.2.1 x.2.2.1 = some (bmulS w z y x) := by
  refine ((k_full (B := B0)).and ((k_zero (B := B0)).and (k_bparts.and (k_HullS (B := B0))))).succ fun n hn ⟨hF, hZ, hP, hH⟩ w z y x => ?_
  rw [run_succ, e_i_BackMul]
  unfold p_i_BackMul bmulS
  have e2 : [(z.1, (z.2.1, (z.2.2.1, ()))), (y.1, (y.2.1, (y.2.2.1, ()))), (x.1, (x.2.1, (x.2.2.1, ())))] = [z, y, x] := rfl
  rw [e2, hF _ _ (by simp), full3]
  simp only [Option.bind_some]
  cases h : three w z y x
  · rfl
  simp only [Bool.not_true, cond_false, if_true]
  have key : (c_i_backParts ((C B0).run n) w z.1 z.2.1 z.2.2.1 y.1 y.2.1 y.2.2.1 x.1 x.2.1 x.2.2.1).bind (fun (r96_1, (r96b, (r96c, (r96d, (r96e, (r96f, _)))))) =>
      (c_i_SpanHull ((C B0).run n) w r96_1 r96b r96c r96d r96e r96f).bind fun (r49_1, (r49b, (r49c, _))) =>
      some (r49_1, (r49b, (r49c, ())))) = some (hullS w (bparts w z y x).1 (bparts w z y x).2) := by
    rw [hP]
    simp only [Option.bind_some, out2]
    rw [hH w (bparts w z y x).1 (bparts w z y x).2]
    rfl
  rw [hZ]
  simp only [Option.bind_some]
  cases hz : nuS z
  · simp only [cond_false, jb_inr, Bool.false_and, Bool.false_eq_true, if_false]
    exact key
  · simp only [cond_true, Bool.true_and]
    rw [hZ]
    simp only [Option.bind_some, jb_inr]
    cases hy : nuS y
    · simp only [cond_false, Bool.false_eq_true, if_false]
      exact key
    · rfl
theorem k_gapS : Ev fun n => ∀ (w : Int) (z y x : Sp), c_i_BackMulGap ((C B0).run n) w z.1 z.2.1 z.2.2.1 y.1 y.2.1 y.2.2.1 x.1 x.2.1 x.2.2.1 = some (gapS w z y x) := by
  refine ((k_full (B := B0)).and ((k_zero (B := B0)).and k_bparts)).succ fun n hn ⟨hF, hZ, hP⟩ w z y x => ?_
  rw [run_succ, e_i_BackMulGap]
  unfold p_i_BackMulGap gapS
  have e2 : [(z.1, (z.2.1, (z.2.2.1, ()))), (y.1, (y.2.1, (y.2.2.1, ()))), (x.1, (x.2.1, (x.2.2.1, ())))] = [z, y, x] := rfl
  rw [e2, hF _ _ (by simp), full3]
  simp only [Option.bind_some]
  cases h : three w z y x
  · rfl
  simp only [Bool.not_true, cond_false, Bool.true_and]
  rw [hZ]
  simp only [Option.bind_some]
  have hp := hP w z y x
  cases hz : nuS z
  · simp only [cond_false, jb_inr, Bool.false_and, Bool.not_false, Bool.true_and]
    rw [hp]
    simp only [Option.bind_some, out2]
    generalize (bparts w z y x).1 = P1
    generalize (bparts w z y x).2 = P2
    obtain ⟨s, p1, p2, u⟩ := P1
    obtain ⟨t, q1, q2, u'⟩ := P2
    cases s
    · rfl
    cases t
    · rfl
    rfl
  · simp only [cond_true, Bool.true_and]
    rw [hZ]
    simp only [Option.bind_some, jb_inr]
    cases hy : nuS y
    · simp only [cond_false, Bool.not_false, Bool.true_and]
      rw [hp]
      simp only [Option.bind_some, out2]
      generalize (bparts w z y x).1 = P1
      generalize (bparts w z y x).2 = P2
      obtain ⟨s, p1, p2, u⟩ := P1
      obtain ⟨t, q1, q2, u'⟩ := P2
      cases s
      · rfl
      cases t
      · rfl
      rfl
    · rfl
theorem k_sGapS : Ev fun n => ∀ (w : Int) (z y x : Sp), c_s_BackMulGap ((C B).run n) w z.1 z.2.1 z.2.2.1 y.1 y.2.1 y.2.2.1 x.1 x.2.1 x.2.2.1 = some (gapS w z y x) := by
  refine ((k_three (B := B)).and ((k_nought (B := B)).and ((k_sDivTwoS (B := B)).and (k_sMeet (B := B))))).succ fun n hn ⟨hF, hZ, hD, hM⟩ w z y x => ?_
  rw [run_succ, e_s_BackMulGap]
  unfold p_s_BackMulGap gapS
  rw [hF]
  simp only [Option.bind_some]
  cases h : three w z y x
  · rfl
  obtain ⟨s1, s2, s3⟩ := three_some h
  simp only [Bool.not_true, cond_false, Bool.true_and]
  rw [hZ z s1]
  simp only [Option.bind_some]
  have hd := hD w z y
  have m1 : c_s_SpanMeet ((C B).run n) w x.1 x.2.1 x.2.2.1 (divTwoS w z y).1.1 (divTwoS w z y).1.2.1 (divTwoS w z y).1.2.2.1 = some (bparts w z y x).1 := hM w x (divTwoS w z y).1
  have m2 : c_s_SpanMeet ((C B).run n) w x.1 x.2.1 x.2.2.1 (divTwoS w z y).2.1 (divTwoS w z y).2.2.1 (divTwoS w z y).2.2.2.1 = some (bparts w z y x).2 := hM w x (divTwoS w z y).2
  cases hz : nuS z
  · simp only [cond_false, jb_inr, Bool.false_and, Bool.not_false, Bool.true_and]
    rw [hd]
    simp only [Option.bind_some, out2]
    rw [m1]
    simp only [Option.bind_some]
    rw [m2]
    simp only [Option.bind_some]
    clear m1 m2
    generalize (bparts w z y x).1 = P1
    generalize (bparts w z y x).2 = P2
    obtain ⟨s, p1, p2, u⟩ := P1
    obtain ⟨t, q1, q2, u'⟩ := P2
    cases s
    · rfl
    cases t
    · rfl
    rfl
  · simp only [cond_true, Bool.true_and]
    rw [hZ y s2]
    simp only [Option.bind_some, jb_inr]
    cases hy : nuS y
    · simp only [cond_false, Bool.not_false, Bool.true_and]
      rw [hd]
      simp only [Option.bind_some, out2]
      rw [m1]
      simp only [Option.bind_some]
      rw [m2]
      simp only [Option.bind_some]
      clear m1 m2
      generalize (bparts w z y x).1 = P1
      generalize (bparts w z y x).2 = P2
      obtain ⟨s, p1, p2, u⟩ := P1
      obtain ⟨t, q1, q2, u'⟩ := P2
      cases s
      · rfl
      cases t
      · rfl
      rfl
    · rfl
theorem k_psTurn : Ev fun n => ∀ l : List Int, byt l → l.length ≤ 1099511627776 → ∃ r, c_w_psTurn ((C B).run n) l = some (r, ()) ∧ byt r ∧ r.length ≤ 2000 := by
  refine Ev.triv.succ fun n hn _ l hl hlen => ?_
  rw [run_succ, e_w_psTurn]
  unfold p_w_psTurn
  have e0 : isub .i64 (len l) 1 = (l.length : Int) - 1 := by rw [len_eq]; exact isub_eq (by omega) (by omega)
  rw [e0]
  refine iter_goal (fun x => ∃ r, x = some (r, ()) ∧ byt r ∧ r.length ≤ 2000) (fun st => ∃ (i : Nat) (r : List Int), i ≤ l.length ∧ byt r ∧ r.length ≤ 2000 ∧ st = ((((i : Int) - 1), ((), (l, ((), ())))), (r, ())))
    (fun st => (st.1.1 + 1).toNat) (fun (o : List Int × Unit) => ∃ r, o = (r, ()) ∧ byt r ∧ r.length ≤ 2000) ?_ (by simp only; omega) ⟨l.length, [], Nat.le_refl _, fun x hx => (by cases hx), by simp, rfl⟩ ?_
  rotate_left
  · rintro o ⟨r, rfl, h⟩
    exact ⟨r, rfl, h⟩
  rintro rec _ ⟨i, r, hi, hr, hr2, rfl⟩ ih
  simp only [ile_iff, ilt_iff, len_eq]
  by_cases h : i = 0
  · subst h
    exact ⟨_, rfl, r, rfl, hr, hr2⟩
  rw [decide_eq_true (show (0 : Int) ≤ (i : Int) - 1 by omega), cond_true, jb_inr]
  simp only
  by_cases h2 : r.length < 2000
  · have hx : List.getD l ((i : Int) - 1).toNat 0 ∈ l := by
      rw [List.getD_eq_getElem?_getD, List.getElem?_eq_getElem (by omega), Option.getD_some]
      exact List.getElem_mem _
    rw [decide_eq_true (by omega), cond_true, ok_of (inB_true (by omega) (by omega)), ok_of (aok_true (by simp; omega)), isub_eq (by omega) (by omega)]
    obtain ⟨o, g1, g2⟩ := ih _ ⟨i - 1, r ++ [List.getD l ((i : Int) - 1).toNat 0], by omega, fun x hx' => by
        rcases List.mem_append.1 hx' with h | h
        · exact hr x h
        · rw [List.mem_singleton.1 h]; exact hl _ hx, by simp; omega, rfl⟩ (by simp only; omega)
    have e : ((i - 1 : Nat) : Int) - 1 = (i : Int) - 1 - 1 := by omega
    rw [e] at g1
    exact ⟨o, g1, g2⟩
  · rw [decide_eq_false (by omega), cond_false]
    exact ⟨_, rfl, r, rfl, hr, hr2⟩
end Go.Px.Seat

/- The least and the greatest of some numbers, rounded outward. No program here. -/
namespace Pm
/-- o goes from the float below the least of S to the float above the greatest -/
def Best (w : Int) (S : List Rat) (o : Sp) : Prop := o.1 = true ∧ (∃ r ∈ S, (∀ s ∈ S, r ≤ s) ∧ IsDn w r o.2.1) ∧ (∃ r ∈ S, (∀ s ∈ S, s ≤ r) ∧ IsDn w (-r) (-o.2.2.1))
theorem Best.one {w d u : Int} {r : Rat} (h1 : IsDn w r d) (h2 : IsDn w (-r) (-u)) : Best w [r] (sp d u) :=
  ⟨rfl, ⟨r, by simp, fun s hs => by rw [List.mem_singleton.1 hs]; exact Rat.le_refl, h1⟩, ⟨r, by simp, fun s hs => by rw [List.mem_singleton.1 hs]; exact Rat.le_refl, h2⟩⟩
theorem Best.more {w d u : Int} {s : Rat} {S : List Rat} {o : Sp} (h : Best w S o) (h1 : IsDn w s d) (h2 : IsDn w (-s) (-u)) : Best w (s :: S) (sp (min o.2.1 d) (max o.2.2.1 u)) := by
  obtain ⟨_, ⟨r, hr, hle, hd⟩, ⟨r', hr', hge, hu⟩⟩ := h
  refine ⟨rfl, ?_, ?_⟩
  · rcases (Rat.le_total : r ≤ s ∨ s ≤ r) with hrs | hrs
    · refine ⟨r, List.mem_cons_of_mem _ hr, fun x hx => ?_, ?_⟩
      · rcases List.mem_cons.1 hx with rfl | hx
        · exact hrs
        · exact hle x hx
      · have := hd.mono h1 hrs
        show IsDn w r (min o.2.1 d)
        rw [Int.min_eq_left this]; exact hd
    · refine ⟨s, List.mem_cons_self .., fun x hx => ?_, ?_⟩
      · rcases List.mem_cons.1 hx with rfl | hx
        · exact Rat.le_refl
        · exact Rat.le_trans hrs (hle x hx)
      · have := h1.mono hd hrs
        show IsDn w s (min o.2.1 d)
        rw [Int.min_eq_right this]; exact h1
  · rcases (Rat.le_total : s ≤ r' ∨ r' ≤ s) with hrs | hrs
    · refine ⟨r', List.mem_cons_of_mem _ hr', fun x hx => ?_, ?_⟩
      · rcases List.mem_cons.1 hx with rfl | hx
        · exact hrs
        · exact hge x hx
      · have := hu.mono h2 (by grind)
        show IsDn w (-r') (-(max o.2.2.1 u))
        rw [Int.max_eq_left (by omega)]; exact hu
    · refine ⟨s, List.mem_cons_self .., fun x hx => ?_, ?_⟩
      · rcases List.mem_cons.1 hx with rfl | hx
        · exact Rat.le_refl
        · exact Rat.le_trans (hge x hx) hrs
      · have := h2.mono hu (by grind)
        show IsDn w (-s) (-(max o.2.2.1 u))
        rw [Int.max_eq_right (by omega)]; exact h2
end Pm

/- Products of spans: the program's. Seat ZD. -/
namespace Go.Px.Seat
open Go Pm
set_option linter.unusedVariables false
variable {B : Run}
def Bst (w : Int) (S : List Rat) (o : Sp) : Prop := (S = [] ∧ o = spn) ∨ Best w S o
theorem k_SpanMul : Ev fun n => ∀ w a1 a2 b1 b2 : Int, pok w a1 a2 = true → pok w b1 b2 = true → fin w a1 → fin w a2 → fin w b1 → fin w b2 →
    ∃ o, c_i_SpanMul ((C B0).run n) w true a1 a2 true b1 b2 = some o ∧ Best w [fv w a2 * fv w b2, fv w a2 * fv w b1, fv w a1 * fv w b2, fv w a1 * fv w b1] o := by
  refine ((k_full (B := B0)).and (k_limitOf.and (k_times.and (k_floats.and (k_some (B := B0)))))).succ fun n hn ⟨hF, hL, hT, hFl, hSo⟩ w a1 a2 b1 b2 pa pb ha1 ha2 hb1 hb2 => ?_
  rw [run_succ, e_i_SpanMul]
  unfold p_i_SpanMul
  have e2 : [(true, (a1, (a2, ()))), (true, (b1, (b2, ())))] = [sp a1 a2, sp b1 b2] := rfl
  have hfull : ([sp a1 a2, sp b1 b2].all fun s => s.1 && spk w s) = true := by
    rw [full_two]; exact both_of2 (a := sp a1 a2) (b := sp b1 b2) pa pb rfl rfl
  rw [e2, hF _ _ (by simp), hfull]
  simp only [Option.bind_some, Bool.not_true, cond_false]
  let S : Nat → List Rat := fun i => if i = 0 then [] else if i = 1 then [fv w a1 * fv w b2, fv w a1 * fv w b1] else [fv w a2 * fv w b2, fv w a2 * fv w b1, fv w a1 * fv w b2, fv w a1 * fv w b1]
  refine iter_ex (fun st => ∃ (i : Nat) (o : Sp) (z : Sp), i ≤ 2 ∧ Bst w (S i) o ∧ st = (((i : Int), ((2 : Int), ((), ((), (w, ((), ((), ()))))))), ([a1, a2], ((true, (b1, (b2, ()))), ((o.1, (o.2.1, (o.2.2.1, ()))), ((z.1, (z.2.1, (z.2.2.1, ()))), ()))))))
    (fun st => (2 - st.1.1).toNat) (fun r => Best w (S 2) r) ?_ n _ (by simp only; omega) ⟨0, spn, spn, by omega, .inl ⟨rfl, rfl⟩, rfl⟩
  rintro rec _ ⟨i, o, z, hi, ho, rfl⟩ ih
  simp only [ilt_iff, len_eq]
  by_cases h : i < 2
  · obtain ⟨x, hx, hfx, hSx⟩ : ∃ x, List.getD [a1, a2] i 0 = x ∧ fin w x ∧ S (i + 1) = fv w x * fv w b2 :: fv w x * fv w b1 :: S i := by
      have : i = 0 ∨ i = 1 := by omega
      rcases this with rfl | rfl
      · exact ⟨a1, rfl, ha1, rfl⟩
      · exact ⟨a2, rfl, ha2, rfl⟩
    rw [decide_eq_true (show (i : Int) < 2 by omega), cond_true, ok_of (inB_true (by omega) (by simp; omega)), Int.toNat_natCast, hx]
    let T : Nat → List Rat := fun j => if j = 0 then S i else if j = 1 then fv w x * fv w b1 :: S i else fv w x * fv w b2 :: fv w x * fv w b1 :: S i
    refine iter_ex (fun st => ∃ (j : Nat) (o : Sp), j ≤ 2 ∧ Bst w (T j) o ∧ st = (((j : Int), ((2 : Int), ((), (w, (x, ((), ((i : Int), ((2 : Int), ((), ((), ((), ()))))))))))), ([b1, b2], ((o.1, (o.2.1, (o.2.2.1, ()))), ([a1, a2], ((true, (b1, (b2, ()))), ((z.1, (z.2.1, (z.2.2.1, ()))), ())))))))
      (fun st => (2 - st.1.1).toNat) (fun r => Best w (S 2) r) ?_ n _ (by simp only; omega) ⟨0, o, by omega, ho, rfl⟩
    rintro rec1 _ ⟨j, o, hj, ho, rfl⟩ ih1
    simp only [ilt_iff, len_eq]
    by_cases h1 : j < 2
    · obtain ⟨y, hy, hfy, hTy⟩ : ∃ y, List.getD [b1, b2] j 0 = y ∧ fin w y ∧ T (j + 1) = fv w x * fv w y :: T j := by
        have : j = 0 ∨ j = 1 := by omega
        rcases this with rfl | rfl
        · exact ⟨b1, rfl, hb1, rfl⟩
        · exact ⟨b2, rfl, hb2, rfl⟩
      obtain ⟨d, u, g1, g2, g3⟩ := hFl w _ hfx.1 (short_mulf hfx hfy)
      rw [decide_eq_true (show (j : Int) < 2 by omega), cond_true, ok_of (inB_true (by omega) (by simp; omega)), Int.toNat_natCast, hy, hL w x hfx, hL w y hfy]
      simp only [Option.bind_some, outF]
      rw [hT _ _ (short_mono (fits_short (fits_fv hfx)) (by omega)) (short_mono (fits_short (fits_fv hfy)) (by omega))]
      simp only [Option.bind_some, outF]
      rw [g1]
      simp only [Option.bind_some]
      have hj1 : iadd .i64 (j : Int) 1 = (j : Int) + 1 := iadd_eq (by omega) (by omega)
      rcases ho with ⟨ho1, rfl⟩ | ho
      · simp only [spn, Bool.not_false, cond_true]
        rw [hSo]
        simp only [Option.bind_some, jb_inr, sp]
        rw [hSo]
        simp only [Option.bind_some, sp]
        refine ih1 _ ⟨j + 1, sp d u, by omega, .inr ?_, ?_⟩ (by simp only; omega)
        · rw [hTy, ho1]; exact Best.one g2 g3
        · have m1 : imin d d = d := by unfold imin; omega
          have m2 : imax u u = u := by unfold imax; omega
          rw [m1, m2, hj1]; rfl
      · have h01 := ho.1
        rw [h01]
        simp only [Bool.not_true, cond_false, jb_inr]
        rw [hSo]
        simp only [Option.bind_some, sp]
        refine ih1 _ ⟨j + 1, sp (min o.2.1 d) (max o.2.2.1 u), by omega, .inr ?_, ?_⟩ (by simp only; omega)
        · rw [hTy]; exact Best.more ho g2 g3
        · rw [hj1]; rfl
    · have hj2 : j = 2 := by omega
      subst hj2
      rw [decide_eq_false (by omega), cond_false, iadd_eq (by omega) (by omega)]
      refine ih _ ⟨i + 1, o, z, by omega, ?_, rfl⟩ (by simp only; omega)
      rw [hSx]; exact ho
  · have hi2 : i = 2 := by omega
    subst hi2
    rw [decide_eq_false (by omega), cond_false]
    refine ⟨_, rfl, ?_⟩
    rcases ho with ⟨h1, _⟩ | ho
    · cases h1
    · exact ho
end Go.Px.Seat

/- Helpers of the law on tight spans. Seat ZD. -/
namespace Go.Px.Seat
open Go Pm
set_option linter.unusedVariables false
variable {B : Run}
theorem k_sFloatFracNo : Ev fun n => ∀ w o : Int, ¬ fin w o → c_s_FloatFrac ((C B).run n) w o = some (false, ([], ([], (false, ())))) := by
  refine (k_sPartNo (B := B)).succ fun n hn hP w o h => ?_
  rw [run_succ, e_s_FloatFrac]
  unfold p_s_FloatFrac
  rw [hP w o h]
  rfl
/-- what `psBound` answers of a float that is the one -/
theorem k_psDn : Ev fun n => ∀ (w o : Int) (r : Rat), wd w = true → fits r → IsDn w r o → c_w_psBound ((C B).run n) w o (fb r) (ft r) (fq r) false = some (true, ()) := by
  refine (k_psBound (B := B)).mono fun n hP w o r hw hr h => ?_
  obtain ⟨m, h1, h2⟩ := hP w o r false hw hr
  rw [if_neg (by simp)] at h2
  rw [h1, h2.unique h]
  simp
theorem k_psUp : Ev fun n => ∀ (w o : Int) (r : Rat), wd w = true → fits r → IsDn w (-r) (-o) → c_w_psBound ((C B).run n) w o (fb r) (ft r) (fq r) true = some (true, ()) := by
  refine (k_psBound (B := B)).mono fun n hP w o r hw hr h => ?_
  obtain ⟨m, h1, h2⟩ := hP w o r true hw hr
  rw [if_pos rfl] at h2
  have := h2.unique h
  rw [h1, show m = o by omega]
  simp
end Go.Px.Seat

/- The law on both parts of a quotient: what its function comes to. Seat ZD. -/
namespace Pm
open Go.Px Go.Px.Seat
def hf : Rat := mkRat 1 2
theorem hf_num : hf.num = 1 := by decide
theorem hf_den : hf.den = 2 := by decide
theorem hf_fb : fb hf = false := by unfold fb; rw [hf_num]; rfl
theorem hf_ft : ft hf = [1] := by unfold ft; rw [hf_num]; exact one_dig.symm
theorem hf_fq : fq hf = [2] := by unfold fq; rw [hf_den]; exact dig_of_lt (d := 2) (by decide) (by decide)
theorem hf_fits : fits hf := by
  unfold fits
  rw [hf_num, hf_den]
  exact ⟨lt_two_of (A := 0) (by decide) (by decide), lt_two_of (A := 1) (by decide) (by decide)⟩
theorem hf_two (x : Rat) : x * hf + x * hf = x := by
  have : hf + hf = 1 := by decide +kernel
  rw [← Rat.mul_add, this, Rat.mul_one]
theorem beq_self3 (s : Bool) (a b : Int) : (!((beqB s s) && ((a == a) && ((b == b) && true)))) = false := by cases s <;> simp [beqB]
theorem sgnR_zero {r : Rat} : sgnR r = 0 ↔ r = 0 := by
  unfold sgnR
  split
  · rename_i h
    constructor
    · intro h'; omega
    · intro h'; subst h'; exact absurd h (by decide)
  · split <;> simp_all
end Pm
namespace Go.Px.Seat
open Go Pm
set_option linter.unusedVariables false
variable {B : Run}
theorem k_sSign : Ev fun n => ∀ r : Rat, fits r → c_s_FracSign ((C B).run n) (fb r) (ft r) (fq r) = some (sgnR r, ()) := by
  refine (k_sFracOk (B := B)).succ fun n hn hO r hr => ?_
  rw [run_succ, e_s_FracSign]
  unfold p_s_FracSign
  rw [hO, fok_fr, decide_eq_true hr]
  simp only [Option.bind_some, Bool.not_true, cond_false, jb_inr, len_zero_iff]
  unfold sgnR
  by_cases h0 : r = 0
  · subst h0
    have : ft 0 = [] := ft_nil.2 rfl
    rw [this]; rfl
  · have : (ft r).isEmpty = false := by
      cases h : (ft r).isEmpty
      · rfl
      · exact absurd (ft_nil.1 (List.isEmpty_iff.1 h)) h0
    rw [this, cond_false, fb_iff]
    by_cases hl : r < 0
    · rw [decide_eq_true hl, if_pos hl]; rfl
    · rw [decide_eq_false hl, if_neg hl, if_neg h0]; rfl
theorem k_psI : Ev fun n => ∀ (w : Int) (s : Sp) (r : Rat), fits r → c_w_psIn ((C B).run n) w s.1 s.2.1 s.2.2.1 (fb r) (ft r) (fq r) = some (psI w s r, ()) := k_psIn (B := B)
theorem k_ff : Ev fun n => ∀ w o : Int, ∃ (t c : Bool) (u v : List Int), c_s_FloatFrac ((C B).run n) w o = some (c, (u, (v, (t, ())))) ∧ (t = true → fin w o ∧ c = fb (fv w o) ∧ u = ft (fv w o) ∧ v = fq (fv w o)) ∧ (fin w o → t = true) := by
  refine ((k_sFloatFrac (B := B)).and (k_sFloatFracNo (B := B))).mono fun n ⟨hF, hN⟩ w o => ?_
  by_cases h : fin w o
  · exact ⟨true, _, _, _, (hF w o h).2, fun _ => ⟨h, rfl, rfl, rfl⟩, fun _ => rfl⟩
  · exact ⟨false, _, _, _, hN w o h, (fun h => by cases h), fun h' => absurd h' h⟩
theorem divTwo_snd {w : Int} {a b : Sp} (h : (divTwoS w a b).2.1 = true) : both w a b = true ∧ ∃ p1 p2 q1 q2, divTwoS w a b = (sp p1 p2, sp q1 q2) ∧ pok w p1 p2 = true ∧ pok w q1 q2 = true ∧ p2 < q1 := by
  have hb : both w a b = true := by
    cases hh : both w a b
    · unfold divTwoS at h
      rw [hh] at h; cases h
    · rfl
  refine ⟨hb, ?_⟩
  have h' := hb
  rw [both_ok1, Bool.and_eq_true] at h'
  have hw : wd w = true := by
    obtain ⟨a1, a2, rfl, pa⟩ := ok1_iff.1 h'.1
    exact (pok_rng pa).1
  have hp := quot_spk hw h'.1 h'.2
  have hq := quot_spk hw (ok1_neg h'.1) (ok1_neg h'.2)
  rw [divTwoS_eq hb] at h ⊢
  rcases parts_or w (quotS w a b) (quotS w (negS w a) (negS w b)) with ⟨e, e1, e2, e3⟩ | ⟨e, e1, e2, e3⟩ | e <;> rw [e] at h ⊢
  · rcases spk_cases hp with hh | ⟨p1, p2, hh, pp⟩
    · rw [hh] at e1; cases e1
    rcases spk_cases hq with hh' | ⟨q1, q2, hh', pq⟩
    · rw [hh'] at e2; cases e2
    rw [hh, hh'] at e3 ⊢
    exact ⟨p1, p2, q1, q2, rfl, pp, pq, e3⟩
  · rcases spk_cases hp with hh | ⟨p1, p2, hh, pp⟩
    · rw [hh] at e1; cases e1
    rcases spk_cases hq with hh' | ⟨q1, q2, hh', pq⟩
    · rw [hh'] at e2; cases e2
    rw [hh, hh'] at e3 ⊢
    exact ⟨q1, q2, p1, p2, rfl, pq, pp, e3⟩
  · cases h
/-- what lies between both parts is the quotient of nothing -/
theorem divTwo_gap {w p1 p2 q1 q2 : Int} {a b : Sp} {m g : Rat} (e : divTwoS w a b = (sp p1 p2, sp q1 q2)) (fp : fin w p2) (fq' : fin w q1) (h1 : fv w p2 < m) (h2 : m < fv w q1) (hg : memS w b g) (h0 : g ≠ 0) : ¬ memS w a (m * g) := by
  intro h
  have := memS_divTwo h hg h0
  rw [e, Rat.mul_div_cancel h0] at this
  rcases this with ⟨_, _, e1, _, _, k⟩ | ⟨_, _, e1, _, k, _⟩
  · cases e1
    rw [lim_num fp] at k
    simp at k
    exact absurd k (Rat.not_le.2 h1)
  · cases e1
    rw [lim_num fq'] at k
    simp at k
    exact absurd k (Rat.not_le.2 h2)
theorem k_FnSpanDivTwo : Ev fun n => ∀ l m : List Int, byt l → byt m → c_w_FnSpanDivTwo ((C B0).run n) l m = some (true, ()) := by
  refine ((k_Fine (B := B0)).and ((k_FineOf (B := B0)).and ((k_ff (B := B0)).and (k_divTwoS.and ((k_sDivTwoS (B := B0)).and (k_divS.and ((k_sHullS (B := B0)).and ((k_sFracAdd (B := B0)).and ((k_sFracMul (B := B0)).and ((k_sSign (B := B0)).and (k_psI (B := B0)))))))))))).succ
    fun n hn ⟨hF, hFO, hff, hD, hsD, hV, hsH, hfA, hfM, hSg, hI⟩ l m hl hm => ?_
  rw [run_succ, e_w_FnSpanDivTwo]
  unfold p_w_FnSpanDivTwo
  simp only [ilt_iff, len_eq]
  by_cases q1 : (1048576 : Int) < (l.length : Int)
  · rw [decide_eq_true q1]; rfl
  rw [decide_eq_false q1, cond_false, jb_inr]
  simp only
  by_cases q2 : (1048576 : Int) < (m.length : Int)
  · rw [decide_eq_true q2]; rfl
  rw [decide_eq_false q2, cond_false]
  obtain ⟨w, a1, a2, f, x1, x2, x3, x4, x5⟩ := hF l hl (by omega)
  obtain ⟨b1, b2, g, y1, y2, y3, y4⟩ := hFO w m x2 hm (by omega)
  rw [x1]
  simp only [Option.bind_some]
  rw [y1]
  simp only [Option.bind_some]
  have mg : memS w (sp b1 b2) g := ⟨b1, b2, rfl, y2, (inn_lim y2).1 y4⟩
  have hd := hD w (sp a1 a2) (sp b1 b2)
  have hsd := hsD w (sp a1 a2) (sp b1 b2)
  have hv := hV w (sp a1 a2) (sp b1 b2)
  have hh := hsH w (divTwoS w (sp a1 a2) (sp b1 b2)).1 (divTwoS w (sp a1 a2) (sp b1 b2)).2
  have eV : divS w (sp a1 a2) (sp b1 b2) = hullS w (divTwoS w (sp a1 a2) (sp b1 b2)).1 (divTwoS w (sp a1 a2) (sp b1 b2)).2 := rfl
  rw [eV] at hv
  simp only [sp] at hd hsd hv hh
  rw [hd, hsd]
  simp only [Option.bind_some, out2, beq_self3, cond_false]
  rw [hv]
  simp only [Option.bind_some]
  rw [hh]
  simp only [Option.bind_some, beq_self3, jb_inr, cond_false]
  clear hd hsd hv hh eV
  cases hq : (divTwoS w (true, (a1, (a2, ()))) (true, (b1, (b2, ())))).2.1
  · rfl
  simp only [Bool.not_true, cond_false]
  obtain ⟨hb, p1, p2, q1', q2', e, pp, pq, hlt⟩ := divTwo_snd (a := sp a1 a2) (b := sp b1 b2) hq
  have e' : divTwoS w (true, (a1, (a2, ()))) (true, (b1, (b2, ()))) = (sp p1 p2, sp q1' q2') := e
  rw [e']
  simp only [sp, Bool.not_true, cond_false, jb_inr, ile_iff]
  rw [decide_eq_false (by omega), cond_false]
  obtain ⟨_, r1, r2, r3, r4, r5⟩ := pok_rng pp
  obtain ⟨_, s1, s2, s3, s4, s5⟩ := pok_rng pq
  have fp : fin w p2 := ⟨x2, by omega, by omega⟩
  have fq' : fin w q1' := ⟨x2, by omega, by omega⟩
  obtain ⟨t1, c1, u1, v1, z1, k1, j1⟩ := hff w p2
  obtain ⟨t2, c2, u2, v2, z2, k2, j2⟩ := hff w q1'
  rw [z1, z2]
  obtain rfl := j1 fp
  obtain rfl := j2 fq'
  obtain ⟨_, rfl, rfl, rfl⟩ := k1 rfl
  obtain ⟨_, rfl, rfl, rfl⟩ := k2 rfl
  simp only [Option.bind_some, Bool.not_true, cond_false, jb_inr]
  rw [hfA _ _ (fits_fv fp) (fits_fv fq'), resF_fits (fits_add fp fq')]
  simp only [Option.bind_some, Bool.not_true, cond_false]
  rw [← hf_fb, ← hf_ft, ← hf_fq, hfM _ _ (fits_add fp fq') hf_fits]
  simp only [Option.bind_some]
  by_cases m1 : fits ((fv w p2 + fv w q1') * hf)
  rotate_left
  · rw [resF_not m1]; rfl
  rw [resF_fits m1]
  simp only [Bool.not_true, cond_false]
  rw [hfM _ _ m1 y3]
  simp only [Option.bind_some]
  by_cases m2 : fits ((fv w p2 + fv w q1') * hf * g)
  rotate_left
  · rw [resF_not m2]; rfl
  rw [resF_fits m2]
  simp only [Bool.not_true, cond_false]
  rw [hSg g y3]
  simp only [Option.bind_some]
  by_cases h0 : g = 0
  · rw [sgnR_zero.2 h0]; rfl
  rw [beq_f (fun h => h0 (sgnR_zero.1 h)), cond_false, hI w (true, (a1, (a2, ()))) _ m2]
  simp only [Option.bind_some, jb_inr]
  have hmid := hf_two (fv w p2 + fv w q1')
  have hfl : fv w p2 < fv w q1' := fv_lt.2 hlt
  have hgap := divTwo_gap e fp fq' (m := (fv w p2 + fv w q1') * hf) (by grind) (by grind) mg h0
  cases hp : psI w (true, (a1, (a2, ()))) ((fv w p2 + fv w q1') * hf * g)
  · rfl
  · exact absurd (psI_iff.1 hp) hgap
end Go.Px.Seat

/- The law on gaps: what its function comes to. Seat ZD. -/
namespace Pm
open Go.Px Go.Px.Seat
theorem ok1_of_pok {w lo hi : Int} (h : pok w lo hi = true) : ok1 w (sp lo hi) = true := by rwa [ok1_sp]
/-- what a gap is -/
theorem gap_law {w z1 z2 y1 y2 x1 x2 : Int} {r s : Rat} {lo hi : Int} {u : Unit} (pz : pok w z1 z2 = true) (py : pok w y1 y2 = true) (px : pok w x1 x2 = true)
    (hr : memS w (sp x1 x2) r) (hs : memS w (sp y1 y2) s) (h : gapS w (sp z1 z2) (sp y1 y2) (sp x1 x2) = (lo, (hi, (true, u)))) :
    lo < hi ∧ fin w lo ∧ fin w hi ∧ (∃ m1 m2, bmulS w (sp z1 z2) (sp y1 y2) (sp x1 x2) = sp m1 m2 ∧ m1 ≤ lo ∧ hi ≤ m2) ∧ (fv w lo < r → r < fv w hi → ¬ memS w (sp z1 z2) (r * s)) := by
  have hw := hr.wd
  have h3 : three w (sp z1 z2) (sp y1 y2) (sp x1 x2) = true := by
    unfold three
    rw [ok1_sp, ok1_sp, ok1_sp, pz, py, px]; rfl
  unfold gapS at h
  split at h
  rotate_left
  · cases h
  rename_i hc
  simp only [Bool.and_eq_true, Bool.not_eq_true'] at hc
  obtain ⟨_, c2, c3, c4⟩ := hc
  simp only [Prod.mk.injEq] at h
  obtain ⟨h1, h2, _⟩ := h
  unfold bmulS
  rw [if_pos h3, if_neg (by rw [c2]; simp)]
  unfold bparts at *
  simp only at *
  have hsnd : (divTwoS w (sp z1 z2) (sp y1 y2)).2.1 = true := by
    rcases meet_cases w (sp x1 x2) (divTwoS w (sp z1 z2) (sp y1 y2)).2 with e | ⟨a1, a2, b1, b2, _, e, _⟩
    · rw [e] at c4; cases c4
    · rw [e]; rfl
  obtain ⟨_, p1, p2, q1, q2, e, pp, pq, hlt⟩ := divTwo_snd hsnd
  have mem : ∀ t, memS w (sp z1 z2) t → s ≠ 0 → memS w (sp p1 p2) (t / s) ∨ memS w (sp q1 q2) (t / s) := fun t ht h0 => by
    have := memS_divTwo ht hs h0
    rwa [e] at this
  rw [e] at h1 h2 c3 c4 ⊢
  simp only at h1 h2 c3 c4 ⊢
  rcases meet_cases w (sp x1 x2) (sp p1 p2) with e1 | ⟨a1, a2, b1, b2, ea, eb, pa, pb, k1, e1⟩
  · rw [e1] at c3; cases c3
  cases ea; cases eb
  rcases meet_cases w (sp x1 x2) (sp q1 q2) with e2 | ⟨c1, c2', d1, d2, ec, ed, pc, pd, k2, e2⟩
  · rw [e2] at c4; cases c4
  cases ec; cases ed
  rw [e1] at h1 ⊢
  rw [e2] at h2 ⊢
  have h1' : min x2 p2 = lo := h1
  have h2' : max x1 q1 = hi := h2
  have pm1 := meet_pok2 px pp k1
  have pm2 := meet_pok2 px pq k2
  obtain ⟨_, g1, g2, g3, g4, g5⟩ := pok_rng pm1
  obtain ⟨_, f1, f2, f3, f4, f5⟩ := pok_rng pm2
  have hlh : lo < hi := by omega
  have fl : fin w lo := ⟨hw, by omega, by omega⟩
  have fh : fin w hi := ⟨hw, by omega, by omega⟩
  refine ⟨hlh, fl, fh, ⟨min (max x1 p1) (max x1 q1), max (min x2 p2) (min x2 q2), hullS_sp pm1 pm2, by omega, by omega⟩, fun l1 l2 hm => ?_⟩
  have h0 : s ≠ 0 := fun h0 => by
    subst h0
    have n1 := memS_nu hs
    rw [Rat.mul_zero] at hm
    have n2 := memS_nu hm
    rw [n1, n2] at c2
    cases c2
  have hin := mem _ hm h0
  rw [Rat.mul_div_cancel h0] at hin
  rcases hin with hin | hin
  · have := memS_meet hr hin
    rw [e1, h1'] at this
    obtain ⟨_, _, ee, _, _, k⟩ := this
    cases ee
    rw [lim_num fl] at k
    simp at k
    exact absurd k (Rat.not_le.2 l1)
  · have := memS_meet hr hin
    rw [e2, h2'] at this
    obtain ⟨_, _, ee, _, k, _⟩ := this
    cases ee
    rw [lim_num fh] at k
    simp at k
    exact absurd k (Rat.not_le.2 l2)
end Pm
namespace Go.Px.Seat
open Go Pm
set_option linter.unusedVariables false
variable {B : Run}
theorem k_FnBackGap : Ev fun n => ∀ l m : List Int, byt l → byt m → c_w_FnBackGap ((C B0).run n) l m = some (true, ()) := by
  refine ((k_Fine (B := B0)).and ((k_FineOf (B := B0)).and ((k_ff (B := B0)).and ((k_psTurn (B := B0)).and (k_gapS.and ((k_sGapS (B := B0)).and (k_bmulS.and ((k_psIs (B := B0)).and ((k_sFracCmp (B := B0)).and ((k_sFracMul (B := B0)).and (k_psI (B := B0)))))))))))).succ
    fun n hn ⟨hF, hFO, hff, hT, hG, hsG, hM, hIs, hC, hfM, hI⟩ l m hl hm => ?_
  rw [run_succ, e_w_FnBackGap]
  unfold p_w_FnBackGap
  simp only [ilt_iff, len_eq]
  by_cases q1 : (1048576 : Int) < (l.length : Int)
  · rw [decide_eq_true q1]; rfl
  rw [decide_eq_false q1, cond_false, jb_inr]
  simp only
  by_cases q2 : (1048576 : Int) < (m.length : Int)
  · rw [decide_eq_true q2]; rfl
  rw [decide_eq_false q2, cond_false]
  obtain ⟨th, t1, t2, t3⟩ := hT m hm (by omega)
  obtain ⟨w, x1, x2, r, a1, a2, a3, a4, a5⟩ := hF l hl (by omega)
  obtain ⟨y1, y2, s, b1, b2, b3, b4⟩ := hFO w m a2 hm (by omega)
  obtain ⟨z1, z2, g, c1, c2, c3, c4⟩ := hFO w th a2 t2 (by omega)
  have mr : memS w (sp x1 x2) r := ⟨x1, x2, rfl, a3, (inn_lim a3).1 a5⟩
  have ms : memS w (sp y1 y2) s := ⟨y1, y2, rfl, b2, (inn_lim b2).1 b4⟩
  have law := @gap_law w z1 z2 y1 y2 x1 x2 r s
  rw [t1, a1]
  simp only [Option.bind_some]
  rw [b1, c1]
  simp only [Option.bind_some]
  rw [hG w (true, (z1, (z2, ()))) (true, (y1, (y2, ()))) (true, (x1, (x2, ()))), hsG w (true, (z1, (z2, ()))) (true, (y1, (y2, ()))) (true, (x1, (x2, ())))]
  simp only [Option.bind_some]
  have hM' := hM w (true, (z1, (z2, ()))) (true, (y1, (y2, ()))) (true, (x1, (x2, ())))
  simp only at hM'
  generalize hg : gapS w (true, (z1, (z2, ()))) (true, (y1, (y2, ()))) (true, (x1, (x2, ()))) = G
  obtain ⟨lo, hi, t, u⟩ := G
  have e1 : (!(beqB t t)) = false := by cases t <;> rfl
  have e2 : (!((lo == lo) && ((hi == hi) && true))) = false := by simp
  simp only [e1, e2, cond_false, jb_inr]
  cases t
  · rfl
  obtain ⟨k1, fl, fh, ⟨m1, m2, em, k3, k4⟩, k5⟩ := law c2 b2 a3 mr ms hg
  simp only [Bool.not_true, cond_false]
  rw [hM']
  simp only [Option.bind_some]
  have em' : bmulS w (true, (z1, (z2, ()))) (true, (y1, (y2, ()))) (true, (x1, (x2, ()))) = (true, (m1, (m2, ()))) := em
  rw [em']
  simp only [ile_iff]
  rw [decide_eq_false (by omega), cond_false, hIs (true, (lo, (hi, ()))) (true, (m1, (m2, ())))]
  simp only [Option.bind_some, Bool.not_true, Bool.false_or, Bool.true_and]
  rw [decide_eq_true ⟨k3, k4⟩]
  simp only [Bool.not_true, jb_inr, cond_false]
  obtain ⟨tt1, cc1, u1, v1, zz1, kk1, j1⟩ := hff w lo
  obtain ⟨tt2, cc2, u2, v2, zz2, kk2, j2⟩ := hff w hi
  rw [zz1, zz2]
  obtain rfl := j1 fl
  obtain rfl := j2 fh
  obtain ⟨_, rfl, rfl, rfl⟩ := kk1 rfl
  obtain ⟨_, rfl, rfl, rfl⟩ := kk2 rfl
  simp only [Option.bind_some, Bool.not_true, cond_false]
  rw [hC _ _ (fits_fv fl) a4]
  simp only [Option.bind_some]
  by_cases h1 : r ≤ fv w lo
  · rw [decide_eq_true ((cmpR_ge _ _).2 h1), cond_true, jb_inr]; rfl
  rw [decide_eq_false (fun h => h1 ((cmpR_ge _ _).1 h)), cond_false, hC _ _ a4 (fits_fv fh)]
  simp only [Option.bind_some, jb_inr]
  by_cases h2 : fv w hi ≤ r
  · rw [decide_eq_true ((cmpR_ge _ _).2 h2), cond_true]; rfl
  rw [decide_eq_false (fun h => h2 ((cmpR_ge _ _).1 h)), cond_false, hfM _ _ a4 b3]
  simp only [Option.bind_some]
  by_cases f1 : fits (r * s)
  rotate_left
  · rw [resF_not f1]; rfl
  rw [resF_fits f1]
  simp only [Bool.not_true, cond_false]
  rw [hI w (true, (z1, (z2, ()))) _ f1]
  simp only [Option.bind_some, jb_inr]
  have hno := k5 (Rat.not_le.1 h1) (Rat.not_le.1 h2)
  cases hp : psI w (true, (z1, (z2, ()))) (r * s)
  · rfl
  · exact absurd (psI_iff.1 hp) hno
end Go.Px.Seat
