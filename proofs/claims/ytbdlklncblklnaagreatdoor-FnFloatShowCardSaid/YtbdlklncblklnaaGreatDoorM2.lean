/- Own texts, part M2: PmE PmH PtA PmI0 PmI. -/
import Derived.Test.YtbdlklncblklnaaGreatDoorM1
set_option linter.unusedVariables false

/- Numbers: the reference's functions on digits, division. -/
namespace Go.Px.Seat
open Go Pm
set_option linter.unusedVariables false
variable {B : Run}

theorem len_mul_le {x y a b : Nat} (hx : (dig x).length ≤ a) (hy : (dig y).length ≤ b) : (dig (x * y)).length ≤ a + b := by
  have := len_dig_mul x y; omega
theorem k_sTimes : Ev fun n => ∀ x d : Nat, (dig x).length ≤ 1073741824 → d < 65536 → c_s_l5Times ((C B).run n) (dig x) (d : Int) = some (dig (x * d), ()) := by
  refine (k_sMul (B := B)).succ fun n hn hMul x d hx hd => ?_
  rw [run_succ, e_s_l5Times]
  unfold p_s_l5Times
  by_cases h : d = 0
  · subst h; simp
  · have e1 : ((d : Int) == 0) = false := by simpa using h
    rw [e1, cond_false, dig_one hd h, hMul x d hx (by rw [dig_of_lt hd h]; simp)]
    rfl
theorem div_step (x d k : Nat) (hd : 0 < d) : x / 65536 ^ k / d = x / 65536 ^ (k + 1) / d * 65536 + (x / 65536 ^ (k + 1) % d * 65536 + x / 65536 ^ k % 65536) / d ∧
    x / 65536 ^ k % d = (x / 65536 ^ (k + 1) % d * 65536 + x / 65536 ^ k % 65536) % d := by
  have e1 : x / 65536 ^ (k + 1) = x / 65536 ^ k / 65536 := by rw [Nat.div_div_eq_div_mul, Nat.pow_succ]
  rw [e1]
  generalize x / 65536 ^ k = X
  have h1 := Nat.div_add_mod X 65536
  have h2 := Nat.div_add_mod (X / 65536) d
  have e2 : X = (X / 65536 % d * 65536 + X % 65536) + d * (X / 65536 / d * 65536) := by
    generalize X / 65536 = Y at *
    generalize Y / d = q at *
    generalize Y % d = r at *
    rw [← h2] at h1
    grind
  constructor
  · conv => lhs; rw [e2]
    rw [Nat.add_mul_div_left _ _ hd, Nat.add_comm]
  · conv => lhs; rw [e2]
    rw [Nat.add_mul_mod_self_left]
theorem k_sDivSmall : Ev fun n => ∀ x d : Nat, (dig x).length ≤ 1073741824 → 0 < d → d < 2147483648 → c_s_l5DivSmall ((C B).run n) (dig x) (d : Int) = some (dig (x / d), (((x % d : Nat) : Int), ())) := by
  refine (k_sTrim (B := B)).succ fun n hn hTrim x d hx hd hd2 => ?_
  rw [run_succ, e_s_l5DivSmall]
  unfold p_s_l5DivSmall
  simp only [len_eq]
  generalize hL : (dig x).length = L at *
  rw [ok_of (mkOk_true (by omega) (by omega) (by omega)), isub_eq (by omega) (by omega), Int.toNat_natCast]
  refine iter_const (fun p => ∃ (k : Nat) (o : List Int), p = ((((k : Int) - 1), (((x / 65536 ^ k % d : Nat) : Int), (dig x, ((), ((d : Int), ((), (0, ()))))))), (o, ())) ∧ k ≤ L ∧ o.length = L ∧ Dg o ∧
      val o = ((x / 65536 ^ k / d * 65536 ^ k : Nat) : Int) ∧ ∀ j, j < k → at_ o j = 0) (fun p => (p.1.1 + 1).toNat) _ ?_ n _ (by simp only; omega)
      ⟨L, List.replicate L 0, ?_, by omega, by simp, Dg_replicate _, ?_, fun j _ => by
        simp only [at_, List.getD_eq_getElem?_getD, List.getElem?_replicate]
        split <;> rfl⟩
  · rintro rec _ ⟨k, o, rfl, h1, h2, h3, h4, h5⟩ ih
    simp only [ile_iff]
    cases k with
    | zero =>
      simp only [show ¬ (0 : Int) ≤ ((0 : Nat) : Int) - 1 by omega, decide_false, cond_false]
      rw [hTrim _ (by omega)]
      simp only [Option.bind_some, strip_dig h3, h4, Nat.pow_zero, Nat.div_one, Nat.mul_one, Int.toNat_natCast]
    | succ k =>
      have e1 : ((k + 1 : Nat) : Int) - 1 = (k : Int) := by omega
      obtain ⟨s1, s2⟩ := div_step x d k hd
      have hr : x / 65536 ^ (k + 1) % d < d := Nat.mod_lt _ hd
      have hq : (x / 65536 ^ (k + 1) % d * 65536 + x / 65536 ^ k % 65536) / d < 65536 := by
        rw [Nat.div_lt_iff_lt_mul hd]
        have : (x / 65536 ^ (k + 1) % d + 1) * 65536 ≤ d * 65536 := Nat.mul_le_mul_right _ hr
        have : x / 65536 ^ k % 65536 < 65536 := Nat.mod_lt _ (by decide)
        rw [Nat.mul_comm 65536 d]
        omega
      simp only [e1, show (0 : Int) ≤ (k : Int) by omega, decide_true, cond_true, Int.toNat_natCast, getD_at, dig_at]
      rw [ok_of (inB_true (by omega) (by omega)), ok_of (nz (by omega)), ok_of (inB_true (by omega) (by simp only [h2]; omega)), ok_of (nz (by omega))]
      have hs3 : x / 65536 ^ k / d = x / 65536 ^ (k + 1) / d * 65536 + (x / 65536 ^ (k + 1) % d * 65536 + x / 65536 ^ k % 65536) / d := s1
      generalize hR : x / 65536 ^ (k + 1) % d = Rr at *
      generalize hD : x / 65536 ^ k % 65536 = D at *
      have hD' : D < 65536 := by omega
      rw [imul_eq (by omega) (by omega), iadd_eq (by omega) (by omega), irem_eq (by omega), iquo_eq (by omega) (by omega) (by omega), isub_eq (by omega) (by omega)]
      refine ih _ ⟨k, o.set k (((Rr * 65536 + D) / d : Nat) : Int), ?_, by omega, by simp [h2], Dg_set h3 ⟨Int.natCast_nonneg _, by omega⟩, ?_, fun j hj => ?_⟩ (by simp only; omega)
      · rw [s2]
        simp
      · rw [val_set _ _ _ (by omega), h4, h5 k (by omega), hs3, Nat.add_mul, Nat.pow_succ]
        simp only [Int.natCast_add, Int.natCast_mul]
        grind
      · rw [at_set _ _ _ _ (by omega), if_neg (by omega)]
        exact h5 j (by omega)
  · have : x / 65536 ^ L = 0 := Nat.div_eq_of_lt (dig_len_le.1 (by omega))
    rw [this]; simp
  · have : x / 65536 ^ L = 0 := Nat.div_eq_of_lt (dig_len_le.1 (by omega))
    rw [this, val_replicate_zero]; simp

theorem k_sShl : Ev fun n => ∀ x k : Nat, (dig x).length ≤ 1073741824 → k ≤ 1073741824 → c_s_l5Shl ((C B).run n) (dig x) (k : Int) = some (dig (x * 65536 ^ k), ()) := by
  refine Ev.triv.succ fun n hn _ x k hx hk => ?_
  rw [run_succ, e_s_l5Shl]
  unfold p_s_l5Shl
  simp only [len_eq]
  by_cases h0 : x = 0
  · subst h0; simp
  · have hpos := dig_len_pos h0
    have e1 : (((dig x).length : Int) == 0) = false := by simpa using h0 ∘ dig_eq_nil.1
    rw [e1, cond_false, ok_of (mkOk_true (by omega) (by omega) (by omega)), Int.toNat_natCast]
    refine iter_const (fun p => ∃ i : Nat, p = (((i : Int), (dig x, ((), ((), ())))), (List.replicate k 0 ++ (dig x).take i, ())) ∧ i ≤ (dig x).length) (fun p => (dig x).length - p.1.1.toNat) _ ?_ n _ (by simp only; omega) ⟨0, by simp, by omega⟩
    rintro rec _ ⟨i, rfl, hi⟩ ih
    simp only [ilt_iff]
    by_cases hil : i < (dig x).length
    · simp only [show (i : Int) < ((dig x).length : Int) by omega, decide_true, cond_true, Int.toNat_natCast, getD_at, dig_at]
      rw [ok_of (inB_true (by omega) (by omega)), List.append_assoc, ← take_dig_succ hil, ok_of (aok_true (by simp; omega)), iadd_eq (by omega) (by omega)]
      exact ih _ ⟨i + 1, by simp, by omega⟩ (by simp only; omega)
    · have : i = (dig x).length := by omega
      simp only [show ¬ (i : Int) < ((dig x).length : Int) by omega, decide_false, cond_false]
      rw [List.take_of_length_le (by omega), dig_pow_mul k h0]
theorem k_sTop : Ev fun n => ∀ (l : List Int) (k : Nat), l.length ≤ 1073741824 → k ≤ 1073741824 → c_s_l5Top ((C B).run n) l (k : Int) = some (l.drop k, ()) := by
  refine Ev.triv.succ fun n hn _ l k hl hk => ?_
  rw [run_succ, e_s_l5Top]
  unfold p_s_l5Top
  simp only [len_eq]
  refine iter_const (fun p => ∃ i : Nat, p = ((((k + i : Nat) : Int), (l, ((), ((), ())))), ((l.drop k).take i, ())) ∧ (i = 0 ∨ k + i ≤ l.length)) (fun p => l.length + k - p.1.1.toNat) _ ?_ n _ (by simp only; omega) ⟨0, by simp, by omega⟩
  rintro rec _ ⟨i, rfl, hi⟩ ih
  simp only [ilt_iff]
  by_cases hil : k + i < l.length
  · simp only [show ((k + i : Nat) : Int) < (l.length : Int) by omega, decide_true, cond_true, Int.toNat_natCast, getD_at]
    have e1 : (l.drop k).take i ++ [at_ l (k + i)] = (l.drop k).take (i + 1) := by
      rw [List.take_add_one, List.getElem?_drop, List.getElem?_eq_getElem hil]
      simp [at_, List.getD_eq_getElem?_getD, List.getElem?_eq_getElem hil]
    rw [ok_of (inB_true (by omega) (by omega)), e1, ok_of (aok_true (by simp; omega)), iadd_eq (by omega) (by omega)]
    exact ih _ ⟨i + 1, by congr 2, by omega⟩ (by simp only; omega)
  · simp only [show ¬ ((k + i : Nat) : Int) < (l.length : Int) by omega, decide_false, cond_false]
    rw [List.take_of_length_le (by simp; omega)]
theorem k_sPow2 : Ev fun n => ∀ k : Nat, k ≤ 1073741824 → c_s_l5Pow2 ((C B).run n) (k : Int) = some (dig (2 ^ k), ()) := by
  refine (k_sShl (B := B)).succ fun n hn hShl k hk => ?_
  rw [run_succ, e_s_l5Pow2]
  unfold p_s_l5Pow2
  have h16 : (2 : Nat) ^ (k % 16) < 65536 := by
    have : (2 : Nat) ^ (k % 16) ≤ 2 ^ 15 := Nat.pow_le_pow_right (by decide) (by omega)
    omega
  have hne : (2 : Nat) ^ (k % 16) ≠ 0 := Nat.ne_of_gt (Nat.pow_pos (by decide))
  have e1 : IntKind.wrap .u64 (irem .i64 (k : Int) 16) = ((k % 16 : Nat) : Int) := by
    rw [irem_eq (by omega), wrapu64 (by omega) (by omega)]; omega
  have e3 : (1 : Int) * 2 ^ (k % 16) = ((2 ^ (k % 16) : Nat) : Int) := by simp
  have e2 : ishl .i64 1 (((k % 16 : Nat)) : Int) = ((2 ^ (k % 16) : Nat) : Int) := by
    generalize (2 ^ (k % 16) : Nat) = p at *
    rw [ishl_eq (by omega) (by rw [e3]; omega) (by rw [e3]; omega), e3]
  rw [e1, e2, iquo_eq (by omega) (by omega) (by omega), ok_of (by simp; omega), dig_one h16 hne]
  have e4 : (k : Int) / 16 = ((k / 16 : Nat) : Int) := by omega
  rw [e4, hShl _ _ (by rw [dig_of_lt h16 hne]; simp) (by omega)]
  simp only [Option.bind_some]
  rw [pow_base, ← Nat.pow_add, show k % 16 + 16 * (k / 16) = k by omega]
theorem k_sNatSmall : Ev fun n => ∀ x : Nat, x < 65536 ^ 256 → c_s_NatSmall ((C B).run n) (dig x) = some (if x < 18446744073709551616 then ((x : Int), (true, ())) else (0, (false, ()))) := by
  refine (k_sNatOk (B := B)).succ fun n hn hOk x hx => ?_
  rw [run_succ, e_s_NatSmall]
  unfold p_s_NatSmall
  rw [hOk, nok_dig]
  simp only [hx, decide_true, Option.bind_some, Bool.not_true, cond_false, jb_inr, ilt_iff, len_eq]
  have hlen : (dig x).length ≤ 4 ↔ x < 18446744073709551616 := by rw [dig_len_le]
  by_cases h : x < 18446744073709551616
  · have hl := hlen.2 h
    simp only [show ¬ (4 : Int) < ((dig x).length : Int) by omega, decide_false, cond_false, h, if_true]
    rw [isub_eq (by omega) (by omega)]
    refine iter_const (fun p => ∃ k : Nat, p = ((((k : Int) - 1), (((x / 65536 ^ k : Nat) : Int), (dig x, (0, (false, ()))))), ()) ∧ k ≤ (dig x).length) (fun p => (p.1.1 + 1).toNat) _ ?_ n _ (by simp only; omega) ⟨(dig x).length, ?_, by omega⟩
    · rintro rec _ ⟨k, rfl, h1⟩ ih
      simp only [ile_iff]
      cases k with
      | zero => simp only [show ¬ (0 : Int) ≤ ((0 : Nat) : Int) - 1 by omega, decide_false, cond_false, Nat.pow_zero, Nat.div_one]
      | succ k =>
        have e1 : ((k + 1 : Nat) : Int) - 1 = (k : Int) := by omega
        simp only [e1, show (0 : Int) ≤ (k : Int) by omega, decide_true, cond_true, Int.toNat_natCast, getD_at, dig_at]
        rw [ok_of (inB_true (by omega) (by omega)), isub_eq (by omega) (by omega)]
        have e2 : x / 65536 ^ (k + 1) = x / 65536 ^ k / 65536 := by rw [Nat.div_div_eq_div_mul, Nat.pow_succ]
        have hb : x / 65536 ^ k ≤ x := Nat.div_le_self ..
        have e3 : iadd .u64 (imul .u64 ((x / 65536 ^ (k + 1) : Nat) : Int) 65536) (IntKind.wrap .u64 ((x / 65536 ^ k % 65536 : Nat) : Int)) = ((x / 65536 ^ k : Nat) : Int) := by
          rw [e2]
          generalize x / 65536 ^ k = X at *
          rw [imul, iadd, wrapu64 (x := ((X / 65536 : Nat) : Int) * 65536) (by omega) (by omega), wrapu64 (x := ((X % 65536 : Nat) : Int)) (by omega) (by omega), wrapu64 (by omega) (by omega)]
          omega
        rw [e3]
        exact ih _ ⟨k, rfl, by omega⟩ (by simp only; omega)
    · rw [Nat.div_eq_of_lt (dig_lt_pow x)]; rfl
  · have hl := mt hlen.1 h
    simp only [show (4 : Int) < ((dig x).length : Int) by omega, decide_true, cond_true, h, if_false]

/-! Division, long -/
theorem guess_ge {r y k : Nat} (hy : 0 < y) (hk : 2 ≤ k) (hyk : y < 65536 ^ k) (hr : r < y * 65536) (ht : y / 65536 ^ (k - 1) ≠ 0) :
    r / y ≤ (r / 65536 ^ (k - 1)) / (y / 65536 ^ (k - 1)) := by
  rw [Nat.le_div_iff_mul_le (Nat.pos_of_ne_zero ht), Nat.le_div_iff_mul_le (Nat.pow_pos (by decide))]
  have h1 : y / 65536 ^ (k - 1) * 65536 ^ (k - 1) ≤ y := Nat.div_mul_le_self ..
  have h2 : r / y * y ≤ r := Nat.div_mul_le_self ..
  calc r / y * (y / 65536 ^ (k - 1)) * 65536 ^ (k - 1) = r / y * (y / 65536 ^ (k - 1) * 65536 ^ (k - 1)) := Nat.mul_assoc ..
    _ ≤ r / y * y := Nat.mul_le_mul_left _ h1
    _ ≤ r := h2
theorem k_sDiv : Ev fun n => ∀ x y : Nat, (dig x).length ≤ 268435456 → (dig y).length ≤ 268435456 → y ≠ 0 → c_s_l5Div ((C B).run n) (dig x) (dig y) = some (dig (x / y), (dig (x % y), ())) := by
  refine ((k_sCmp (B := B)).and ((k_sTrim (B := B)).and ((k_sDivSmall (B := B)).and ((k_sNatOf (B := B)).and ((k_sTimes (B := B)).and ((k_sTop (B := B)).and ((k_sShl (B := B)).and ((k_sAdd (B := B)).and ((k_sAt (B := B)).and (k_sSub (B := B))))))))))).succ
    fun n hn ⟨hCmp, hTrim, hDS, hOf, hTimes, hTop, hShl, hAdd, hAt, hSub⟩ x y hx hyl0 hy => ?_
  rw [run_succ, e_s_l5Div]
  unfold p_s_l5Div
  have hypos := dig_len_pos hy
  rcases Nat.lt_or_ge x y with hlt | hge
  · rw [hCmp x y (by omega) (by omega), hTrim _ (by omega)]
    simp only [Option.bind_some, cmp3, if_pos hlt, ilt_iff, show (-1 : Int) < 0 by omega, decide_true, cond_true]
    rw [strip_dig (dig_Dg x), val_dig, Int.toNat_natCast, Nat.div_eq_of_lt hlt, Nat.mod_eq_of_lt hlt, dig_zero]
  · have hyl : (dig y).length ≤ (dig x).length := dig_len_mono hge
    rw [hCmp x y (by omega) (by omega)]
    have hc3 : ¬ cmp3 x y < 0 := by unfold cmp3; rw [if_neg (by omega)]; split <;> omega
    simp only [Option.bind_some, ilt_iff, hc3, decide_false, cond_false, len_eq]
    by_cases h1 : (dig y).length = 1
    · simp only [h1, show (((1 : Nat) : Int) == 1) = true from rfl, cond_true]
      have hyB : y < 65536 := by have := dig_len_le.1 (Nat.le_of_eq h1); omega
      rw [ok_of (inB_true (by omega) (by omega)), show Int.toNat 0 = 0 from rfl, getD_at, dig_at, Nat.pow_zero, Nat.div_one, Nat.mod_eq_of_lt hyB, hDS x y (by omega) (by omega) (by omega)]
      have hm : x % y < y := Nat.mod_lt _ (by omega)
      simp only [Option.bind_some]
      rw [wrapu64 (by omega) (by omega), hOf _ (by omega)]
      rfl
    · have hc1 : (((dig y).length : Int) == 1) = false := beq_eq_false_iff_ne.2 (by omega)
      simp only [hc1, cond_false]
      -- the highest digit
      rw [isub_eq (by omega) (by omega), show (((dig y).length : Int) - 1).toNat = (dig y).length - 1 by omega, getD_at, dig_at]
      generalize hT : y / 65536 ^ ((dig y).length - 1) % 65536 = T
      have hT0 : T ≠ 0 := by
        have := dig_last hy
        rw [dig_at, hT] at this
        omega
      have hTB : T < 65536 := by omega
      rw [ok_of (inB_true (by omega) (by omega)), iadd_eq (by omega) (by omega), ok_of (nz (by omega)), iquo_eq (by omega) (by omega) (by omega)]
      generalize hup : 65536 / (T + 1) = up
      have hupI : (65536 : Int) / ((T : Int) + 1) = (up : Int) := by rw [← hup]; simp only [Int.natCast_ediv, Int.natCast_add]; rfl
      have hup1 : 1 ≤ up := by rw [← hup, Nat.le_div_iff_mul_le (by omega)]; omega
      have hup2 : up < 65536 := by rw [← hup, Nat.div_lt_iff_lt_mul (by omega)]; omega
      rw [hupI, hTimes x up (by omega) hup2]
      simp only [Option.bind_some]
      rw [hTimes y up (by omega) hup2]
      simp only [Option.bind_some]
      have hq : x * up / (y * up) = x / y := Nat.mul_div_mul_right _ _ (by omega)
      have hrr : x * up % (y * up) = x % y * up := Nat.mul_mod_mul_right ..
      have hlX : (dig (x * up)).length ≤ (dig x).length + 1 := len_mul_le (Nat.le_refl _) (dig_len_le.2 (by omega))
      have hlY : (dig (y * up)).length ≤ (dig y).length + 1 := len_mul_le (Nat.le_refl _) (dig_len_le.2 (by omega))
      have hlY2 : (dig y).length ≤ (dig (y * up)).length := dig_len_mono (Nat.le_mul_of_pos_right _ (by omega))
      have hYX : (dig (y * up)).length ≤ (dig (x * up)).length := dig_len_mono (Nat.mul_le_mul_right _ hge)
      have hY0 : y * up ≠ 0 := Nat.mul_ne_zero hy (by omega)
      rw [← hq]
      have hfin : dig (x % y) = dig (x * up % (y * up) / up) := by rw [hrr, Nat.mul_div_cancel _ (by omega)]
      rw [hfin]
      clear hfin hrr hq
      generalize hXX : x * up = X at *
      generalize hYY : y * up = Y at *
      generalize hLX : (dig X).length = LX at *
      generalize hLY : (dig Y).length = N at *
      have hN2 : 2 ≤ N := by omega
      have hYtop := dig_last hY0
      rw [hLY, dig_at] at hYtop
      have hYN : Y < 65536 ^ N := by rw [← hLY]; exact dig_lt_pow Y
      have hYd : Y / 65536 ^ (N - 1) < 65536 := by
        rw [Nat.div_lt_iff_lt_mul (Nat.pow_pos (by decide)), Nat.mul_comm, ← Nat.pow_succ, show (N - 1).succ = N by omega]
        exact hYN
      rw [Nat.mod_eq_of_lt hYd] at hYtop
      have hYtop' : Y / 65536 ^ (N - 1) ≠ 0 := fun h => hYtop (by rw [h]; rfl)
      generalize hyt : Y / 65536 ^ (N - 1) = yt at *
      rw [isub_eq (x := (LX : Int)) (by omega) (by omega), iadd_eq (by omega) (by omega), ok_of (mkOk_true (by omega) (by omega) (by omega)), show ((LX : Int) - N + 1) = ((LX - N + 1 : Nat) : Int) by omega, hTop _ _ (by omega) (by omega)]
      simp only [Option.bind_some]
      rw [dig_drop, Int.toNat_natCast]
      generalize hM : LX - N + 1 = M at *
      have hXM : X / 65536 ^ M < Y := by
        have h1 := dig_ge_pow hY0
        rw [hLY] at h1
        have h2 := dig_lt_pow X
        rw [hLX, show LX = M + (N - 1) by omega, Nat.pow_add] at h2
        have h3 : X / 65536 ^ M < 65536 ^ (N - 1) := (Nat.div_lt_iff_lt_mul (Nat.pow_pos (by decide))).2 (by rw [Nat.mul_comm]; exact h2)
        omega
      refine iter_const (fun p => ∃ (k : Nat) (o : List Int), p = ((((k : Int) - 1), (dig (X / 65536 ^ k % Y), (dig X, ((N : Int), (dig Y, ((), ((up : Int), ((), ((), ()))))))))), (o, ())) ∧ k ≤ M ∧ o.length = M ∧ Dg o ∧
          val o = ((X / 65536 ^ k / Y * 65536 ^ k : Nat) : Int) ∧ ∀ j, j < k → at_ o j = 0) (fun p => (p.1.1 + 1).toNat) _ ?_ n _ (by simp only; omega)
          ⟨M, List.replicate M 0, ?_, by omega, by simp, Dg_replicate _, ?_, fun j _ => by
            simp only [at_, List.getD_eq_getElem?_getD, List.getElem?_replicate]
            split <;> rfl⟩
      · rintro rec _ ⟨k, o, rfl, g1, g2, g3, g4, g5⟩ ih
        simp only [ile_iff]
        cases k with
        | zero =>
          simp only [show ¬ (0 : Int) ≤ ((0 : Nat) : Int) - 1 by omega, decide_false, cond_false, Nat.pow_zero, Nat.div_one]
          have hl : (dig (X % Y)).length ≤ LX := by rw [← hLX]; exact dig_len_mono (Nat.mod_le ..)
          rw [hDS _ up (by omega) (by omega) (by omega)]
          simp only [Option.bind_some]
          rw [hTrim _ (by omega)]
          simp only [Option.bind_some, strip_dig g3, g4, Nat.pow_zero, Nat.div_one, Nat.mul_one, Int.toNat_natCast]
        | succ k =>
          have e1 : ((k + 1 : Nat) : Int) - 1 = (k : Int) := by omega
          obtain ⟨s1, s2⟩ := div_step X Y k (by omega)
          have hRlt : X / 65536 ^ (k + 1) % Y < Y := Nat.mod_lt _ (by omega)
          generalize hR : X / 65536 ^ (k + 1) % Y = Rr at *
          generalize hD : X / 65536 ^ k % 65536 = D at *
          have hD' : D < 65536 := by omega
          have hRl : (dig Rr).length ≤ N := by rw [← hLY]; exact dig_len_mono (by omega)
          simp only [e1, show (0 : Int) ≤ (k : Int) by omega, decide_true, cond_true, Int.toNat_natCast, getD_at, dig_at, hD]
          rw [show (1 : Int) = ((1 : Nat) : Int) from rfl, hShl _ _ (by omega) (by omega)]
          simp only [Option.bind_some, Nat.pow_one]
          rw [ok_of (inB_true (by omega) (by omega)), wrapu64 (by omega) (by omega), hOf _ (by omega)]
          simp only [Option.bind_some]
          have hDl : (dig D).length ≤ 1 := dig_len_le.2 (by omega)
          have hRBl : (dig (Rr * 65536)).length ≤ N + 1 := by
            rw [dig_len_le, Nat.pow_succ]
            have := dig_len_le.1 hRl
            omega
          rw [hAdd _ _ (by omega) (by omega)]
          simp only [Option.bind_some]
          obtain ⟨R', hR'⟩ : ∃ R', R' = Rr * 65536 + D := ⟨_, rfl⟩
          rw [← hR'] at s1 s2 ⊢
          have hR'Y : R' < Y * 65536 := by omega
          have hR'l : (dig R').length ≤ N + 1 := by
            rw [dig_len_le, Nat.pow_succ]
            exact Nat.lt_of_lt_of_le hR'Y (Nat.mul_le_mul_right _ (by omega))
          rw [hTrim _ (by omega), strip_dig (dig_Dg R'), val_dig, Int.toNat_natCast]
          simp only [Option.bind_some, hAt]
          rw [Int.natCast_one, isub_eq (x := (N : Int)) (by omega) (by omega), show ((N : Int) - 1) = ((N - 1 : Nat) : Int) by omega, hAt, Int.toNat_natCast]
          simp only [Option.bind_some, dig_at]
          rw [hyt, Nat.mod_eq_of_lt hYd, ok_of (inB_true (by omega) (by omega)), ok_of (nz (by omega))]
          have hpair : R' / 65536 ^ N % 65536 * 65536 + R' / 65536 ^ (N - 1) % 65536 = R' / 65536 ^ (N - 1) := by
            have h1 : R' / 65536 ^ N = R' / 65536 ^ (N - 1) / 65536 := by rw [Nat.div_div_eq_div_mul, ← Nat.pow_succ, show (N - 1).succ = N by omega]
            have h2 : R' / 65536 ^ N < 65536 := by
              rw [Nat.div_lt_iff_lt_mul (Nat.pow_pos (by decide)), Nat.mul_comm, ← Nat.pow_succ]
              exact dig_len_le.1 hR'l
            rw [h1] at h2 ⊢
            generalize R' / 65536 ^ (N - 1) = Z at *
            omega
          have hg := guess_ge (r := R') (y := Y) (k := N) (by omega) hN2 hYN hR'Y (by rw [hyt]; exact hYtop')
          rw [hyt] at hg
          have hq' : R' / Y < 65536 := (Nat.div_lt_iff_lt_mul (by omega)).2 (by rw [Nat.mul_comm]; exact hR'Y)
          generalize hA : R' / 65536 ^ N % 65536 = A1 at *
          generalize hA2 : R' / 65536 ^ (N - 1) % 65536 = A2 at *
          have hA1 : A1 < 65536 := by omega
          have hA2' : A2 < 65536 := by omega
          rw [imul_eq (by omega) (by omega), iadd_eq (by omega) (by omega), iquo_eq (by omega) (by omega) (by omega)]
          have hquo : ((A1 : Int) * 65536 + A2) / (yt : Int) = ((R' / 65536 ^ (N - 1) / yt : Nat) : Int) := by
            rw [← hpair, Int.natCast_ediv]; rfl
          rw [hquo]
          generalize hG : R' / 65536 ^ (N - 1) / yt = Gg at *
          refine (jb_of (p := ((dig Y, (((min Gg 65535 : Nat) : Int), (dig R', ((), ((k : Int), (dig X, ((N : Int), ((up : Int), ((), ((), ())))))))))), (o, ()))) ?_ _).trans ?_
          · by_cases hgg : 65536 ≤ Gg
            · simp only [show (65536 : Int) ≤ (Gg : Int) by omega, decide_true, cond_true]
              rw [show min Gg 65535 = 65535 by omega]; rfl
            · simp only [show ¬ (65536 : Int) ≤ (Gg : Int) by omega, decide_false, cond_false]
              rw [show min Gg 65535 = Gg by omega]
          · have hg0 : R' / Y ≤ min Gg 65535 := by omega
            have hg1 : min Gg 65535 < 65536 := by omega
            generalize min Gg 65535 = g0 at *
            simp only []
            rw [hTimes Y g0 (by omega) hg1]
            simp only [Option.bind_some]
            refine iter_const (fun p => ∃ g : Nat, p = ((dig (Y * g), (dig R', (dig Y, ((g : Int), ((), ((k : Int), (dig X, ((N : Int), ((up : Int), ((), ((), ()))))))))))), (o, ())) ∧ R' / Y ≤ g ∧ g < 65536) (fun p => p.1.2.2.2.1.toNat) _ ?_ n _ (by simp only; omega) ⟨g0, rfl, hg0, hg1⟩
            rintro rec' _ ⟨g, rfl, j1, j2⟩ ih'
            have hpl : (dig (Y * g)).length ≤ N + 1 := len_mul_le (by omega) (dig_len_le.2 (by omega))
            simp only []
            rw [hCmp _ _ (by omega) (by omega)]
            simp only [Option.bind_some]
            by_cases hgt : R' < Y * g
            · have hc : cmp3 (Y * g) R' = 1 := by rw [cmp3, if_neg (by omega), if_pos hgt]
              simp only [hc, show (0 : Int) < 1 by omega, decide_true, cond_true]
              have hg1 : 1 ≤ g := by
                rcases Nat.eq_zero_or_pos g with h | h
                · rw [h] at hgt; omega
                · exact h
              rw [hSub _ _ (Nat.le_mul_of_pos_right _ hg1) (by omega)]
              simp only [Option.bind_some]
              rw [isub_eq (by omega) (by omega)]
              have hlt : R' / Y < g := (Nat.div_lt_iff_lt_mul (by omega)).2 (by rw [Nat.mul_comm]; exact hgt)
              refine ih' _ ⟨g - 1, ?_, by omega, by omega⟩ (by simp only; omega)
              rw [Nat.mul_sub, Nat.mul_one]
              congr 5
              omega
            · have hc : ¬ (0 : Int) < cmp3 (Y * g) R' := by unfold cmp3; split <;> (try split) <;> omega
              simp only [hc, decide_false, cond_false]
              have hgq : g = R' / Y := by
                have : g ≤ R' / Y := (Nat.le_div_iff_mul_le (by omega)).2 (by rw [Nat.mul_comm]; omega)
                omega
              rw [ok_of (inB_true (by omega) (by simp only [g2]; omega)), hSub _ _ (by omega) (by omega)]
              simp only [Option.bind_some]
              have hmod : R' - Y * g = R' % Y := by
                have := Nat.div_add_mod R' Y
                rw [← hgq] at this
                omega
              rw [hmod, isub_eq (by omega) (by omega), Int.toNat_natCast]
              refine ih _ ⟨k, o.set k (g : Int), ?_, by omega, by simp [g2], Dg_set g3 (by omega), ?_, fun j hj => ?_⟩ (by simp only; omega)
              · rw [s2]
              · rw [val_set _ _ _ (by omega), g4, g5 k (by omega), s1, ← hgq, Nat.add_mul, Nat.pow_succ]
                simp only [Int.natCast_add, Int.natCast_mul]
                grind
              · rw [at_set _ _ _ _ (by omega), if_neg (by omega)]
                exact g5 j (by omega)
      · rw [Nat.mod_eq_of_lt hXM]
        congr 2
        omega
      · rw [Nat.div_eq_of_lt hXM, val_replicate_zero]; simp
theorem k_sGcd : Ev fun n => ∀ x y : Nat, (dig x).length ≤ 268435456 → (dig y).length ≤ 268435456 → c_s_l5Gcd ((C B).run n) (dig x) (dig y) = some (dig (Nat.gcd x y), ()) := by
  refine ((k_sTrim (B := B)).and (k_sDiv (B := B))).succ fun n hn ⟨hTrim, hDiv⟩ x y hx hy => ?_
  rw [run_succ, e_s_l5Gcd]
  unfold p_s_l5Gcd
  rw [hTrim _ (by omega), hTrim _ (by omega), strip_dig (dig_Dg x), strip_dig (dig_Dg y), val_dig, val_dig, Int.toNat_natCast, Int.toNat_natCast]
  simp only [Option.bind_some]
  have key : ∀ (m : Nat) (a b : Nat), gm a b ≤ m → ∀ p, p = ((dig b, (dig a, ((), ()))), ()) → gm a b = (fun q : (List Int × (List Int × (Unit × Unit))) × Unit => gm (val q.1.2.1).toNat (val q.1.1).toNat) p := by
    rintro m a b _ p rfl
    simp [val_dig]
  refine iter_const (fun p => ∃ a b : Nat, p = ((dig b, (dig a, ((), ()))), ()) ∧ (dig a).length ≤ 268435456 ∧ (dig b).length ≤ 268435456 ∧ Nat.gcd a b = Nat.gcd x y) (fun q => gm (val q.1.2.1).toNat (val q.1.1).toNat) _ ?_ n _ ?_ ⟨x, y, rfl, hx, hy, rfl⟩
  · rintro rec _ ⟨a, b, rfl, h1, h2, h3⟩ ih
    simp only [ilt_iff, len_eq]
    by_cases hb : b = 0
    · subst hb
      simp only [dig_zero, List.length_nil, show ¬ (0 : Int) < ((0 : Nat) : Int) by omega, decide_false, cond_false]
      rw [← h3, Nat.gcd_zero_right]
    · have hpos := dig_len_pos hb
      simp only [show (0 : Int) < ((dig b).length : Int) by omega, decide_true, cond_true]
      rw [hDiv a b h1 h2 hb]
      simp only [Option.bind_some]
      refine ih _ ⟨b, a % b, rfl, h2, ?_, ?_⟩ ?_
      · have := dig_len_mono (Nat.le_of_lt (Nat.mod_lt a (Nat.pos_of_ne_zero hb))); omega
      · rw [← h3, Nat.gcd_comm a b, Nat.gcd_rec b a, Nat.gcd_comm]
      · simp only [val_dig, Int.toNat_natCast]
        exact gm_step hb
  · simp only [val_dig, Int.toNat_natCast]
    have h1 := bl_len x
    have h2 := bl_len y
    have h3 : gm x y ≤ bl x + bl y + 1 := by unfold gm; split <;> omega
    omega
end Go.Px.Seat

/- Numbers: the program's functions, part 2. -/
namespace Pm
theorem bl_log2 {x : Nat} (h : x ≠ 0) : bl x = Nat.log2 x + 1 := by
  have h1 := Nat.lt_log2_self (n := x)
  have h2 := Nat.log2_self_le h
  have h3 : bl x ≤ Nat.log2 x + 1 := bl_le.2 h1
  rcases Nat.lt_or_ge (bl x) (Nat.log2 x + 1) with h4 | h4
  · have := bl_le.1 (show bl x ≤ Nat.log2 x by omega)
    omega
  · omega
theorem or_add {a b t : Nat} (ha : a < 2 ^ t) (hb : b % 2 ^ t = 0) : a ||| b = a + b := by
  have h := Nat.div_add_mod b (2 ^ t)
  rw [hb, Nat.add_zero] at h
  rw [← h, Nat.or_comm, ← Nat.two_pow_add_eq_or_of_lt ha, Nat.add_comm]
theorem val_of_at : ∀ {l : List Int} {z : Nat}, (∀ j, j < l.length → at_ l j = ((z / 65536 ^ j % 65536 : Nat) : Int)) → val l = ((z % 65536 ^ l.length : Nat) : Int) := by
  intro l z h
  have : ∀ k, k ≤ l.length → val (l.take k) = ((z % 65536 ^ k : Nat) : Int) := by
    intro k
    induction k with
    | zero => intro _; simp [val, Nat.mod_one]
    | succ k ih =>
      intro hk
      rw [val_take_succ l k (by omega), ih (by omega), h k (by omega), mod_succ, Int.natCast_add, Int.natCast_mul]
  have := this l.length (Nat.le_refl _)
  rwa [List.take_length] at this
theorem Dg_of_at {l : List Int} {z : Nat} (h : ∀ j, j < l.length → at_ l j = ((z / 65536 ^ j % 65536 : Nat) : Int)) : Dg l := by
  intro d hd
  obtain ⟨i, hi, rfl⟩ := List.getElem_of_mem hd
  have := h i hi
  simp only [at_, List.getD_eq_getElem?_getD, List.getElem?_eq_getElem hi, Option.getD_some] at this
  rw [this]
  omega
def hz (k x : Nat) : Nat := if 2 ^ k ≤ x then x / 2 ^ k else x
def hm (k x : Nat) : Nat := if 2 ^ k ≤ x then k else 0
theorem hm_hz (k x : Nat) : hm k x + bl (hz k x) = bl x := by
  unfold hm hz
  split
  · rename_i h
    have hne : x / 2 ^ k ≠ 0 := by
      have := (Nat.le_div_iff_mul_le (Nat.pow_pos (by decide) : 0 < 2 ^ k)).2 (show 1 * 2 ^ k ≤ x by omega)
      omega
    rw [bl_shift x k hne]
  · rw [Nat.zero_add]
theorem hz_lt {k x : Nat} (h : x < 2 ^ (k + k)) : hz k x < 2 ^ k := by
  unfold hz
  split
  · rw [Nat.pow_add] at h
    exact (Nat.div_lt_iff_lt_mul (Nat.pow_pos (by decide))).2 h
  · omega
theorem hm_le (k x : Nat) : hm k x ≤ k := by unfold hm; split <;> omega
end Pm
namespace Go.Px.Seat
open Go Pm
set_option linter.unusedVariables false
variable {B : Run}
theorem ior_eq {x y : Nat} (hx : x < 9223372036854775808) (hy : y < 9223372036854775808) : ior .i64 (x : Int) (y : Int) = ((x ||| y : Nat) : Int) := by
  have e1 : ∀ z : Nat, z < 9223372036854775808 → (BitVec.ofInt 64 (z : Int)).toNat = z := fun z hz => by
    simp; omega
  have h3 : x ||| y < 2 ^ 63 := Nat.or_lt_two_pow (by omega) (by omega)
  show IntKind.i64.wrap (((BitVec.ofInt 64 (x : Int) ||| BitVec.ofInt 64 (y : Int)).toNat : Nat) : Int) = _
  rw [BitVec.toNat_or, e1 x hx, e1 y hy]
  exact wrap64 (by omega) (by omega)
theorem k_Len64 : Ev fun n => ∀ x : Nat, x < 18446744073709551616 → c_math_bits_Len64 ((C B).run n) (x : Int) = some ((bl x : Int), ()) := by
  refine Ev.triv.succ fun n hn _ x hx => ?_
  rw [run_succ, e_math_bits_Len64]
  unfold p_math_bits_Len64
  generalize hT : bs _ = T
  have hT1 : ∀ i : Fin 256, bt T ((i.val : Nat) : Int) = ((if i.val = 0 then 0 else Nat.log2 i.val + 1 : Nat) : Int) := by
    subst hT
    decide +kernel
  have hT2 : slen T = 256 := by
    subst hT
    decide +kernel
  have hT3 : ∀ i : Nat, i < 256 → bt T (i : Int) = (bl i : Int) := fun i hi => by
    have := hT1 ⟨i, hi⟩
    simp only at this
    rw [this]
    by_cases h : i = 0
    · subst h; simp
    · rw [if_neg h, bl_log2 h]
  have fin : ∀ (m z : Nat), z < 256 → m ≤ 64 → m + bl z = bl x → (ok (inB (IntKind.wrap .u8 (z : Int)) (slen T)) (some ((iadd .i64 (m : Int) (IntKind.wrap .i64 (bt T (IntKind.wrap .u8 (z : Int))))), ())) : Option (Int × Unit)) = some ((bl x : Int), ()) := by
    intro m z hz hm he
    have hw : IntKind.wrap .u8 (z : Int) = (z : Int) := by
      simp only [IntKind.wrap, IntKind.bits, IntKind.signed]
      simp
      omega
    have hb8 : bl z ≤ 8 := bl_le.2 (by omega)
    rw [hw, hT2, ok_of (inB_true (by omega) (by omega)), hT3 z hz, wrap64 (by omega) (by omega), iadd_eq (by omega) (by omega)]
    congr 2
    omega
  have g1 := hz_lt (k := 32) (x := x) (by simp only [Nat.reducePow, Nat.reduceAdd]; omega)
  have g2 := hz_lt (k := 16) g1
  have g3 := hz_lt (k := 8) g2
  have b1 := hm_hz 32 x
  have b2 := hm_hz 16 (hz 32 x)
  have b3 := hm_hz 8 (hz 16 (hz 32 x))
  have l1 := hm_le 32 x
  have l2 := hm_le 16 (hz 32 x)
  have l3 := hm_le 8 (hz 16 (hz 32 x))
  have sh : ∀ (k z : Nat), k ≤ 64 → ishr .u64 (z : Int) (k : Int) = ((z / 2 ^ k : Nat) : Int) := fun k z hk => by
    rw [ishru_eq hk, Int.natCast_ediv]; norm_cast
  refine (jb_of (p := ((((hz 32 x : Nat) : Int), (((hm 32 x : Nat) : Int), ())), ())) ?_ _).trans ?_
  · unfold hz hm
    simp only [Nat.reducePow, ile_iff]
    by_cases h : 4294967296 ≤ x
    · simp only [show (4294967296 : Int) ≤ (x : Int) by omega, decide_true, cond_true, h, if_true]
      have := sh 32 x (by decide)
      simp only [Nat.reducePow] at this
      rw [← this]; rfl
    · simp only [show ¬ (4294967296 : Int) ≤ (x : Int) by omega, decide_false, cond_false, h, if_false]; rfl
  simp only []
  generalize hz 32 x = y1 at *
  generalize hm 32 x = m1 at *
  refine (jb_of (p := ((((hz 16 y1 : Nat) : Int), (((m1 + hm 16 y1 : Nat) : Int), ())), ())) ?_ _).trans ?_
  · unfold hz hm
    simp only [Nat.reducePow, ile_iff]
    by_cases h : 65536 ≤ y1
    · simp only [show (65536 : Int) ≤ (y1 : Int) by omega, decide_true, cond_true, h, if_true]
      have := sh 16 y1 (by decide)
      simp only [Nat.reducePow] at this
      rw [← this, iadd_eq (by omega) (by omega)]; rfl
    · simp only [show ¬ (65536 : Int) ≤ (y1 : Int) by omega, decide_false, cond_false, h, if_false]; rfl
  simp only []
  generalize hz 16 y1 = y2 at *
  generalize hm 16 y1 = m2 at *
  refine (jb_of (p := ((((m1 + m2 + hm 8 y2 : Nat) : Int), (((hz 8 y2 : Nat) : Int), ())), ())) ?_ _).trans ?_
  · unfold hz hm
    simp only [Nat.reducePow, ile_iff]
    by_cases h : 256 ≤ y2
    · simp only [show (256 : Int) ≤ (y2 : Int) by omega, decide_true, cond_true, h, if_true]
      have := sh 8 y2 (by decide)
      simp only [Nat.reducePow] at this
      rw [← this, iadd_eq (by omega) (by omega)]; rfl
    · simp only [show ¬ (256 : Int) ≤ (y2 : Int) by omega, decide_false, cond_false, h, if_false]; rfl
  simp only []
  exact fin _ _ g3 (by omega) (by omega)
theorem k_Len : Ev fun n => ∀ x : Nat, x < 18446744073709551616 → c_math_bits_Len ((C B).run n) (x : Int) = some ((bl x : Int), ()) := by
  refine (k_Len64 (B := B)).succ fun n hn h64 x hx => ?_
  rw [run_succ, e_math_bits_Len]
  unfold p_math_bits_Len
  rw [h64 x hx]; rfl
theorem k_in : Ev fun n => ∀ a b c : Int, c_i_in ((C B).run n) a b c = some (decide (b ≤ a ∧ a ≤ c), ()) := by
  refine Ev.triv.succ fun n hn _ a b c => ?_
  rw [run_succ, e_i_in]
  unfold p_i_in
  simp only [jb_cond, jb_inr, ile_iff]
  by_cases h : b ≤ a <;> simp [h]
end Go.Px.Seat

/- Texts as lists of bytes. -/
namespace Go.Px
open Go Pm

def chs (s : ByteArray) : List Nat := s.data.toList.map UInt8.toNat
theorem chs_len (s : ByteArray) : (chs s).length = s.size := by
  simp only [chs, List.length_map, Array.length_toList]
  rfl
theorem chs_lt {s : ByteArray} {x : Nat} (h : x ∈ chs s) : x < 256 := by
  obtain ⟨c, _, rfl⟩ := List.mem_map.1 h
  exact c.toNat_lt
theorem bt_chs (s : ByteArray) (i : Nat) : bt s (i : Int) = (((chs s).getD i 0 : Nat) : Int) := by
  unfold bt
  simp only [Int.toNat_natCast]
  by_cases h : i < s.size
  · rw [dif_pos h]
    have h' : i < s.data.toList.length := by simpa using h
    simp only [chs, List.getD_eq_getElem?_getD, List.getElem?_map, List.getElem?_eq_getElem h', Option.map_some, Option.getD_some, Array.getElem_toList]
    rfl
  · rw [dif_neg h]
    have h' : ¬ i < (chs s).length := by rw [chs_len]; exact h
    rw [List.getD_eq_getElem?_getD, List.getElem?_eq_none (by omega)]
    rfl
theorem chs_inj {a b : ByteArray} (h : chs a = chs b) : a = b := by
  have : a.data.toList = b.data.toList := List.map_inj_right (fun x y h => UInt8.toNat_inj.1 h) |>.1 h
  cases a; cases b
  simp only at this
  rw [Array.toList_inj.1 this]
theorem chs_bs {l : List Nat} (h : ∀ x ∈ l, x < 256) : chs (bs l) = l := by
  simp only [chs, bs, List.map_map]
  refine (List.map_congr_left fun x hx => ?_).trans (List.map_id l)
  show (UInt8.ofNat x).toNat = x
  rw [UInt8.toNat_ofNat']
  exact Nat.mod_eq_of_lt (h x hx)
theorem seq_chs (a b : ByteArray) : seq a b = decide (chs a = chs b) := by
  unfold seq
  by_cases h : a = b
  · subst h; simp
  · have h1 : ¬ chs a = chs b := fun h' => h (chs_inj h')
    rw [decide_eq_false h1]
    have : ¬ a.toList = b.toList := fun h' => h1 (by
      rw [ByteArray.toList_eq, ByteArray.toList_eq] at h'
      unfold chs
      rw [h'])
    simpa using this
theorem iter_goal {P R : Type} {F : (P → Option R) → P → Option R} {n : Nat} {p : P} (G : Option R → Prop) (I : P → Prop) (m : P → Nat) (Q : R → Prop)
    (step : ∀ rec p, I p → (∀ q, I q → m q < m p → ∃ r, rec q = some r ∧ Q r) → ∃ r, F rec p = some r ∧ Q r) (hm : m p < n) (hI : I p) (hQ : ∀ r, Q r → G (some r)) : G (iter F n p) := by
  obtain ⟨r, h1, h2⟩ := iter_ex I m Q step n p hm hI
  rw [h1]; exact hQ r h2
/-! texts as `bs l` -/
def Bl (l : List Nat) : Prop := ∀ x ∈ l, x < 256
theorem bl_chs (s : ByteArray) : Bl (chs s) := fun _ h => chs_lt h
theorem bs_chs (s : ByteArray) : bs (chs s) = s := chs_inj (chs_bs (bl_chs s))
theorem bs_app (a b : List Nat) : bs a ++ bs b = bs (a ++ b) := by
  have h : (bs a ++ bs b).data = (bs (a ++ b)).data := by
    rw [ByteArray.data_append]
    simp [bs]
  exact ByteArray.ext h
theorem bs_sub (l : List Nat) (a b : Nat) : ByteArray.extract (bs l) a b = bs ((l.take b).drop a) := by
  have h : (ByteArray.extract (bs l) a b).data = (bs ((l.take b).drop a)).data := by
    rw [ByteArray.data_extract]
    simp [bs, List.map_drop, List.map_take, List.extract, List.drop_take]
  exact ByteArray.ext h
theorem bs_size (l : List Nat) : (bs l).size = l.length := by
  show (bs l).data.size = _
  simp [bs]
theorem bs_len (l : List Nat) : slen (bs l) = (l.length : Int) := by
  rw [slen_eq, bs_size]
theorem bs_bt {l : List Nat} (h : Bl l) (i : Nat) : bt (bs l) (i : Int) = ((l.getD i 0 : Nat) : Int) := by rw [bt_chs, chs_bs h]
theorem bs_seq {a b : List Nat} (ha : Bl a) (hb : Bl b) : seq (bs a) (bs b) = decide (a = b) := by rw [seq_chs, chs_bs ha, chs_bs hb]
theorem bs_sok (a b : List Nat) : sok (bs a) (bs b) = decide (a.length + b.length ≤ 140737488355328) := by
  rw [sok_eq, bs_size, bs_size]
  exact decide_eq_decide.2 (by omega)
theorem bl_app {a b : List Nat} : Bl (a ++ b) ↔ Bl a ∧ Bl b := ⟨fun h => ⟨fun x hx => h x (List.mem_append_left _ hx), fun x hx => h x (List.mem_append_right _ hx)⟩, fun h x hx => (List.mem_append.1 hx).elim (h.1 x) (h.2 x)⟩
theorem bl_take {l : List Nat} (h : Bl l) (n : Nat) : Bl (l.take n) := fun x hx => h x (List.mem_of_mem_take hx)
theorem bl_drop {l : List Nat} (h : Bl l) (n : Nat) : Bl (l.drop n) := fun x hx => h x (List.mem_of_mem_drop hx)
end Go.Px

/- slices.Clone, bits.TrailingZeros64, strconv.Itoa, strings.Repeat, strings.TrimRight: what is asked of them. Seat ZD. -/
namespace Go.Px.Seat
open Go Pm
set_option linter.unusedVariables false
/-- slices.Clone, of lists that are not empty -/
noncomputable def cloneRun : Pay sg_slices_Clone_int_int.inl → Option (Pay sg_slices_Clone_int_int.outl) := fun q =>
  let l : List Int := q.1
  if l = [] ∨ 1099511627776 < l.length then none else some (l, ())
/-- how often 2 divides a number; no more than told -/
def ctz : Nat → Nat → Nat
  | 0, _ => 0
  | f + 1, x => if x % 2 = 1 then 0 else ctz f (x / 2) + 1
def tzRun : Pay sg_math_bits_TrailingZeros64.inl → Option (Pay sg_math_bits_TrailingZeros64.outl) := fun q =>
  let x : Int := q.1
  if 0 ≤ x ∧ x < 18446744073709551616 then some (((ctz 64 x.toNat : Nat) : Int), ()) else none
/-- decimal digits, as bytes -/
def dec (n : Nat) : List Nat := if h : n < 10 then [48 + n] else dec (n / 10) ++ [48 + n % 10]
termination_by n
decreasing_by omega
def itoa (x : Int) : List Nat := if x < 0 then 45 :: dec x.natAbs else dec x.toNat
def itoaRun : Pay sg_strconv_Itoa.inl → Option (Pay sg_strconv_Itoa.outl) := fun q =>
  let x : Int := q.1
  if -9223372036854775808 ≤ x ∧ x ≤ 9223372036854775807 then some (bs (itoa x), ()) else none
def repRun : Pay sg_strings_Repeat.inl → Option (Pay sg_strings_Repeat.outl) := fun q =>
  let s : ByteArray := q.1
  let c : Int := q.2.1
  if 0 ≤ c ∧ s.size * c.toNat ≤ 100000 ∧ c ≤ 100000 then some (bs (List.replicate c.toNat (chs s)).flatten, ()) else none
def trimRun : Pay sg_strings_TrimRight.inl → Option (Pay sg_strings_TrimRight.outl) := fun q =>
  let s : ByteArray := q.1
  let t : ByteArray := q.2.1
  match chs t with
  | [c] => if c < 128 ∧ s.size ≤ 1000000 then some (bs ((chs s).reverse.dropWhile (· == c)).reverse, ()) else none
  | _ => none
open Classical in
noncomputable def B0 : Run := fun f _ s =>
  if f = 196 then (if h : s = sg_slices_Clone_int_int then h ▸ cloneRun else fun _ => none)
  else if f = 229 then (if h : s = sg_math_bits_TrailingZeros64 then h ▸ tzRun else fun _ => none)
  else if f = 206 then (if h : s = sg_strconv_Itoa then h ▸ itoaRun else fun _ => none)
  else if f = 219 then (if h : s = sg_strings_Repeat then h ▸ repRun else fun _ => none)
  else if f = 205 then (if h : s = sg_strings_TrimRight then h ▸ trimRun else fun _ => none) else fun _ => none
theorem B0_clone (key : List Nat) : B0 196 key sg_slices_Clone_int_int = cloneRun := by
  unfold B0
  rw [if_pos rfl, dif_pos rfl]
theorem B0_clone_no {key : List Nat} {s : Sig} (h : s ≠ sg_slices_Clone_int_int) : B0 196 key s = fun _ => none := by
  unfold B0
  rw [if_pos rfl, dif_neg h]
theorem B0_tz (key : List Nat) : B0 229 key sg_math_bits_TrailingZeros64 = tzRun := by
  unfold B0
  rw [if_neg (by decide), if_pos rfl, dif_pos rfl]
theorem B0_tz_no {key : List Nat} {s : Sig} (h : s ≠ sg_math_bits_TrailingZeros64) : B0 229 key s = fun _ => none := by
  unfold B0
  rw [if_neg (by decide), if_pos rfl, dif_neg h]
theorem B0_itoa (key : List Nat) : B0 206 key sg_strconv_Itoa = itoaRun := by
  unfold B0
  rw [if_neg (by decide), if_neg (by decide), if_pos rfl, dif_pos rfl]
theorem B0_itoa_no {key : List Nat} {s : Sig} (h : s ≠ sg_strconv_Itoa) : B0 206 key s = fun _ => none := by
  unfold B0
  rw [if_neg (by decide), if_neg (by decide), if_pos rfl, dif_neg h]
theorem B0_rep (key : List Nat) : B0 219 key sg_strings_Repeat = repRun := by
  unfold B0
  rw [if_neg (by decide), if_neg (by decide), if_neg (by decide), if_pos rfl, dif_pos rfl]
theorem B0_rep_no {key : List Nat} {s : Sig} (h : s ≠ sg_strings_Repeat) : B0 219 key s = fun _ => none := by
  unfold B0
  rw [if_neg (by decide), if_neg (by decide), if_neg (by decide), if_pos rfl, dif_neg h]
theorem B0_trim (key : List Nat) : B0 205 key sg_strings_TrimRight = trimRun := by
  unfold B0
  rw [if_neg (by decide), if_neg (by decide), if_neg (by decide), if_neg (by decide), if_pos rfl, dif_pos rfl]
theorem B0_trim_no {key : List Nat} {s : Sig} (h : s ≠ sg_strings_TrimRight) : B0 205 key s = fun _ => none := by
  unfold B0
  rw [if_neg (by decide), if_neg (by decide), if_neg (by decide), if_neg (by decide), if_pos rfl, dif_neg h]
theorem k_Clone : Ev fun n => ∀ l : List Int, l ≠ [] → l.length ≤ 1099511627776 → c_slices_Clone_int_int ((C B0).run n) l = some (l, ()) := by
  refine Ev.triv.succ fun n hn _ l h1 h2 => ?_
  have e1 : c_slices_Clone_int_int ((C B0).run (n + 1)) l = cloneRun (l, ()) := by
    rw [← B0_clone []]
    rfl
  rw [e1]
  unfold cloneRun
  simp only
  rw [if_neg]
  · rfl
  · rintro (h | h)
    · exact h1 h
    · omega
theorem k_Itoa : Ev fun n => ∀ x : Int, -9223372036854775808 ≤ x → x ≤ 9223372036854775807 → c_strconv_Itoa ((C B0).run n) x = some (bs (itoa x), ()) := by
  refine Ev.triv.succ fun n hn _ x h1 h2 => ?_
  have e1 : c_strconv_Itoa ((C B0).run (n + 1)) x = itoaRun (x, ()) := by
    rw [← B0_itoa []]
    rfl
  rw [e1]
  unfold itoaRun
  simp only
  rw [if_pos ⟨h1, h2⟩]
  rfl
theorem k_Repeat : Ev fun n => ∀ (l : List Nat) (c : Nat), Bl l → l.length * c ≤ 100000 → c ≤ 100000 → c_strings_Repeat ((C B0).run n) (bs l) (c : Int) = some (bs (List.replicate c l).flatten, ()) := by
  refine Ev.triv.succ fun n hn _ l c hl h1 h2 => ?_
  have e1 : c_strings_Repeat ((C B0).run (n + 1)) (bs l) (c : Int) = repRun (bs l, ((c : Int), ())) := by
    rw [← B0_rep []]
    rfl
  rw [e1]
  unfold repRun
  simp only
  rw [Int.toNat_natCast, bs_size, if_pos ⟨by omega, h1, by omega⟩, chs_bs hl]
  rfl
theorem k_TrimRight : Ev fun n => ∀ (l : List Nat) (c : Nat), Bl l → c < 128 → l.length ≤ 1000000 → c_strings_TrimRight ((C B0).run n) (bs l) (bs [c]) = some (bs (l.reverse.dropWhile (· == c)).reverse, ()) := by
  refine Ev.triv.succ fun n hn _ l c hl hc h1 => ?_
  have e1 : c_strings_TrimRight ((C B0).run (n + 1)) (bs l) (bs [c]) = trimRun (bs l, (bs [c], ())) := by
    rw [← B0_trim []]
    rfl
  rw [e1]
  unfold trimRun
  simp only
  rw [chs_bs (l := [c]) (fun x hx => by rw [List.mem_singleton.1 hx]; omega), chs_bs hl, bs_size]
  simp only
  rw [if_pos ⟨hc, h1⟩]
  rfl
end Go.Px.Seat

/- Numbers: the program's functions, part 3: clone, product, shift. -/
namespace Go.Px.Seat
open Go Pm
set_option linter.unusedVariables false

variable {B : Run}
theorem k_natMul : Ev fun n => ∀ x y : Nat, (dig x).length ≤ 1073741824 → (dig y).length ≤ 1073741824 → c_i_natMul ((C B).run n) (dig x) (dig y) = some (dig (x * y), ()) := by
  refine (k_trim (B := B)).succ fun n hn hTrim x y hx hy => ?_
  rw [run_succ, e_i_natMul]
  unfold p_i_natMul
  simp only [len_eq]
  generalize hLx : (dig x).length = Lx at *
  generalize hLy : (dig y).length = Ly at *
  rw [iadd_eq (x := (Lx : Int)) (by omega) (by omega), iadd_eq (by omega) (by omega), ok_of (mkOk_true (by omega) (by omega) (by omega)), show ((Lx : Int) + Ly + 1).toNat = Lx + Ly + 1 by omega]
  refine iter_const (fun p => ∃ (i : Nat) (o : List Int), p = (((i : Int), ((Lx : Int), (dig x, (dig y, ((), ((), ())))))), (o, ())) ∧ i ≤ Lx ∧ o.length = Lx + Ly + 1 ∧ Dg o ∧
      val o = ((x % 65536 ^ i * y : Nat) : Int) ∧ ∀ j, i + Ly ≤ j → at_ o j = 0) (fun p => Lx - p.1.1.toNat) _ ?_ n _ (by simp only; omega)
      ⟨0, _, rfl, by omega, by simp, Dg_replicate _, by rw [val_replicate_zero]; simp [Nat.mod_one], fun j _ => by
        simp only [at_, List.getD_eq_getElem?_getD, List.getElem?_replicate]
        split <;> rfl⟩
  rintro rec _ ⟨i, o, rfl, h1, h2, h3, h4, h5⟩ ih
  simp only [ilt_iff]
  by_cases hi : i < Lx
  · simp only [show (i : Int) < (Lx : Int) by omega, decide_true, cond_true, hLx, hLy, Int.toNat_natCast, getD_at, dig_at]
    rw [ok_of (inB_true (by omega) (by omega))]
    generalize hX : x / 65536 ^ i % 65536 = X at *
    have hX' : X < 65536 := by omega
    refine iter_const (fun p => ∃ (j c : Nat) (o : List Int), p = (((j : Int), ((Ly : Int), (dig y, ((), ((i : Int), ((X : Int), ((c : Int), (dig y, ((i : Int), ((Lx : Int), (dig x, ((), ())))))))))))), (o, ())) ∧ j ≤ Ly ∧ c < 65536 ∧ o.length = Lx + Ly + 1 ∧ Dg o ∧
        val o + (c : Int) * ((65536 ^ (i + j) : Nat) : Int) = ((x % 65536 ^ i * y + X * (y % 65536 ^ j) * 65536 ^ i : Nat) : Int) ∧ ∀ k, i + Ly ≤ k → at_ o k = 0) (fun p => Ly - p.1.1.toNat) _ ?_ n _ (by simp only; omega)
        ⟨0, 0, o, rfl, by omega, by omega, h2, h3, by rw [h4]; simp [Nat.mod_one], h5⟩
    rintro rec' _ ⟨j, c, o, rfl, g1, g2, g3, g4, g5, g6⟩ ih'
    simp only [ilt_iff, hLy]
    by_cases hj : j < Ly
    · simp only [show (j : Int) < (Ly : Int) by omega, decide_true, cond_true]
      rw [iadd_eq (x := (i : Int)) (by omega) (by omega), show ((i : Int) + j).toNat = i + j by omega, Int.toNat_natCast]
      simp only [getD_at, dig_at, g3]
      rw [ok_of (inB_true (by omega) (by omega)), ok_of (inB_true (by omega) (by omega)), ok_of (inB_true (by omega) (by omega))]
      obtain ⟨r1, r2⟩ := at_range g4 (i + j)
      obtain ⟨q, hq⟩ : ∃ q : Nat, at_ o (i + j) = q := ⟨(at_ o (i + j)).toNat, by omega⟩
      generalize hY : y / 65536 ^ j % 65536 = Y at *
      have hY' : Y < 65536 := by omega
      have hXY : X * Y ≤ 65535 * 65535 := Nat.mul_le_mul (by omega) (by omega)
      have hcast : (X : Int) * (Y : Int) = ((X * Y : Nat) : Int) := by rw [Int.natCast_mul]
      rw [hq, imul_eq (by rw [hcast]; omega) (by rw [hcast]; omega), hcast]
      rw [iadd_eq (x := (q : Int)) (by omega) (by omega), iadd_eq (x := (q : Int) + _) (by omega) (by omega), iand_base (by omega) (by omega), iadd_eq (by omega) (by omega)]
      have hsh : ∀ z : Int, ishr .i64 z 16 = z / 65536 := fun z => ishr_eq (k := 16) (by decide)
      rw [hsh]
      generalize hs : q + X * Y + c = s
      have hs' : (q : Int) + ((X * Y : Nat) : Int) + (c : Int) = (s : Int) := by omega
      have hs2 : s < 4294967296 := by omega
      rw [hs']
      refine ih' _ ⟨j + 1, s / 65536, o.set (i + j) (((s % 65536 : Nat)) : Int), ?_, by omega, by omega, by simp [g3], Dg_set g4 (by omega), ?_, fun k hk => ?_⟩ (by simp only; omega)
      · congr 2
      · rw [val_set _ _ _ (by omega), hq, mod_succ, hY]
        have h7 : ((65536 ^ (i + (j + 1)) : Nat) : Int) = 65536 * ((65536 ^ (i + j) : Nat) : Int) := by rw [← Nat.add_assoc, Nat.pow_succ, Nat.mul_comm]; omega
        have h8 : ((s / 65536 : Nat) : Int) * 65536 + ((s % 65536 : Nat) : Int) = (s : Int) := by omega
        have h9 : ((65536 ^ (i + j) : Nat) : Int) = ((65536 ^ i : Nat) : Int) * ((65536 ^ j : Nat) : Int) := by rw [← Int.natCast_mul, ← Nat.pow_add]
        rw [h7]
        rw [Int.natCast_mul] at hs'
        simp only [Int.natCast_add, Int.natCast_mul] at g5 ⊢
        rw [h9] at g5 ⊢
        generalize ((65536 ^ i : Nat) : Int) = W at *
        generalize ((65536 ^ j : Nat) : Int) = V at *
        generalize ((s / 65536 : Nat) : Int) = sd at *
        generalize ((s % 65536 : Nat) : Int) = sm at *
        grind
      · rw [at_set _ _ _ _ (by omega), if_neg (by omega)]
        exact g6 k hk
    · have hj : j = Ly := by omega
      subst hj
      simp only [show ¬ (j : Int) < (j : Int) by omega, decide_false, cond_false]
      rw [iadd_eq (x := (i : Int)) (y := (j : Int)) (by omega) (by omega), ok_of (inB_true (by omega) (by simp only [g3]; omega)), ok_of (inB_true (by omega) (by simp only [g3]; omega)), iadd_eq (x := (i : Int)) (by omega) (by omega), show ((i : Int) + (j : Int)).toNat = i + j by omega]
      rw [g6 _ (by omega), iadd_eq (by omega) (by omega), Int.zero_add]
      refine ih _ ⟨i + 1, o.set (i + j) (c : Int), by simp, by omega, by simp [g3], Dg_set g4 (by omega), ?_, fun k hk => ?_⟩ (by simp only; omega)
      · rw [val_set _ _ _ (by omega), g6 _ (by omega), mod_succ, hX]
        have hym : y % 65536 ^ j = y := Nat.mod_eq_of_lt (dig_len_le.1 (by omega))
        rw [hym] at g5
        simp only [Int.natCast_add, Int.natCast_mul] at g5 ⊢
        grind
      · rw [at_set _ _ _ _ (by omega), if_neg (by omega)]
        exact g6 k (by omega)
  · have hi : i = Lx := by omega
    subst hi
    simp only [show ¬ (i : Int) < (i : Int) by omega, decide_false, cond_false]
    rw [hTrim _ (by omega)]
    simp only [Option.bind_some]
    rw [strip_dig h3, h4]
    have hxm : x % 65536 ^ i = x := Nat.mod_eq_of_lt (dig_len_le.1 (by omega))
    rw [hxm, Int.toNat_natCast]
/-- a digit shifted up, in two parts -/
theorem shl_digit {s d : Nat} (hs : s < 16) (hd : d < 65536) : d * 2 ^ s < 4294967296 ∧ d * 2 ^ s % 65536 % 2 ^ s = 0 ∧ d * 2 ^ s / 65536 < 2 ^ s ∧ d * 2 ^ s % 65536 + 2 ^ s ≤ 65536 := by
  have : s = 0 ∨ s = 1 ∨ s = 2 ∨ s = 3 ∨ s = 4 ∨ s = 5 ∨ s = 6 ∨ s = 7 ∨ s = 8 ∨ s = 9 ∨ s = 10 ∨ s = 11 ∨ s = 12 ∨ s = 13 ∨ s = 14 ∨ s = 15 := by omega
  rcases this with h | h | h | h | h | h | h | h | h | h | h | h | h | h | h | h <;> subst h <;> simp only [Nat.reducePow] <;> omega
theorem shr_digit {s Y : Nat} (hs : s < 16) : Y / 2 ^ s % 65536 = Y % 65536 / 2 ^ s + (Y / 65536 % 65536 * 2 ^ (16 - s)) % 65536 ∧ Y % 65536 / 2 ^ s < 2 ^ (16 - s) ∧ (Y / 65536 % 65536 * 2 ^ (16 - s)) % 65536 % 2 ^ (16 - s) = 0 ∧
    Y / 65536 % 65536 * 2 ^ (16 - s) < 4294967296 := by
  have : s = 0 ∨ s = 1 ∨ s = 2 ∨ s = 3 ∨ s = 4 ∨ s = 5 ∨ s = 6 ∨ s = 7 ∨ s = 8 ∨ s = 9 ∨ s = 10 ∨ s = 11 ∨ s = 12 ∨ s = 13 ∨ s = 14 ∨ s = 15 := by omega
  rcases this with h | h | h | h | h | h | h | h | h | h | h | h | h | h | h | h <;> subst h <;> simp only [Nat.reducePow, Nat.reduceSub] <;> omega
theorem k_natShl : Ev fun n => ∀ x k : Nat, (dig x).length ≤ 268435456 → k ≤ 1073741824 → c_i_natShift ((C B).run n) (dig x) (k : Int) = some (dig (x * 2 ^ k), ()) := by
  refine (k_trim (B := B)).succ fun n hn hTrim x k hx hk => ?_
  rw [run_succ, e_i_natShift]
  unfold p_i_natShift
  simp only [len_eq, ilt_iff, show ¬ (k : Int) < 0 by omega, decide_false, cond_false]
  generalize hL : (dig x).length = L at *
  have hq : iquo .i64 (k : Int) 16 = ((k / 16 : Nat) : Int) := by rw [iquo_eq (by omega) (by omega) (by omega)]; omega
  have hr : irem .i64 (k : Int) 16 = ((k % 16 : Nat) : Int) := by rw [irem_eq (by omega)]; omega
  have hx2 : x * 2 ^ k = x * 2 ^ (k % 16) * 65536 ^ (k / 16) := by rw [pow_base, Nat.mul_assoc, ← Nat.pow_add, show k % 16 + 16 * (k / 16) = k by omega]
  rw [hx2, hq]
  have hs16 : k % 16 < 16 := by omega
  have hq2 : k / 16 ≤ 67108864 := by omega
  rw [iadd_eq (x := ((k / 16 : Nat) : Int)) (by omega) (by omega), iadd_eq (by omega) (by omega), ok_of (mkOk_true (by omega) (by omega) (by omega)), show (((k / 16 : Nat) : Int) + L + 1).toNat = k / 16 + L + 1 by omega]
  refine iter_const (fun p => ∃ (i : Nat) (o : List Int), p = (((i : Int), ((L : Int), (dig x, ((k : Int), ((), ((), ())))))), (o, ())) ∧ i ≤ L ∧ o.length = k / 16 + L + 1 ∧ Dg o ∧
      val o = ((x % 65536 ^ i * 2 ^ (k % 16) * 65536 ^ (k / 16) : Nat) : Int) ∧ at_ o (k / 16 + i) < 2 ^ (k % 16) ∧ ∀ j, k / 16 + i < j → at_ o j = 0) (fun p => L - p.1.1.toNat) _ ?_ n _ (by simp only; omega)
      ⟨0, List.replicate (k / 16 + L + 1) 0, rfl, by omega, by simp, Dg_replicate _, by rw [val_replicate_zero]; simp [Nat.mod_one], ?_, fun j _ => by
        simp only [at_, List.getD_eq_getElem?_getD, List.getElem?_replicate]
        split <;> rfl⟩
  · generalize k / 16 = q at *
    generalize k % 16 = s at *
    rintro rec _ ⟨i, o, rfl, h1, h2, h3, h4, h5, h6⟩ ih
    by_cases hi : i < L
    · simp only [show (i : Int) < (L : Int) by omega, decide_true, cond_true, hL, Int.toNat_natCast, getD_at, dig_at, hq, hr, h2]
      generalize hD : x / 65536 ^ i % 65536 = D at *
      have hD' : D < 65536 := by omega
      obtain ⟨d1, d2, d3, d4⟩ := shl_digit hs16 hD'
      have hsh0 : ishl .i64 (D : Int) (s : Int) = ((D * 2 ^ s : Nat) : Int) := by
        have : (D : Int) * 2 ^ s = ((D * 2 ^ s : Nat) : Int) := by simp
        rw [ishl_eq (by omega) (by rw [this]; omega) (by rw [this]; omega), this]
      have hsh1 : ∀ z : Int, ishr .i64 z 16 = z / 65536 := fun z => ishr_eq (k := 16) (by decide)
      generalize hN : D * 2 ^ s = N at *
      obtain ⟨r1, r2⟩ := at_range h3 (q + i)
      obtain ⟨v, hv⟩ : ∃ v : Nat, at_ o (q + i) = v := ⟨(at_ o (q + i)).toNat, by omega⟩
      rw [hv] at h5
      have hv2 : v < 2 ^ s := by exact_mod_cast h5
      have hs2 : (2 : Nat) ^ s ≤ 65536 := by
        have : (2 : Nat) ^ s ≤ 2 ^ 16 := Nat.pow_le_pow_right (by decide) (by omega)
        exact this
      have hor : v ||| (N % 65536) = v + N % 65536 := or_add hv2 d2
      rw [ok_of (inB_true (by omega) (by omega)), ok_of (by simp), iadd_eq (x := (q : Int)) (by omega) (by omega), show ((q : Int) + i).toNat = q + i by omega, hv, hsh0, hsh1, iand_base (by omega) (by omega), show (N : Int) % 65536 = ((N % 65536 : Nat) : Int) by omega, ior_eq (by omega) (by omega), hor]
      rw [ok_of (inB_true (by omega) (by omega)), ok_of (inB_true (by omega) (by omega)), iadd_eq (x := (q : Int) + i) (by omega) (by omega), show ((q : Int) + i + 1).toNat = q + i + 1 by omega, ok_of (inB_true (by omega) (by simp only [List.length_set, h2]; omega)), iadd_eq (by omega) (by omega)]
      refine ih _ ⟨i + 1, (o.set (q + i) ((v + N % 65536 : Nat) : Int)).set (q + i + 1) (((N / 65536 : Nat) : Int)), ?_, by omega, by simp [h2], Dg_set (Dg_set h3 (by omega)) (by omega), ?_, ?_, fun j hj => ?_⟩ (by simp only; omega)
      · congr 2
      · have hz : at_ (o.set (q + i) ((v + N % 65536 : Nat) : Int)) (q + i + 1) = 0 := by rw [at_set _ _ _ _ (by omega), if_neg (by omega)]; exact h6 _ (by omega)
        rw [val_set _ _ _ (by simp [h2]; omega), hz, val_set _ _ _ (by omega), hv, h4, mod_succ, hD]
        have h7 : ((65536 ^ (q + i + 1) : Nat) : Int) = 65536 * ((65536 ^ (q + i) : Nat) : Int) := by rw [Nat.pow_succ, Nat.mul_comm]; omega
        have h8 : ((N / 65536 : Nat) : Int) * 65536 + ((N % 65536 : Nat) : Int) = (N : Int) := by omega
        have h9 : ((65536 ^ (q + i) : Nat) : Int) = ((65536 ^ q : Nat) : Int) * ((65536 ^ i : Nat) : Int) := by rw [← Int.natCast_mul, ← Nat.pow_add]
        have h10 : (N : Int) = (D : Int) * ((2 ^ s : Nat) : Int) := by rw [← hN, Int.natCast_mul]
        rw [h7, h9]
        simp only [Int.natCast_add, Int.natCast_mul]
        generalize ((65536 ^ i : Nat) : Int) = W at *
        generalize ((65536 ^ q : Nat) : Int) = V at *
        generalize ((2 ^ s : Nat) : Int) = P at *
        generalize ((N / 65536 : Nat) : Int) = sd at *
        generalize ((N % 65536 : Nat) : Int) = sm at *
        grind
      · rw [← Nat.add_assoc, at_set _ _ _ _ (by simp [h2]; omega), if_pos rfl]
        exact_mod_cast d3
      · rw [at_set _ _ _ _ (by simp [h2]; omega), if_neg (by omega), at_set _ _ _ _ (by omega), if_neg (by omega)]
        exact h6 j (by omega)
    · have hi : i = L := by omega
      subst hi
      simp only [show ¬ (i : Int) < (i : Int) by omega, decide_false, cond_false]
      rw [hTrim _ (by omega)]
      simp only [Option.bind_some]
      have hxm : x % 65536 ^ i = x := Nat.mod_eq_of_lt (dig_len_le.1 (by omega))
      rw [strip_dig h3, h4, hxm, Int.toNat_natCast]
  · have : at_ (List.replicate (k / 16 + L + 1) 0) (k / 16 + 0) = 0 := by
      simp only [at_, List.getD_eq_getElem?_getD, List.getElem?_replicate]
      split <;> rfl
    rw [this]
    exact Int.pow_pos (by decide)
theorem k_natShr : Ev fun n => ∀ x m : Nat, (dig x).length ≤ 268435456 → 0 < m → m ≤ 1073741824 → c_i_natShift ((C B0).run n) (dig x) (-(m : Int)) = some (dig (x / 2 ^ m), ()) := by
  refine ((k_trim (B := B0)).and k_Clone).succ fun n hn ⟨hTrim, hClone⟩ x m hx hm0 hm => ?_
  rw [run_succ, e_i_natShift]
  unfold p_i_natShift
  have hneg : ineg .i64 (-(m : Int)) = (m : Int) := by rw [ineg_eq (by omega) (by omega)]; omega
  simp only [len_eq, ilt_iff, show -(m : Int) < 0 by omega, decide_true, cond_true, hneg, ile_iff]
  have hq : iquo .i64 (m : Int) 16 = ((m / 16 : Nat) : Int) := by rw [iquo_eq (by omega) (by omega) (by omega)]; omega
  have hr : irem .i64 (m : Int) 16 = ((m % 16 : Nat) : Int) := by rw [irem_eq (by omega)]; omega
  rw [hq, hr]
  have hx2 : x / 2 ^ m = x / 65536 ^ (m / 16) / 2 ^ (m % 16) := by rw [pow_base, Nat.div_div_eq_div_mul, ← Nat.pow_add, show 16 * (m / 16) + m % 16 = m by omega]
  rw [hx2]
  have hs16 : m % 16 < 16 := by omega
  generalize m / 16 = q at *
  generalize m % 16 = s at *
  by_cases hqL : (dig x).length ≤ q
  · simp only [show ((dig x).length : Int) ≤ (q : Int) by omega, decide_true, cond_true]
    rw [Nat.div_eq_of_lt (dig_len_le.1 hqL), Nat.zero_div, dig_zero]
  · simp only [show ¬ ((dig x).length : Int) ≤ (q : Int) by omega, decide_false, cond_false]
    rw [ok_of (sliceOk_true (by omega) (by omega) (by omega)), Int.toNat_natCast, Int.toNat_natCast, List.take_length, dig_drop]
    have hyl : (dig (x / 65536 ^ q)).length = (dig x).length - q := by rw [← dig_drop, List.length_drop]
    have hy : ∀ j, x / 65536 ^ (q + j) = x / 65536 ^ q / 65536 ^ j := fun j => by rw [Nat.div_div_eq_div_mul, ← Nat.pow_add]
    have hat : ∀ j, at_ (dig x) (q + j) = at_ (dig (x / 65536 ^ q)) j := fun j => by rw [dig_at, dig_at, hy]
    generalize hyy : x / 65536 ^ q = y at *
    generalize hL : (dig y).length = L at *
    have hy0 : dig y ≠ [] := fun h => by rw [h] at hL; simp at hL; omega
    rw [hClone _ hy0 (by omega)]
    simp only [Option.bind_some, hL]
    refine iter_const (fun p => ∃ (i : Nat) (o : List Int), p = (((i : Int), ((L : Int), ((), ((s : Int), ((q : Int), (dig x, (-(m : Int), ((), ())))))))), (o, ())) ∧ i ≤ L ∧ o.length = L ∧
        ∀ j, at_ o j = if j < i then ((y / 2 ^ s / 65536 ^ j % 65536 : Nat) : Int) else at_ (dig y) j) (fun p => L - p.1.1.toNat) _ ?_ n _ (by simp only; omega) ⟨0, dig y, rfl, by omega, hL, fun j => by rw [if_neg (by omega)]⟩
    rintro rec _ ⟨i, o, rfl, h1, h2, h3⟩ ih
    by_cases hi : i < L
    · simp only [show (i : Int) < (L : Int) by omega, decide_true, cond_true, jb_ok, jb_cond, jb_inr, Int.toNat_natCast, getD_at, h2, List.length_set]
      have hoi : at_ o i = ((y / 65536 ^ i % 65536 : Nat) : Int) := by rw [h3, if_neg (by omega), dig_at]
      rw [ok_of (inB_true (by omega) (by omega)), ok_of (by simp), ok_of (inB_true (by omega) (by omega)), hoi, ishr_eq (by omega), iadd_eq (x := (q : Int)) (by omega) (by omega), iadd_eq (x := (q : Int) + i) (by omega) (by omega)]
      obtain ⟨d1, d2, d3, d4⟩ := shr_digit (s := s) (Y := y / 65536 ^ i) hs16
      have hzi : y / 2 ^ s / 65536 ^ i % 65536 = y / 65536 ^ i / 2 ^ s % 65536 := by rw [Nat.div_div_eq_div_mul, Nat.div_div_eq_div_mul, Nat.mul_comm]
      have hnx : y / 65536 ^ i / 65536 % 65536 = y / 65536 ^ (i + 1) % 65536 := by rw [Nat.div_div_eq_div_mul, Nat.pow_succ]
      rw [hnx] at d1 d3 d4
      have hYs : ((y / 65536 ^ i % 65536 : Nat) : Int) / 2 ^ s = ((y / 65536 ^ i % 65536 / 2 ^ s : Nat) : Int) := by
        rw [Int.natCast_ediv]; simp
      rw [hYs]
      have hb1 : y / 65536 ^ i % 65536 / 2 ^ s < 65536 := Nat.lt_of_le_of_lt (Nat.div_le_self ..) (Nat.mod_lt _ (by decide))
      have fin : ∀ (o' : List Int) (v : Nat), v = y / 2 ^ s / 65536 ^ i % 65536 → (∀ j, at_ o' j = if j = i then (v : Int) else at_ o j) → o'.length = L →
          rec (((iadd .i64 (i : Int) 1), ((L : Int), ((), ((s : Int), ((q : Int), (dig x, (-(m : Int), ((), ())))))))), (o', ())) = some (dig (y / 2 ^ s), ()) := by
        intro o' v hv ho hl
        rw [iadd_eq (by omega) (by omega)]
        refine ih _ ⟨i + 1, o', by simp, by omega, hl, fun j => ?_⟩ (by simp only; omega)
        rw [ho]
        by_cases hj : j = i
        · subst hj
          rw [if_pos rfl, if_pos (by omega), hv]
        · rw [if_neg hj, h3]
          by_cases hj2 : j < i
          · rw [if_pos hj2, if_pos (by omega)]
          · rw [if_neg hj2, if_neg (by omega)]
      by_cases hlast : q + i + 1 < (dig x).length
      · simp only [show (q : Int) + i + 1 < ((dig x).length : Int) by omega, decide_true, cond_true]
        have hnxt : at_ (dig x) (q + i + 1) = ((y / 65536 ^ (i + 1) % 65536 : Nat) : Int) := by
          have := hat (i + 1)
          rw [← Nat.add_assoc] at this
          rw [this, dig_at]
        have hs0 : at_ (o.set i ((y / 65536 ^ i % 65536 / 2 ^ s : Nat) : Int)) i = ((y / 65536 ^ i % 65536 / 2 ^ s : Nat) : Int) := by rw [at_set _ _ _ _ (by omega), if_pos rfl]
        rw [show ((q : Int) + i + 1).toNat = q + i + 1 by omega, hnxt, hs0, isub_eq (by omega) (by omega), show (16 : Int) - (s : Int) = ((16 - s : Nat) : Int) by omega]
        have hcast : ((y / 65536 ^ (i + 1) % 65536 : Nat) : Int) * 2 ^ (16 - s) = ((y / 65536 ^ (i + 1) % 65536 * 2 ^ (16 - s) : Nat) : Int) := by simp
        generalize hA : y / 65536 ^ i % 65536 / 2 ^ s = A at *
        generalize hE : y / 65536 ^ (i + 1) % 65536 = E at *
        generalize hF : E * 2 ^ (16 - s) = F at *
        have hor : A ||| (F % 65536) = A + F % 65536 := or_add d2 d3
        rw [ok_of (inB_true (by omega) (by omega)), ok_of (inB_true (by omega) (by omega)), ok_of (by simp), ok_of (inB_true (by omega) (by omega)), ishl_eq (by omega) (by rw [hcast]; omega) (by rw [hcast]; omega), hcast, iand_base (by omega) (by omega), show (F : Int) % 65536 = ((F % 65536 : Nat) : Int) by omega, ior_eq (by omega) (by omega), hor]
        refine fin _ (A + F % 65536) (by rw [hzi, d1]) (fun j => ?_) (by simp [h2])
        rw [at_set _ _ _ _ (by simp [h2]; omega)]
        by_cases hj : j = i
        · rw [if_pos hj.symm, if_pos hj]
        · rw [if_neg (fun h => hj h.symm), if_neg hj, at_set _ _ _ _ (by omega), if_neg (fun h => hj h.symm)]
      · simp only [show ¬ (q : Int) + i + 1 < ((dig x).length : Int) by omega, decide_false, cond_false]
        have hz : y / 65536 ^ (i + 1) = 0 := Nat.div_eq_of_lt (dig_len_le.1 (by omega))
        refine fin _ (y / 65536 ^ i % 65536 / 2 ^ s) (by rw [hzi, d1, hz]; simp) (fun j => ?_) (by simp [h2])
        rw [at_set _ _ _ _ (by omega)]
        by_cases hj : j = i
        · rw [if_pos hj.symm, if_pos hj]
        · rw [if_neg (fun h => hj h.symm), if_neg hj]
    · have hi : i = L := by omega
      subst hi
      simp only [show ¬ (i : Int) < (i : Int) by omega, decide_false, cond_false]
      rw [hTrim _ (by omega)]
      simp only [Option.bind_some]
      have hall : ∀ j, j < o.length → at_ o j = ((y / 2 ^ s / 65536 ^ j % 65536 : Nat) : Int) := fun j hj => by rw [h3, if_pos (by omega)]
      rw [strip_dig (Dg_of_at hall), val_of_at hall, h2, Int.toNat_natCast, Nat.mod_eq_of_lt]
      exact Nat.lt_of_le_of_lt (Nat.div_le_self ..) (dig_len_le.1 (by omega))
end Go.Px.Seat
