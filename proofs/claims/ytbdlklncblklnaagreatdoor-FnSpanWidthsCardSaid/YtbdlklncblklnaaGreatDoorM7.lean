/- Own texts, part M7: PnO PnT PnQ PnU PnP PnR PnV. -/
import Derived.Test.YtbdlklncblklnaaGreatDoorM6
import Derived.Test.YtbdlklncblklnaaGreatDoorM5
import Derived.Test.YtbdlklncblklnaaGreatDoorM4
set_option linter.unusedVariables false

/- Roots of spans: the program's. Seat ZD. -/
namespace Pm
open Go.Px Go.Px.Seat
theorem nonneg_mk {f : Rat} (h : 0 ≤ f) : mkRat ((f.num.natAbs : Nat) : Int) f.den = f := by
  have := mk_self f
  rw [show fb f = false by rw [fb_iff]; exact decide_eq_false (Rat.not_lt.2 h)] at this
  exact this
theorem ilt_cmp (r s : Rat) : ilt 0 (cmpR r s) = decide (s < r) := by
  unfold cmpR
  by_cases h : r < s
  · rw [if_pos h, decide_eq_false (by grind)]; rfl
  · rw [if_neg h]
    by_cases h' : s < r
    · rw [if_pos h', decide_eq_true h']; rfl
    · rw [if_neg h', decide_eq_false h']; rfl
theorem bl_le64 {x : Nat} (h : x < 9007199254740992) : bl x ≤ 53 := bl_le.2 h
end Pm
namespace Pm
open Go.Px Go.Px.Seat
end Pm
namespace Go.Px.Seat
open Go Pm
set_option linter.unusedVariables false
variable {B : Run}
theorem k_above : Ev fun n => ∀ (w o : Int) (m : Nat) (f : Rat), fin w o → 0 < o → 1 ≤ m → m ≤ 8 → 0 ≤ f → short 1024 f → c_i_powerAbove ((C B0).run n) w o (m : Int) (fb f) (ft f) (fq f) = some (decide (f < fv w o ^ m), ()) := by
  refine ((k_Part (B := B0)).and ((k_natOf (B := B0)).and ((k_natBits (B := B0)).and (k_value.and ((k_Fpow (B := B0)).and (k_cmpS (B := B0))))))).succ fun n hn ⟨hP, hO, hB, hV, hPw, hC⟩ w o m f hf ho hm1 hm8 hf0 hs => ?_
  rw [run_succ, e_i_powerAbove]
  unfold p_i_powerAbove
  obtain ⟨s1, s2⟩ := hs
  have hsz := sz_lt w o
  have hb := bl_le64 hsz
  have hsh := shf_lt hf
  have hll := lst_le w
  rw [hP w o hf]
  simp only [Option.bind_some]
  rw [hO _ (by omega)]
  simp only [Option.bind_some]
  have l0 : (dig (sz w o)).length ≤ 4 := dig_len_le.2 (Nat.lt_of_lt_of_le hsz (by decide))
  rw [hB _ (by omega)]
  simp only [Option.bind_some]
  have s1' : (dig f.num.natAbs).length ≤ 1024 := s1
  have s2' : (dig f.den).length ≤ 1024 := s2
  have b1 := bl_len f.num.natAbs
  have b2 := bl_len f.den
  have hbT : c_i_natBits ((C B0).run n) (ft f) = some ((bl f.num.natAbs : Int), ()) := hB _ (by omega)
  have hbD : c_i_natBits ((C B0).run n) (fq f) = some ((bl f.den : Int), ()) := hB _ (by omega)
  rw [hbT, hbD]
  simp only [Option.bind_some]
  have hbs := bl_pos (sz_pos (w := w) ho)
  have e1 : isub .i64 (bl (sz w o) : Int) 1 = (bl (sz w o) : Int) - 1 := isub_eq (by omega) (by omega)
  have e2 : iadd .i64 ((bl (sz w o) : Int) - 1) (-(lst w : Int) + (shf w o : Int)) = (bl (sz w o) : Int) - 1 + (-(lst w : Int) + (shf w o : Int)) := iadd_eq (by omega) (by omega)
  have hlow : -8592 ≤ (m : Int) * ((bl (sz w o) : Int) - 1 + (-(lst w : Int) + (shf w o : Int))) ∧ (m : Int) * ((bl (sz w o) : Int) - 1 + (-(lst w : Int) + (shf w o : Int))) ≤ 17000 := by
    have g1 : -1074 ≤ (bl (sz w o) : Int) - 1 + (-(lst w : Int) + (shf w o : Int)) := by omega
    have g2 : (bl (sz w o) : Int) - 1 + (-(lst w : Int) + (shf w o : Int)) ≤ 2125 := by omega
    generalize (bl (sz w o) : Int) - 1 + (-(lst w : Int) + (shf w o : Int)) = E at g1 g2
    have : m = 1 ∨ m = 2 ∨ m = 3 ∨ m = 4 ∨ m = 5 ∨ m = 6 ∨ m = 7 ∨ m = 8 := by omega
    rcases this with h | h | h | h | h | h | h | h <;> subst h <;> omega
  have e3 : imul .i64 (m : Int) ((bl (sz w o) : Int) - 1 + (-(lst w : Int) + (shf w o : Int))) = (m : Int) * ((bl (sz w o) : Int) - 1 + (-(lst w : Int) + (shf w o : Int))) := imul_eq (by omega) (by omega)
  have e4 : isub .i64 (bl f.num.natAbs : Int) (bl f.den : Int) = (bl f.num.natAbs : Int) - bl f.den := isub_eq (by omega) (by omega)
  have e5 : iadd .i64 ((bl f.num.natAbs : Int) - bl f.den) 1 = (bl f.num.natAbs : Int) - bl f.den + 1 := iadd_eq (by omega) (by omega)
  have e6 : isub .i64 ((bl f.num.natAbs : Int) - bl f.den) 1 = (bl f.num.natAbs : Int) - bl f.den - 1 := isub_eq (by omega) (by omega)
  have e7 : iadd .i64 ((m : Int) * ((bl (sz w o) : Int) - 1 + (-(lst w : Int) + (shf w o : Int)))) (m : Int) = (m : Int) * ((bl (sz w o) : Int) - 1 + (-(lst w : Int) + (shf w o : Int))) + m := iadd_eq (by omega) (by omega)
  rw [e1, e2, e3, e4, e5]
  simp only [ilt_iff, len_zero_iff]
  have hmk := nonneg_mk hf0
  by_cases hz : f = 0
  · have e : ft f = [] := ft_nil.2 hz
    rw [e]
    simp only [List.isEmpty_nil, cond_true, jb_inr]
    rw [hz, decide_eq_true (Rat.pow_pos (fv_pos ho))]
  have hT : f.num.natAbs ≠ 0 := fun h => hz (Rat.num_eq_zero.1 (Int.natAbs_eq_zero.1 h))
  have e : (ft f).isEmpty = false := by
    cases h : (ft f).isEmpty
    · rfl
    · exact absurd (ft_nil.1 (List.isEmpty_iff.1 h)) hz
  rw [e]
  simp only [cond_false, jb_inr]
  by_cases g1 : (bl f.num.natAbs : Int) - bl f.den + 1 < (m : Int) * ((bl (sz w o) : Int) - 1 + (-(lst w : Int) + (shf w o : Int)))
  · rw [decide_eq_true g1, cond_true]
    have := above_yes (w := w) (n := m) ho hT f.den_nz g1
    rw [hmk] at this
    rw [decide_eq_true this]
  rw [decide_eq_false g1, cond_false, e6, e7]
  by_cases g2 : (m : Int) * ((bl (sz w o) : Int) - 1 + (-(lst w : Int) + (shf w o : Int))) + m < (bl f.num.natAbs : Int) - bl f.den - 1
  · rw [decide_eq_true g2, cond_true]
    have := above_no (w := w) (n := m) ho hT f.den_nz g2
    rw [hmk] at this
    rw [decide_eq_false this]
  rw [decide_eq_false g2, cond_false, hV w o hf]
  simp only [Option.bind_some, outF]
  rw [hPw (fv w o) m 69 (short_fv hf) (by omega) (by omega)]
  simp only [Option.bind_some, outF]
  have hp8 : 69 * m + 1 ≤ 1048576 := by omega
  rw [hC _ _ (short_mono (short_pow (short_fv hf) (by omega) m) hp8) (short_mono ⟨s1, s2⟩ (by omega))]
  simp only [Option.bind_some]
  have := ilt_cmp (fv w o ^ m) f
  rw [ilt_iff] at this
  rw [this]
theorem k_root : Ev fun n => ∀ (w a : Int) (m : Nat), fin w a → 0 ≤ a → 1 ≤ m → m ≤ 8 → c_i_root ((C B0).run n) w a (m : Int) = some (rt w a m, (decide (fv w (rt w a m) ^ m = fv w a), ())) := by
  refine (k_value.and ((k_BitTop (B := B0)).and (k_above.and ((k_Fpow (B := B0)).and (k_cmpS (B := B0)))))).succ fun n hn ⟨hV, hT, hA, hPw, hC⟩ w a m hf ha hm1 hm8 => ?_
  rw [run_succ, e_i_root]
  unfold p_i_root
  have hw := hf.1
  have ht := top_pos hw
  have htn := top_nonneg w
  have hm0 : m ≠ 0 := by omega
  rw [hV w a hf, hT]
  simp only [Option.bind_some, outF]
  rw [isub_eq (x := top w) (y := 1) (by omega) (by omega)]
  refine iter_const (fun st => ∃ lo hi : Int, 0 ≤ lo ∧ lo ≤ hi ∧ hi < top w ∧ fv w lo ^ m ≤ fv w a ∧ (hi = top w - 1 ∨ fv w a < fv w (hi + 1) ^ m) ∧
      st = ((lo, (hi, (w, ((m : Int), ((), (0, (false, ()))))))), ((fb (fv w a), (ft (fv w a), (fq (fv w a), ()))), ()))) (fun st => bl (st.1.2.1 - st.1.1).toNat) _ ?_ n _ ?_
    ⟨0, top w - 1, by omega, by omega, by omega, by rw [fv_zero', zero_pow' hm0]; exact fv_nonneg ha, .inl rfl, rfl⟩
  · rintro rec _ ⟨lo, hi, h1, h2, h3, h4, h5, rfl⟩ ih
    simp only [ilt_iff]
    by_cases h : lo < hi
    · have e1 : isub .i64 hi lo = hi - lo := isub_eq (by omega) (by omega)
      have e2 : iadd .i64 (hi - lo) 1 = hi - lo + 1 := iadd_eq (by omega) (by omega)
      have e3 : iquo .i64 (hi - lo + 1) 2 = (hi - lo + 1) / 2 := iquo_eq (by omega) (by omega) (by omega)
      have e4 : iadd .i64 lo ((hi - lo + 1) / 2) = lo + (hi - lo + 1) / 2 := iadd_eq (by omega) (by omega)
      rw [decide_eq_true h, cond_true, e1, e2, e3, e4]
      have hbl : ∀ x : Nat, 2 * x ≤ (hi - lo).toNat → bl x < bl (hi - lo).toNat := fun x hx => bl_half hx (by omega)
      generalize hmid : lo + (hi - lo + 1) / 2 = mid at *
      have hmf : fin w mid := ⟨hw, by omega, by omega⟩
      have e5 : isub .i64 mid 1 = mid - 1 := isub_eq (by omega) (by omega)
      rw [hA w mid m (fv w a) hmf (by omega) hm1 hm8 (fv_nonneg ha) (short_mono (short_fv hf) (by omega))]
      simp only [Option.bind_some]
      by_cases hc : fv w a < fv w mid ^ m
      · rw [decide_eq_true hc, cond_true, e5]
        exact ih _ ⟨lo, mid - 1, h1, by omega, by omega, h4, .inr (by rw [Int.sub_add_cancel]; exact hc), rfl⟩ (hbl _ (by simp only; omega))
      · rw [decide_eq_false hc, cond_false]
        exact ih _ ⟨mid, hi, by omega, by omega, h3, Rat.not_lt.1 hc, h5, rfl⟩ (hbl _ (by simp only; omega))
    · have hlh : lo = hi := by omega
      subst hlh
      rw [decide_eq_false h, cond_false]
      have hlf : fin w lo := ⟨hw, by omega, h3⟩
      have hrt : rt w a m = lo := rt_of hm0 ⟨h1, h3, h4, h5⟩
      rw [hV w lo hlf]
      simp only [Option.bind_some, outF]
      rw [hPw (fv w lo) m 69 (short_fv hlf) (by omega) (by omega)]
      simp only [Option.bind_some, outF]
      have hp8 : 69 * m + 1 ≤ 1048576 := by omega
      rw [hC _ _ (short_mono (short_pow (short_fv hlf) (by omega) m) hp8) (short_mono (short_fv hf) (by omega)), hrt]
      simp only [Option.bind_some]
      by_cases he : fv w lo ^ m = fv w a
      · rw [decide_eq_true he, (cmpR_eq _ _).2 he]; rfl
      · rw [decide_eq_false he, beq_f (fun h => he ((cmpR_eq _ _).1 h))]
  · simp only
    have : bl (top w - 1 - 0).toNat ≤ 64 := bl_le.2 (by omega)
    omega
theorem k_rootDn0 : Ev fun n => ∀ (w a : Int) (m : Nat), wd w = true → 0 ≤ a → a ≤ top w → 1 ≤ m → m ≤ 8 → c_i_rootDown ((C B0).run n) w a (m : Int) = some (rdn0 w a m, ()) := by
  refine ((k_BitTop (B := B0)).and k_root).succ fun n hn ⟨hT, hR⟩ w a m hw h0 h1 hm1 hm8 => ?_
  rw [run_succ, e_i_rootDown]
  unfold p_i_rootDown rdn0
  rw [ilt_iff, decide_eq_false (by omega), cond_false, hT]
  simp only [Option.bind_some]
  have ht := top_pos hw
  by_cases h : a = top w
  · rw [if_pos h, show (a == top w) = true by simpa using h, cond_true, h]
  · rw [if_neg h, beq_f h, cond_false, hR w a m ⟨hw, by omega, by omega⟩ h0 hm1 hm8]
    rfl
theorem k_rootUp0 : Ev fun n => ∀ (w a : Int) (m : Nat), wd w = true → 0 ≤ a → a ≤ top w → 1 ≤ m → m ≤ 8 → c_i_rootUp ((C B0).run n) w a (m : Int) = some (rup0 w a m, ()) := by
  refine ((k_BitTop (B := B0)).and k_root).succ fun n hn ⟨hT, hR⟩ w a m hw h0 h1 hm1 hm8 => ?_
  rw [run_succ, e_i_rootUp]
  unfold p_i_rootUp rup0
  rw [ilt_iff, decide_eq_false (by omega), cond_false, hT]
  simp only [Option.bind_some]
  have ht := top_pos hw
  have htn := top_nonneg w
  by_cases h : a = top w
  · rw [if_pos h, show (a == top w) = true by simpa using h, cond_true, h]
  · rw [if_neg h, beq_f h, cond_false, hR w a m ⟨hw, by omega, by omega⟩ h0 hm1 hm8]
    simp only [Option.bind_some]
    have hr := rt_spec (n := m) hw (by omega) h0
    have r1 := hr.1
    have r2 := hr.2.1
    by_cases he : fv w (rt w a m) ^ m = fv w a
    · rw [decide_eq_true he, if_pos he]; rfl
    · rw [decide_eq_false he, if_neg he, iadd_eq (by omega) (by omega)]; rfl
theorem k_rootS : Ev fun n => ∀ (w : Int) (a : Sp), wd w = true → c_i_SpanRoot ((C B0).run n) w a.1 a.2.1 a.2.2.1 = some (rootS w a) := by
  refine ((k_from (B := B0)).and ((k_Meet (B := B0)).and (k_rootDn0.and (k_rootUp0.and (k_some (B := B0)))))).succ fun n hn ⟨hF, hM, hD, hU, hSo⟩ w a hw => ?_
  rw [run_succ, e_i_SpanRoot]
  unfold p_i_SpanRoot rootS
  rw [hF]
  simp only [Option.bind_some]
  rw [hM w a (sp 0 (top w))]
  simp only [Option.bind_some]
  have ht := top_pos hw
  rcases meet_cases w a (sp 0 (top w)) with e | ⟨a1, a2, b1, b2, rfl, eb, pa, pb, h, e⟩
  · rw [e]; rfl
  · cases eb
    rw [e]
    obtain ⟨_, r1, r2, _⟩ := pok_rng pa
    unfold rng at r1 r2
    simp only [sp, Bool.not_true, cond_false, if_true]
    have d := hD w (max a1 0) 2 hw (by omega) (by omega) (by omega) (by omega)
    have u := hU w (min a2 (top w)) 2 hw (by omega) (by omega) (by omega) (by omega)
    have e2 : ((2 : Nat) : Int) = 2 := rfl
    rw [e2] at d u
    rw [d, u]
    simp only [Option.bind_some]
    rw [hSo]
    rfl
end Go.Px.Seat

/- Widths crossed: the reference's. Seat ZD. -/
namespace Pm
open Go.Px Go.Px.Seat
theorem top64 : top 64 = 9218868437227405312 := by decide
theorem top32 : top 32 = 2139095040 := by decide
theorem rng32 {o : Int} : rng 32 o ↔ -2139095040 ≤ o ∧ o ≤ 2139095040 := by unfold rng; rw [top32]
theorem sz32_lt (o : Int) : sz 32 o < 16777216 := by
  unfold sz frw
  rw [if_pos rfl]
  have : o.natAbs % 2 ^ 23 < 2 ^ 23 := Nat.mod_lt _ (by decide)
  split <;> omega
theorem long_of {s : Nat} (hs : s ≠ 0) (hl : s < 16777216) : ∃ k, 29 ≤ k ∧ k ≤ 52 ∧ 2 ^ 52 ≤ s * 2 ^ k ∧ s * 2 ^ k < 2 ^ 53 := by
  have hb := bl_pos hs
  have h1 := bl_ge hs
  have h2 := bl_lt s
  have h3 : bl s ≤ 24 := bl_le.2 (by omega)
  refine ⟨53 - bl s, by omega, by omega, ?_, ?_⟩
  · have := Nat.mul_le_mul_right (2 ^ (53 - bl s)) h1
    rw [← Nat.pow_add, show bl s - 1 + (53 - bl s) = 52 by omega] at this
    exact this
  · have := Nat.mul_lt_mul_of_pos_right h2 (Nat.pow_pos (n := 53 - bl s) (show 0 < 2 by decide))
    rw [← Nat.pow_add, show bl s + (53 - bl s) = 53 by omega] at this
    exact this
theorem lim_wide_neg {o m : Int} (ho : rng 32 o) (hm : rng 64 m) (h : lim 64 m = lim 32 o) : lim 64 (-m) = lim 32 (-o) := by
  rw [lim_opp wd64 hm, lim_opp wd32 ho, h]
end Pm
namespace Go.Px.Seat
open Go Pm
set_option linter.unusedVariables false
variable {B : Run}
theorem imulu_eq {x y : Int} (h : 0 ≤ x * y) (h' : x * y < 18446744073709551616) : imul .u64 x y = x * y := wrapu64 h h'
theorem k_sMake64 : Ev fun n => ∀ (b : Bool) (s k e : Nat), s ≠ 0 → s < 16777216 → k ≤ 52 → 2 ^ 52 ≤ s * 2 ^ k → s * 2 ^ k < 2 ^ 53 → 1 ≤ e → e ≤ 2000 → (k : Int) + e - 1075 ≤ 2000 →
    c_s_BitMake ((C B).run n) 64 b (s : Int) ((k : Int) + e - 1075) = some ((if b = true then -((e * 2 ^ 52 + (s * 2 ^ k - 2 ^ 52) : Nat) : Int) else ((e * 2 ^ 52 + (s * 2 ^ k - 2 ^ 52) : Nat) : Int)), (true, ())) := by
  refine ((k_sWidth (B := B)).and ((k_sFrac (B := B)).and ((k_sLeast (B := B)).and (k_sTop' (B := B))))).succ fun n hn ⟨hW, hF, hL, hT⟩ b s k e hs0 hs hk h1 h2 he1 he hpw => ?_
  rw [run_succ, e_s_BitMake]
  unfold p_s_BitMake
  have hfr : frw 64 = 52 := by decide
  have hls : lst 64 = 1074 := by decide
  rw [hW]
  simp only [Option.bind_some, wd64, Bool.not_true, cond_false, ilt_iff]
  rw [decide_eq_false (by omega), cond_false, jb_inr]
  simp only
  rw [decide_eq_false (by omega), cond_false, beq_f (by omega), cond_false, hF]
  simp only [Option.bind_some, hfr]
  have w52 : IntKind.wrap .u64 ((52 : Nat) : Int) = 52 := wrapu64 (by omega) (by omega)
  rw [w52, ok_of (by decide)]
  have e1 : ishl .u64 1 52 = 4503599627370496 := by
    have := ishlu_eq (x := 1) (k := 52) (by omega) (by omega)
    exact this
  rw [e1]
  generalize hres : some ((if b = true then -((e * 2 ^ 52 + (s * 2 ^ k - 2 ^ 52) : Nat) : Int) else ((e * 2 ^ 52 + (s * 2 ^ k - 2 ^ 52) : Nat) : Int)), (true, ())) = res
  refine iter_const (fun st => st = (((s : Int), (4503599627370496, (((k : Int) + e - 1075), (64, ((), (0, (false, ()))))))), ((b, ((s : Int), (((k : Int) + e - 1075), ()))), ()))) (fun _ => 0) _ ?_ n _ (by omega) rfl
  rintro rec _ rfl _
  simp only [ile_iff]
  have e2 : imul .u64 2 4503599627370496 = 9007199254740992 := imulu_eq (by decide) (by decide)
  rw [e2, decide_eq_false (show ¬ (9007199254740992 : Int) ≤ (s : Int) by omega), cond_false, hL]
  simp only [Option.bind_some, hls]
  rw [decide_eq_false (show ¬ (k : Int) + e - 1075 < -((1074 : Nat) : Int) by omega)]
  simp only [Bool.cond_self, jb_inr, cond_false]
  refine iter_const (fun st => ∃ i : Nat, i ≤ k ∧ st = ((((s * 2 ^ i : Nat) : Int), (4503599627370496, (((k : Int) + e - 1075 - i), (64, ((), (0, (false, ()))))))), ((b, ((s : Int), (((k : Int) + e - 1075), ()))), ()))) (fun st => ((e : Int) + st.1.2.2.1 + 1075).toNat) _ ?_ n _ (by simp only; omega) ⟨0, by omega, by rw [Nat.pow_zero, Nat.mul_one]; simp⟩
  rintro rec1 _ ⟨i, hi, rfl⟩ ih
  simp only
  by_cases h : i < k
  · have hlt : s * 2 ^ (i + 1) < 2 ^ 53 := by
      have : 2 ^ (i + 1) ≤ 2 ^ k := Nat.pow_le_pow_right (by decide) h
      exact Nat.lt_of_le_of_lt (Nat.mul_le_mul_left s this) h2
    have hpw2 : s * 2 ^ (i + 1) = s * 2 ^ i * 2 := by rw [Nat.pow_succ, Nat.mul_assoc]
    rw [hpw2] at hlt
    generalize hz : s * 2 ^ i = z at hlt hpw2
    rw [decide_eq_true (show (z : Int) < 4503599627370496 by omega), cond_true, hL]
    simp only [Option.bind_some, hls]
    rw [decide_eq_true (show -((1074 : Nat) : Int) < (k : Int) + e - 1075 - i by omega)]
    simp only [jb_inr, cond_true]
    have e3 : imul .u64 (z : Int) 2 = (z : Int) * 2 := imulu_eq (by omega) (by omega)
    have e4 : isub .i64 ((k : Int) + e - 1075 - i) 1 = (k : Int) + e - 1075 - ((i + 1 : Nat) : Int) := by rw [isub_eq (by omega) (by omega)]; omega
    rw [e3, e4]
    exact ih _ ⟨i + 1, h, by rw [hpw2, Int.natCast_mul]; rfl⟩ (by simp only; omega)
  · have hik : i = k := by omega
    subst hik
    generalize hz : s * 2 ^ i = z at h1 h2 hres ⊢
    rw [decide_eq_false (show ¬ (z : Int) < 4503599627370496 by omega), cond_false]
    simp only [jb_inr, cond_false]
    rw [e2, decide_eq_false (show ¬ (9007199254740992 : Int) ≤ (z : Int) by omega), cond_false, hL]
    simp only [Option.bind_some, hls]
    rw [decide_eq_false (show ¬ (i : Int) + e - 1075 - i < -((1074 : Nat) : Int) by omega)]
    simp only [jb_inr, cond_false]
    rw [decide_eq_true (show (4503599627370496 : Int) ≤ (z : Int) by omega), cond_true, hL]
    simp only [Option.bind_some, hls]
    rw [hT]
    simp only [Option.bind_some, top64]
    have w1 : IntKind.wrap .i64 4503599627370496 = 4503599627370496 := wrap64 (by omega) (by omega)
    have e5 : isub .i64 ((i : Int) + e - 1075 - i) (-((1074 : Nat) : Int)) = (e : Int) - 1 := by rw [isub_eq (by omega) (by omega)]; omega
    have e6 : iadd .i64 ((e : Int) - 1) 1 = e := by rw [iadd_eq (by omega) (by omega)]; omega
    have e7 : iquo .i64 9218868437227405312 4503599627370496 = 2047 := by decide
    have e8 : isub .i64 2047 1 = 2046 := by decide
    have e9 : imul .i64 (e : Int) 4503599627370496 = (e : Int) * 4503599627370496 := imul_eq (by omega) (by omega)
    have e10 : isub .u64 (z : Int) 4503599627370496 = (z : Int) - 4503599627370496 := wrapu64 (by omega) (by omega)
    have w2 : IntKind.wrap .i64 ((z : Int) - 4503599627370496) = (z : Int) - 4503599627370496 := wrap64 (by omega) (by omega)
    have e11 : iadd .i64 ((e : Int) * 4503599627370496) ((z : Int) - 4503599627370496) = (e : Int) * 4503599627370496 + ((z : Int) - 4503599627370496) := iadd_eq (by omega) (by omega)
    rw [w1, e5, e6, e7, e8, ok_ne (by decide), decide_eq_false (show ¬ (2046 : Int) < (e : Int) by omega), cond_false]
    simp only [jb_inr]
    rw [e9, e10, w2, e11]
    have hv : ((e * 2 ^ 52 + (z - 2 ^ 52) : Nat) : Int) = (e : Int) * 4503599627370496 + ((z : Int) - 4503599627370496) := by omega
    rw [hv] at hres
    rw [← hres]
    cases b
    · rfl
    · simp only [cond_true, if_true]
      rw [ineg_eq (by omega) (by omega)]
theorem k_sMake0 : Ev fun n => ∀ (b : Bool) (p : Int), -2000 ≤ p → p ≤ 2000 → c_s_BitMake ((C B).run n) 64 b 0 p = some (0, (true, ())) := by
  refine (k_sWidth (B := B)).succ fun n hn hW b p h1 h2 => ?_
  rw [run_succ, e_s_BitMake]
  unfold p_s_BitMake
  rw [hW]
  simp only [Option.bind_some, wd64, Bool.not_true, cond_false, ilt_iff]
  rw [decide_eq_false (by omega), cond_false, jb_inr]
  simp only
  rw [decide_eq_false (by omega)]
  rfl
theorem k_sWiden : Ev fun n => ∀ o : Int, rng 32 o → c_s_BitWiden ((C B).run n) o = some (wide o, (true, ())) ∧ lim 64 (wide o) = lim 32 o := by
  refine ((k_sBitOk (B := B)).and ((k_sPart (B := B)).and ((k_sPartNo (B := B)).and ((k_sTop' (B := B)).and ((k_sMake64 (B := B)).and (k_sMake0 (B := B))))))).succ fun n hn ⟨hO, hP, hPn, hT, hM, hM0⟩ o ho => ?_
  rw [run_succ, e_s_BitWiden]
  unfold p_s_BitWiden
  have ho' := rng32.1 ho
  rw [hO, bok_iff.2 ⟨wd32, ho⟩]
  simp only [Option.bind_some, Bool.not_true, cond_false]
  rcases lim_cases wd32 ho with ⟨h, e⟩ | ⟨h, e⟩ | ⟨h, e⟩
  · have hwide : wide o = -top 64 := wide_of (by unfold rng; rw [top64]; omega) (by rw [lim_bot wd64, e])
    rw [hPn 32 o (fun hf => by have := hf.2.1; omega)]
    simp only [Option.bind_some, Bool.not_false, cond_true, ilt_iff]
    rw [top32] at h
    rw [decide_eq_true (by omega), cond_true, hT, hwide, lim_bot wd64, e]
    simp only [Option.bind_some, ineg_top]
    exact ⟨trivial, trivial⟩
  · have hwide : wide o = top 64 := wide_of (by unfold rng; rw [top64]; omega) (by rw [lim_top, e])
    rw [hPn 32 o (fun hf => by have := hf.2.2; omega)]
    simp only [Option.bind_some, Bool.not_false, cond_true, ilt_iff]
    rw [top32] at h
    rw [decide_eq_false (by omega), cond_false, hT, hwide, lim_top, e]
    exact ⟨rfl, rfl⟩
  · rw [hP 32 o h]
    simp only [Option.bind_some, Bool.not_true, cond_false]
    have hsl := sz32_lt o
    by_cases h0 : o = 0
    · subst h0
      have hz : sz 32 0 = 0 := by decide
      have hsh : shf 32 0 = 0 := by decide
      have hl : lst 32 = 149 := by decide
      have hwide : wide 0 = 0 := wide_of (by unfold rng; rw [top64]; omega) (by rw [lim_zero wd64, lim_zero wd32])
      rw [hz, hwide, hsh, hl]
      have := hM0 (decide ((0 : Int) < 0)) (-149) (by omega) (by omega)
      rw [show -((149 : Nat) : Int) + ((0 : Nat) : Int) = -149 by omega, show (((0 : Nat) : Int)) = 0 from rfl, this]
      simp only [Option.bind_some]
      exact ⟨trivial, by rw [lim_zero wd64, lim_zero wd32]⟩
    · have hl : lst 32 = 149 := by decide
      have pos : ∀ x : Int, fin 32 x → 0 < x → ∃ k e : Nat, k ≤ 52 ∧ 1 ≤ e ∧ e ≤ 2000 ∧ 2 ^ 52 ≤ sz 32 x * 2 ^ k ∧ sz 32 x * 2 ^ k < 2 ^ 53 ∧ e + k + 149 = shf 32 x + 1075 := by
        intro x hx hx0
        obtain ⟨k, k1, k2, k3, k4⟩ := long_of (sz_pos (w := 32) hx0) (sz32_lt x)
        have hsh2 : shf 32 x ≤ 253 := by
          have h := hx.2.2
          unfold shf frw
          rw [top32] at h
          rw [if_pos rfl]
          have : x.natAbs / 2 ^ 23 < 255 := (Nat.div_lt_iff_lt_mul (by decide)).2 (by omega)
          omega
        exact ⟨k, shf 32 x + 926 - k, k2, by omega, by omega, k3, k4, by omega⟩
      have hsame : sz 32 (-o) = sz 32 o ∧ shf 32 (-o) = shf 32 o := by unfold sz shf; rw [Int.natAbs_neg]; exact ⟨rfl, rfl⟩
      by_cases hp : 0 < o
      · obtain ⟨k, e', g1, g2, g3, g4, g5, g6⟩ := pos o h hp
        have hmk := hM (decide (o < 0)) (sz 32 o) k e' (sz_pos (w := 32) hp) hsl g1 g4 g5 g2 g3 (by omega)
        rw [show -(lst 32 : Int) + (shf 32 o : Int) = (k : Int) + e' - 1075 by omega, hmk]
        have hw := wide_fin h hp g6 g2 g4 g5
        generalize ((e' * 2 ^ 52 + (sz 32 o * 2 ^ k - 2 ^ 52) : Nat) : Int) = m at hw
        rw [wide_of (fin_rng hw.2) hw.1]
        simp only [Option.bind_some, decide_eq_false (show ¬ o < 0 by omega), Bool.false_eq_true, if_false]
        exact ⟨trivial, hw.1⟩
      · have hn : 0 < -o := by omega
        have hfn : fin 32 (-o) := ⟨wd32, by have := h.2.2; omega, by have := h.2.1; omega⟩
        obtain ⟨k, e', g1, g2, g3, g4, g5, g6⟩ := pos (-o) hfn hn
        have hw := wide_fin hfn hn g6 g2 g4 g5
        rw [hsame.2] at g6
        rw [hsame.1] at g4 g5 hw
        have hmk := hM (decide (o < 0)) (sz 32 o) k e' (by rw [← hsame.1]; exact sz_pos (w := 32) hn) hsl g1 g4 g5 g2 g3 (by omega)
        rw [show -(lst 32 : Int) + (shf 32 o : Int) = (k : Int) + e' - 1075 by omega, hmk]
        generalize ((e' * 2 ^ 52 + (sz 32 o * 2 ^ k - 2 ^ 52) : Nat) : Int) = m at hw
        have h2 := lim_wide_neg (fin_rng hfn) (fin_rng hw.2) hw.1
        rw [Int.neg_neg] at h2
        have hr : rng 64 (-m) := by have := fin_rng hw.2; unfold rng at *; omega
        rw [wide_of hr h2]
        simp only [Option.bind_some, decide_eq_true (show o < 0 by omega), if_true]
        exact ⟨trivial, h2⟩
end Go.Px.Seat

/- More makes more: what is reckoned of spans within spans. Seat ZD. -/
namespace Pm
open Go.Px Go.Px.Seat
/-- a span in a span -/
def isS (a b : Sp) : Bool := !a.1 || (b.1 && decide (b.2.1 ≤ a.2.1 ∧ a.2.2.1 ≤ b.2.2.1))
theorem isS_sp (a1 a2 b1 b2 : Int) : isS (sp a1 a2) (sp b1 b2) = true ↔ b1 ≤ a1 ∧ a2 ≤ b2 := by
  show decide (b1 ≤ a1 ∧ a2 ≤ b2) = true ↔ _
  exact decide_eq_true_iff
structure Sub (w a1 a2 x1 x2 : Int) : Prop where
  pa : pok w a1 a2 = true
  px : pok w x1 x2 = true
  l : a1 ≤ x1
  r : x2 ≤ a2
variable {w a1 a2 x1 x2 b1 b2 y1 y2 : Int}
theorem Sub.neg (h : Sub w a1 a2 x1 x2) : Sub w (-a2) (-a1) (-x2) (-x1) := ⟨pok_neg h.pa, pok_neg h.px, by have := h.r; omega, by have := h.l; omega⟩
theorem more_hull {a b c d : Sp} (hw : wd w = true) (ha : spk w a = true) (hb : spk w b = true) (hc : spk w c = true) (hd : spk w d = true) (h : isS a c = true) (h' : isS b d = true) : isS (hullS w a b) (hullS w c d) = true := by
  rcases spk_cases ha with rfl | ⟨a1, a2, rfl, pa⟩
  · rw [spn_hullS hb hw]
    rcases spk_cases hb with rfl | ⟨b1, b2, rfl, pb⟩
    · rfl
    rcases spk_cases hd with rfl | ⟨d1, d2, rfl, pd⟩
    · cases h'
    rcases spk_cases hc with rfl | ⟨c1, c2, rfl, pc⟩
    · rwa [spn_hullS hd hw]
    rw [hullS_sp pc pd, isS_sp]
    rw [isS_sp] at h'
    omega
  rcases spk_cases hc with rfl | ⟨c1, c2, rfl, pc⟩
  · cases h
  rw [isS_sp] at h
  rcases spk_cases hb with rfl | ⟨b1, b2, rfl, pb⟩
  · rw [hullS_spn ha hw]
    rcases spk_cases hd with rfl | ⟨d1, d2, rfl, pd⟩
    · rw [hullS_spn hc hw, isS_sp]; exact h
    · rw [hullS_sp pc pd, isS_sp]; omega
  rcases spk_cases hd with rfl | ⟨d1, d2, rfl, pd⟩
  · cases h'
  rw [isS_sp] at h'
  rw [hullS_sp pa pb, hullS_sp pc pd, isS_sp]
  omega
theorem both_sp (pa : pok w a1 a2 = true) (pb : pok w b1 b2 = true) : both w (sp a1 a2) (sp b1 b2) = true := by rw [both_ok1, ok1_sp, ok1_sp, pa, pb]; rfl
theorem rat_pow_odd {x y : Rat} (h : x ≤ y) : ∀ k : Nat, x ^ (2 * k + 1) ≤ y ^ (2 * k + 1) := by
  have neg_odd : ∀ (z : Rat) (k : Nat), (-z) ^ (2 * k + 1) = -(z ^ (2 * k + 1)) := by
    intro z k
    induction k with
    | zero => simp [Rat.pow_succ]
    | succ k ih =>
      have e : ∀ t : Rat, t ^ (2 * (k + 1) + 1) = t ^ (2 * k + 1) * t * t := fun t => by
        rw [show 2 * (k + 1) + 1 = 2 * k + 1 + 1 + 1 by omega, Rat.pow_succ t (2 * k + 1 + 1), Rat.pow_succ t (2 * k + 1)]
      rw [e, e, ih]
      grind
  intro k
  by_cases hx : 0 ≤ x
  · exact rat_pow_le hx h _
  · by_cases hy : 0 ≤ y
    · have h1 : 0 ≤ (-x) ^ (2 * k + 1) := Rat.pow_nonneg (by grind)
      rw [neg_odd] at h1
      have h2 : 0 ≤ y ^ (2 * k + 1) := Rat.pow_nonneg hy
      grind
    · have := rat_pow_le (x := -y) (y := -x) (by grind) (by grind) (2 * k + 1)
      rw [neg_odd, neg_odd] at this
      grind
/-- powers: of what is from 0 on, or odd ones -/
theorem powL_mono {a b : Lm} (n : Nat) (h : a ≤ b) (hc : n % 2 = 1 ∨ .num 0 ≤ a) : powL a n ≤ powL b n := by
  unfold powL
  by_cases h0 : n = 0
  · rw [if_pos h0, if_pos h0]; exact Lm.rfl' _
  rw [if_neg h0, if_neg h0]
  cases a with
  | pos => cases b <;> simp_all
  | neg =>
    rcases hc with hc | hc
    · cases b with
      | neg => exact Lm.rfl' _
      | pos => simp
      | num s => simp [show ¬ n % 2 = 0 by omega]
    · simp at hc
  | num r =>
    cases b with
    | neg => simp at h
    | pos => simp
    | num s =>
      simp at h
      simp only [Lm.num_le]
      rcases hc with hc | hc
      · obtain ⟨k, rfl⟩ : ∃ k, n = 2 * k + 1 := ⟨n / 2, by omega⟩
        exact rat_pow_odd h k
      · simp at hc
        exact rat_pow_le hc h n
theorem rdn0_mono {a b : Int} {n : Nat} (hw : wd w = true) (hn : n ≠ 0) (ha : 0 ≤ a) (hab : a ≤ b) (hb : b ≤ top w) : rdn0 w a n ≤ rdn0 w b n := by
  obtain ⟨r1, r2⟩ := rdn0_rng (n := n) hw hn ha
  rw [le_rdn0 hw hn (by omega) hb r1 r2]
  have ht := top_pos hw
  exact Lm.trans ((le_rdn0 hw hn ha (by omega) r1 r2).1 (Int.le_refl _)) ((lim_le hw (by unfold rng; omega) (by unfold rng; omega)).2 hab)
theorem root_zero {a1 a2 : Int} (pa : pok w a1 a2 = true) : rootS w (sp a1 a2) = if 0 ≤ a2 then sp (rdn0 w (max a1 0) 2) (rup0 w a2 2) else spn := by
  obtain ⟨hw, r1, r2, r3, r4, r5⟩ := pok_rng pa
  have ht := top_pos hw
  unfold rng at r1 r2
  have p0 : pok w 0 (top w) = true := pok_of hw (by unfold rng; omega) (by unfold rng; omega) (by omega) (by omega) (by omega)
  have hb := both_sp pa p0
  have em : meet w (sp a1 a2) (sp 0 (top w)) = if 0 ≤ a2 then sp (max a1 0) a2 else spn := by
    unfold meet
    by_cases h : 0 ≤ a2
    · rw [if_pos ⟨hb, by simp only [sp]; omega⟩, if_pos h]
      show sp (max a1 0) (min a2 (top w)) = _
      rw [show min a2 (top w) = a2 by omega]
    · rw [if_neg (fun h' => h (by have := h'.2; simp only [sp] at this; omega)), if_neg h]
  unfold rootS
  rw [em]
  by_cases h : 0 ≤ a2
  · rw [if_pos h, if_pos h]; rfl
  · rw [if_neg h, if_neg h]; rfl
end Pm

/- Narrow spans around wide ones, and back: the reference's. Seat ZD. -/
namespace Pm
open Go.Px Go.Px.Seat
theorem wide_rng (o : Int) : rng 64 (wide o) := dn_rng wd64 _
/-- the span of wide floats of a narrow one -/
noncomputable def wideS (s : Sp) : Sp := if (s.1 && pok 32 s.2.1 s.2.2.1) = true then sp (wide s.2.1) (wide s.2.2.1) else spn
noncomputable def narS (s : Sp) : Sp := if (s.1 && pok 64 s.2.1 s.2.2.1) = true then sp (dn 32 (lim 64 s.2.1)) (up 32 (lim 64 s.2.2.1)) else spn
end Pm
namespace Go.Px.Seat
open Go Pm
set_option linter.unusedVariables false
variable {B : Run}
theorem k_wide : Ev fun n => ∀ o : Int, rng 32 o → c_s_l2Wide ((C B).run n) o = some (wide o, ()) ∧ lim 64 (wide o) = lim 32 o := by
  refine (k_sWiden (B := B)).succ fun n hn hW o ho => ?_
  rw [run_succ, e_s_l2Wide]
  unfold p_s_l2Wide
  obtain ⟨h1, h2⟩ := hW o ho
  rw [h1]
  exact ⟨rfl, h2⟩
theorem lim_wide {o : Int} (ho : rng 32 o) : lim 64 (wide o) = lim 32 o := by
  obtain ⟨N, h⟩ := k_wide (B := B0)
  exact (h N (Nat.le_refl _) o ho).2
theorem k_sBelow : Ev fun n => ∀ o : Int, rng 64 o → c_s_BitBelow ((C B).run n) o = some (dn 32 (lim 64 o), (true, ())) := by
  refine ((k_sBitOk (B := B)).and ((k_sTop' (B := B)).and (k_wide (B := B)))).succ fun n hn ⟨hO, hT, hW⟩ o ho => ?_
  rw [run_succ, e_s_BitBelow]
  unfold p_s_BitBelow
  rw [hO, bok_iff.2 ⟨wd64, ho⟩, hT]
  simp only [Option.bind_some, Bool.not_true, cond_false, top32]
  rw [show ineg .i64 2139095040 = -2139095040 by decide]
  have key : ∀ m : Int, rng 32 m → (wide m ≤ o ↔ m ≤ dn 32 (lim 64 o)) := fun m hm => by
    rw [le_dn wd32 hm, ← lim_wide hm, lim_le wd64 (wide_rng m) ho]
  have hd := rng32.1 (dn_rng wd32 (lim 64 o))
  generalize dn 32 (lim 64 o) = D at key hd
  refine iter_const (fun st => ∃ lo hi : Int, -2139095040 ≤ lo ∧ lo ≤ D ∧ D ≤ hi ∧ hi ≤ 2139095040 ∧ st = ((lo, (hi, (o, (0, (false, ()))))), ())) (fun st => (st.1.2.1 - st.1.1).toNat) _ ?_ n _ (by simp only; omega) ⟨-2139095040, 2139095040, by omega, by omega, by omega, by omega, rfl⟩
  rintro rec _ ⟨lo, hi, h1, h2, h3, h4, rfl⟩ ih
  simp only [ilt_iff, ile_iff]
  by_cases h : lo < hi
  · have e1 : isub .i64 hi lo = hi - lo := isub_eq (by omega) (by omega)
    have e2 : iquo .i64 (hi - lo) 2 = (hi - lo) / 2 := iquo_eq (by omega) (by omega) (by omega)
    have e3 : isub .i64 hi ((hi - lo) / 2) = hi - (hi - lo) / 2 := isub_eq (by omega) (by omega)
    rw [decide_eq_true h, cond_true, e1, e2, e3]
    generalize hm : hi - (hi - lo) / 2 = mid
    have hr : rng 32 mid := rng32.2 ⟨by omega, by omega⟩
    have e4 : isub .i64 mid 1 = mid - 1 := isub_eq (by omega) (by omega)
    rw [(hW mid hr).1, e4]
    simp only [Option.bind_some]
    by_cases hc : wide mid ≤ o
    · have := (key mid hr).1 hc
      rw [decide_eq_true hc, cond_true]
      exact ih _ ⟨mid, hi, by omega, this, h3, h4, rfl⟩ (by simp only; omega)
    · have : ¬ mid ≤ D := fun h' => hc ((key mid hr).2 h')
      rw [decide_eq_false hc, cond_false]
      exact ih _ ⟨lo, mid - 1, h1, h2, by omega, by omega, rfl⟩ (by simp only; omega)
  · rw [decide_eq_false h, cond_false, show lo = D by omega]
theorem k_sAbove : Ev fun n => ∀ o : Int, rng 64 o → c_s_BitAbove ((C B).run n) o = some (up 32 (lim 64 o), (true, ())) := by
  refine (k_sBelow (B := B)).succ fun n hn hB o ho => ?_
  rw [run_succ, e_s_BitAbove]
  unfold p_s_BitAbove
  unfold rng at ho
  rw [top64] at ho
  have hno : rng 64 (-o) := by unfold rng; rw [top64]; omega
  rw [ineg_eq (by omega) (by omega), hB (-o) hno]
  simp only [Option.bind_some]
  have hd := rng32.1 (dn_rng wd32 (lim 64 (-o)))
  rw [ineg_eq (by omega) (by omega), lim_opp wd64 (by unfold rng; rw [top64]; omega)]
  rfl
theorem k_psNar : Ev fun n => ∀ s : Sp, c_w_psNarrow ((C B).run n) s.1 s.2.1 s.2.2.1 = some (narS s) := by
  have hL : Ev fun n => ∀ lo hi : Int, c_s_PairLess ((C B).run n) lo hi = some (if pok 64 lo hi = true then (dn 32 (lim 64 lo), (up 32 (lim 64 hi), (true, ()))) else (0, (0, (false, ())))) := by
    refine ((k_sPairOk (B := B)).and ((k_sBelow (B := B)).and (k_sAbove (B := B)))).succ fun n hn ⟨hO, hB, hA⟩ lo hi => ?_
    rw [run_succ, e_s_PairLess]
    unfold p_s_PairLess
    rw [hO]
    simp only [Option.bind_some]
    cases h : pok 64 lo hi
    · rfl
    · obtain ⟨_, r1, r2, _⟩ := pok_rng h
      simp only [Bool.not_true, cond_false]
      rw [hB lo r1, hA hi r2]
      rfl
  refine hL.succ fun n hn hL s => ?_
  rw [run_succ, e_w_psNarrow]
  unfold p_w_psNarrow narS
  rw [hL]
  simp only [Option.bind_some]
  obtain ⟨b, lo, hi, u⟩ := s
  cases b
  · rfl
  · simp only [Bool.not_true, cond_false, Bool.true_and]
    cases h : pok 64 lo hi
    · rfl
    · rfl
theorem k_psWid : Ev fun n => ∀ s : Sp, c_w_psWide ((C B).run n) s.1 s.2.1 s.2.2.1 = some (wideS s) := by
  have hL : Ev fun n => ∀ lo hi : Int, c_s_PairMore ((C B).run n) lo hi = some (if pok 32 lo hi = true then (wide lo, (wide hi, (true, ()))) else (0, (0, (false, ())))) := by
    refine ((k_sPairOk (B := B)).and (k_wide (B := B))).succ fun n hn ⟨hO, hW⟩ lo hi => ?_
    rw [run_succ, e_s_PairMore]
    unfold p_s_PairMore
    rw [hO]
    simp only [Option.bind_some]
    cases h : pok 32 lo hi
    · rfl
    · obtain ⟨_, r1, r2, _⟩ := pok_rng h
      simp only [Bool.not_true, cond_false]
      rw [(hW lo r1).1, (hW hi r2).1]
      rfl
  refine hL.succ fun n hn hL s => ?_
  rw [run_succ, e_w_psWide]
  unfold p_w_psWide wideS
  rw [hL]
  simp only [Option.bind_some]
  obtain ⟨b, lo, hi, u⟩ := s
  cases b
  · rfl
  · simp only [Bool.not_true, cond_false, Bool.true_and]
    cases h : pok 32 lo hi
    · rfl
    · rfl
end Go.Px.Seat
namespace Pm
open Go.Px Go.Px.Seat
/-- a narrow span around a wide one -/
structure Nar (a1 a2 x1 x2 : Int) : Prop where
  pa : pok 64 a1 a2 = true
  px : pok 32 x1 x2 = true
  l : lim 32 x1 ≤ lim 64 a1
  r : lim 64 a2 ≤ lim 32 x2
theorem nar_of {a1 a2 : Int} (h : pok 64 a1 a2 = true) : ∃ x1 x2, narS (sp a1 a2) = sp x1 x2 ∧ Nar a1 a2 x1 x2 := by
  refine ⟨dn 32 (lim 64 a1), up 32 (lim 64 a2), ?_, h, ?_, lim_dn wd32 _, lim_up wd32 _⟩
  · unfold narS
    rw [if_pos (by rw [Bool.and_eq_true]; exact ⟨rfl, h⟩)]
    rfl
  · exact pok_dn_up wd32 (lim_lo_hi h) (lo_ne h).1 (lo_ne h).2
theorem wide_dn {X A : Lm} (h : X ≤ A) : wide (dn 32 X) ≤ dn 64 A := by
  rw [le_dn wd64 (wide_rng _), lim_wide (dn_rng wd32 _)]
  exact Lm.trans (lim_dn wd32 X) h
theorem wide_up {X A : Lm} (h : A ≤ X) : up 64 A ≤ wide (up 32 X) := by
  rw [up_le wd64 (wide_rng _), lim_wide (up_rng wd32 _)]
  exact Lm.trans h (lim_up wd32 X)
theorem wide_le {a b : Int} (ha : rng 32 a) (hb : rng 32 b) (h : a ≤ b) : wide a ≤ wide b := by
  rw [← lim_le wd64 (wide_rng a) (wide_rng b), lim_wide ha, lim_wide hb, lim_le wd32 ha hb]
  exact h
theorem wideS_sp {x1 x2 : Int} (h : pok 32 x1 x2 = true) : wideS (sp x1 x2) = sp (wide x1) (wide x2) := by
  unfold wideS
  rw [if_pos (by rw [Bool.and_eq_true]; exact ⟨rfl, h⟩)]
  rfl
theorem wideS_spn : wideS spn = spn := rfl
variable {a1 a2 x1 x2 b1 b2 y1 y2 : Int}
theorem Nar.neg (h : Nar a1 a2 x1 x2) : Nar (-a2) (-a1) (-x2) (-x1) := by
  obtain ⟨_, r1, r2, _⟩ := pok_rng h.pa
  obtain ⟨_, s1, s2, _⟩ := pok_rng h.px
  refine ⟨pok_neg h.pa, pok_neg h.px, ?_, ?_⟩
  · rw [lim_opp wd32 s2, lim_opp wd64 r2, Lm.opp_le]; exact h.r
  · rw [lim_opp wd32 s1, lim_opp wd64 r1, Lm.opp_le]; exact h.l
theorem addS_ok {w a1 a2 b1 b2 : Int} (pa : pok w a1 a2 = true) (pb : pok w b1 b2 = true) : pok w (dn w (Lm.add (lim w a1) (lim w b1))) (up w (Lm.add (lim w a2) (lim w b2))) = true := by
  have hw := (pok_rng pa).1
  have h1 := lim_lo_hi pa
  have h2 := lim_lo_hi pb
  have n1 := lo_ne pa
  have n2 := lo_ne pb
  revert h1 h2 n1 n2
  generalize lim w a1 = A; generalize lim w a2 = A'; generalize lim w b1 = BB; generalize lim w b2 = BB'
  intro h1 h2 n1 n2
  refine pok_dn_up hw ?_ ?_ ?_
  · cases A <;> cases A' <;> cases BB <;> cases BB' <;> simp_all [Lm.add]
    grind
  · cases A <;> cases BB <;> simp_all [Lm.add]
  · cases A' <;> cases BB' <;> simp_all [Lm.add]
theorem wid_add (h : Nar a1 a2 x1 x2) (h' : Nar b1 b2 y1 y2) : isS (addS 64 (sp a1 a2) (sp b1 b2)) (wideS (addS 32 (sp x1 x2) (sp y1 y2))) = true := by
  rw [addS_sp h.px h'.px, addS_sp h.pa h'.pa, wideS_sp (addS_ok h.px h'.px), isS_sp]
  have n1 := lo_ne h.pa
  have n2 := lo_ne h.px
  have m1 := lo_ne h'.pa
  have m2 := lo_ne h'.px
  have g1 := h.l
  have g2 := h.r
  have f1 := h'.l
  have f2 := h'.r
  refine ⟨wide_dn ?_, wide_up ?_⟩
  · revert g1 f1 n1 n2 m1 m2
    generalize lim 64 a1 = A; generalize lim 32 x1 = X; generalize lim 64 b1 = BB; generalize lim 32 y1 = Y
    intro g1 f1 n1 n2 m1 m2
    cases A <;> cases X <;> cases BB <;> cases Y <;> simp_all [Lm.add]
    grind
  · revert g2 f2 n1 n2 m1 m2
    generalize lim 64 a2 = A; generalize lim 32 x2 = X; generalize lim 64 b2 = BB; generalize lim 32 y2 = Y
    intro g1 f1 n1 n2 m1 m2
    cases A <;> cases X <;> cases BB <;> cases Y <;> simp_all [Lm.add]
    grind
theorem mulS_ok {w a1 a2 b1 b2 : Int} (pa : pok w a1 a2 = true) (pb : pok w b1 b2 = true) :
    pok w (min (min (dn w (Lm.mul (lim w a1) (lim w b1))) (dn w (Lm.mul (lim w a1) (lim w b2)))) (min (dn w (Lm.mul (lim w a2) (lim w b1))) (dn w (Lm.mul (lim w a2) (lim w b2)))))
      (max (max (up w (Lm.mul (lim w a1) (lim w b1))) (up w (Lm.mul (lim w a1) (lim w b2)))) (max (up w (Lm.mul (lim w a2) (lim w b1))) (up w (Lm.mul (lim w a2) (lim w b2))))) = true := by
  obtain ⟨hw, r1, r2, r3, r4, r5⟩ := pok_rng pa
  obtain ⟨_, s1, s2, s3, s4, s5⟩ := pok_rng pb
  have ht := top_pos hw
  -- a number that lies in each
  have pick : ∀ {u v : Int}, pok w u v = true → ∃ r, memS w (sp u v) r := by
    intro u v h
    obtain ⟨_, t1, t2, t3, t4, t5⟩ := pok_rng h
    rcases lim_cases hw t1 with ⟨h1, e1⟩ | ⟨h1, e1⟩ | ⟨h1, e1⟩
    · rcases lim_cases hw t2 with ⟨h2, e2⟩ | ⟨h2, e2⟩ | ⟨h2, e2⟩
      · omega
      · exact ⟨0, u, v, rfl, h, by rw [e1]; simp, by rw [e2]; simp⟩
      · exact ⟨fv w v, u, v, rfl, h, by rw [e1]; simp, by rw [e2]; exact Lm.rfl' _⟩
    · omega
    · exact ⟨fv w u, u, v, rfl, h, by rw [e1]; exact Lm.rfl' _, by rw [← e1]; exact lim_lo_hi h⟩
  obtain ⟨r, hr⟩ := pick pa
  obtain ⟨s, hs⟩ := pick pb
  have := memS_mul hr hs
  rw [mulS_sp pa pb] at this
  obtain ⟨lo, hi, e, hp, _⟩ := this
  cases e
  exact hp
theorem min_wide {a b c d : Int} (ha : rng 32 a) (hb : rng 32 b) (hc : rng 32 c) (hd : rng 32 d) :
    (wide (min (min a b) (min c d)) ≤ wide a ∧ wide (min (min a b) (min c d)) ≤ wide b ∧ wide (min (min a b) (min c d)) ≤ wide c ∧ wide (min (min a b) (min c d)) ≤ wide d) ∧
    (wide a ≤ wide (max (max a b) (max c d)) ∧ wide b ≤ wide (max (max a b) (max c d)) ∧ wide c ≤ wide (max (max a b) (max c d)) ∧ wide d ≤ wide (max (max a b) (max c d))) := by
  have h := min4_rng ha hb hc hd
  exact ⟨⟨wide_le h.1 ha (by omega), wide_le h.1 hb (by omega), wide_le h.1 hc (by omega), wide_le h.1 hd (by omega)⟩,
    ⟨wide_le ha h.2 (by omega), wide_le hb h.2 (by omega), wide_le hc h.2 (by omega), wide_le hd h.2 (by omega)⟩⟩
theorem wid_mul (h : Nar a1 a2 x1 x2) (h' : Nar b1 b2 y1 y2) : isS (mulS 64 (sp a1 a2) (sp b1 b2)) (wideS (mulS 32 (sp x1 x2) (sp y1 y2))) = true := by
  rw [mulS_sp h.px h'.px, mulS_sp h.pa h'.pa, wideS_sp (mulS_ok h.px h'.px), isS_sp]
  have hd := fun x => dn_rng wd32 x
  have hu := fun x => up_rng wd32 x
  have wd := (min_wide (hd (Lm.mul (lim 32 x1) (lim 32 y1))) (hd (Lm.mul (lim 32 x1) (lim 32 y2))) (hd (Lm.mul (lim 32 x2) (lim 32 y1))) (hd (Lm.mul (lim 32 x2) (lim 32 y2)))).1
  have wu := (min_wide (hu (Lm.mul (lim 32 x1) (lim 32 y1))) (hu (Lm.mul (lim 32 x1) (lim 32 y2))) (hu (Lm.mul (lim 32 x2) (lim 32 y1))) (hu (Lm.mul (lim 32 x2) (lim 32 y2)))).2
  have g3 := lim_lo_hi h.pa
  have f3 := lim_lo_hi h'.pa
  generalize hL : min (min (dn 32 (Lm.mul (lim 32 x1) (lim 32 y1))) (dn 32 (Lm.mul (lim 32 x1) (lim 32 y2)))) (min (dn 32 (Lm.mul (lim 32 x2) (lim 32 y1))) (dn 32 (Lm.mul (lim 32 x2) (lim 32 y2)))) = L at wd
  generalize hU : max (max (up 32 (Lm.mul (lim 32 x1) (lim 32 y1))) (up 32 (Lm.mul (lim 32 x1) (lim 32 y2)))) (max (up 32 (Lm.mul (lim 32 x2) (lim 32 y1))) (up 32 (Lm.mul (lim 32 x2) (lim 32 y2)))) = U at wu
  have key : ∀ x y : Lm, lim 32 x1 ≤ x → x ≤ lim 32 x2 → lim 32 y1 ≤ y → y ≤ lim 32 y2 → wide L ≤ dn 64 (Lm.mul x y) ∧ up 64 (Lm.mul x y) ≤ wide U := by
    intro x y q1 q2 q3 q4
    have hb := Lm.mul_box q1 q2 q3 q4
    constructor
    · rcases hb.1 with q | q | q | q <;> have := wide_dn q <;> omega
    · rcases hb.2 with q | q | q | q <;> have := wide_up q <;> omega
  have k1 := key (lim 64 a1) (lim 64 b1) h.l (Lm.trans g3 h.r) h'.l (Lm.trans f3 h'.r)
  have k2 := key (lim 64 a1) (lim 64 b2) h.l (Lm.trans g3 h.r) (Lm.trans h'.l f3) h'.r
  have k3 := key (lim 64 a2) (lim 64 b1) (Lm.trans h.l g3) h.r h'.l (Lm.trans f3 h'.r)
  have k4 := key (lim 64 a2) (lim 64 b2) (Lm.trans h.l g3) h.r (Lm.trans h'.l f3) h'.r
  omega
theorem wid_quot (h : Nar a1 a2 x1 x2) (h' : Nar b1 b2 y1 y2) : isS (quotS 64 (sp a1 a2) (sp b1 b2)) (wideS (quotS 32 (sp x1 x2) (sp y1 y2))) = true := by
  obtain ⟨_, r1, r2, _⟩ := pok_rng h'.pa
  obtain ⟨_, s1, s2, _⟩ := pok_rng h'.px
  by_cases hb : b2 ≤ 0
  · rw [quotS_sp, if_pos hb]; rfl
  have hpos := (pos_lim' wd64 r2).1 (show 0 < b2 by omega)
  have hy : 0 < y2 := (pos_lim' wd32 s2).2 fun h0 => hpos (Lm.trans h'.r h0)
  have hok := quot_ok (w := 32) (a := sp x1 x2) (b := sp y1 y2) (by rw [ok1_sp]; exact h.px) (by rw [ok1_sp]; exact h'.px) hy
  rw [quotS_sp, if_neg (by omega)] at hok
  rw [ok1_sp] at hok
  rw [quotS_sp, if_neg hb, quotS_sp, if_neg (by omega), wideS_sp hok, isS_sp]
  exact ⟨wide_dn (qlo_mono h.l h'.l h'.r (lim_lo_hi h'.pa) hpos), wide_up (qhi_mono h.r h'.l h'.r (lim_lo_hi h'.pa) hpos)⟩
theorem wide_hull {c d : Sp} (hc : spk 32 c = true) (hd : spk 32 d = true) : wideS (hullS 32 c d) = hullS 64 (wideS c) (wideS d) ∧ spk 64 (wideS c) = true := by
  have wok : ∀ {u v : Int}, pok 32 u v = true → pok 64 (wide u) (wide v) = true := by
    intro u v h
    obtain ⟨_, t1, t2, t3, t4, t5⟩ := pok_rng h
    have n := lo_ne h
    refine pok_of wd64 (wide_rng _) (wide_rng _) (wide_le t1 t2 t3) ?_ ?_
    · rcases lim_cases wd64 (wide_rng u) with ⟨h, e⟩ | ⟨h, e⟩ | ⟨h, e⟩
      · rw [h, top64]; decide
      · rw [lim_wide t1] at e; exact absurd e n.1
      · exact h.2.2
    · rcases lim_cases wd64 (wide_rng v) with ⟨h, e⟩ | ⟨h, e⟩ | ⟨h, e⟩
      · rw [lim_wide t2] at e; exact absurd e n.2
      · rw [h, top64]; decide
      · exact h.2.1
  have ws : ∀ {s : Sp}, spk 32 s = true → spk 64 (wideS s) = true := by
    intro s h
    rcases spk_cases h with rfl | ⟨u, v, rfl, p⟩
    · rfl
    · rw [wideS_sp p, spk_sp]; exact wok p
  refine ⟨?_, ws hc⟩
  rcases spk_cases hc with rfl | ⟨c1, c2, rfl, pc⟩
  · rw [spn_hullS hd wd32, wideS_spn, spn_hullS (ws hd) wd64]
  rcases spk_cases hd with rfl | ⟨d1, d2, rfl, pd⟩
  · rw [hullS_spn hc wd32, wideS_spn, hullS_spn (ws hc) wd64]
  have hh := hull_spk hc hd wd32
  rw [hullS_sp pc pd] at hh ⊢
  rw [spk_sp] at hh
  rw [wideS_sp hh, wideS_sp pc, wideS_sp pd, hullS_sp (wok pc) (wok pd)]
  obtain ⟨_, t1, t2, t3, t4, t5⟩ := pok_rng pc
  obtain ⟨_, u1, u2, u3, u4, u5⟩ := pok_rng pd
  have e1 : wide (min c1 d1) = min (wide c1) (wide d1) := by
    rcases Int.le_total c1 d1 with h | h
    · have := wide_le t1 u1 h; rw [show min c1 d1 = c1 by omega]; omega
    · have := wide_le u1 t1 h; rw [show min c1 d1 = d1 by omega]; omega
  have e2 : wide (max c2 d2) = max (wide c2) (wide d2) := by
    rcases Int.le_total c2 d2 with h | h
    · have := wide_le t2 u2 h; rw [show max c2 d2 = d2 by omega]; omega
    · have := wide_le u2 t2 h; rw [show max c2 d2 = c2 by omega]; omega
  rw [e1, e2]
theorem wid_div (h : Nar a1 a2 x1 x2) (h' : Nar b1 b2 y1 y2) : isS (divS 64 (sp a1 a2) (sp b1 b2)) (wideS (divS 32 (sp x1 x2) (sp y1 y2))) = true := by
  rw [divS_eq (both_sp h.px h'.px), divS_eq (both_sp h.pa h'.pa)]
  have o : ∀ {w a b : Int}, pok w a b = true → ok1 w (sp a b) = true := fun h => by rwa [ok1_sp]
  rw [negS_sp h.px, negS_sp h.pa, negS_sp h'.px, negS_sp h'.pa]
  have k1 := quot_spk wd32 (o h.px) (o h'.px)
  have k2 := quot_spk wd32 (o h.neg.px) (o h'.neg.px)
  rw [(wide_hull k1 k2).1]
  exact more_hull wd64 (quot_spk wd64 (o h.pa) (o h'.pa)) (quot_spk wd64 (o h.neg.pa) (o h'.neg.pa)) (wide_hull k1 k2).2 (wide_hull k2 k1).2 (wid_quot h h') (wid_quot h.neg h'.neg)
end Pm

/- Draws: a span within a span. Seat ZD. -/
namespace Go.Px.Seat
open Go Pm
set_option linter.unusedVariables false
variable {B : Run}
end Go.Px.Seat

/- The law that more makes more: what its function comes to. Seat ZD. -/
namespace Go.Px.Seat
open Go Pm
set_option linter.unusedVariables false
variable {B : Run}
theorem addS_fst {w a1 a2 b1 b2 : Int} (pa : pok w a1 a2 = true) (pb : pok w b1 b2 = true) : (addS w (sp a1 a2) (sp b1 b2)).1 = true := by rw [addS_sp pa pb]; rfl
theorem k_isS : Ev fun n => ∀ (a b : Sp), c_w_psIs ((C B).run n) a.1 a.2.1 a.2.2.1 b.1 b.2.1 b.2.2.1 = some (isS a b, ()) := k_psIs (B := B)
end Go.Px.Seat

/- The law on both widths: what its function comes to. Seat ZD. -/
namespace Pm
open Go.Px Go.Px.Seat
variable {a1 a2 x1 x2 b1 b2 y1 y2 : Int}
theorem lim_mono {w a b : Int} (hw : wd w = true) (ha : rng w a) (hb : rng w b) (h : a ≤ b) : lim w a ≤ lim w b := (lim_le hw ha hb).2 h
theorem Nar.abs (h : Nar a1 a2 x1 x2) : Nar (max (max 0 a1) (-a2)) (max (a1.natAbs : Int) (a2.natAbs : Int)) (max (max 0 x1) (-x2)) (max (x1.natAbs : Int) (x2.natAbs : Int)) := by
  have ka := abs_pok h.pa
  have kx := abs_pok h.px
  obtain ⟨_, r1, r2, r3, _⟩ := pok_rng h.pa
  obtain ⟨_, s1, s2, s3, _⟩ := pok_rng h.px
  obtain ⟨_, u1, u2, _⟩ := pok_rng ka.1
  obtain ⟨_, v1, v2, _⟩ := pok_rng kx.1
  have hneg := h.neg
  have nr1 : rng 64 (-a1) := by unfold rng at *; omega
  have ns1 : rng 32 (-x1) := by unfold rng at *; omega
  refine ⟨ka.1, kx.1, ?_, ?_⟩
  · by_cases h1 : 0 < x1
    · have : 0 < a1 := (pos_lim' wd64 r1).2 fun h0 => (pos_lim' wd32 s1).1 h1 (Lm.trans h.l h0)
      rw [show max (max 0 x1) (-x2) = x1 by omega, show max (max 0 a1) (-a2) = a1 by omega]
      exact h.l
    · by_cases h2 : x2 < 0
      · have h3 : 0 < -a2 := (pos_lim' wd64 (pok_rng hneg.pa).2.1).2 fun h0 => (pos_lim' wd32 (pok_rng hneg.px).2.1).1 (show 0 < -x2 by omega) (Lm.trans hneg.l h0)
        rw [show max (max 0 x1) (-x2) = -x2 by omega, show max (max 0 a1) (-a2) = -a2 by omega]
        exact hneg.l
      · rw [show max (max 0 x1) (-x2) = 0 by omega, lim_zero wd32]
        exact (nonneg_lim wd64 u1).1 ka.2
  · by_cases h1 : 0 ≤ a1
    · rw [show max (a1.natAbs : Int) (a2.natAbs : Int) = a2 by omega]
      exact Lm.trans h.r (lim_mono wd32 s2 v2 (by omega))
    · by_cases h2 : -a1 ≤ a2
      · rw [show max (a1.natAbs : Int) (a2.natAbs : Int) = a2 by omega]
        exact Lm.trans h.r (lim_mono wd32 s2 v2 (by omega))
      · rw [show max (a1.natAbs : Int) (a2.natAbs : Int) = -a1 by omega]
        exact Lm.trans hneg.r (lim_mono wd32 ns1 v2 (by omega))
theorem powL_ok {w a b : Int} {n : Nat} (h : pok w a b = true) (hc : n % 2 = 1 ∨ 0 ≤ a) : pok w (dn w (powL (lim w a) n)) (up w (powL (lim w b) n)) = true := by
  obtain ⟨hw, r1, r2, r3, _⟩ := pok_rng h
  have hl := lim_lo_hi h
  have hn := lo_ne h
  have hc' : n % 2 = 1 ∨ .num 0 ≤ lim w a := hc.imp (fun h => h) (fun h => (nonneg_lim hw r1).1 h)
  refine pok_dn_up hw (powL_mono n hl hc') ?_ ?_
  · generalize lim w a = A at hn hc'
    unfold powL
    split
    · simp
    · cases A with
      | pos => exact absurd rfl hn.1
      | num r => simp
      | neg =>
        rcases hc' with h | h
        · simp; omega
        · simp at h
  · generalize lim w b = A at hn
    unfold powL
    split
    · simp
    · cases A with
      | pos => simp
      | num r => simp
      | neg => exact absurd rfl hn.2
theorem powS_sp {w a b : Int} {n : Nat} (h : pok w a b = true) (hn : n ≤ 8) : powS w (sp a b) n =
    if n % 2 = 0 then sp (dn w (powL (lim w (max (max 0 a) (-b))) n)) (up w (powL (lim w (max (a.natAbs : Int) (b.natAbs : Int))) n))
    else sp (dn w (powL (lim w a) n)) (up w (powL (lim w b) n)) := by
  have e : powS w (sp a b) n = sp (dn w (powL (lim w (if (n : Int) % 2 = 0 then absS w (sp a b) else sp a b).2.1) n)) (up w (powL (lim w (if (n : Int) % 2 = 0 then absS w (sp a b) else sp a b).2.2.1) n)) := if_pos ⟨by rw [ok1_sp]; exact h, by omega, by omega⟩
  rw [e]
  by_cases hp : n % 2 = 0
  · rw [if_pos (show (n : Int) % 2 = 0 by omega), if_pos hp, absS_sp h]; rfl
  · rw [if_neg (show ¬ (n : Int) % 2 = 0 by omega), if_neg hp]; rfl
theorem wid_pow (h : Nar a1 a2 x1 x2) {n : Nat} (hn : n ≤ 8) : isS (powS 64 (sp a1 a2) n) (wideS (powS 32 (sp x1 x2) n)) = true := by
  rw [powS_sp h.pa hn, powS_sp h.px hn]
  by_cases hp : n % 2 = 0
  · rw [if_pos hp, if_pos hp]
    have ha := h.abs
    have kx := abs_pok h.px
    have ka := abs_pok h.pa
    rw [wideS_sp (powL_ok kx.1 (.inr kx.2)), isS_sp]
    have n1 := (nonneg_lim wd32 (pok_rng kx.1).2.1).1 kx.2
    have n2 := (nonneg_lim wd64 (pok_rng ka.1).2.1).1 ka.2
    exact ⟨wide_dn (powL_mono n ha.l (.inr n1)), wide_up (powL_mono n ha.r (.inr (Lm.trans n2 (lim_lo_hi ka.1))))⟩
  · rw [if_neg hp, if_neg hp, wideS_sp (powL_ok h.px (.inl (by omega))), isS_sp]
    exact ⟨wide_dn (powL_mono n h.l (.inl (by omega))), wide_up (powL_mono n h.r (.inl (by omega)))⟩
theorem rdn_rup {w a : Int} {n : Nat} : rdn0 w a n ≤ rup0 w a n := by
  unfold rdn0 rup0
  split
  · omega
  · split <;> omega
theorem root_ok {w a b : Int} {n : Nat} (hn : n ≠ 0) (hw : wd w = true) (h0 : 0 ≤ a) (hab : a ≤ b) (ha : a < top w) (hb : b ≤ top w) : pok w (rdn0 w a n) (rup0 w b n) = true := by
  have ht := top_pos hw
  obtain ⟨r1, r2⟩ := rdn0_rng (n := n) hw hn h0
  obtain ⟨s1, s2⟩ := rup0_rng (n := n) (a := b) hw hn (by omega)
  have h1 := rdn0_mono (n := n) hw hn h0 hab hb
  have h2 := rdn_rup (w := w) (a := b) (n := n)
  refine pok_of hw (by unfold rng; omega) (by unfold rng; omega) (by omega) ?_ (by omega)
  unfold rdn0
  rw [if_neg (by omega)]
  exact (rt_spec hw hn h0).2.1
theorem wide_nonneg {o : Int} (h : rng 32 o) (h0 : 0 ≤ o) : 0 ≤ wide o := by
  have := (nonneg_lim wd32 h).1 h0
  rw [← lim_wide h] at this
  exact (nonneg_lim wd64 (wide_rng o)).2 this
theorem wid_root (h : Nar a1 a2 x1 x2) : isS (rootS 64 (sp a1 a2)) (wideS (rootS 32 (sp x1 x2))) = true := by
  rw [root_zero h.pa, root_zero h.px]
  obtain ⟨_, r1, r2, r3, r4, r5⟩ := pok_rng h.pa
  obtain ⟨_, s1, s2, s3, s4, s5⟩ := pok_rng h.px
  by_cases ha : 0 ≤ a2
  rotate_left
  · rw [if_neg ha]; rfl
  have hx : 0 ≤ x2 := (nonneg_lim wd32 s2).2 (Lm.trans ((nonneg_lim wd64 r2).1 ha) h.r)
  have t32 := top32
  have t64 := top64
  have hr32 : rng 32 (max x1 0) := by unfold rng at *; omega
  have hr64 : rng 64 (max a1 0) := by unfold rng at *; omega
  have hl : lim 32 (max x1 0) ≤ lim 64 (max a1 0) := by
    by_cases h1 : 0 ≤ x1
    · have := (nonneg_lim wd64 r1).2 (Lm.trans ((nonneg_lim wd32 s1).1 h1) h.l)
      rw [show max x1 0 = x1 by omega, show max a1 0 = a1 by omega]; exact h.l
    · rw [show max x1 0 = 0 by omega, lim_zero wd32]
      exact (nonneg_lim wd64 hr64).1 (by omega)
  unfold rng at r1 r2 s1 s2
  have hok := root_ok (w := 32) (n := 2) (a := max x1 0) (b := x2) (by decide) wd32 (by omega) (by omega) (by omega) (by omega)
  rw [if_pos ha, if_pos hx, wideS_sp hok, isS_sp]
  obtain ⟨d1, d2⟩ := rdn0_rng (n := 2) (a := max x1 0) wd32 (by decide) (by omega)
  obtain ⟨u1, u2⟩ := rup0_rng (n := 2) (a := x2) wd32 (by decide) hx
  have rd : rng 32 (rdn0 32 (max x1 0) 2) := by unfold rng; omega
  have ru : rng 32 (rup0 32 x2 2) := by unfold rng; omega
  have wr := wide_rng (rdn0 32 (max x1 0) 2)
  have wu := wide_rng (rup0 32 x2 2)
  refine ⟨?_, ?_⟩
  · rw [le_rdn0 wd64 (by decide) (by omega) (by omega) (wide_nonneg rd d1) wr.2, lim_wide rd]
    exact Lm.trans ((le_rdn0 wd32 (by decide) (by omega) (by omega) d1 d2).1 (Int.le_refl _)) hl
  · rw [rup0_le wd64 (by decide) ha (by omega) (wide_nonneg ru u1) wu.2, lim_wide ru]
    exact Lm.trans h.r ((rup0_le wd32 (by decide) hx (by omega) u1 u2).1 (Int.le_refl _))
end Pm
namespace Go.Px.Seat
open Go Pm
set_option linter.unusedVariables false
variable {B : Run}
theorem k_FnSpanWidths : Ev fun n => ∀ l m : List Int, byt l → byt m → c_w_FnSpanWidths ((C B0).run n) l m = some (true, ()) := by
  refine ((k_FineOf (B := B0)).and ((k_isS (B := B0)).and (k_AddS.and (k_MulS.and (k_divS.and (k_powS.and (k_rootS.and ((k_psNar (B := B0)).and (k_psWid (B := B0)))))))))).succ
    fun n hn ⟨hFO, hIs, hA, hM, hD, hP, hR, hN, hW⟩ l m hl hm => ?_
  rw [run_succ, e_w_FnSpanWidths]
  unfold p_w_FnSpanWidths
  simp only [ilt_iff, len_eq]
  by_cases q1 : (1048576 : Int) < (l.length : Int)
  · rw [decide_eq_true q1]; rfl
  rw [decide_eq_false q1, cond_false, jb_inr]
  simp only
  by_cases q2 : (1048576 : Int) < (m.length : Int)
  · rw [decide_eq_true q2]; rfl
  rw [decide_eq_false q2, cond_false]
  obtain ⟨a1, a2, f, u1, u2, u3, u4⟩ := hFO 64 l wd64 hl (by omega)
  obtain ⟨b1, b2, g, v1, v2, v3, v4⟩ := hFO 64 m wd64 hm (by omega)
  obtain ⟨x1, x2, ex, hx⟩ := nar_of u2
  obtain ⟨y1, y2, ey, hy⟩ := nar_of v2
  rw [u1]
  simp only [Option.bind_some]
  rw [v1]
  simp only [Option.bind_some]
  have e6 : irem .i64 (l.length : Int) 6 = ((l.length % 6 : Nat) : Int) := by rw [irem_eq (by omega)]; omega
  have hk : l.length % 6 ≤ 8 := by omega
  rw [e6]
  generalize l.length % 6 = k at hk
  have N1 := hN (sp a1 a2)
  have N2 := hN (sp b1 b2)
  rw [ex] at N1
  rw [ey] at N2
  have A1 := hA 64 (sp a1 a2) (sp b1 b2)
  have A2 := hA 32 (sp x1 x2) (sp y1 y2)
  have M1 := hM 64 (sp a1 a2) (sp b1 b2)
  have M2 := hM 32 (sp x1 x2) (sp y1 y2)
  have D1 := hD 64 (sp a1 a2) (sp b1 b2)
  have D2 := hD 32 (sp x1 x2) (sp y1 y2)
  have P1 := hP 64 (sp a1 a2) k (by omega)
  have P2 := hP 32 (sp x1 x2) k (by omega)
  have R1 := hR 64 (sp a1 a2) wd64
  have R2 := hR 32 (sp x1 x2) wd32
  have f1 := addS_fst u2 v2
  have i1 := wid_add hx hy
  have i2 := wid_mul hx hy
  have i3 := wid_div hx hy
  have i4 := wid_pow hx hk
  have i5 := wid_root hx
  generalize addS 64 (sp a1 a2) (sp b1 b2) = rA1 at *
  generalize addS 32 (sp x1 x2) (sp y1 y2) = rA2 at *
  generalize mulS 64 (sp a1 a2) (sp b1 b2) = rM1 at *
  generalize mulS 32 (sp x1 x2) (sp y1 y2) = rM2 at *
  generalize divS 64 (sp a1 a2) (sp b1 b2) = rD1 at *
  generalize divS 32 (sp x1 x2) (sp y1 y2) = rD2 at *
  generalize powS 64 (sp a1 a2) k = rP1 at *
  generalize powS 32 (sp x1 x2) k = rP2 at *
  generalize rootS 64 (sp a1 a2) = rR1 at *
  generalize rootS 32 (sp x1 x2) = rR2 at *
  simp only [sp] at N1 N2 A1 A2 M1 M2 D1 D2 P1 P2 R1 R2
  have W1 := hW rA2
  have W2 := hW rM2
  have W3 := hW rD2
  have W4 := hW rP2
  have W5 := hW rR2
  have j1 := hIs rA1 (wideS rA2)
  have j2 := hIs rM1 (wideS rM2)
  have j3 := hIs rD1 (wideS rD2)
  have j4 := hIs rP1 (wideS rP2)
  have j5 := hIs rR1 (wideS rR2)
  rw [i1, f1] at j1
  rw [i2] at j2
  rw [i3] at j3
  rw [i4] at j4
  rw [i5] at j5
  simp only [N1, N2, A1, A2, f1, W1, Option.bind_some, Bool.not_true, cond_false, jb_inr, j1, cond_true, M1, M2, W2, j2, D1, D2, W3, j3, P1, P2, W4, j4, R1, R2, W5, j5]
end Go.Px.Seat
