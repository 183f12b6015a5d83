/- Own texts, part M2: PmF PmG PmH PmI0 PmI. -/
import Derived.Test.YtbdlklncblklnaaGreatDoorM1
set_option linter.unusedVariables false

/- Fractions as rational numbers. No program here. -/
namespace Pm

def fb (r : Rat) : Bool := decide (r.num < 0)
def ft (r : Rat) : List Int := dig r.num.natAbs
def fq (r : Rat) : List Int := dig r.den
def fits (r : Rat) : Prop := r.num.natAbs < 65536 ^ 256 ∧ r.den < 65536 ^ 256
instance (r : Rat) : Decidable (fits r) := inferInstanceAs (Decidable (_ ∧ _))
def sg (b : Bool) (p : Nat) : Int := if b then -(p : Int) else p
def fok (b : Bool) (l m : List Int) : Bool := nok l && (nok m && (!m.isEmpty && (!(l.isEmpty && b) && (Nat.gcd (val l).toNat (val m).toNat == 1))))
def cmpR (r s : Rat) : Int := if r < s then -1 else if s < r then 1 else 0

theorem sg_natAbs (b : Bool) (p : Nat) : (sg b p).natAbs = p := by cases b <;> simp [sg]
theorem sg_neg {b : Bool} {p : Nat} (h : p ≠ 0) : decide (sg b p < 0) = b := by
  cases b <;> simp [sg] <;> omega
theorem sg_num (r : Rat) : sg (fb r) r.num.natAbs = r.num := by
  unfold sg fb
  by_cases h : r.num < 0
  · simp only [h, decide_true, if_true]; omega
  · simp only [h, decide_false, Bool.false_eq_true, if_false]; omega
theorem sg_zero (b : Bool) : sg b 0 = 0 := by cases b <;> rfl
theorem mk_self (r : Rat) : mkRat (sg (fb r) r.num.natAbs) r.den = r := by rw [sg_num, Rat.mkRat_self]
theorem mk_num {b : Bool} {p q : Nat} (hq : q ≠ 0) : (mkRat (sg b p) q).num = sg b (p / Nat.gcd p q) := by
  rw [Rat.num_mkRat, if_neg hq, sg_natAbs, Nat.gcd_comm]
  cases b
  · simp [sg]
  · simp only [sg, if_true]
    rw [Int.neg_ediv_of_dvd (Int.natCast_dvd_natCast.2 (Nat.gcd_dvd_left p q))]
    simp
theorem mk_den {b : Bool} {p q : Nat} (hq : q ≠ 0) : (mkRat (sg b p) q).den = q / Nat.gcd p q := by
  rw [Rat.den_mkRat, if_neg hq, sg_natAbs, Nat.gcd_comm]
theorem div_gcd_ne {p q : Nat} (hp : p ≠ 0) : p / Nat.gcd p q ≠ 0 := by
  have h := Nat.div_pos (Nat.le_of_dvd (Nat.pos_of_ne_zero hp) (Nat.gcd_dvd_left p q)) (Nat.gcd_pos_of_pos_left _ (Nat.pos_of_ne_zero hp))
  omega
theorem mk_rb {b : Bool} {p q : Nat} (hp : p ≠ 0) (hq : q ≠ 0) : fb (mkRat (sg b p) q) = b := by
  rw [fb, mk_num hq]; exact sg_neg (div_gcd_ne hp)
theorem mk_rt {b : Bool} {p q : Nat} (hq : q ≠ 0) : ft (mkRat (sg b p) q) = dig (p / Nat.gcd p q) := by
  rw [ft, mk_num hq, sg_natAbs]
theorem mk_rd {b : Bool} {p q : Nat} (hq : q ≠ 0) : fq (mkRat (sg b p) q) = dig (q / Nat.gcd p q) := by rw [fq, mk_den hq]
theorem den_ne (r : Rat) : r.den ≠ 0 := r.den_nz
theorem fq_ne (r : Rat) : fq r ≠ [] := fun h => r.den_nz (dig_eq_nil.1 h)
theorem ft_nil {r : Rat} : ft r = [] ↔ r = 0 := by
  rw [ft, dig_eq_nil, Int.natAbs_eq_zero, Rat.num_eq_zero]
theorem gcd_one (r : Rat) : Nat.gcd r.num.natAbs r.den = 1 := r.reduced
theorem fok_fr (r : Rat) : fok (fb r) (ft r) (fq r) = decide (fits r) := by
  have h1 : (fq r).isEmpty = false := by simpa using fq_ne r
  have h2 : ((ft r).isEmpty && fb r) = false := by
    by_cases h : r = 0
    · subst h; simp [fb]
    · have : (ft r).isEmpty = false := by simpa using mt ft_nil.1 h
      rw [this]; rfl
  unfold fok
  rw [h1, h2]
  unfold ft fq
  rw [nok_dig, nok_dig, val_dig, val_dig, Int.toNat_natCast, Int.toNat_natCast, gcd_one]
  rw [Bool.eq_iff_iff]
  simp only [fits, Bool.not_false, Bool.true_and, beq_self_eq_true, Bool.and_true, Bool.and_eq_true, decide_eq_true_eq]
  exact (decide_eq_true_iff (p := _ ∧ _)).symm
theorem fok_iff {b : Bool} {l m : List Int} : fok b l m = true ↔ ∃ r, fits r ∧ b = fb r ∧ l = ft r ∧ m = fq r := by
  constructor
  · intro h
    simp only [fok, Bool.and_eq_true, Bool.not_eq_true', beq_iff_eq] at h
    obtain ⟨h1, h2, h3, h4, h5⟩ := h
    obtain ⟨p, hp, rfl⟩ := nok_iff.1 h1
    obtain ⟨q, hq, rfl⟩ := nok_iff.1 h2
    rw [val_dig, val_dig, Int.toNat_natCast, Int.toNat_natCast] at h5
    have hq0 : q ≠ 0 := fun h => by subst h; simp at h3
    refine ⟨mkRat (sg b p) q, ?_, ?_, ?_, ?_⟩
    · unfold fits
      rw [mk_num hq0, mk_den hq0, sg_natAbs, h5, Nat.div_one, Nat.div_one]
      exact ⟨hp, hq⟩
    · by_cases hp0 : p = 0
      · subst hp0
        simp at h4
        subst h4
        simp [fb, sg_zero]
      · exact (mk_rb hp0 hq0).symm
    · rw [mk_rt hq0, h5, Nat.div_one]
    · rw [mk_rd hq0, h5, Nat.div_one]
  · rintro ⟨r, h1, rfl, rfl, rfl⟩
    rw [fok_fr]; simpa using h1
theorem fits_len {r : Rat} (h : fits r) : (ft r).length ≤ 256 ∧ (fq r).length ≤ 256 := ⟨dig_len_le.2 h.1, dig_len_le.2 h.2⟩
theorem fb_neg (r : Rat) : fb (-r) = (!fb r && decide (r ≠ 0)) := by
  unfold fb
  rw [Rat.neg_num]
  have := @Rat.num_eq_zero r
  by_cases h : r = 0
  · subst h; simp
  · have h1 : r.num ≠ 0 := fun h' => h (this.1 h')
    simp only [ne_eq, h, not_false_eq_true, decide_true, Bool.and_true]
    by_cases h2 : r.num < 0 <;> simp [h2] <;> omega
theorem ft_neg (r : Rat) : ft (-r) = ft r := by rw [ft, ft, Rat.neg_num, Int.natAbs_neg]
theorem fq_neg (r : Rat) : fq (-r) = fq r := by rw [fq, fq, Rat.neg_den]
theorem fits_neg {r : Rat} : fits (-r) ↔ fits r := by unfold fits; rw [Rat.neg_num, Int.natAbs_neg, Rat.neg_den]
theorem fb_iff (r : Rat) : fb r = decide (r < 0) := by
  unfold fb
  have h := @Rat.num_nonneg r
  by_cases h1 : r < 0
  · have : r.num < 0 := by
      rcases Int.lt_or_le r.num 0 with h2 | h2
      · exact h2
      · exact absurd (h.1 h2) (Rat.not_le.2 h1)
    simp [h1, this]
  · have : ¬ r.num < 0 := by
      have := h.2 (Rat.not_lt.1 h1)
      omega
    simp [h1, this]
/-- sums of numerators -/
theorem mk_add {a c : Int} {q1 q2 : Nat} (h1 : q1 ≠ 0) (h2 : q2 ≠ 0) : mkRat (a * q2 + c * q1) (q1 * q2) = mkRat a q1 + mkRat c q2 := (Rat.mkRat_add_mkRat a c h1 h2).symm
theorem sg_mul (b c : Bool) (p q : Nat) : sg (b != c) (p * q) = sg b p * sg c q := by
  cases b <;> cases c <;> simp [sg, Int.neg_mul, Int.mul_neg]
theorem cmpR_self (r : Rat) : cmpR r r = 0 := by simp [cmpR, Rat.lt_irrefl]
theorem cmpR_sub (r s : Rat) : cmpR r s = if r - s < 0 then -1 else if 0 < r - s then 1 else 0 := by
  unfold cmpR
  have h1 : r < s ↔ r - s < 0 := by constructor <;> intro h <;> grind
  have h2 : s < r ↔ 0 < r - s := by constructor <;> intro h <;> grind
  simp only [h1, h2]
theorem mk_pos {a : Int} {q : Nat} (hq : q ≠ 0) : 0 < mkRat a q ↔ 0 < a := by
  rw [Rat.mkRat_eq_div, Rat.lt_div_iff (Rat.natCast_pos.2 (Nat.pos_of_ne_zero hq)), Rat.zero_mul, Rat.intCast_pos]
theorem mk_neg {a : Int} {q : Nat} (hq : q ≠ 0) : mkRat a q < 0 ↔ a < 0 := by
  rw [Rat.mkRat_eq_div, Rat.div_lt_iff (Rat.natCast_pos.2 (Nat.pos_of_ne_zero hq)), Rat.zero_mul, Rat.intCast_neg_iff]
end Pm

/- Fractions: the reference's functions. -/
namespace Go.Px.Seat
open Go Pm
set_option linter.unusedVariables false
variable {B : Run}

theorem beqB_eq (a b : Bool) : beqB a b = (a == b) := rfl
theorem len_zero_iff (l : List Int) : (len l == 0) = l.isEmpty := by
  cases l <;> simp [len]
  omega
theorem k_sOne : Ev fun n => ∀ g : Nat, c_s_l6One ((C B).run n) (dig g) = some (decide (g = 1), ()) := by
  refine Ev.triv.succ fun n hn _ g => ?_
  rw [run_succ, e_s_l6One]
  unfold p_s_l6One
  simp only [jb_cond, jb_ok, jb_inr, len_eq]
  by_cases h1 : (dig g).length = 1
  · rw [h1]
    simp only [show (((1 : Nat) : Int) == 1) = true from rfl, cond_true]
    have hg : g < 65536 := by have := dig_len_le.1 (Nat.le_of_eq h1); omega
    rw [ok_of (inB_true (by omega) (by omega)), show Int.toNat 0 = 0 from rfl, getD_at, dig_at, Nat.pow_zero, Nat.div_one, Nat.mod_eq_of_lt hg]
    congr 2
    by_cases h : g = 1
    · subst h; rfl
    · simp [h]; omega
  · have : (((dig g).length : Int) == 1) = false := beq_eq_false_iff_ne.2 (by omega)
    simp only [this, cond_false]
    congr 2
    refine (decide_eq_false fun h => h1 ?_).symm
    subst h
    rw [dig_of_lt (by omega) (by omega)]; rfl
theorem k_sFracOk : Ev fun n => ∀ (b : Bool) (l m : List Int), c_s_FracOk ((C B).run n) b l m = some (fok b l m, ()) := by
  refine ((k_sNatOk (B := B)).and ((k_sGcd (B := B)).and (k_sOne (B := B)))).succ fun n hn ⟨hOk, hGcd, hOne⟩ b l m => ?_
  rw [run_succ, e_s_FracOk]
  unfold p_s_FracOk
  rw [hOk, hOk]
  simp only [Option.bind_some, len_zero_iff]
  cases h1 : nok l
  · simp [fok, h1]
  · cases h2 : nok m
    · simp [fok, h1, h2]
    · obtain ⟨p, hp, rfl⟩ := nok_iff.1 h1
      obtain ⟨q, hq, rfl⟩ := nok_iff.1 h2
      have hpl := dig_len_le.2 hp
      have hql := dig_len_le.2 hq
      simp only [Bool.not_true, cond_false]
      cases h3 : (dig q).isEmpty
      · simp only [cond_false]
        have key : ∀ t : Bool, t = ((dig p).isEmpty && b) → (bif t then some (false, ()) else (c_s_l5Gcd ((C B).run n) (dig p) (dig q)).bind fun x => (c_s_l6One ((C B).run n) x.1).bind fun x => some (x.1, ())) = some (fok b (dig p) (dig q), ()) := by
          rintro t rfl
          unfold fok
          rw [h1, h2, h3]
          cases h4 : ((dig p).isEmpty && b)
          · rw [hGcd p q (by omega) (by omega)]
            simp only [Option.bind_some, cond_false]
            rw [hOne, val_dig, val_dig, Int.toNat_natCast, Int.toNat_natCast]
            rfl
          · rfl
        cases h4 : (dig p).isEmpty
        · simp only [cond_false, jb_inr]
          exact key false (by rw [h4]; rfl)
        · simp only [cond_true, jb_inr]
          exact key b (by rw [h4]; rfl)
      · simp [fok, h1, h2, h3]
/-- what a fraction and whether it is one are told as -/
def resF (r : Rat) : Bool × (List Int × (List Int × (Bool × Unit))) := if fits r then (fb r, (ft r, (fq r, (true, ())))) else (false, ([], ([], (false, ()))))
theorem resF_fits {r : Rat} (h : fits r) : resF r = (fb r, (ft r, (fq r, (true, ())))) := if_pos h
theorem resF_not {r : Rat} (h : ¬ fits r) : resF r = (false, ([], ([], (false, ())))) := if_neg h
theorem k_sMake : Ev fun n => ∀ (b : Bool) (p q : Nat), q ≠ 0 → (dig p).length ≤ 268435456 → (dig q).length ≤ 268435456 → c_s_l6Make ((C B).run n) b (dig p) (dig q) = some (resF (mkRat (sg b p) q)) := by
  refine ((k_sGcd (B := B)).and (k_sDiv (B := B))).succ fun n hn ⟨hGcd, hDiv⟩ b p q hq hpl hql => ?_
  rw [run_succ, e_s_l6Make]
  unfold p_s_l6Make
  rw [len_zero_iff]
  by_cases hp : p = 0
  · subst hp
    simp only [dig_zero, List.isEmpty_nil, cond_true]
    rw [sg_zero, Rat.zero_mkRat, resF_fits]
    · have h1 : fq 0 = [1] := by rw [fq]; exact dig_of_lt (by decide) (by decide)
      rw [h1, ft_nil.2 rfl]; rfl
    · exact ⟨Nat.pow_pos (by decide), Nat.one_lt_pow (by decide) (by decide)⟩
  · have h1 : (dig p).isEmpty = false := by simpa using mt dig_eq_nil.1 hp
    rw [h1, cond_false, hGcd p q hpl hql]
    have hg : Nat.gcd p q ≠ 0 := fun h => hp (Nat.eq_zero_of_gcd_eq_zero_left h)
    have hgl : (dig (Nat.gcd p q)).length ≤ 268435456 := by
      have := dig_len_mono (Nat.le_of_dvd (Nat.pos_of_ne_zero hp) (Nat.gcd_dvd_left p q)); omega
    simp only [Option.bind_some]
    rw [hDiv p _ hpl hgl hg]
    simp only [Option.bind_some]
    rw [hDiv q _ hql hgl hg]
    simp only [Option.bind_some, jb_cond, jb_inr, ilt_iff, len_eq]
    have e1 := mk_rt (b := b) (p := p) hq
    have e2 := mk_rd (b := b) (p := p) hq
    have e3 := mk_rb (b := b) hp hq
    have hf : fits (mkRat (sg b p) q) ↔ (dig (p / Nat.gcd p q)).length ≤ 256 ∧ (dig (q / Nat.gcd p q)).length ≤ 256 := by
      unfold fits
      rw [mk_num hq, mk_den hq, sg_natAbs, dig_len_le, dig_len_le]
    by_cases h2 : 256 < (dig (p / Nat.gcd p q)).length
    · rw [resF_not fun h => by have := (hf.1 h).1; omega]
      simp only [show (256 : Int) < ((dig (p / Nat.gcd p q)).length : Int) by omega, decide_true, cond_true]
    · simp only [show ¬ (256 : Int) < ((dig (p / Nat.gcd p q)).length : Int) by omega, decide_false, cond_false]
      by_cases h3 : 256 < (dig (q / Nat.gcd p q)).length
      · rw [resF_not fun h => by have := (hf.1 h).2; omega]
        simp only [show (256 : Int) < ((dig (q / Nat.gcd p q)).length : Int) by omega, decide_true, cond_true]
      · rw [resF_fits (hf.2 ⟨by omega, by omega⟩), e1, e2, e3]
        simp only [show ¬ (256 : Int) < ((dig (q / Nat.gcd p q)).length : Int) by omega, decide_false, cond_false]
theorem k_sFracOf : Ev fun n => ∀ (b : Bool) (p q : Nat), q ≠ 0 → p < 65536 ^ 256 → q < 65536 ^ 256 → c_s_FracOf ((C B).run n) b (dig p) (dig q) = some (resF (mkRat (sg b p) q)) := by
  refine ((k_sNatOk (B := B)).and (k_sMake (B := B))).succ fun n hn ⟨hOk, hMake⟩ b p q hq hp hq' => ?_
  rw [run_succ, e_s_FracOf]
  unfold p_s_FracOf
  have h1 := dig_len_le.2 hp
  have h2 := dig_len_le.2 hq'
  have h3 : (dig q).isEmpty = false := by simpa using mt dig_eq_nil.1 hq
  rw [hOk, hOk, nok_dig, nok_dig, decide_eq_true hp, decide_eq_true hq']
  simp only [Option.bind_some, Bool.not_true, cond_false, len_zero_iff, h3, jb_inr]
  rw [hMake b p q hq (by omega) (by omega)]
  rfl
theorem k_sSum : Ev fun n => ∀ (b1 b2 : Bool) (p1 q1 p2 q2 : Nat), (dig p1).length ≤ 134217728 → (dig q1).length ≤ 134217728 → (dig p2).length ≤ 134217728 → (dig q2).length ≤ 134217728 →
    ∃ b p, c_s_l6Sum ((C B).run n) b1 (dig p1) (dig q1) b2 (dig p2) (dig q2) = some (b, (dig p, (dig (q1 * q2), ()))) ∧ sg b p = sg b1 p1 * q2 + sg b2 p2 * q1 ∧ (dig p).length ≤ max ((dig p1).length + (dig q2).length) ((dig p2).length + (dig q1).length) + 1 := by
  refine ((k_sMul (B := B)).and ((k_sAdd (B := B)).and ((k_sCmp (B := B)).and (k_sSub (B := B))))).succ fun n hn ⟨hMul, hAdd, hCmp, hSub⟩ b1 b2 p1 q1 p2 q2 h1 h2 h3 h4 => ?_
  rw [run_succ, e_s_l6Sum]
  unfold p_s_l6Sum
  have l1 := len_dig_mul p1 q2
  have l2 := len_dig_mul p2 q1
  rw [hMul _ _ (by omega) (by omega)]
  simp only [Option.bind_some]
  rw [hMul _ _ (by omega) (by omega)]
  simp only [Option.bind_some]
  rw [hMul _ _ (by omega) (by omega)]
  simp only [Option.bind_some, beqB_eq]
  generalize hX : p1 * q2 = X at *
  generalize hY : p2 * q1 = Y at *
  have eX : ∀ b, sg b X = sg b p1 * q2 := fun b => by rw [← hX]; cases b <;> simp [sg, Int.neg_mul]
  have eY : ∀ b, sg b Y = sg b p2 * q1 := fun b => by rw [← hY]; cases b <;> simp [sg, Int.neg_mul]
  rw [← eX, ← eY]
  by_cases hb : b1 = b2
  · subst hb
    simp only [beq_self_eq_true, cond_true]
    rw [hAdd _ _ (by omega) (by omega)]
    have := len_dig_add X Y
    refine ⟨b1, X + Y, rfl, ?_, by omega⟩
    cases b1 <;> simp [sg] <;> omega
  · have hbb : (b1 == b2) = false := by simpa using hb
    simp only [hbb, cond_false]
    rw [hCmp _ _ (by omega) (by omega)]
    simp only [Option.bind_some, ile_iff]
    by_cases hc : X < Y
    · have : ¬ (0 : Int) ≤ cmp3 X Y := by rw [cmp3, if_pos hc]; omega
      simp only [this, decide_false, cond_false]
      rw [hSub _ _ (by omega) (by omega)]
      have := dig_len_mono (show Y - X ≤ Y by omega)
      refine ⟨b2, Y - X, rfl, ?_, by omega⟩
      cases b1 <;> cases b2 <;> simp [sg] at hb ⊢ <;> omega
    · have : (0 : Int) ≤ cmp3 X Y := by rw [cmp3, if_neg hc]; split <;> omega
      simp only [this, decide_true, cond_true]
      rw [hSub _ _ (by omega) (by omega)]
      have := dig_len_mono (show X - Y ≤ X by omega)
      refine ⟨b1, X - Y, rfl, ?_, by omega⟩
      cases b1 <;> cases b2 <;> simp [sg] at hb ⊢ <;> omega
theorem k_sNeg : Ev fun n => ∀ (b : Bool) (p q : Nat), (dig p).length ≤ 1073741824 → (dig q).length ≤ 1073741824 → c_s_l6Neg ((C B).run n) b (dig p) (dig q) = some ((!b && decide (p ≠ 0)), (dig p, (dig q, ()))) := by
  refine (k_sTrim (B := B)).succ fun n hn hTrim b p q hp hq => ?_
  rw [run_succ, e_s_l6Neg]
  unfold p_s_l6Neg
  rw [hTrim _ (by omega), hTrim _ (by omega), strip_dig (dig_Dg p), strip_dig (dig_Dg q), val_dig, val_dig, Int.toNat_natCast, Int.toNat_natCast]
  simp only [Option.bind_some, jb_cond, jb_inr, ilt_iff, len_eq]
  cases b
  · simp only [Bool.not_false, cond_true, Bool.true_and]
    congr 2
    by_cases h : p = 0
    · subst h; simp
    · have := dig_len_pos h
      simp only [h, ne_eq, not_false_eq_true, decide_true]
      exact decide_eq_true (by omega)
  · rfl
theorem k_sNegR : Ev fun n => ∀ r : Rat, fits r → c_s_l6Neg ((C B).run n) (fb r) (ft r) (fq r) = some (fb (-r), (ft (-r), (fq (-r), ()))) := by
  refine (k_sNeg (B := B)).mono fun n h r hr => ?_
  obtain ⟨h1, h2⟩ := fits_len hr
  rw [ft, fq] at *
  rw [h _ _ _ (by omega) (by omega), fb_neg, ft_neg, fq_neg]
  congr 3
  have : r.num.natAbs ≠ 0 ↔ r ≠ 0 := by rw [ne_eq, Int.natAbs_eq_zero, Rat.num_eq_zero]
  simp only [this]
theorem k_sFracAdd : Ev fun n => ∀ r s : Rat, fits r → fits s → c_s_FracAdd ((C B).run n) (fb r) (ft r) (fq r) (fb s) (ft s) (fq s) = some (resF (r + s)) := by
  refine ((k_sFracOk (B := B)).and ((k_sSum (B := B)).and (k_sMake (B := B)))).succ fun n hn ⟨hOk, hSum, hMake⟩ r s hr hs => ?_
  rw [run_succ, e_s_FracAdd]
  unfold p_s_FracAdd
  obtain ⟨r1, r2⟩ := fits_len hr
  obtain ⟨s1, s2⟩ := fits_len hs
  rw [hOk, hOk, fok_fr, fok_fr, decide_eq_true hr, decide_eq_true hs]
  simp only [Option.bind_some, Bool.not_true, cond_false, jb_inr]
  simp only [ft, fq] at r1 r2 s1 s2 ⊢
  obtain ⟨b, p, e1, e2, e3⟩ := hSum (fb r) (fb s) r.num.natAbs r.den s.num.natAbs s.den (by omega) (by omega) (by omega) (by omega)
  have l2 := len_dig_mul r.den s.den
  rw [e1]
  simp only [Option.bind_some]
  rw [hMake b p _ (Nat.mul_ne_zero r.den_nz s.den_nz) (by omega) (by omega), e2, mk_add r.den_nz s.den_nz, mk_self, mk_self]
  rfl
theorem k_sFracSub : Ev fun n => ∀ r s : Rat, fits r → fits s → c_s_FracSub ((C B).run n) (fb r) (ft r) (fq r) (fb s) (ft s) (fq s) = some (resF (r - s)) := by
  refine ((k_sFracOk (B := B)).and ((k_sNegR (B := B)).and (k_sFracAdd (B := B)))).succ fun n hn ⟨hOk, hNeg, hAdd⟩ r s hr hs => ?_
  rw [run_succ, e_s_FracSub]
  unfold p_s_FracSub
  rw [hOk, hOk, fok_fr, fok_fr, decide_eq_true hr, decide_eq_true hs]
  simp only [Option.bind_some, Bool.not_true, cond_false, jb_inr]
  rw [hNeg s hs]
  simp only [Option.bind_some]
  rw [hAdd r (-s) hr (fits_neg.2 hs), Rat.sub_eq_add_neg]
  rfl
theorem k_sFracMul : Ev fun n => ∀ r s : Rat, fits r → fits s → c_s_FracMul ((C B).run n) (fb r) (ft r) (fq r) (fb s) (ft s) (fq s) = some (resF (r * s)) := by
  refine ((k_sFracOk (B := B)).and ((k_sMul (B := B)).and (k_sMake (B := B)))).succ fun n hn ⟨hOk, hMul, hMake⟩ r s hr hs => ?_
  rw [run_succ, e_s_FracMul]
  unfold p_s_FracMul
  obtain ⟨r1, r2⟩ := fits_len hr
  obtain ⟨s1, s2⟩ := fits_len hs
  rw [hOk, hOk, fok_fr, fok_fr, decide_eq_true hr, decide_eq_true hs]
  simp only [Option.bind_some, Bool.not_true, cond_false, jb_inr]
  simp only [ft, fq] at r1 r2 s1 s2 ⊢
  have l1 := len_dig_mul r.num.natAbs s.num.natAbs
  have l2 := len_dig_mul r.den s.den
  rw [hMul _ _ (by omega) (by omega)]
  simp only [Option.bind_some]
  rw [hMul _ _ (by omega) (by omega)]
  simp only [Option.bind_some, beqB_eq]
  have e : (!(fb r == fb s)) = (fb r != fb s) := rfl
  rw [e, hMake _ _ _ (Nat.mul_ne_zero r.den_nz s.den_nz) (by omega) (by omega), sg_mul, ← Rat.mkRat_mul_mkRat, mk_self, mk_self]
  rfl
theorem k_sFracCmp : Ev fun n => ∀ r s : Rat, fits r → fits s → c_s_FracCmp ((C B).run n) (fb r) (ft r) (fq r) (fb s) (ft s) (fq s) = some (cmpR r s, ()) := by
  refine ((k_sFracOk (B := B)).and ((k_sNegR (B := B)).and (k_sSum (B := B)))).succ fun n hn ⟨hOk, hNeg, hSum⟩ r s hr hs => ?_
  rw [run_succ, e_s_FracCmp]
  unfold p_s_FracCmp
  obtain ⟨r1, r2⟩ := fits_len hr
  obtain ⟨s1, s2⟩ := fits_len (fits_neg.2 hs)
  rw [hOk, hOk, fok_fr, fok_fr, decide_eq_true hr, decide_eq_true hs]
  simp only [Option.bind_some, Bool.not_true, cond_false, jb_inr]
  rw [hNeg s hs]
  simp only [Option.bind_some]
  simp only [ft, fq] at r1 r2 s1 s2 ⊢
  obtain ⟨b, p, e1, e2, e3⟩ := hSum (fb r) (fb (-s)) r.num.natAbs r.den (-s).num.natAbs (-s).den (by omega) (by omega) (by omega) (by omega)
  rw [e1]
  simp only [Option.bind_some, len_zero_iff]
  have hval : mkRat (sg b p) (r.den * (-s).den) = r - s := by rw [e2, mk_add r.den_nz (-s).den_nz, mk_self, mk_self, Rat.sub_eq_add_neg]
  have hq : r.den * (-s).den ≠ 0 := Nat.mul_ne_zero r.den_nz (-s).den_nz
  have hp1 := mk_pos (a := sg b p) hq
  have hn1 := mk_neg (a := sg b p) hq
  rw [hval] at hp1 hn1
  rw [cmpR_sub]
  simp only [hp1, hn1]
  by_cases hp : p = 0
  · subst hp
    simp [sg_zero]
  · have : (dig p).isEmpty = false := by simpa using mt dig_eq_nil.1 hp
    simp only [this, cond_false]
    cases b
    · have h1 : ¬ sg false p < 0 := by simp [sg]
      have h2 : 0 < sg false p := by simp [sg]; omega
      simp [h1, h2]
    · have h1 : sg true p < 0 := by simp [sg]; omega
      simp [h1]
end Go.Px.Seat

/- Numbers: the program's functions, part 2. -/
namespace Pm
theorem bl_log2 {x : Nat} (h : x ≠ 0) : bl x = Nat.log2 x + 1 := by
  have h1 := Nat.lt_log2_self (n := x)
  have h2 := Nat.log2_self_le h
  have h3 : bl x ≤ Nat.log2 x + 1 := bl_le.2 h1
  rcases Nat.lt_or_ge (bl x) (Nat.log2 x + 1) with h4 | h4
  · have := bl_le.1 (show bl x ≤ Nat.log2 x by omega)
    omega
  · omega
theorem or_add {a b t : Nat} (ha : a < 2 ^ t) (hb : b % 2 ^ t = 0) : a ||| b = a + b := by
  have h := Nat.div_add_mod b (2 ^ t)
  rw [hb, Nat.add_zero] at h
  rw [← h, Nat.or_comm, ← Nat.two_pow_add_eq_or_of_lt ha, Nat.add_comm]
theorem val_of_at : ∀ {l : List Int} {z : Nat}, (∀ j, j < l.length → at_ l j = ((z / 65536 ^ j % 65536 : Nat) : Int)) → val l = ((z % 65536 ^ l.length : Nat) : Int) := by
  intro l z h
  have : ∀ k, k ≤ l.length → val (l.take k) = ((z % 65536 ^ k : Nat) : Int) := by
    intro k
    induction k with
    | zero => intro _; simp [val, Nat.mod_one]
    | succ k ih =>
      intro hk
      rw [val_take_succ l k (by omega), ih (by omega), h k (by omega), mod_succ, Int.natCast_add, Int.natCast_mul]
  have := this l.length (Nat.le_refl _)
  rwa [List.take_length] at this
theorem Dg_of_at {l : List Int} {z : Nat} (h : ∀ j, j < l.length → at_ l j = ((z / 65536 ^ j % 65536 : Nat) : Int)) : Dg l := by
  intro d hd
  obtain ⟨i, hi, rfl⟩ := List.getElem_of_mem hd
  have := h i hi
  simp only [at_, List.getD_eq_getElem?_getD, List.getElem?_eq_getElem hi, Option.getD_some] at this
  rw [this]
  omega
def hz (k x : Nat) : Nat := if 2 ^ k ≤ x then x / 2 ^ k else x
def hm (k x : Nat) : Nat := if 2 ^ k ≤ x then k else 0
theorem hm_hz (k x : Nat) : hm k x + bl (hz k x) = bl x := by
  unfold hm hz
  split
  · rename_i h
    have hne : x / 2 ^ k ≠ 0 := by
      have := (Nat.le_div_iff_mul_le (Nat.pow_pos (by decide) : 0 < 2 ^ k)).2 (show 1 * 2 ^ k ≤ x by omega)
      omega
    rw [bl_shift x k hne]
  · rw [Nat.zero_add]
theorem hz_lt {k x : Nat} (h : x < 2 ^ (k + k)) : hz k x < 2 ^ k := by
  unfold hz
  split
  · rw [Nat.pow_add] at h
    exact (Nat.div_lt_iff_lt_mul (Nat.pow_pos (by decide))).2 h
  · omega
theorem hm_le (k x : Nat) : hm k x ≤ k := by unfold hm; split <;> omega
end Pm
namespace Go.Px.Seat
open Go Pm
set_option linter.unusedVariables false
variable {B : Run}
theorem ior_eq {x y : Nat} (hx : x < 9223372036854775808) (hy : y < 9223372036854775808) : ior .i64 (x : Int) (y : Int) = ((x ||| y : Nat) : Int) := by
  have e1 : ∀ z : Nat, z < 9223372036854775808 → (BitVec.ofInt 64 (z : Int)).toNat = z := fun z hz => by
    simp; omega
  have h3 : x ||| y < 2 ^ 63 := Nat.or_lt_two_pow (by omega) (by omega)
  show IntKind.i64.wrap (((BitVec.ofInt 64 (x : Int) ||| BitVec.ofInt 64 (y : Int)).toNat : Nat) : Int) = _
  rw [BitVec.toNat_or, e1 x hx, e1 y hy]
  exact wrap64 (by omega) (by omega)
theorem k_Len64 : Ev fun n => ∀ x : Nat, x < 18446744073709551616 → c_math_bits_Len64 ((C B).run n) (x : Int) = some ((bl x : Int), ()) := by
  refine Ev.triv.succ fun n hn _ x hx => ?_
  rw [run_succ, e_math_bits_Len64]
  unfold p_math_bits_Len64
  generalize hT : bs _ = T
  have hT1 : ∀ i : Fin 256, bt T ((i.val : Nat) : Int) = ((if i.val = 0 then 0 else Nat.log2 i.val + 1 : Nat) : Int) := by
    subst hT
    decide +kernel
  have hT2 : slen T = 256 := by
    subst hT
    decide +kernel
  have hT3 : ∀ i : Nat, i < 256 → bt T (i : Int) = (bl i : Int) := fun i hi => by
    have := hT1 ⟨i, hi⟩
    simp only at this
    rw [this]
    by_cases h : i = 0
    · subst h; simp
    · rw [if_neg h, bl_log2 h]
  have fin : ∀ (m z : Nat), z < 256 → m ≤ 64 → m + bl z = bl x → (ok (inB (IntKind.wrap .u8 (z : Int)) (slen T)) (some ((iadd .i64 (m : Int) (IntKind.wrap .i64 (bt T (IntKind.wrap .u8 (z : Int))))), ())) : Option (Int × Unit)) = some ((bl x : Int), ()) := by
    intro m z hz hm he
    have hw : IntKind.wrap .u8 (z : Int) = (z : Int) := by
      simp only [IntKind.wrap, IntKind.bits, IntKind.signed]
      simp
      omega
    have hb8 : bl z ≤ 8 := bl_le.2 (by omega)
    rw [hw, hT2, ok_of (inB_true (by omega) (by omega)), hT3 z hz, wrap64 (by omega) (by omega), iadd_eq (by omega) (by omega)]
    congr 2
    omega
  have g1 := hz_lt (k := 32) (x := x) (by simp only [Nat.reducePow, Nat.reduceAdd]; omega)
  have g2 := hz_lt (k := 16) g1
  have g3 := hz_lt (k := 8) g2
  have b1 := hm_hz 32 x
  have b2 := hm_hz 16 (hz 32 x)
  have b3 := hm_hz 8 (hz 16 (hz 32 x))
  have l1 := hm_le 32 x
  have l2 := hm_le 16 (hz 32 x)
  have l3 := hm_le 8 (hz 16 (hz 32 x))
  have sh : ∀ (k z : Nat), k ≤ 64 → ishr .u64 (z : Int) (k : Int) = ((z / 2 ^ k : Nat) : Int) := fun k z hk => by
    rw [ishru_eq hk, Int.natCast_ediv]; norm_cast
  refine (jb_of (p := ((((hz 32 x : Nat) : Int), (((hm 32 x : Nat) : Int), ())), ())) ?_ _).trans ?_
  · unfold hz hm
    simp only [Nat.reducePow, ile_iff]
    by_cases h : 4294967296 ≤ x
    · simp only [show (4294967296 : Int) ≤ (x : Int) by omega, decide_true, cond_true, h, if_true]
      have := sh 32 x (by decide)
      simp only [Nat.reducePow] at this
      rw [← this]; rfl
    · simp only [show ¬ (4294967296 : Int) ≤ (x : Int) by omega, decide_false, cond_false, h, if_false]; rfl
  simp only []
  generalize hz 32 x = y1 at *
  generalize hm 32 x = m1 at *
  refine (jb_of (p := ((((hz 16 y1 : Nat) : Int), (((m1 + hm 16 y1 : Nat) : Int), ())), ())) ?_ _).trans ?_
  · unfold hz hm
    simp only [Nat.reducePow, ile_iff]
    by_cases h : 65536 ≤ y1
    · simp only [show (65536 : Int) ≤ (y1 : Int) by omega, decide_true, cond_true, h, if_true]
      have := sh 16 y1 (by decide)
      simp only [Nat.reducePow] at this
      rw [← this, iadd_eq (by omega) (by omega)]; rfl
    · simp only [show ¬ (65536 : Int) ≤ (y1 : Int) by omega, decide_false, cond_false, h, if_false]; rfl
  simp only []
  generalize hz 16 y1 = y2 at *
  generalize hm 16 y1 = m2 at *
  refine (jb_of (p := ((((m1 + m2 + hm 8 y2 : Nat) : Int), (((hz 8 y2 : Nat) : Int), ())), ())) ?_ _).trans ?_
  · unfold hz hm
    simp only [Nat.reducePow, ile_iff]
    by_cases h : 256 ≤ y2
    · simp only [show (256 : Int) ≤ (y2 : Int) by omega, decide_true, cond_true, h, if_true]
      have := sh 8 y2 (by decide)
      simp only [Nat.reducePow] at this
      rw [← this, iadd_eq (by omega) (by omega)]; rfl
    · simp only [show ¬ (256 : Int) ≤ (y2 : Int) by omega, decide_false, cond_false, h, if_false]; rfl
  simp only []
  exact fin _ _ g3 (by omega) (by omega)
theorem k_Len : Ev fun n => ∀ x : Nat, x < 18446744073709551616 → c_math_bits_Len ((C B).run n) (x : Int) = some ((bl x : Int), ()) := by
  refine (k_Len64 (B := B)).succ fun n hn h64 x hx => ?_
  rw [run_succ, e_math_bits_Len]
  unfold p_math_bits_Len
  rw [h64 x hx]; rfl
theorem k_in : Ev fun n => ∀ a b c : Int, c_i_in ((C B).run n) a b c = some (decide (b ≤ a ∧ a ≤ c), ()) := by
  refine Ev.triv.succ fun n hn _ a b c => ?_
  rw [run_succ, e_i_in]
  unfold p_i_in
  simp only [jb_cond, jb_inr, ile_iff]
  by_cases h : b ≤ a <;> simp [h]
theorem k_NatOk : Ev fun n => ∀ l : List Int, c_i_NatOk ((C B).run n) l = some (nok l, ()) := by
  have k1 : Ev fun n => ∀ a : Int, c_i_NatOk_1 ((C B).run n) a = some (!(decide (0 ≤ a) && decide (a < 65536)), ()) := by
    refine (k_in (B := B)).succ fun n hn hin a => ?_
    rw [run_succ, e_i_NatOk_1]
    unfold p_i_NatOk_1
    rw [hin]
    simp only [Option.bind_some]
    congr 3
    rw [Bool.eq_iff_iff]
    simp only [Bool.and_eq_true, decide_eq_true_eq]
    omega
  have k2 : Ev fun n => ∀ l : List Int, l.length ≤ 256 → ∃ r : Int × Unit, c_slices_IndexFunc_int_int'_i_NatOk_1 ((C B).run n) l = some r ∧ (decide (0 ≤ r.1) = !(l.all fun d => decide (0 ≤ d) && decide (d < 65536))) := by
    refine k1.succ fun n hn h1 l hl => ?_
    rw [run_succ, e_slices_IndexFunc_int_int'_i_NatOk_1]
    unfold p_slices_IndexFunc_int_int'_i_NatOk_1
    simp only [len_eq]
    refine iter_ex (fun p => ∃ i : Nat, p = (((i : Int), ((l.length : Int), ((), (l, (0, ()))))), ()) ∧ i ≤ l.length ∧ (l.take i).all (fun d => decide (0 ≤ d) && decide (d < 65536)) = true) (fun p => l.length - p.1.1.toNat)
      (fun r : Int × Unit => decide (0 ≤ r.1) = !(l.all fun d => decide (0 ≤ d) && decide (d < 65536))) ?_ n _ (by simp only; omega) ⟨0, rfl, by omega, by simp⟩
    rintro rec _ ⟨i, rfl, hi, ha⟩ ih
    simp only [ilt_iff]
    by_cases hil : i < l.length
    · simp only [show (i : Int) < (l.length : Int) by omega, decide_true, cond_true]
      rw [ok_of (inB_true (by omega) (by omega)), Int.toNat_natCast, getD_at, h1]
      simp only [Option.bind_some]
      have hx : l[i]? = some (at_ l i) := by simp [at_, List.getD_eq_getElem?_getD, List.getElem?_eq_getElem hil]
      have hmem : at_ l i ∈ l := List.mem_of_getElem? hx
      cases hb : (decide (0 ≤ at_ l i) && decide (at_ l i < 65536))
      · have : l.all (fun d => decide (0 ≤ d) && decide (d < 65536)) = false := List.all_eq_false.2 ⟨_, hmem, by rw [hb]; simp⟩
        rw [this]
        exact ⟨((i : Int), ()), rfl, by simp⟩
      · simp only [Bool.not_true, cond_false]
        rw [iadd_eq (by omega) (by omega)]
        refine ih _ ⟨i + 1, by simp, by omega, ?_⟩ (by simp only; omega)
        rw [List.take_add_one, hx, List.all_append, ha]
        simpa using hb
    · have : i = l.length := by omega
      subst this
      simp only [show ¬ ((l.length : Nat) : Int) < (l.length : Int) by omega, decide_false, cond_false]
      rw [List.take_length] at ha
      exact ⟨_, rfl, by rw [ha]; rfl⟩
  have k3 : Ev fun n => ∀ l : List Int, l.length ≤ 256 → c_slices_ContainsFunc_int_int'_i_NatOk_1 ((C B).run n) l = some (!(l.all fun d => decide (0 ≤ d) && decide (d < 65536)), ()) := by
    refine k2.succ fun n hn h2 l hl => ?_
    rw [run_succ, e_slices_ContainsFunc_int_int'_i_NatOk_1]
    unfold p_slices_ContainsFunc_int_int'_i_NatOk_1
    obtain ⟨r, h3, h4⟩ := h2 l hl
    rw [h3]
    simp only [Option.bind_some, ile_iff, h4]
  refine k3.succ fun n hn h3 l => ?_
  rw [run_succ, e_i_NatOk]
  unfold p_i_NatOk
  simp only [jb_cond, jb_inr, ile_iff, len_eq]
  by_cases hl : l.length ≤ 256
  · simp only [show (l.length : Int) ≤ 256 by omega, decide_true, cond_true]
    have hl' := h3 l hl
    by_cases h0 : l = []
    · subst h0
      simp only [List.length_nil, show (((0 : Nat) : Int) == 0) = true from rfl, cond_true]
      rw [hl']
      simp [nok]
    · have hpos := List.length_pos_iff.2 h0
      have e1 : ((l.length : Int) == 0) = false := beq_eq_false_iff_ne.2 (by omega)
      simp only [e1, cond_false, jb_ok, jb_cond, jb_inr]
      rw [isub_eq (by omega) (by omega), ok_of (inB_true (by omega) (by omega)), show ((l.length : Int) - 1).toNat = l.length - 1 by omega, getD_at, hl']
      simp only [Option.bind_some, jb_inr, Bool.not_not]
      cases hb : (at_ l (l.length - 1) != 0)
      · simp [nok, h0]
        simp at hb
        omega
      · simp [nok, hl]
        simp at hb
        intro _
        exact .inr hb
  · simp only [show ¬ (l.length : Int) ≤ 256 by omega, decide_false, cond_false]
    simp [nok, hl]
end Go.Px.Seat

/- slices.Clone, bits.TrailingZeros64: what is asked of them. Seat ZD. -/
namespace Go.Px.Seat
open Go Pm
set_option linter.unusedVariables false
/-- slices.Clone, of lists that are not empty -/
noncomputable def cloneRun : Pay sg_slices_Clone_int_int.inl → Option (Pay sg_slices_Clone_int_int.outl) := fun q =>
  let l : List Int := q.1
  if l = [] ∨ 1099511627776 < l.length then none else some (l, ())
/-- how often 2 divides a number; no more than told -/
def ctz : Nat → Nat → Nat
  | 0, _ => 0
  | f + 1, x => if x % 2 = 1 then 0 else ctz f (x / 2) + 1
def tzRun : Pay sg_math_bits_TrailingZeros64.inl → Option (Pay sg_math_bits_TrailingZeros64.outl) := fun q =>
  let x : Int := q.1
  if 0 ≤ x ∧ x < 18446744073709551616 then some (((ctz 64 x.toNat : Nat) : Int), ()) else none
open Classical in
noncomputable def B0 : Run := fun f _ s => if f = 196 then (if h : s = sg_slices_Clone_int_int then h ▸ cloneRun else fun _ => none) else if f = 229 then (if h : s = sg_math_bits_TrailingZeros64 then h ▸ tzRun else fun _ => none) else fun _ => none
theorem B0_clone (key : List Nat) : B0 196 key sg_slices_Clone_int_int = cloneRun := by
  unfold B0
  rw [if_pos rfl, dif_pos rfl]
theorem B0_clone_no {key : List Nat} {s : Sig} (h : s ≠ sg_slices_Clone_int_int) : B0 196 key s = fun _ => none := by
  unfold B0
  rw [if_pos rfl, dif_neg h]
theorem B0_tz (key : List Nat) : B0 229 key sg_math_bits_TrailingZeros64 = tzRun := by
  unfold B0
  rw [if_neg (by decide), if_pos rfl, dif_pos rfl]
theorem B0_tz_no {key : List Nat} {s : Sig} (h : s ≠ sg_math_bits_TrailingZeros64) : B0 229 key s = fun _ => none := by
  unfold B0
  rw [if_neg (by decide), if_pos rfl, dif_neg h]
theorem k_tz : Ev fun n => ∀ x : Nat, x < 18446744073709551616 → c_math_bits_TrailingZeros64 ((C B0).run n) (x : Int) = some (((ctz 64 x : Nat) : Int), ()) := by
  refine Ev.triv.succ fun n hn _ x h => ?_
  have e1 : c_math_bits_TrailingZeros64 ((C B0).run (n + 1)) (x : Int) = tzRun ((x : Int), ()) := by
    rw [← B0_tz []]
    rfl
  rw [e1]
  unfold tzRun
  simp only
  rw [if_pos ⟨by omega, by omega⟩, Int.toNat_natCast]
  rfl
theorem k_Clone : Ev fun n => ∀ l : List Int, l ≠ [] → l.length ≤ 1099511627776 → c_slices_Clone_int_int ((C B0).run n) l = some (l, ()) := by
  refine Ev.triv.succ fun n hn _ l h1 h2 => ?_
  have e1 : c_slices_Clone_int_int ((C B0).run (n + 1)) l = cloneRun (l, ()) := by
    rw [← B0_clone []]
    rfl
  rw [e1]
  unfold cloneRun
  simp only
  rw [if_neg]
  · rfl
  · rintro (h | h)
    · exact h1 h
    · omega
end Go.Px.Seat

/- Numbers: the program's functions, part 3: clone, product, shift. -/
namespace Go.Px.Seat
open Go Pm
set_option linter.unusedVariables false

variable {B : Run}
theorem k_natMul : Ev fun n => ∀ x y : Nat, (dig x).length ≤ 1073741824 → (dig y).length ≤ 1073741824 → c_i_natMul ((C B).run n) (dig x) (dig y) = some (dig (x * y), ()) := by
  refine (k_trim (B := B)).succ fun n hn hTrim x y hx hy => ?_
  rw [run_succ, e_i_natMul]
  unfold p_i_natMul
  simp only [len_eq]
  generalize hLx : (dig x).length = Lx at *
  generalize hLy : (dig y).length = Ly at *
  rw [iadd_eq (x := (Lx : Int)) (by omega) (by omega), iadd_eq (by omega) (by omega), ok_of (mkOk_true (by omega) (by omega) (by omega)), show ((Lx : Int) + Ly + 1).toNat = Lx + Ly + 1 by omega]
  refine iter_const (fun p => ∃ (i : Nat) (o : List Int), p = (((i : Int), ((Lx : Int), (dig x, (dig y, ((), ((), ())))))), (o, ())) ∧ i ≤ Lx ∧ o.length = Lx + Ly + 1 ∧ Dg o ∧
      val o = ((x % 65536 ^ i * y : Nat) : Int) ∧ ∀ j, i + Ly ≤ j → at_ o j = 0) (fun p => Lx - p.1.1.toNat) _ ?_ n _ (by simp only; omega)
      ⟨0, _, rfl, by omega, by simp, Dg_replicate _, by rw [val_replicate_zero]; simp [Nat.mod_one], fun j _ => by
        simp only [at_, List.getD_eq_getElem?_getD, List.getElem?_replicate]
        split <;> rfl⟩
  rintro rec _ ⟨i, o, rfl, h1, h2, h3, h4, h5⟩ ih
  simp only [ilt_iff]
  by_cases hi : i < Lx
  · simp only [show (i : Int) < (Lx : Int) by omega, decide_true, cond_true, hLx, hLy, Int.toNat_natCast, getD_at, dig_at]
    rw [ok_of (inB_true (by omega) (by omega))]
    generalize hX : x / 65536 ^ i % 65536 = X at *
    have hX' : X < 65536 := by omega
    refine iter_const (fun p => ∃ (j c : Nat) (o : List Int), p = (((j : Int), ((Ly : Int), (dig y, ((), ((i : Int), ((X : Int), ((c : Int), (dig y, ((i : Int), ((Lx : Int), (dig x, ((), ())))))))))))), (o, ())) ∧ j ≤ Ly ∧ c < 65536 ∧ o.length = Lx + Ly + 1 ∧ Dg o ∧
        val o + (c : Int) * ((65536 ^ (i + j) : Nat) : Int) = ((x % 65536 ^ i * y + X * (y % 65536 ^ j) * 65536 ^ i : Nat) : Int) ∧ ∀ k, i + Ly ≤ k → at_ o k = 0) (fun p => Ly - p.1.1.toNat) _ ?_ n _ (by simp only; omega)
        ⟨0, 0, o, rfl, by omega, by omega, h2, h3, by rw [h4]; simp [Nat.mod_one], h5⟩
    rintro rec' _ ⟨j, c, o, rfl, g1, g2, g3, g4, g5, g6⟩ ih'
    simp only [ilt_iff, hLy]
    by_cases hj : j < Ly
    · simp only [show (j : Int) < (Ly : Int) by omega, decide_true, cond_true]
      rw [iadd_eq (x := (i : Int)) (by omega) (by omega), show ((i : Int) + j).toNat = i + j by omega, Int.toNat_natCast]
      simp only [getD_at, dig_at, g3]
      rw [ok_of (inB_true (by omega) (by omega)), ok_of (inB_true (by omega) (by omega)), ok_of (inB_true (by omega) (by omega))]
      obtain ⟨r1, r2⟩ := at_range g4 (i + j)
      obtain ⟨q, hq⟩ : ∃ q : Nat, at_ o (i + j) = q := ⟨(at_ o (i + j)).toNat, by omega⟩
      generalize hY : y / 65536 ^ j % 65536 = Y at *
      have hY' : Y < 65536 := by omega
      have hXY : X * Y ≤ 65535 * 65535 := Nat.mul_le_mul (by omega) (by omega)
      have hcast : (X : Int) * (Y : Int) = ((X * Y : Nat) : Int) := by rw [Int.natCast_mul]
      rw [hq, imul_eq (by rw [hcast]; omega) (by rw [hcast]; omega), hcast]
      rw [iadd_eq (x := (q : Int)) (by omega) (by omega), iadd_eq (x := (q : Int) + _) (by omega) (by omega), iand_base (by omega) (by omega), iadd_eq (by omega) (by omega)]
      have hsh : ∀ z : Int, ishr .i64 z 16 = z / 65536 := fun z => ishr_eq (k := 16) (by decide)
      rw [hsh]
      generalize hs : q + X * Y + c = s
      have hs' : (q : Int) + ((X * Y : Nat) : Int) + (c : Int) = (s : Int) := by omega
      have hs2 : s < 4294967296 := by omega
      rw [hs']
      refine ih' _ ⟨j + 1, s / 65536, o.set (i + j) (((s % 65536 : Nat)) : Int), ?_, by omega, by omega, by simp [g3], Dg_set g4 (by omega), ?_, fun k hk => ?_⟩ (by simp only; omega)
      · congr 2
      · rw [val_set _ _ _ (by omega), hq, mod_succ, hY]
        have h7 : ((65536 ^ (i + (j + 1)) : Nat) : Int) = 65536 * ((65536 ^ (i + j) : Nat) : Int) := by rw [← Nat.add_assoc, Nat.pow_succ, Nat.mul_comm]; omega
        have h8 : ((s / 65536 : Nat) : Int) * 65536 + ((s % 65536 : Nat) : Int) = (s : Int) := by omega
        have h9 : ((65536 ^ (i + j) : Nat) : Int) = ((65536 ^ i : Nat) : Int) * ((65536 ^ j : Nat) : Int) := by rw [← Int.natCast_mul, ← Nat.pow_add]
        rw [h7]
        rw [Int.natCast_mul] at hs'
        simp only [Int.natCast_add, Int.natCast_mul] at g5 ⊢
        rw [h9] at g5 ⊢
        generalize ((65536 ^ i : Nat) : Int) = W at *
        generalize ((65536 ^ j : Nat) : Int) = V at *
        generalize ((s / 65536 : Nat) : Int) = sd at *
        generalize ((s % 65536 : Nat) : Int) = sm at *
        grind
      · rw [at_set _ _ _ _ (by omega), if_neg (by omega)]
        exact g6 k hk
    · have hj : j = Ly := by omega
      subst hj
      simp only [show ¬ (j : Int) < (j : Int) by omega, decide_false, cond_false]
      rw [iadd_eq (x := (i : Int)) (y := (j : Int)) (by omega) (by omega), ok_of (inB_true (by omega) (by simp only [g3]; omega)), ok_of (inB_true (by omega) (by simp only [g3]; omega)), iadd_eq (x := (i : Int)) (by omega) (by omega), show ((i : Int) + (j : Int)).toNat = i + j by omega]
      rw [g6 _ (by omega), iadd_eq (by omega) (by omega), Int.zero_add]
      refine ih _ ⟨i + 1, o.set (i + j) (c : Int), by simp, by omega, by simp [g3], Dg_set g4 (by omega), ?_, fun k hk => ?_⟩ (by simp only; omega)
      · rw [val_set _ _ _ (by omega), g6 _ (by omega), mod_succ, hX]
        have hym : y % 65536 ^ j = y := Nat.mod_eq_of_lt (dig_len_le.1 (by omega))
        rw [hym] at g5
        simp only [Int.natCast_add, Int.natCast_mul] at g5 ⊢
        grind
      · rw [at_set _ _ _ _ (by omega), if_neg (by omega)]
        exact g6 k (by omega)
  · have hi : i = Lx := by omega
    subst hi
    simp only [show ¬ (i : Int) < (i : Int) by omega, decide_false, cond_false]
    rw [hTrim _ (by omega)]
    simp only [Option.bind_some]
    rw [strip_dig h3, h4]
    have hxm : x % 65536 ^ i = x := Nat.mod_eq_of_lt (dig_len_le.1 (by omega))
    rw [hxm, Int.toNat_natCast]
/-- a digit shifted up, in two parts -/
theorem shl_digit {s d : Nat} (hs : s < 16) (hd : d < 65536) : d * 2 ^ s < 4294967296 ∧ d * 2 ^ s % 65536 % 2 ^ s = 0 ∧ d * 2 ^ s / 65536 < 2 ^ s ∧ d * 2 ^ s % 65536 + 2 ^ s ≤ 65536 := by
  have : s = 0 ∨ s = 1 ∨ s = 2 ∨ s = 3 ∨ s = 4 ∨ s = 5 ∨ s = 6 ∨ s = 7 ∨ s = 8 ∨ s = 9 ∨ s = 10 ∨ s = 11 ∨ s = 12 ∨ s = 13 ∨ s = 14 ∨ s = 15 := by omega
  rcases this with h | h | h | h | h | h | h | h | h | h | h | h | h | h | h | h <;> subst h <;> simp only [Nat.reducePow] <;> omega
theorem shr_digit {s Y : Nat} (hs : s < 16) : Y / 2 ^ s % 65536 = Y % 65536 / 2 ^ s + (Y / 65536 % 65536 * 2 ^ (16 - s)) % 65536 ∧ Y % 65536 / 2 ^ s < 2 ^ (16 - s) ∧ (Y / 65536 % 65536 * 2 ^ (16 - s)) % 65536 % 2 ^ (16 - s) = 0 ∧
    Y / 65536 % 65536 * 2 ^ (16 - s) < 4294967296 := by
  have : s = 0 ∨ s = 1 ∨ s = 2 ∨ s = 3 ∨ s = 4 ∨ s = 5 ∨ s = 6 ∨ s = 7 ∨ s = 8 ∨ s = 9 ∨ s = 10 ∨ s = 11 ∨ s = 12 ∨ s = 13 ∨ s = 14 ∨ s = 15 := by omega
  rcases this with h | h | h | h | h | h | h | h | h | h | h | h | h | h | h | h <;> subst h <;> simp only [Nat.reducePow, Nat.reduceSub] <;> omega
theorem k_natShl : Ev fun n => ∀ x k : Nat, (dig x).length ≤ 268435456 → k ≤ 1073741824 → c_i_natShift ((C B).run n) (dig x) (k : Int) = some (dig (x * 2 ^ k), ()) := by
  refine (k_trim (B := B)).succ fun n hn hTrim x k hx hk => ?_
  rw [run_succ, e_i_natShift]
  unfold p_i_natShift
  simp only [len_eq, ilt_iff, show ¬ (k : Int) < 0 by omega, decide_false, cond_false]
  generalize hL : (dig x).length = L at *
  have hq : iquo .i64 (k : Int) 16 = ((k / 16 : Nat) : Int) := by rw [iquo_eq (by omega) (by omega) (by omega)]; omega
  have hr : irem .i64 (k : Int) 16 = ((k % 16 : Nat) : Int) := by rw [irem_eq (by omega)]; omega
  have hx2 : x * 2 ^ k = x * 2 ^ (k % 16) * 65536 ^ (k / 16) := by rw [pow_base, Nat.mul_assoc, ← Nat.pow_add, show k % 16 + 16 * (k / 16) = k by omega]
  rw [hx2, hq]
  have hs16 : k % 16 < 16 := by omega
  have hq2 : k / 16 ≤ 67108864 := by omega
  rw [iadd_eq (x := ((k / 16 : Nat) : Int)) (by omega) (by omega), iadd_eq (by omega) (by omega), ok_of (mkOk_true (by omega) (by omega) (by omega)), show (((k / 16 : Nat) : Int) + L + 1).toNat = k / 16 + L + 1 by omega]
  refine iter_const (fun p => ∃ (i : Nat) (o : List Int), p = (((i : Int), ((L : Int), (dig x, ((k : Int), ((), ((), ())))))), (o, ())) ∧ i ≤ L ∧ o.length = k / 16 + L + 1 ∧ Dg o ∧
      val o = ((x % 65536 ^ i * 2 ^ (k % 16) * 65536 ^ (k / 16) : Nat) : Int) ∧ at_ o (k / 16 + i) < 2 ^ (k % 16) ∧ ∀ j, k / 16 + i < j → at_ o j = 0) (fun p => L - p.1.1.toNat) _ ?_ n _ (by simp only; omega)
      ⟨0, List.replicate (k / 16 + L + 1) 0, rfl, by omega, by simp, Dg_replicate _, by rw [val_replicate_zero]; simp [Nat.mod_one], ?_, fun j _ => by
        simp only [at_, List.getD_eq_getElem?_getD, List.getElem?_replicate]
        split <;> rfl⟩
  · generalize k / 16 = q at *
    generalize k % 16 = s at *
    rintro rec _ ⟨i, o, rfl, h1, h2, h3, h4, h5, h6⟩ ih
    by_cases hi : i < L
    · simp only [show (i : Int) < (L : Int) by omega, decide_true, cond_true, hL, Int.toNat_natCast, getD_at, dig_at, hq, hr, h2]
      generalize hD : x / 65536 ^ i % 65536 = D at *
      have hD' : D < 65536 := by omega
      obtain ⟨d1, d2, d3, d4⟩ := shl_digit hs16 hD'
      have hsh0 : ishl .i64 (D : Int) (s : Int) = ((D * 2 ^ s : Nat) : Int) := by
        have : (D : Int) * 2 ^ s = ((D * 2 ^ s : Nat) : Int) := by simp
        rw [ishl_eq (by omega) (by rw [this]; omega) (by rw [this]; omega), this]
      have hsh1 : ∀ z : Int, ishr .i64 z 16 = z / 65536 := fun z => ishr_eq (k := 16) (by decide)
      generalize hN : D * 2 ^ s = N at *
      obtain ⟨r1, r2⟩ := at_range h3 (q + i)
      obtain ⟨v, hv⟩ : ∃ v : Nat, at_ o (q + i) = v := ⟨(at_ o (q + i)).toNat, by omega⟩
      rw [hv] at h5
      have hv2 : v < 2 ^ s := by exact_mod_cast h5
      have hs2 : (2 : Nat) ^ s ≤ 65536 := by
        have : (2 : Nat) ^ s ≤ 2 ^ 16 := Nat.pow_le_pow_right (by decide) (by omega)
        exact this
      have hor : v ||| (N % 65536) = v + N % 65536 := or_add hv2 d2
      rw [ok_of (inB_true (by omega) (by omega)), ok_of (by simp), iadd_eq (x := (q : Int)) (by omega) (by omega), show ((q : Int) + i).toNat = q + i by omega, hv, hsh0, hsh1, iand_base (by omega) (by omega), show (N : Int) % 65536 = ((N % 65536 : Nat) : Int) by omega, ior_eq (by omega) (by omega), hor]
      rw [ok_of (inB_true (by omega) (by omega)), ok_of (inB_true (by omega) (by omega)), iadd_eq (x := (q : Int) + i) (by omega) (by omega), show ((q : Int) + i + 1).toNat = q + i + 1 by omega, ok_of (inB_true (by omega) (by simp only [List.length_set, h2]; omega)), iadd_eq (by omega) (by omega)]
      refine ih _ ⟨i + 1, (o.set (q + i) ((v + N % 65536 : Nat) : Int)).set (q + i + 1) (((N / 65536 : Nat) : Int)), ?_, by omega, by simp [h2], Dg_set (Dg_set h3 (by omega)) (by omega), ?_, ?_, fun j hj => ?_⟩ (by simp only; omega)
      · congr 2
      · have hz : at_ (o.set (q + i) ((v + N % 65536 : Nat) : Int)) (q + i + 1) = 0 := by rw [at_set _ _ _ _ (by omega), if_neg (by omega)]; exact h6 _ (by omega)
        rw [val_set _ _ _ (by simp [h2]; omega), hz, val_set _ _ _ (by omega), hv, h4, mod_succ, hD]
        have h7 : ((65536 ^ (q + i + 1) : Nat) : Int) = 65536 * ((65536 ^ (q + i) : Nat) : Int) := by rw [Nat.pow_succ, Nat.mul_comm]; omega
        have h8 : ((N / 65536 : Nat) : Int) * 65536 + ((N % 65536 : Nat) : Int) = (N : Int) := by omega
        have h9 : ((65536 ^ (q + i) : Nat) : Int) = ((65536 ^ q : Nat) : Int) * ((65536 ^ i : Nat) : Int) := by rw [← Int.natCast_mul, ← Nat.pow_add]
        have h10 : (N : Int) = (D : Int) * ((2 ^ s : Nat) : Int) := by rw [← hN, Int.natCast_mul]
        rw [h7, h9]
        simp only [Int.natCast_add, Int.natCast_mul]
        generalize ((65536 ^ i : Nat) : Int) = W at *
        generalize ((65536 ^ q : Nat) : Int) = V at *
        generalize ((2 ^ s : Nat) : Int) = P at *
        generalize ((N / 65536 : Nat) : Int) = sd at *
        generalize ((N % 65536 : Nat) : Int) = sm at *
        grind
      · rw [← Nat.add_assoc, at_set _ _ _ _ (by simp [h2]; omega), if_pos rfl]
        exact_mod_cast d3
      · rw [at_set _ _ _ _ (by simp [h2]; omega), if_neg (by omega), at_set _ _ _ _ (by omega), if_neg (by omega)]
        exact h6 j (by omega)
    · have hi : i = L := by omega
      subst hi
      simp only [show ¬ (i : Int) < (i : Int) by omega, decide_false, cond_false]
      rw [hTrim _ (by omega)]
      simp only [Option.bind_some]
      have hxm : x % 65536 ^ i = x := Nat.mod_eq_of_lt (dig_len_le.1 (by omega))
      rw [strip_dig h3, h4, hxm, Int.toNat_natCast]
  · have : at_ (List.replicate (k / 16 + L + 1) 0) (k / 16 + 0) = 0 := by
      simp only [at_, List.getD_eq_getElem?_getD, List.getElem?_replicate]
      split <;> rfl
    rw [this]
    exact Int.pow_pos (by decide)
theorem k_natShr : Ev fun n => ∀ x m : Nat, (dig x).length ≤ 268435456 → 0 < m → m ≤ 1073741824 → c_i_natShift ((C B0).run n) (dig x) (-(m : Int)) = some (dig (x / 2 ^ m), ()) := by
  refine ((k_trim (B := B0)).and k_Clone).succ fun n hn ⟨hTrim, hClone⟩ x m hx hm0 hm => ?_
  rw [run_succ, e_i_natShift]
  unfold p_i_natShift
  have hneg : ineg .i64 (-(m : Int)) = (m : Int) := by rw [ineg_eq (by omega) (by omega)]; omega
  simp only [len_eq, ilt_iff, show -(m : Int) < 0 by omega, decide_true, cond_true, hneg, ile_iff]
  have hq : iquo .i64 (m : Int) 16 = ((m / 16 : Nat) : Int) := by rw [iquo_eq (by omega) (by omega) (by omega)]; omega
  have hr : irem .i64 (m : Int) 16 = ((m % 16 : Nat) : Int) := by rw [irem_eq (by omega)]; omega
  rw [hq, hr]
  have hx2 : x / 2 ^ m = x / 65536 ^ (m / 16) / 2 ^ (m % 16) := by rw [pow_base, Nat.div_div_eq_div_mul, ← Nat.pow_add, show 16 * (m / 16) + m % 16 = m by omega]
  rw [hx2]
  have hs16 : m % 16 < 16 := by omega
  generalize m / 16 = q at *
  generalize m % 16 = s at *
  by_cases hqL : (dig x).length ≤ q
  · simp only [show ((dig x).length : Int) ≤ (q : Int) by omega, decide_true, cond_true]
    rw [Nat.div_eq_of_lt (dig_len_le.1 hqL), Nat.zero_div, dig_zero]
  · simp only [show ¬ ((dig x).length : Int) ≤ (q : Int) by omega, decide_false, cond_false]
    rw [ok_of (sliceOk_true (by omega) (by omega) (by omega)), Int.toNat_natCast, Int.toNat_natCast, List.take_length, dig_drop]
    have hyl : (dig (x / 65536 ^ q)).length = (dig x).length - q := by rw [← dig_drop, List.length_drop]
    have hy : ∀ j, x / 65536 ^ (q + j) = x / 65536 ^ q / 65536 ^ j := fun j => by rw [Nat.div_div_eq_div_mul, ← Nat.pow_add]
    have hat : ∀ j, at_ (dig x) (q + j) = at_ (dig (x / 65536 ^ q)) j := fun j => by rw [dig_at, dig_at, hy]
    generalize hyy : x / 65536 ^ q = y at *
    generalize hL : (dig y).length = L at *
    have hy0 : dig y ≠ [] := fun h => by rw [h] at hL; simp at hL; omega
    rw [hClone _ hy0 (by omega)]
    simp only [Option.bind_some, hL]
    refine iter_const (fun p => ∃ (i : Nat) (o : List Int), p = (((i : Int), ((L : Int), ((), ((s : Int), ((q : Int), (dig x, (-(m : Int), ((), ())))))))), (o, ())) ∧ i ≤ L ∧ o.length = L ∧
        ∀ j, at_ o j = if j < i then ((y / 2 ^ s / 65536 ^ j % 65536 : Nat) : Int) else at_ (dig y) j) (fun p => L - p.1.1.toNat) _ ?_ n _ (by simp only; omega) ⟨0, dig y, rfl, by omega, hL, fun j => by rw [if_neg (by omega)]⟩
    rintro rec _ ⟨i, o, rfl, h1, h2, h3⟩ ih
    by_cases hi : i < L
    · simp only [show (i : Int) < (L : Int) by omega, decide_true, cond_true, jb_ok, jb_cond, jb_inr, Int.toNat_natCast, getD_at, h2, List.length_set]
      have hoi : at_ o i = ((y / 65536 ^ i % 65536 : Nat) : Int) := by rw [h3, if_neg (by omega), dig_at]
      rw [ok_of (inB_true (by omega) (by omega)), ok_of (by simp), ok_of (inB_true (by omega) (by omega)), hoi, ishr_eq (by omega), iadd_eq (x := (q : Int)) (by omega) (by omega), iadd_eq (x := (q : Int) + i) (by omega) (by omega)]
      obtain ⟨d1, d2, d3, d4⟩ := shr_digit (s := s) (Y := y / 65536 ^ i) hs16
      have hzi : y / 2 ^ s / 65536 ^ i % 65536 = y / 65536 ^ i / 2 ^ s % 65536 := by rw [Nat.div_div_eq_div_mul, Nat.div_div_eq_div_mul, Nat.mul_comm]
      have hnx : y / 65536 ^ i / 65536 % 65536 = y / 65536 ^ (i + 1) % 65536 := by rw [Nat.div_div_eq_div_mul, Nat.pow_succ]
      rw [hnx] at d1 d3 d4
      have hYs : ((y / 65536 ^ i % 65536 : Nat) : Int) / 2 ^ s = ((y / 65536 ^ i % 65536 / 2 ^ s : Nat) : Int) := by
        rw [Int.natCast_ediv]; simp
      rw [hYs]
      have hb1 : y / 65536 ^ i % 65536 / 2 ^ s < 65536 := Nat.lt_of_le_of_lt (Nat.div_le_self ..) (Nat.mod_lt _ (by decide))
      have fin : ∀ (o' : List Int) (v : Nat), v = y / 2 ^ s / 65536 ^ i % 65536 → (∀ j, at_ o' j = if j = i then (v : Int) else at_ o j) → o'.length = L →
          rec (((iadd .i64 (i : Int) 1), ((L : Int), ((), ((s : Int), ((q : Int), (dig x, (-(m : Int), ((), ())))))))), (o', ())) = some (dig (y / 2 ^ s), ()) := by
        intro o' v hv ho hl
        rw [iadd_eq (by omega) (by omega)]
        refine ih _ ⟨i + 1, o', by simp, by omega, hl, fun j => ?_⟩ (by simp only; omega)
        rw [ho]
        by_cases hj : j = i
        · subst hj
          rw [if_pos rfl, if_pos (by omega), hv]
        · rw [if_neg hj, h3]
          by_cases hj2 : j < i
          · rw [if_pos hj2, if_pos (by omega)]
          · rw [if_neg hj2, if_neg (by omega)]
      by_cases hlast : q + i + 1 < (dig x).length
      · simp only [show (q : Int) + i + 1 < ((dig x).length : Int) by omega, decide_true, cond_true]
        have hnxt : at_ (dig x) (q + i + 1) = ((y / 65536 ^ (i + 1) % 65536 : Nat) : Int) := by
          have := hat (i + 1)
          rw [← Nat.add_assoc] at this
          rw [this, dig_at]
        have hs0 : at_ (o.set i ((y / 65536 ^ i % 65536 / 2 ^ s : Nat) : Int)) i = ((y / 65536 ^ i % 65536 / 2 ^ s : Nat) : Int) := by rw [at_set _ _ _ _ (by omega), if_pos rfl]
        rw [show ((q : Int) + i + 1).toNat = q + i + 1 by omega, hnxt, hs0, isub_eq (by omega) (by omega), show (16 : Int) - (s : Int) = ((16 - s : Nat) : Int) by omega]
        have hcast : ((y / 65536 ^ (i + 1) % 65536 : Nat) : Int) * 2 ^ (16 - s) = ((y / 65536 ^ (i + 1) % 65536 * 2 ^ (16 - s) : Nat) : Int) := by simp
        generalize hA : y / 65536 ^ i % 65536 / 2 ^ s = A at *
        generalize hE : y / 65536 ^ (i + 1) % 65536 = E at *
        generalize hF : E * 2 ^ (16 - s) = F at *
        have hor : A ||| (F % 65536) = A + F % 65536 := or_add d2 d3
        rw [ok_of (inB_true (by omega) (by omega)), ok_of (inB_true (by omega) (by omega)), ok_of (by simp), ok_of (inB_true (by omega) (by omega)), ishl_eq (by omega) (by rw [hcast]; omega) (by rw [hcast]; omega), hcast, iand_base (by omega) (by omega), show (F : Int) % 65536 = ((F % 65536 : Nat) : Int) by omega, ior_eq (by omega) (by omega), hor]
        refine fin _ (A + F % 65536) (by rw [hzi, d1]) (fun j => ?_) (by simp [h2])
        rw [at_set _ _ _ _ (by simp [h2]; omega)]
        by_cases hj : j = i
        · rw [if_pos hj.symm, if_pos hj]
        · rw [if_neg (fun h => hj h.symm), if_neg hj, at_set _ _ _ _ (by omega), if_neg (fun h => hj h.symm)]
      · simp only [show ¬ (q : Int) + i + 1 < ((dig x).length : Int) by omega, decide_false, cond_false]
        have hz : y / 65536 ^ (i + 1) = 0 := Nat.div_eq_of_lt (dig_len_le.1 (by omega))
        refine fin _ (y / 65536 ^ i % 65536 / 2 ^ s) (by rw [hzi, d1, hz]; simp) (fun j => ?_) (by simp [h2])
        rw [at_set _ _ _ _ (by omega)]
        by_cases hj : j = i
        · rw [if_pos hj.symm, if_pos hj]
        · rw [if_neg (fun h => hj h.symm), if_neg hj]
    · have hi : i = L := by omega
      subst hi
      simp only [show ¬ (i : Int) < (i : Int) by omega, decide_false, cond_false]
      rw [hTrim _ (by omega)]
      simp only [Option.bind_some]
      have hall : ∀ j, j < o.length → at_ o j = ((y / 2 ^ s / 65536 ^ j % 65536 : Nat) : Int) := fun j hj => by rw [h3, if_pos (by omega)]
      rw [strip_dig (Dg_of_at hall), val_of_at hall, h2, Int.toNat_natCast, Nat.mod_eq_of_lt]
      exact Nat.lt_of_le_of_lt (Nat.div_le_self ..) (dig_len_le.1 (by omega))
end Go.Px.Seat
