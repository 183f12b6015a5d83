/- Own texts, part M4: PmO PmP PmQ PmR PmS PmSf PqA PqB PtO PqC PmY. -/
import Derived.Test.YtbdlklncblklnaaGreatDoorM3
import Derived.Test.YtbdlklncblklnaaGreatDoorM2
set_option linter.unusedVariables false

/- Values of floats: the reference's. -/
namespace Pm
theorem mk_lt2 {a b : Int} {q1 q2 : Nat} (h1 : q1 ≠ 0) (h2 : q2 ≠ 0) : mkRat a q1 < mkRat b q2 ↔ a * q2 < b * q1 := by
  rw [← Rat.mkRat_mul_right (n := a) (d := q1) h2, ← Rat.mkRat_mul_right (n := b) (d := q2) h1, Nat.mul_comm q2 q1, mk_lt (Nat.mul_ne_zero h1 h2)]
theorem cmpR_mk {a b : Int} {q1 q2 : Nat} (h1 : q1 ≠ 0) (h2 : q2 ≠ 0) : cmpR (mkRat a q1) (mkRat b q2) = if a * q2 < b * q1 then -1 else if b * q1 < a * q2 then 1 else 0 := by
  unfold cmpR
  simp only [mk_lt2 h1 h2, mk_lt2 h2 h1]
/-- a float's digits -/
def sz (w o : Int) : Nat := if o.natAbs / 2 ^ frw w = 0 then o.natAbs % 2 ^ frw w else o.natAbs % 2 ^ frw w + 2 ^ frw w
/-- and how far they are shifted from the least -/
def shf (w o : Int) : Nat := o.natAbs / 2 ^ frw w - 1
theorem sz_shf (w o : Int) : fN (frw w) o.natAbs = sz w o * 2 ^ shf w o := by
  unfold fN sz shf
  split
  · rename_i h
    rw [h]; simp
  · rfl
theorem frw_le (w : Int) : frw w ≤ 52 := by unfold frw; split <;> omega
theorem sz_lt (w o : Int) : sz w o < 9007199254740992 := by
  have h1 := frw_le w
  have h2 : 2 ^ frw w ≤ 2 ^ 52 := Nat.pow_le_pow_right (by decide) h1
  have h3 := Nat.mod_lt o.natAbs (show 0 < 2 ^ frw w from Nat.pow_pos (by decide))
  unfold sz
  simp only [Nat.reducePow] at h2
  split <;> omega
/-- finite floats -/
def fin (w o : Int) : Prop := wd w = true ∧ -top w < o ∧ o < top w
theorem shf_lt {w o : Int} (h : fin w o) : shf w o < 2046 := by
  obtain ⟨h1, h2, h3⟩ := h
  unfold shf
  have : o.natAbs / 2 ^ frw w < 2047 := by
    rw [Nat.div_lt_iff_lt_mul (Nat.pow_pos (by decide))]
    have hw := of_decide_eq_true h1
    rcases hw with hw | hw <;> subst hw <;> simp only [frw, top, if_true, if_false, show ¬ ((64 : Int) = 32) by omega, Nat.reducePow] at * <;> omega
  omega
theorem shf_sub {w o : Int} (h : fin w o) : shf w o ≤ lst w + 971 := by
  obtain ⟨h1, h2, h3⟩ := h
  have hw := of_decide_eq_true h1
  rcases hw with hw | hw
  · subst hw
    have : o.natAbs / 2 ^ 23 < 255 := by
      rw [Nat.div_lt_iff_lt_mul (Nat.pow_pos (by decide))]
      simp only [top, if_true] at *
      omega
    simp only [shf, frw, lst, if_true]
    omega
  · subst hw
    have : o.natAbs / 2 ^ 52 < 2047 := by
      rw [Nat.div_lt_iff_lt_mul (Nat.pow_pos (by decide))]
      simp only [top, show ¬ ((64 : Int) = 32) by omega, if_false, if_true] at *
      omega
    simp only [shf, frw, lst, show ¬ ((64 : Int) = 32) by omega, if_false]
    omega
theorem fI_sg (w o : Int) : fI w o = sg (decide (o < 0)) (sz w o * 2 ^ shf w o) := by
  unfold fI
  rw [sz_shf]
  by_cases h : o < 0
  · rw [if_pos h, decide_eq_true h]; rfl
  · rw [if_neg h, decide_eq_false h]; rfl
theorem dig_len_pow (k : Nat) : (dig (2 ^ k)).length ≤ k / 16 + 1 := by
  rw [dig_len_le, pow_base]
  exact Nat.pow_lt_pow_right (by decide) (by omega)
end Pm
namespace Go.Px.Seat
open Go Pm
set_option linter.unusedVariables false
variable {B : Run}
theorem k_sFrac : Ev fun n => ∀ w : Int, c_s_l1Frac ((C B).run n) w = some ((frw w : Int), ()) := by
  refine Ev.triv.succ fun n hn _ w => ?_
  rw [run_succ, e_s_l1Frac]
  unfold p_s_l1Frac frw
  by_cases h : w = 32
  · subst h; rfl
  · rw [beq_f h, cond_false, if_neg h]; rfl
theorem k_sLeast : Ev fun n => ∀ w : Int, c_s_l1Least ((C B).run n) w = some (-(lst w : Int), ()) := by
  refine Ev.triv.succ fun n hn _ w => ?_
  rw [run_succ, e_s_l1Least]
  unfold p_s_l1Least lst
  by_cases h : w = 32
  · subst h; rfl
  · rw [beq_f h, cond_false, if_neg h]; rfl
theorem shl_one (k : Nat) (h : k ≤ 62) : ishl .i64 1 (k : Int) = ((2 ^ k : Nat) : Int) := by
  have h62 : (2 : Nat) ^ k ≤ 2 ^ 62 := Nat.pow_le_pow_right (by decide) h
  have e : (1 : Int) * 2 ^ k = ((2 ^ k : Nat) : Int) := by simp
  simp only [Nat.reducePow] at h62
  generalize (2 ^ k : Nat) = p at *
  rw [ishl_eq (by omega) (by rw [e]; omega) (by rw [e]; omega), e]
theorem k_sPart : Ev fun n => ∀ w o : Int, fin w o → c_s_BitPartOf ((C B).run n) w o = some (decide (o < 0), ((sz w o : Int), ((-(lst w : Int) + (shf w o : Int)), (true, ())))) := by
  refine ((k_sBitOk (B := B)).and ((k_sTop' (B := B)).and ((k_sLeast (B := B)).and (k_sFrac (B := B))))).succ fun n hn ⟨hB, hT, hL, hF⟩ w o hf => ?_
  rw [run_succ, e_s_BitPartOf]
  unfold p_s_BitPartOf
  obtain ⟨h1, h2, h3⟩ := hf
  have hb : bok w o = true := bok_iff.2 ⟨h1, by omega, by omega⟩
  have htn := top_nonneg w
  rw [hB, hb, hT]
  simp only [Option.bind_some, Bool.not_true, cond_false, beq_f (show ¬ o = top w by omega), ineg_top, beq_f (show ¬ o = -top w by omega), jb_inr]
  rw [hL]
  simp only [Option.bind_some, ilt_iff]
  refine (jb_of (p := ((w, ((o.natAbs : Int), ((), ((), (false, ()))))), ((decide (o < 0), (0, (-(lst w : Int), ()))), ((false, (0, (0, ()))), ())))) ?_ _).trans ?_
  · by_cases h : o < 0
    · simp only [h, decide_true, cond_true]
      rw [ineg_eq (by omega) (by omega), show -o = (o.natAbs : Int) by omega]
    · simp only [h, decide_false, cond_false]
      rw [show o = (o.natAbs : Int) by omega]
      rfl
  simp only []
  rw [hF]
  have hfl := frw_le w
  simp only [Option.bind_some]
  rw [wrapu64 (by omega) (by omega), shl_one _ (by omega), ok_of (by simp)]
  have hU : 0 < 2 ^ frw w := Nat.pow_pos (by decide)
  have hU2 : 2 ^ frw w ≤ 2 ^ 52 := Nat.pow_le_pow_right (by decide) hfl
  simp only [Nat.reducePow] at hU2
  unfold sz shf
  generalize hUU : 2 ^ frw w = U at *
  rw [ok_of (nz (by omega)), ok_of (nz (by omega)), iquo_eq (by omega) (by omega) (by omega), irem_eq (by omega)]
  have hm : o.natAbs % U < U := Nat.mod_lt _ hU
  have hll : lst w ≤ 1074 := by unfold lst; split <;> omega
  have e1 : (o.natAbs : Int) / (U : Int) = ((o.natAbs / U : Nat) : Int) := by norm_cast
  have e2 : (o.natAbs : Int) % (U : Int) = ((o.natAbs % U : Nat) : Int) := by norm_cast
  rw [e1, e2]
  have hdl : o.natAbs / U ≤ o.natAbs := Nat.div_le_self ..
  generalize o.natAbs / U = d at *
  generalize o.natAbs % U = r at *
  by_cases hd : d = 0
  · subst hd
    simp only [show ¬ (0 : Int) < ((0 : Nat) : Int) by omega, decide_false, cond_false, jb_inr, if_true]
    rw [wrapu64 (by omega) (by omega)]
    simp
  · simp only [show (0 : Int) < (d : Int) by omega, decide_true, cond_true, jb_inr, hd, if_false]
    rw [wrapu64 (x := (r : Int)) (by omega) (by omega), wrapu64 (x := (U : Int)) (by omega) (by omega), iadd, wrapu64 (by omega) (by omega), iadd_eq (by omega) (by omega), isub_eq (by omega) (by omega)]
    have e3 : (r : Int) + (U : Int) = ((r + U : Nat) : Int) := by omega
    have e4 : -(lst w : Int) + (d : Int) - 1 = -(lst w : Int) + ((d - 1 : Nat) : Int) := by omega
    rw [e3, e4]
theorem k_sPartNo : Ev fun n => ∀ w o : Int, ¬ fin w o → c_s_BitPartOf ((C B).run n) w o = some (false, (0, (0, (false, ())))) := by
  refine ((k_sBitOk (B := B)).and (k_sTop' (B := B))).succ fun n hn ⟨hB, hT⟩ w o hf => ?_
  rw [run_succ, e_s_BitPartOf]
  unfold p_s_BitPartOf
  rw [hB, hT]
  simp only [Option.bind_some, ineg_top]
  cases hb : bok w o
  · simp
  · obtain ⟨h1, h2, h3⟩ := bok_iff.1 hb
    simp only [Bool.not_true, cond_false]
    by_cases h4 : o = top w
    · have : (o == top w) = true := by simpa using h4
      simp [this]
    · rw [beq_f h4]
      have h5 : o = -top w := by
        by_cases h5 : o = -top w
        · exact h5
        · exact absurd ⟨h1, by omega, by omega⟩ hf
      have : (o == -top w) = true := by simpa using h5
      simp [this]
theorem k_sOfF : Ev fun n => ∀ w o : Int, fin w o → ∃ p q : Nat, c_s_l8Of ((C B).run n) w o = some (decide (o < 0), (dig p, (dig q, ()))) ∧ q ≠ 0 ∧ mkRat (sg (decide (o < 0)) p) q = fv w o ∧ (dig p).length ≤ 128 ∧ (dig q).length ≤ 128 ∧ (p = 0 ↔ o = 0) := by
  refine ((k_sPart (B := B)).and ((k_sNatOf (B := B)).and ((k_sPow2 (B := B)).and (k_sMul (B := B))))).succ fun n hn ⟨hP, hO, hP2, hM⟩ w o hf => ?_
  rw [run_succ, e_s_l8Of]
  unfold p_s_l8Of
  rw [hP w o hf]
  have hs := sz_lt w o
  have hsh := shf_lt hf
  have hsh2 := shf_sub hf
  have hll : lst w ≤ 1074 := by unfold lst; split <;> omega
  have hval : fI w o = sg (decide (o < 0)) (sz w o * 2 ^ shf w o) := fI_sg w o
  have hz : sz w o = 0 ↔ o = 0 := by
    have h1 := @fI_lt w o 0
    have h2 := @fI_lt w 0 o
    have h0 : fI w 0 = 0 := by simp [fI, fN_zero]
    rw [h0, hval] at h1 h2
    have hp : 2 ^ shf w o ≠ 0 := pow2_ne _
    constructor
    · intro h
      rw [h, Nat.zero_mul, sg_zero] at h1 h2
      omega
    · intro h
      have h00 : fI w o = 0 := by rw [h, h0]
      rw [h00] at hval
      have : sz w o * 2 ^ shf w o = 0 := by
        have := congrArg Int.natAbs hval
        rw [sg_natAbs] at this
        simpa using this.symm
      rcases Nat.mul_eq_zero.1 this with h3 | h3
      · exact h3
      · exact absurd h3 hp
  simp only [Option.bind_some]
  rw [hO _ (by omega)]
  simp only [Option.bind_some, ile_iff]
  have hszl : (dig (sz w o)).length ≤ 4 := dig_len_le.2 (by omega)
  by_cases hp : lst w ≤ shf w o
  · obtain ⟨k, hk⟩ : ∃ k, shf w o = lst w + k := ⟨shf w o - lst w, by omega⟩
    have e1 : -(lst w : Int) + (shf w o : Int) = (k : Int) := by omega
    rw [e1]
    simp only [show (0 : Int) ≤ (k : Int) by omega, decide_true, cond_true]
    rw [hP2 k (by omega)]
    have hkl : (dig (2 ^ k)).length ≤ 61 := Nat.le_trans (dig_len_pow k) (by omega)
    simp only [Option.bind_some]
    rw [hM _ _ (by omega) (by omega)]
    simp only [Option.bind_some, jb_inr]
    have hone : [(1 : Int)] = dig 1 := (dig_of_lt (d := 1) (by omega) (by omega)).symm
    rw [hone]
    refine ⟨sz w o * 2 ^ k, 1, rfl, by omega, ?_, ?_, by rw [dig_of_lt (by omega) (by omega)]; simp, ?_⟩
    · rw [fv, hval, hk, Nat.pow_add, Nat.mul_left_comm]
      have h2 : sg (decide (o < 0)) (2 ^ lst w * (sz w o * 2 ^ k)) = ((2 ^ lst w : Nat) : Int) * sg (decide (o < 0)) (sz w o * 2 ^ k) := by
        cases decide (o < 0)
        · simp only [sg, Bool.false_eq_true, if_false]; rw [Int.natCast_mul]
        · simp only [sg, if_true]; rw [Int.natCast_mul, Int.mul_neg]
      rw [h2, ← Rat.mkRat_mul_left (n := sg (decide (o < 0)) (sz w o * 2 ^ k)) (d := 1) (pow2_ne (lst w)), Nat.mul_one]
    · have := len_dig_mul (sz w o) (2 ^ k); omega
    · rw [Nat.mul_eq_zero, ← hz]
      have := pow2_ne k
      constructor
      · intro h; exact h.resolve_right this
      · intro h; exact .inl h
  · obtain ⟨k, hk⟩ : ∃ k, lst w = shf w o + k := ⟨lst w - shf w o, by omega⟩
    have e1 : -(lst w : Int) + (shf w o : Int) = -(k : Int) := by omega
    rw [e1]
    simp only [show ¬ (0 : Int) ≤ -(k : Int) by omega, decide_false, cond_false]
    rw [ineg_eq (by omega) (by omega), Int.neg_neg, hP2 k (by omega)]
    simp only [Option.bind_some, jb_inr]
    refine ⟨sz w o, 2 ^ k, rfl, pow2_ne k, ?_, by omega, ?_, hz⟩
    · rw [fv, hval, hk]
      have h2 : sg (decide (o < 0)) (sz w o * 2 ^ shf w o) = sg (decide (o < 0)) (sz w o) * ((2 ^ shf w o : Nat) : Int) := by
        cases decide (o < 0)
        · simp only [sg, Bool.false_eq_true, if_false]; rw [Int.natCast_mul]
        · simp only [sg, if_true]; rw [Int.natCast_mul, Int.neg_mul]
      rw [h2, Nat.pow_add, Nat.mul_comm (2 ^ shf w o), Rat.mkRat_mul_right (pow2_ne _)]
    · exact Nat.le_trans (dig_len_pow k) (by omega)
theorem k_sCmpN : Ev fun n => ∀ (b1 b2 : Bool) (p1 q1 p2 q2 : Nat), q1 ≠ 0 → q2 ≠ 0 → (dig p1).length ≤ 134217728 → (dig q1).length ≤ 134217728 → (dig p2).length ≤ 134217728 → (dig q2).length ≤ 134217728 →
    c_s_l8Cmp ((C B).run n) b1 (dig p1) (dig q1) b2 (dig p2) (dig q2) = some (cmpR (mkRat (sg b1 p1) q1) (mkRat (sg b2 p2) q2), ()) := by
  refine ((k_sMul (B := B)).and (k_sCmp (B := B))).succ fun n hn ⟨hM, hC⟩ b1 b2 p1 q1 p2 q2 h1 h2 l1 l2 l3 l4 => ?_
  rw [run_succ, e_s_l8Cmp]
  unfold p_s_l8Cmp
  have m1 := len_dig_mul p1 q2
  have m2 := len_dig_mul p2 q1
  rw [hM _ _ (by omega) (by omega)]
  simp only [Option.bind_some]
  rw [hM _ _ (by omega) (by omega)]
  simp only [Option.bind_some, len_zero_iff, lt_len_iff]
  rw [cmpR_mk h1 h2]
  have e1 : sg b1 p1 * q2 = sg b1 (p1 * q2) := by cases b1 <;> simp [sg, Int.neg_mul]
  have e2 : sg b2 p2 * q1 = sg b2 (p2 * q1) := by cases b2 <;> simp [sg, Int.neg_mul]
  rw [e1, e2]
  generalize p1 * q2 = x at *
  generalize p2 * q1 = y at *
  have hx : (dig x).isEmpty = decide (x = 0) := by
    by_cases h : x = 0
    · subst h; simp
    · rw [decide_eq_false h]; simpa using mt dig_eq_nil.1 h
  have hy : (dig y).isEmpty = decide (y = 0) := by
    by_cases h : y = 0
    · subst h; simp
    · rw [decide_eq_false h]; simpa using mt dig_eq_nil.1 h
  rw [hx, hy]
  have hc1 := hC x y (by omega) (by omega)
  have hc2 := hC y x (by omega) (by omega)
  by_cases hx0 : x = 0
  · subst hx0
    by_cases hy0 : y = 0
    · subst hy0; cases b1 <;> cases b2 <;> simp [sg]
    · rw [dig_zero] at hc1
      cases b1 <;> cases b2 <;> simp [hy, hy0, sg, hc1, cmp3] <;> (repeat' split) <;> first | rfl | omega
  · by_cases hy0 : y = 0
    · subst hy0
      rw [dig_zero] at hc1
      cases b1 <;> cases b2 <;> simp [hx, hx0, sg, hc1, cmp3] <;> (repeat' split) <;> first | rfl | omega
    · cases b1 <;> cases b2 <;> simp [hx, hy, hx0, hy0, sg, hc1, hc2, cmp3] <;> (repeat' split) <;> first | rfl | omega
end Go.Px.Seat

/- Spans that hold numbers; sizes and rounding: the reference's. -/
namespace Pm
theorem fits_mk {b : Bool} {p q : Nat} (hq : q ≠ 0) (hp : p < 65536 ^ 256) (hq' : q < 65536 ^ 256) : fits (mkRat (sg b p) q) := by
  unfold fits
  rw [mk_num hq, mk_den hq, sg_natAbs]
  exact ⟨Nat.lt_of_le_of_lt (Nat.div_le_self ..) hp, Nat.lt_of_le_of_lt (Nat.div_le_self ..) hq'⟩
/-- a number against a scale of twos -/
def scQ (p q : Nat) (s : Int) : Nat := if 0 ≤ s then p * 2 ^ s.toNat / q else p / (q * 2 ^ (-s).toNat)
def scR (p q : Nat) (s : Int) : Nat := if 0 ≤ s then p * 2 ^ s.toNat % q else p % (q * 2 ^ (-s).toNat)
theorem scQ_lt {p q G : Nat} {s : Int} (hq : q ≠ 0) (h : (bl p : Int) + s + 1 ≤ (G : Int) + bl q) : scQ p q s < 2 ^ G := by
  have hp := bl_lt p
  have hq1 := bl_ge hq
  have hq2 : bl q ≠ 0 := mt bl_eq_zero.1 hq
  unfold scQ
  split
  · rename_i hs
    rw [Nat.div_lt_iff_lt_mul (Nat.pos_of_ne_zero hq)]
    have h1 : 2 ^ (bl p + s.toNat) ≤ 2 ^ (G + (bl q - 1)) := Nat.pow_le_pow_right (by decide) (by omega)
    rw [Nat.pow_add, Nat.pow_add] at h1
    exact Nat.lt_of_lt_of_le (Nat.mul_lt_mul_of_pos_right hp (Nat.pow_pos (by decide))) (Nat.le_trans h1 (Nat.mul_le_mul_left _ hq1))
  · rename_i hs
    rw [Nat.div_lt_iff_lt_mul (Nat.mul_pos (Nat.pos_of_ne_zero hq) (Nat.pow_pos (by decide)))]
    have h1 : 2 ^ bl p ≤ 2 ^ (G + (bl q - 1) + (-s).toNat) := Nat.pow_le_pow_right (by decide) (by omega)
    rw [Nat.pow_add, Nat.pow_add] at h1
    refine Nat.lt_of_lt_of_le hp (Nat.le_trans h1 ?_)
    rw [Nat.mul_assoc]
    exact Nat.mul_le_mul_left _ (Nat.mul_le_mul_right _ hq1)
end Pm
namespace Go.Px.Seat
open Go Pm
set_option linter.unusedVariables false
variable {B : Run}
theorem k_sl8Frac : Ev fun n => ∀ (b : Bool) (l m : List Int), c_s_l8Frac ((C B).run n) b l m = some (b, (l, (m, ()))) := by
  refine Ev.triv.succ fun n hn _ b l m => ?_
  rw [run_succ, e_s_l8Frac]; rfl
theorem k_sFloatFrac : Ev fun n => ∀ w o : Int, fin w o → fits (fv w o) ∧ c_s_FloatFrac ((C B).run n) w o = some (fb (fv w o), (ft (fv w o), (fq (fv w o), (true, ())))) := by
  refine ((k_sPart (B := B)).and ((k_sOfF (B := B)).and (k_sMake (B := B)))).succ fun n hn ⟨hP, hO, hM⟩ w o h => ?_
  rw [run_succ, e_s_FloatFrac]
  unfold p_s_FloatFrac
  obtain ⟨p, q, h1, h2, h3, h4, h5, h6⟩ := hO w o h
  have hf : fits (fv w o) := by
    rw [← h3]
    refine fits_mk h2 ?_ ?_
    · exact dig_len_le.1 (Nat.le_trans h4 (by omega))
    · exact dig_len_le.1 (Nat.le_trans h5 (by omega))
  refine ⟨hf, ?_⟩
  rw [hP w o h, h1]
  simp only [Option.bind_some, Bool.not_true, cond_false]
  rw [hM _ _ _ h2 (by omega) (by omega), h3, resF_fits hf]
  rfl
theorem k_sScaled : Ev fun n => ∀ (b : Bool) (p q : Nat) (s : Int), q ≠ 0 → (dig p).length ≤ 1048576 → (dig q).length ≤ 1048576 → -1048576 ≤ s → s ≤ 1048576 →
    c_s_l8Scaled ((C B).run n) b (dig p) (dig q) s = some (dig (scQ p q s), (decide (scR p q s ≠ 0), ())) := by
  refine ((k_sPow2 (B := B)).and ((k_sMul (B := B)).and (k_sDiv (B := B)))).succ fun n hn ⟨hP, hM, hD⟩ b p q s hq l1 l2 s1 s2 => ?_
  rw [run_succ, e_s_l8Scaled]
  unfold p_s_l8Scaled scQ scR
  simp only [ile_iff, ilt_iff]
  have hr : ∀ x : Nat, decide ((0 : Int) < len (dig x)) = decide (x ≠ 0) := by
    intro x
    rw [len_eq]
    refine decide_eq_decide.2 ⟨fun h h' => ?_, fun h => ?_⟩
    · subst h'; simp at h
    · have := dig_len_pos h; omega
  by_cases h : 0 ≤ s
  · obtain ⟨k, rfl⟩ : ∃ k : Nat, s = (k : Int) := ⟨s.toNat, by omega⟩
    have hk := dig_len_pow k
    simp only [h, decide_true, cond_true, if_true, Int.toNat_natCast]
    rw [hP k (by omega)]
    simp only [Option.bind_some]
    rw [hM _ _ (by omega) (by omega)]
    simp only [Option.bind_some, jb_inr]
    have := len_dig_mul p (2 ^ k)
    rw [hD _ _ (by omega) (by omega) hq]
    simp only [Option.bind_some, hr]
  · obtain ⟨k, rfl⟩ : ∃ k : Nat, s = -(k : Int) := ⟨(-s).toNat, by omega⟩
    have hk := dig_len_pow k
    simp only [h, decide_false, cond_false, if_false, Int.neg_neg, Int.toNat_natCast]
    rw [ineg_eq (by omega) (by omega), Int.neg_neg, hP k (by omega)]
    simp only [Option.bind_some]
    rw [hM _ _ (by omega) (by omega)]
    simp only [Option.bind_some, jb_inr]
    have := len_dig_mul q (2 ^ k)
    rw [hD _ _ (by omega) (by omega) (Nat.mul_ne_zero hq (pow2_ne k))]
    simp only [Option.bind_some, hr]
end Go.Px.Seat

/- Sizes and rounding: the reference's. -/
namespace Go.Px.Seat
open Go Pm
set_option linter.unusedVariables false
variable {B : Run}
theorem jb_ex {P R : Type} {x : Option (R ⊕ P)} {f : P → Option R} {p : P} {Q : R → Prop} (h : x = some (.inr p)) (h' : ∃ r, f p = some r ∧ Q r) : ∃ r, jb x f = some r ∧ Q r := by
  rw [h]; exact h'
/-- where the search for a size begins -/
def sz0 (w : Int) (p q : Nat) : Int := min ((frw w : Int) + 1 - bl p + bl q) (lst w)
theorem ile_wrap_nat (k : Nat) (h : k ≤ 62) : ile 0 (IntKind.wrap .u64 (k : Int)) = true := by
  rw [wrapu64 (by omega) (by omega)]; simp
theorem top_shift (w : Int) : top w = top w / 2 ^ frw w * 2 ^ frw w := by
  unfold top frw
  split
  · simp
  · split <;> simp
theorem k_sSize : Ev fun n => ∀ (w : Int) (b : Bool) (p q : Nat), wd w = true → q ≠ 0 → (dig p).length ≤ 1024 → (dig q).length ≤ 1024 →
    ∃ r, c_s_l8Size ((C B).run n) w b (dig p) (dig q) = some r ∧ 0 ≤ r.1 ∧ r.1 < top w := by
  refine ((k_sFrac (B := B)).and ((k_sLeast (B := B)).and ((k_sBits (B := B)).and ((k_sScaled (B := B)).and ((k_sNatSmall (B := B)).and (k_sTop' (B := B))))))).succ fun n hn ⟨hF, hL, hB, hS, hN, hT⟩ w b p q hw hq l1 l2 => ?_
  rw [run_succ, e_s_l8Size]
  unfold p_s_l8Size
  have htp := top_pos hw
  have htn := top_nonneg w
  have hfl := frw_le w
  have hll : lst w ≤ 1074 := by unfold lst; split <;> omega
  have bp := bl_len p
  have bq := bl_len q
  by_cases hp : p = 0
  · subst hp
    simp only [dig_zero]
    exact ⟨_, rfl, by simp only; omega, by simp only; omega⟩
  · rw [beq_f (show ¬ len (dig p) = 0 by rw [len_eq]; have := dig_len_pos hp; omega), cond_false, hF]
    simp only [Option.bind_some]
    rw [hB _ (by omega)]
    simp only [Option.bind_some]
    rw [hB _ (by omega)]
    simp only [Option.bind_some]
    rw [hL]
    simp only [Option.bind_some]
    rw [iadd_eq (x := (frw w : Int)) (by omega) (by omega), isub_eq (by omega) (by omega), iadd_eq (by omega) (by omega), ineg_eq (by omega) (by omega), Int.neg_neg]
    refine jb_ex (p := (((), (sz0 w p q, ((frw w : Int), (w, (0, (false, ())))))), ((b, (dig p, (dig q, ()))), ()))) ?_ ?_
    · unfold sz0
      simp only [ilt_iff]
      by_cases h : (lst w : Int) < (frw w : Int) + 1 - bl p + bl q
      · rw [decide_eq_true h, cond_true, Int.min_eq_right (by omega)]
      · rw [decide_eq_false h, cond_false, Int.min_eq_left (by omega)]
    · have hs1 : sz0 w p q ≤ lst w := Int.min_le_right ..
      have hs2 : sz0 w p q ≤ (frw w : Int) + 1 - bl p + bl q := Int.min_le_left ..
      have hs3 : -16500 ≤ sz0 w p q := by unfold sz0; omega
      rw [hS b p q (sz0 w p q) hq (by omega) (by omega) (by omega) (by omega)]
      simp only [Option.bind_some]
      generalize sz0 w p q = s0 at *
      refine iter_ex (fun st => ∃ (s : Int) (re : Bool), (s = s0 ∨ s = s0 - 1) ∧ st = (((dig (scQ p q s)), ((frw w : Int), (s, ((), (re, (w, (0, (false, ())))))))), ((b, (dig p, (dig q, ()))), ()))) (fun st => (st.1.2.2.1 - s0 + 1).toNat) (fun r : Int × (Bool × Unit) => 0 ≤ r.1 ∧ r.1 < top w) ?_ n _ (by simp only; omega) ⟨s0, _, .inl rfl, rfl⟩
      rintro rec _ ⟨s, re, hs, rfl⟩ ih
      have g1 : scQ p q s < 2 ^ (frw w + 2) := scQ_lt hq (by omega)
      have g2 := bl_le.2 g1
      have g3 : 2 ^ (frw w + 2) ≤ 2 ^ 54 := Nat.pow_le_pow_right (by decide) (by omega)
      have g4 : scQ p q s < 18446744073709551616 := by simp only [Nat.reducePow] at g3; omega
      have g5 : (dig (scQ p q s)).length ≤ 4 := dig_len_le.2 (by omega)
      simp only
      rw [hB _ (by omega), iadd_eq (x := (frw w : Int)) (by omega) (by omega)]
      simp only [Option.bind_some, ilt_iff]
      by_cases h : (frw w : Int) + 1 < (bl (scQ p q s) : Int)
      · rw [decide_eq_true h, cond_true, isub_eq (by omega) (by omega)]
        have hs' : s = s0 := by
          rcases hs with hs | hs
          · exact hs
          · exfalso
            have := bl_le.2 (scQ_lt (p := p) (G := frw w + 1) (s := s) hq (by omega))
            omega
        subst hs'
        rw [hS b p q (s - 1) hq (by omega) (by omega) (by omega) (by omega)]
        simp only [Option.bind_some]
        exact ih _ ⟨s - 1, _, .inr rfl, rfl⟩ (by simp only; omega)
      · rw [decide_eq_false h, cond_false, hN _ (Nat.lt_of_lt_of_le g4 (Nat.le_of_lt (by decide))), if_pos g4]
        simp only [Option.bind_some, ile_iff]
        have hU : 0 < 2 ^ frw w := Nat.pow_pos (by decide)
        have hU2 : 2 ^ frw w ≤ 2 ^ 52 := Nat.pow_le_pow_right (by decide) hfl
        simp only [Nat.reducePow] at hU2 g3
        rw [wrap64 (x := ((scQ p q s : Nat) : Int)) (by omega) (by omega)]
        have hts := top_shift w
        have hcast : ((2 : Int) ^ frw w) = ((2 ^ frw w : Nat) : Int) := by simp
        rw [hcast] at hts
        have htq : 0 ≤ top w / ((2 ^ frw w : Nat) : Int) := Int.ediv_nonneg (by omega) (by omega)
        by_cases h2 : (bl (scQ p q s) : Int) ≤ (frw w : Int)
        · rw [decide_eq_true h2, cond_true]
          refine ⟨_, rfl, by simp only; omega, ?_⟩
          have h3 := bl_le.1 (show bl (scQ p q s) ≤ frw w by omega)
          simp only
          have : 2 ^ frw w ≤ top w := by
            unfold top frw
            rcases of_decide_eq_true hw with h | h <;> subst h <;> simp
          rw [hcast] at this
          omega
        · rw [decide_eq_false h2, cond_false, hL]
          simp only [Option.bind_some]
          rw [hT]
          simp only [Option.bind_some]
          rw [← ile_iff, ile_wrap_nat _ (by omega), wrapu64 (x := ((frw w : Nat) : Int)) (by omega) (by omega), ok_true, ishr_eq (by omega), hcast]
          have e1 : isub .i64 (top w / ((2 ^ frw w : Nat) : Int)) 1 = top w / ((2 ^ frw w : Nat) : Int) - 1 := by
            have := Int.ediv_le_self (2 ^ frw w : Nat) htn.1
            rw [isub_eq (by omega) (by omega)]
          have e2 : iadd .i64 (isub .i64 (ineg .i64 s) (-(lst w : Int))) 1 = lst w - s + 1 := by
            rw [ineg_eq (by omega) (by omega), isub_eq (by omega) (by omega), iadd_eq (by omega) (by omega)]
            omega
          rw [e1, e2]
          by_cases h4 : top w / ((2 ^ frw w : Nat) : Int) - 1 < lst w - s + 1
          · rw [decide_eq_true h4, cond_true]
            refine ⟨_, rfl, ?_, ?_⟩ <;> rw [isub_eq (by omega) (by omega)] <;> omega
          · rw [decide_eq_false h4, cond_false, ok_true]
            rw [ok_true, shl_one _ (by omega)]
            have q1 : scQ p q s < 2 ^ (frw w + 1) := bl_le.1 (by omega)
            have q2 : ¬ scQ p q s < 2 ^ frw w := fun hh => h2 (by have := bl_le.2 hh; omega)
            rw [Nat.pow_succ] at q1
            generalize hEE : (lst w : Int) - s + 1 = e at *
            have he1 : 1 ≤ e := by omega
            have he2 : e ≤ top w / ((2 ^ frw w : Nat) : Int) - 1 := by omega
            have m1 : 1 * ((2 ^ frw w : Nat) : Int) ≤ e * ((2 ^ frw w : Nat) : Int) := Int.mul_le_mul_of_nonneg_right he1 (by omega)
            have m2 : e * ((2 ^ frw w : Nat) : Int) ≤ (top w / ((2 ^ frw w : Nat) : Int) - 1) * ((2 ^ frw w : Nat) : Int) := Int.mul_le_mul_of_nonneg_right he2 (by omega)
            rw [Int.sub_mul, ← hts] at m2
            have e3 : ishl .i64 e ((frw w : Nat) : Int) = e * ((2 ^ frw w : Nat) : Int) := by
              rw [ishl_eq (by omega) (by rw [hcast]; omega) (by rw [hcast]; omega), hcast]
            rw [e3]
            clear hcast e3 he1 he2 hts htq e1 e2 ih
            generalize e * ((2 ^ frw w : Nat) : Int) = X at *
            generalize scQ p q s = Q at *
            generalize (2 ^ frw w : Nat) = U at *
            rw [iadd_eq (by omega) (by omega), isub_eq (by omega) (by omega)]
            exact ⟨_, rfl, by simp only; omega, by simp only; omega⟩
theorem k_sRound : Ev fun n => ∀ (w : Int) (b up : Bool) (p q : Nat), wd w = true → q ≠ 0 → (dig p).length ≤ 1024 → (dig q).length ≤ 1024 →
    ∃ m, c_s_l8Round ((C B).run n) w b (dig p) (dig q) up = some (m, ()) ∧ (b = false → up = false → 0 ≤ m ∧ m < top w) := by
  refine (k_sSize (B := B)).succ fun n hn hS w b up p q hw hq l1 l2 => ?_
  rw [run_succ, e_s_l8Round]
  unfold p_s_l8Round
  obtain ⟨⟨m, re, _⟩, h1, h2, h3⟩ := hS w b p q hw hq l1 l2
  rw [h1]
  simp only [Option.bind_some]
  cases b
  · cases re <;> cases up
    · exact ⟨_, rfl, fun _ _ => ⟨h2, h3⟩⟩
    · exact ⟨_, rfl, fun _ h => by simp at h⟩
    · exact ⟨_, rfl, fun _ _ => ⟨h2, h3⟩⟩
    · exact ⟨_, rfl, fun _ h => by simp at h⟩
  · cases re <;> cases up <;> exact ⟨_, rfl, fun h => by simp at h⟩
end Go.Px.Seat

/- The draws: what a reader of bytes gives. -/
namespace Go.Px.Seat
open Go Pm
set_option linter.unusedVariables false
variable {B : Run}
theorem ixor_nonneg {x y : Int} (hx : 0 ≤ x) (hx' : x < 9223372036854775808) (hy : 0 ≤ y) (hy' : y < 9223372036854775808) : 0 ≤ ixor .i64 x y := by
  have e1 : (BitVec.ofInt 64 x).toNat = x.toNat := by
    simp [BitVec.toNat_ofInt]; omega
  have e2 : (BitVec.ofInt 64 y).toNat = y.toNat := by
    simp [BitVec.toNat_ofInt]; omega
  show 0 ≤ IntKind.i64.wrap (((BitVec.ofInt 64 x ^^^ BitVec.ofInt 64 y).toNat : Nat) : Int)
  have : (BitVec.ofInt 64 x ^^^ BitVec.ofInt 64 y).toNat < 2 ^ 63 := by
    rw [BitVec.toNat_xor, e1, e2]
    exact Nat.xor_lt_two_pow (by omega) (by omega)
  rw [wrap64 (by omega) (by omega)]
  omega
/-- what a reader has to be -/
def rdr (b : List Int) : Prop := (∀ x ∈ b, 0 ≤ x ∧ x < 256) ∧ b.length ≤ 2000
theorem rdr_at {b : List Int} (h : rdr b) (i : Nat) : 0 ≤ List.getD b i 0 ∧ List.getD b i 0 < 256 := by
  rw [List.getD_eq_getElem?_getD]
  cases h1 : b[i]? with
  | none => simp
  | some x => exact h.1 x (List.mem_of_getElem? h1)
theorem k_pick : Ev fun n => ∀ (b : List Int) (p k : Int), rdr b → 0 ≤ p → p < 1099511627776 → 1 ≤ k → k ≤ 4294967296 →
    ∃ v, c_s_l31Rd_pick ((C B).run n) b p k = some (v, (b, (p + 1, ()))) ∧ 0 ≤ v ∧ v < k := by
  refine Ev.triv.succ fun n hn _ b p k hb h1 h2 h3 h4 => ?_
  rw [run_succ, e_s_l31Rd_pick]
  unfold p_s_l31Rd_pick
  have hl := hb.2
  rw [ilt_iff, decide_eq_false (show ¬ k < 1 by omega), cond_false, jb_inr, iadd_eq (by omega) (by omega)]
  simp only
  rw [isub_eq (by omega) (by omega), show p + 1 - 1 = p by omega]
  by_cases h0 : b = []
  · subst h0
    exact ⟨0, rfl, by omega, by omega⟩
  · have hpos : 0 < b.length := List.length_pos_iff.2 h0
    rw [len_eq, beq_f (show ¬ (b.length : Int) = 0 by omega), cond_false, ilt_iff]
    by_cases h5 : p < (b.length : Int)
    · rw [decide_eq_true h5, cond_true, ok_of (inB_true h1 h5), ok_ne (by omega)]
      have h6 := rdr_at hb p.toNat
      rw [wrap64 (by omega) (by omega), irem_eq h6.1]
      exact ⟨_, rfl, Int.emod_nonneg _ (by omega), Int.emod_lt_of_pos _ (by omega)⟩
    · rw [decide_eq_false h5, cond_false]
      have e0 : (!false) = true := rfl
      have i1 := Int.emod_nonneg p (show (b.length : Int) ≠ 0 by omega)
      have i2 := Int.emod_lt_of_pos p (show (0 : Int) < (b.length : Int) by omega)
      have e1 : iadd .i64 (imul .i64 p 7) 3 = p * 7 + 3 := by rw [imul_eq (by omega) (by omega), iadd_eq (by omega) (by omega)]
      have i3 := Int.emod_nonneg (p * 7 + 3) (show (b.length : Int) ≠ 0 by omega)
      have i4 := Int.emod_lt_of_pos (p * 7 + 3) (show (0 : Int) < (b.length : Int) by omega)
      have hd0 : 0 ≤ p / (b.length : Int) := Int.ediv_nonneg h1 (by omega)
      have hd1 : p / (b.length : Int) ≤ p := Int.ediv_le_self _ h1
      rw [e1, irem_eq h1, irem_eq (show 0 ≤ p * 7 + 3 by omega), e0, ok_true, ok_of (inB_true i1 i2), ok_true, ok_of (inB_true i3 i4), ok_true, ok_ne (by omega), iquo_eq h1 (by omega) (by omega)]
      have g1 := rdr_at hb (p % (b.length : Int)).toNat
      have g2 := rdr_at hb ((p * 7 + 3) % (b.length : Int)).toNat
      generalize List.getD b (p % (b.length : Int)).toNat 0 = x1 at *
      generalize List.getD b ((p * 7 + 3) % (b.length : Int)).toNat 0 = x2 at *
      generalize p / (b.length : Int) = d at *
      have e2 : iadd .i64 (iadd .i64 (iadd .i64 (imul .i64 (IntKind.wrap .i64 x1) 131) (imul .i64 (IntKind.wrap .i64 x2) 1117)) (imul .i64 p 29)) (imul .i64 d 53) = x1 * 131 + x2 * 1117 + p * 29 + d * 53 := by
        rw [wrap64 (x := x1) (by omega) (by omega), wrap64 (x := x2) (by omega) (by omega), imul_eq (x := x1) (by omega) (by omega), imul_eq (x := x2) (by omega) (by omega), imul_eq (x := p) (by omega) (by omega), imul_eq (x := d) (by omega) (by omega), iadd_eq (x := x1 * 131) (by omega) (by omega), iadd_eq (x := x1 * 131 + x2 * 1117) (by omega) (by omega), iadd_eq (by omega) (by omega)]
      rw [e2]
      generalize hX : x1 * 131 + x2 * 1117 + p * 29 + d * 53 = X
      have hX0 : 0 ≤ X := by omega
      have hX1 : X < 9223372036854775808 := by omega
      rw [iquo_eq hX0 hX1 (by omega)]
      have hx := ixor_nonneg hX0 hX1 (show 0 ≤ X / 64 by omega) (show X / 64 < 9223372036854775808 by omega)
      rw [irem_eq hx]
      exact ⟨_, rfl, Int.emod_nonneg _ (by omega), Int.emod_lt_of_pos _ (by omega)⟩
theorem iter_goal {P R : Type} {F : (P → Option R) → P → Option R} {n : Nat} {p : P} (G : Option R → Prop) (I : P → Prop) (m : P → Nat) (Q : R → Prop)
    (step : ∀ rec p, I p → (∀ q, I q → m q < m p → ∃ r, rec q = some r ∧ Q r) → ∃ r, F rec p = some r ∧ Q r) (hm : m p < n) (hI : I p) (hQ : ∀ r, Q r → G (some r)) : G (iter F n p) := by
  obtain ⟨r, h1, h2⟩ := iter_ex I m Q step n p hm hI
  rw [h1]; exact hQ r h2
theorem k_big : Ev fun n => ∀ (b : List Int) (p : Int), rdr b → 0 ≤ p → p < 549755813888 → ∃ v, c_s_l31Rd_big ((C B).run n) b p = some (v, (b, (p + 8, ()))) := by
  refine (k_pick (B := B)).succ fun n hn hP b p hb h1 h2 => ?_
  rw [run_succ, e_s_l31Rd_big]
  unfold p_s_l31Rd_big
  refine iter_goal (fun o => ∃ v, o = some (v, (b, (p + 8, ())))) (fun st => ∃ (i : Nat) (v : Int), i ≤ 8 ∧ st = (((i : Int), (v, ((), (0, ())))), ((b, (p + i, ())), ()))) (fun st => (8 - st.1.1).toNat) (fun r => ∃ v, r = (v, (b, (p + 8, ())))) ?_ (by simp only; omega) ⟨0, 0, by omega, by simp⟩ ?_
  · rintro rec _ ⟨i, v, hi, rfl⟩ ih
    simp only [ilt_iff]
    by_cases h : (i : Int) < 8
    · obtain ⟨k, h3, h4, h5⟩ := hP b (p + i) 256 hb (by omega) (by omega) (by omega) (by omega)
      rw [decide_eq_true h, cond_true, h3]
      simp only [Option.bind_some]
      rw [iadd_eq (by omega) (by omega)]
      exact ih _ ⟨i + 1, _, by omega, by congr 2; rw [show p + (i : Int) + 1 = p + ((i + 1 : Nat) : Int) by omega]⟩ (by simp only; omega)
    · rw [decide_eq_false h, cond_false]
      have : i = 8 := by omega
      subst this
      exact ⟨_, rfl, v, rfl⟩
  · rintro r ⟨v, rfl⟩
    exact ⟨v, rfl⟩
theorem k_nice : Ev fun n => ∀ (b : List Int) (p w : Int), rdr b → 0 ≤ p → p < 549755813888 → wd w = true → ∃ v, c_s_l31Rd_nice ((C B).run n) b p w = some (v, (b, (p + 3, ()))) := by
  refine ((k_pick (B := B)).and ((k_sMax (B := B)).and ((k_sNatOf (B := B)).and ((k_sFracOf (B := B)).and ((k_sl8Frac (B := B)).and (k_sRound (B := B))))))).succ fun n hn ⟨hP, hM, hO, hF, hL, hR⟩ b p w hb h1 h2 hw => ?_
  rw [run_succ, e_s_l31Rd_nice]
  unfold p_s_l31Rd_nice
  obtain ⟨v, g1, g2, g3⟩ := hP b p 9 hb h1 (by omega) (by omega) (by omega)
  rw [g1]
  simp only [Option.bind_some]
  rw [hM, isub_eq (by omega) (by omega), ineg_eq (by omega) (by omega)]
  simp only [Option.bind_some]
  have hm : max (v - 3) (-(v - 3)) = (((v - 3).natAbs : Nat) : Int) := by omega
  rw [hm, wrapu64 (by omega) (by omega), hO _ (by omega)]
  simp only [Option.bind_some]
  obtain ⟨v2, g4, g5, g6⟩ := hP b (p + 1) 6 hb (by omega) (by omega) (by omega) (by omega)
  rw [g4]
  simp only [Option.bind_some]
  rw [ok_of (inB_true g5 (by simpa [len_eq] using g6))]
  have hq : ∃ q : Nat, q ≠ 0 ∧ q < 65536 ∧ [List.getD [1, 1, 2, 4, 3, 10] (Int.toNat v2) (0 : Int)] = dig q := by
    have : v2 = 0 ∨ v2 = 1 ∨ v2 = 2 ∨ v2 = 3 ∨ v2 = 4 ∨ v2 = 5 := by omega
    rcases this with h | h | h | h | h | h <;> subst h
    · exact ⟨1, by omega, by omega, (dig_of_lt (d := 1) (by omega) (by omega)).symm⟩
    · exact ⟨1, by omega, by omega, (dig_of_lt (d := 1) (by omega) (by omega)).symm⟩
    · exact ⟨2, by omega, by omega, (dig_of_lt (d := 2) (by omega) (by omega)).symm⟩
    · exact ⟨4, by omega, by omega, (dig_of_lt (d := 4) (by omega) (by omega)).symm⟩
    · exact ⟨3, by omega, by omega, (dig_of_lt (d := 3) (by omega) (by omega)).symm⟩
    · exact ⟨10, by omega, by omega, (dig_of_lt (d := 10) (by omega) (by omega)).symm⟩
  obtain ⟨q, q1, q2, q3⟩ := hq
  have big : ∀ x : Nat, x < 65536 → x < 65536 ^ 256 := fun x hx => Nat.lt_of_lt_of_le hx (by decide)
  have h256 : (v - 3).natAbs < 65536 ^ 256 := big _ (by omega)
  have hfit := fits_mk (b := ilt (v - 3) 0) (p := (v - 3).natAbs) (q := q) q1 h256 (big _ q2)
  rw [q3, hF _ _ _ q1 h256 (big _ q2), resF_fits hfit]
  simp only [Option.bind_some]
  obtain ⟨v3, g7, g8, g9⟩ := hP b (p + 1 + 1) 2 hb (by omega) (by omega) (by omega) (by omega)
  rw [g7, hL]
  simp only [Option.bind_some, show p + 1 + 1 + 1 = p + 3 by omega]
  obtain ⟨f1, f2⟩ := fits_len hfit
  generalize mkRat (sg (ilt (v - 3) 0) (v - 3).natAbs) q = r at *
  simp only [ft, fq] at f1 f2 ⊢
  obtain ⟨m1, t1, _⟩ := hR w (fb r) true r.num.natAbs r.den hw r.den_nz (by omega) (by omega)
  obtain ⟨m2, t2, _⟩ := hR w (fb r) false r.num.natAbs r.den hw r.den_nz (by omega) (by omega)
  rw [t1, t2]
  simp only [Option.bind_some]
  cases v3 == 0
  · exact ⟨m2, rfl⟩
  · exact ⟨m1, rfl⟩
end Go.Px.Seat

/- A number drawn inside a span. -/
namespace Pm
theorem fits_mkI {a : Int} {q : Nat} (hq : q ≠ 0) (hp : a.natAbs < 65536 ^ 256) (hq' : q < 65536 ^ 256) : fits (mkRat a q) := by
  have : a = sg (decide (a < 0)) a.natAbs := by
    by_cases h : a < 0
    · rw [decide_eq_true h]; simp only [sg, if_true]; omega
    · rw [decide_eq_false h]; simp only [sg, Bool.false_eq_true, if_false]; omega
  rw [this]
  exact fits_mk hq hp hq'
theorem pow_lt2 {a b : Nat} (h : a < b) : 2 ^ a < 2 ^ b := Nat.pow_lt_pow_right (by decide) h
theorem pow_le2 {a b : Nat} (h : a ≤ b) : 2 ^ a ≤ 2 ^ b := Nat.pow_le_pow_right (by decide) h
theorem pow_prod {A B x y : Nat} (hx : x ≤ 2 ^ A) (hy : y ≤ 2 ^ B) : x * y ≤ 2 ^ (A + B) := by
  have := Nat.mul_le_mul hx hy
  rwa [← Nat.pow_add] at this
theorem lt_pow_of {x A C : Nat} (h : x ≤ 2 ^ A) (hA : A < C) : x < 2 ^ C := Nat.lt_of_le_of_lt h (pow_lt2 hA)
theorem two_lt {k : Nat} (h : k < 4096) : 2 ^ k < 65536 ^ 256 := by
  exact Nat.lt_of_lt_of_eq (pow_lt2 (b := 16 * 256) (by omega)) (pow_base 256).symm
/-- no finite float has more bits, in least floats -/
def bigE : Nat := 2100
theorem fI_lt2 {w o : Int} (h : fin w o) : (fI w o).natAbs < 2 ^ bigE := by
  rw [fI_sg, sg_natAbs]
  have h1 := sz_lt w o
  have h2 := shf_lt h
  have h3 := pow_le2 (Nat.le_of_lt h2)
  have h4 : sz w o < 2 ^ 53 := h1
  have h5 := pow_prod (Nat.le_of_lt h4) h3
  exact lt_pow_of h5 (by decide)
theorem fv_zero (w : Int) : fv w 0 = 0 := by
  rw [fv]
  have : fI w 0 = 0 := by simp [fI, fN_zero]
  rw [this, Rat.zero_mkRat]
end Pm
namespace Go.Px.Seat
open Go Pm
set_option linter.unusedVariables false
variable {B : Run}
/-- how a draw inside a span ends -/
def inO (b : List Int) (p : Int) (w x y : Int) (o : Option (Bool × (List Int × (List Int × (List Int × (Int × Unit)))))) : Prop :=
  ∃ r p', o = some (fb r, (ft r, (fq r, (b, (p', ()))))) ∧ fits r ∧ fv w x ≤ r ∧ r ≤ fv w y ∧ p ≤ p' ∧ p' ≤ p + 50
end Go.Px.Seat

/- Draws: a span and a number in it. -/
namespace Go.Px.Seat
open Go Pm
set_option linter.unusedVariables false
variable {B : Run}
def byt (l : List Int) : Prop := ∀ x ∈ l, 0 ≤ x ∧ x < 256
theorem k_open : Ev fun n => ∀ l : List Int, byt l → l.length ≤ 1099511627776 → ∃ b, c_s_l31Open ((C B).run n) l = some (b, (0, ())) ∧ rdr b := by
  refine Ev.triv.succ fun n hn _ l hb hl => ?_
  rw [run_succ, e_s_l31Open]
  unfold p_s_l31Open
  rw [ilt_iff, len_eq]
  by_cases h : (2000 : Int) < (l.length : Int)
  · rw [decide_eq_true h, cond_true, ok_of (sliceOk_true (by omega) (by omega) (by omega))]
    refine ⟨l.take 2000, rfl, fun x hx => hb x (List.mem_of_mem_take hx), by simp; omega⟩
  · rw [decide_eq_false h, cond_false]
    exact ⟨l, rfl, hb, by omega⟩
end Go.Px.Seat

/- Decimal digits, powers of ten: plain. -/
namespace Pm
open Go.Px.Seat
theorem dec_small {n : Nat} (h : n < 10) : dec n = [48 + n] := by rw [dec, dif_pos h]
theorem dec_big {n : Nat} (h : ¬ n < 10) : dec n = dec (n / 10) ++ [48 + n % 10] := by rw [dec, dif_neg h]
theorem dec_bytes : ∀ n : Nat, ∀ x ∈ dec n, 48 ≤ x ∧ x ≤ 57 := by
  intro n
  induction n using Nat.strongRecOn with
  | _ n ih =>
    intro x hx
    by_cases h : n < 10
    · rw [dec_small h, List.mem_singleton] at hx; omega
    · rw [dec_big h] at hx
      rcases List.mem_append.1 hx with hx | hx
      · exact ih _ (by omega) x hx
      · rw [List.mem_singleton] at hx; omega
theorem dec_pos (n : Nat) : 1 ≤ (dec n).length := by
  by_cases h : n < 10
  · rw [dec_small h]; simp
  · rw [dec_big h]; simp
theorem dec_le : ∀ (d n : Nat), 1 ≤ d → n < 10 ^ d → (dec n).length ≤ d
  | 0, _, h, _ => absurd h (by decide)
  | 1, n, _, h => by
    rw [dec_small (by omega)]; simp
  | d + 2, n, _, h => by
    by_cases hs : n < 10
    · rw [dec_small hs]; simp
    · rw [dec_big hs, List.length_append, List.length_singleton]
      have := dec_le (d + 1) (n / 10) (by omega) (by
        rw [Nat.div_lt_iff_lt_mul (by decide)]
        rw [Nat.pow_succ] at h
        exact h)
      omega
theorem dec_ge : ∀ (d n : Nat), 10 ^ d ≤ n → d < (dec n).length
  | 0, n, _ => dec_pos n
  | d + 1, n, h => by
    have hp : 0 < 10 ^ d := Nat.pow_pos (by decide)
    rw [Nat.pow_succ] at h
    have hs : ¬ n < 10 := by omega
    rw [dec_big hs, List.length_append, List.length_singleton]
    have := dec_ge d (n / 10) ((Nat.le_div_iff_mul_le (by decide)).2 h)
    omega
theorem dec_len (n : Nat) : n < 10 ^ (dec n).length ∧ (n ≠ 0 → 10 ^ ((dec n).length - 1) ≤ n) := by
  have hp := dec_pos n
  constructor
  · by_cases h : 10 ^ (dec n).length ≤ n
    · exact absurd (dec_ge _ _ h) (by omega)
    · omega
  · intro h0
    by_cases h : n < 10 ^ ((dec n).length - 1)
    · by_cases h1 : (dec n).length = 1
      · rw [h1] at h
        simp only [Nat.sub_self, Nat.pow_zero] at h
        omega
      · have := dec_le _ _ (by omega) h
        omega
    · omega
def dec4 (n : Nat) : List Nat := [48 + n / 1000 % 10, 48 + n / 100 % 10, 48 + n / 10 % 10, 48 + n % 10]
theorem dec_four {x : Nat} (h : 10000 ≤ x) : dec x = dec (x / 10000) ++ dec4 (x % 10000) := by
  rw [dec_big (by omega), dec_big (n := x / 10) (by omega), dec_big (n := x / 10 / 10) (by omega), dec_big (n := x / 10 / 10 / 10) (by omega)]
  rw [show x / 10 / 10 / 10 / 10 = x / 10000 by omega]
  unfold dec4
  rw [show x % 10000 / 1000 % 10 = x / 10 / 10 / 10 % 10 by omega, show x % 10000 / 100 % 10 = x / 10 / 10 % 10 by omega, show x % 10000 / 10 % 10 = x / 10 % 10 by omega, show x % 10000 % 10 = x % 10 by omega]
  simp
theorem dec4_pad {n : Nat} (h : n < 10000) : List.replicate (4 - (dec n).length) 48 ++ dec n = dec4 n := by
  unfold dec4
  by_cases h1 : n < 10
  · rw [dec_small h1, show n / 1000 % 10 = 0 by omega, show n / 100 % 10 = 0 by omega, show n / 10 % 10 = 0 by omega, show n % 10 = n by omega]; rfl
  rw [dec_big h1]
  by_cases h2 : n / 10 < 10
  · rw [dec_small h2, show n / 1000 % 10 = 0 by omega, show n / 100 % 10 = 0 by omega, show n / 10 % 10 = n / 10 by omega]; rfl
  rw [dec_big h2]
  by_cases h3 : n / 10 / 10 < 10
  · rw [dec_small h3, show n / 1000 % 10 = 0 by omega, show n / 100 % 10 = n / 10 / 10 by omega]; rfl
  rw [dec_big h3, dec_small (n := n / 10 / 10 / 10) (by omega), show n / 1000 % 10 = n / 10 / 10 / 10 by omega, show n / 100 % 10 = n / 10 / 10 % 10 by omega]; rfl
theorem dec_bl (n : Nat) : Go.Px.Bl (dec n) := fun x hx => by have := dec_bytes n x hx; omega
/-! powers of ten -/
def tp (k : Int) : Nat := 10 ^ k.toNat
theorem tp_pos (k : Int) : 0 < tp k := Nat.pow_pos (by decide)
/-- p / q is 10 ^ k at least -/
def G (p q : Nat) (k : Int) : Prop := q * tp k ≤ p * tp (-k)
theorem G_iff {p q : Nat} {k : Int} {m n : Nat} (h : (m : Int) - n = k) : G p q k ↔ q * 10 ^ m ≤ p * 10 ^ n := by
  unfold G tp
  by_cases hk : 0 ≤ k
  · obtain ⟨j, rfl⟩ : ∃ j : Nat, k = j := ⟨k.toNat, by omega⟩
    have hm : m = n + j := by omega
    rw [show (-(j : Int)).toNat = 0 by omega, Int.toNat_natCast, Nat.pow_zero, Nat.mul_one, hm, Nat.pow_add, ← Nat.mul_assoc, Nat.mul_right_comm]
    exact (Nat.mul_le_mul_right_iff (Nat.pow_pos (by decide))).symm
  · obtain ⟨j, rfl⟩ : ∃ j : Nat, k = -(j : Int) := ⟨(-k).toNat, by omega⟩
    have hn : n = m + j := by omega
    rw [show (-(j : Int)).toNat = 0 by omega, show (-(-(j : Int))).toNat = j by omega, Nat.pow_zero, Nat.mul_one, hn, Nat.pow_add, ← Nat.mul_assoc, Nat.mul_right_comm]
    exact (Nat.mul_le_mul_right_iff (Nat.pow_pos (by decide))).symm
theorem G_mono {p q : Nat} {j k : Int} (h : G p q k) (hj : j ≤ k) : G p q j := by
  have h1 := (G_iff (p := p) (q := q) (m := k.toNat + (-j).toNat + (-k).toNat) (n := (-j).toNat + 2 * (-k).toNat) (k := k) (by omega)).1 h
  refine (G_iff (p := p) (q := q) (m := j.toNat + 2 * (-k).toNat) (n := (-j).toNat + 2 * (-k).toNat) (k := j) (by omega)).2 (Nat.le_trans ?_ h1)
  exact Nat.mul_le_mul_left _ (Nat.pow_le_pow_right (by decide) (by omega))
theorem G_ratio {p q p' q' : Nat} {k : Int} (hq : q ≠ 0) (hq' : q' ≠ 0) (h : p * q' = p' * q) : G p q k ↔ G p' q' k := by
  unfold G
  have e1 : q * tp k * q' = q' * tp k * q := by rw [Nat.mul_right_comm, Nat.mul_comm q q', Nat.mul_right_comm]
  have e2 : p * tp (-k) * q' = p' * tp (-k) * q := by rw [Nat.mul_right_comm, h, Nat.mul_right_comm]
  rw [← Nat.mul_le_mul_right_iff (show 0 < q' by omega), e1, e2, Nat.mul_le_mul_right_iff (show 0 < q by omega)]
/-- how many tens: 10 ^ k ≤ p / q < 10 ^ (k + 1) -/
def LG (p q : Nat) (k : Int) : Prop := G p q k ∧ ¬ G p q (k + 1)
theorem LG_uniq {p q : Nat} {j k : Int} (h : LG p q j) (h' : LG p q k) : j = k := by
  have h1 : ¬ j < k := fun hl => h.2 (G_mono h'.1 (by omega))
  have h2 : ¬ k < j := fun hl => h'.2 (G_mono h.1 (by omega))
  omega
theorem LG_ratio {p q p' q' : Nat} {k : Int} (hq : q ≠ 0) (hq' : q' ≠ 0) (h : p * q' = p' * q) : LG p q k ↔ LG p' q' k := by
  unfold LG
  rw [G_ratio hq hq' h, G_ratio hq hq' h]
/-- nine digits' worth -/
theorem LG_nine {p q : Nat} {k : Int} (hq : q ≠ 0) (h : LG p q k) : 10 ^ 8 ≤ p * tp (8 - k) / (q * tp (k - 8)) ∧ p * tp (8 - k) / (q * tp (k - 8)) < 10 ^ 9 := by
  have hp : 0 < q * tp (k - 8) := Nat.mul_pos (by omega) (tp_pos _)
  rw [Nat.le_div_iff_mul_le hp, Nat.div_lt_iff_lt_mul hp]
  have h1 := (G_iff (m := (k - 8).toNat + 8) (n := (8 - k).toNat) (by omega)).1 h.1
  have h2 := fun hh => h.2 ((G_iff (p := p) (q := q) (k := k + 1) (m := (k - 8).toNat + 9) (n := (8 - k).toNat) (by omega)).2 hh)
  unfold tp
  rw [Nat.pow_add, ← Nat.mul_assoc] at h1
  rw [Nat.pow_add, ← Nat.mul_assoc] at h2
  constructor
  · rw [Nat.mul_comm]; exact h1
  · rw [Nat.mul_comm (10 ^ 9)]; exact Nat.lt_of_not_le h2
/-- rounded, upward if asked for -/
def rnd (up : Bool) (a b : Nat) : Nat := a / b + if up = true ∧ a % b ≠ 0 then 1 else 0
theorem rnd_ratio {up : Bool} {a b a' b' : Nat} (hb : 0 < b) (hb' : 0 < b') (h : a * b' = a' * b) : rnd up a b = rnd up a' b' := by
  have e1 : a / b = a' / b' := by
    rw [← Nat.mul_div_mul_right a b hb', h, ← Nat.mul_div_mul_right a' b' hb, Nat.mul_comm b b']
  have e2 : a % b = 0 ↔ a' % b' = 0 := by
    have m1 : a % b * b' = a' % b' * b := by
      rw [← Nat.mul_mod_mul_right b' a b, h, Nat.mul_comm b b', Nat.mul_mod_mul_right]
    constructor
    · intro h0
      rw [h0, Nat.zero_mul] at m1
      rcases Nat.mul_eq_zero.1 m1.symm with h1 | h1
      · exact h1
      · omega
    · intro h0
      rw [h0, Nat.zero_mul] at m1
      rcases Nat.mul_eq_zero.1 m1 with h1 | h1
      · exact h1
      · omega
  unfold rnd
  rw [e1]
  simp only [ne_eq, e2]
/-- the text of a number with nine digits, or ten -/
def shown (k : Int) (N : Nat) : List Nat :=
  (dec N).take 1 ++ ((if (((dec N).drop 1).reverse.dropWhile (· == 48)).reverse = [] then [] else 46 :: (((dec N).drop 1).reverse.dropWhile (· == 48)).reverse) ++
    (if k + (((dec N).length : Int) - 9) = 0 then [] else 101 :: itoa (k + (((dec N).length : Int) - 9))))
theorem itoa_bl (x : Int) : Go.Px.Bl (itoa x) := by
  unfold itoa
  split
  · intro y hy
    rcases List.mem_cons.1 hy with rfl | hy
    · decide
    · exact dec_bl _ y hy
  · exact dec_bl _
theorem itoa_len {x : Int} (h : -1000 < x) (h' : x < 1000) : (itoa x).length ≤ 4 := by
  unfold itoa
  split
  · have := dec_le 3 x.natAbs (by decide) (by omega)
    simp only [List.length_cons]; omega
  · have := dec_le 3 x.toNat (by decide) (by omega)
    omega
theorem trim_len (l : List Nat) (c : Nat) : (l.reverse.dropWhile (· == c)).reverse.length ≤ l.length := by
  rw [List.length_reverse]
  have := (List.dropWhile_sublist (p := (· == c)) (l := l.reverse)).length_le
  rw [List.length_reverse] at this
  exact this
end Pm

/- Numbers written in decimals, powers of ten: both sides. -/
namespace Pm
open Go.Px.Seat
theorem dig_ten (k : Nat) : (dig (10 ^ k)).length ≤ k + 1 := by
  rw [dig_len_le]
  have h1 : 10 ^ k ≤ 65536 ^ k := Nat.pow_le_pow_left (by decide) k
  have h2 : 65536 ^ k < 65536 ^ (k + 1) := Nat.pow_lt_pow_right (by decide) (Nat.lt_succ_self k)
  omega
theorem dec_dig (x : Nat) : (dec x).length ≤ 5 * (dig x).length + 1 := by
  refine dec_le _ _ (by omega) ?_
  have h1 := dig_lt_pow x
  have h2 : 65536 ^ (dig x).length ≤ (10 ^ 5) ^ (dig x).length := Nat.pow_le_pow_left (by decide) _
  rw [← Nat.pow_mul] at h2
  have h3 : 10 ^ (5 * (dig x).length) < 10 ^ (5 * (dig x).length + 1) := Nat.pow_lt_pow_right (by decide) (Nat.lt_succ_self _)
  omega
theorem flat_rep (c x : Nat) : (List.replicate c [x]).flatten = List.replicate c x := by
  induction c with
  | zero => rfl
  | succ c ih => rw [List.replicate_succ, List.replicate_succ, List.flatten_cons, ih]; rfl
end Pm
namespace Go.Px.Seat
open Go Pm
set_option linter.unusedVariables false
theorem wrapu8 {x : Int} (h : 0 ≤ x) (h' : x < 256) : IntKind.u8.wrap x = x := by
  simp [IntKind.wrap, IntKind.bits, IntKind.signed]
  omega
theorem ofInts_bs (l : List Nat) : ofInts (l.map Int.ofNat) = bs l := by
  have key : ∀ (l : List Nat) (r : ByteArray), ((l.map Int.ofNat).foldl (fun r n => r.push (UInt8.ofNat n.toNat)) r).data.toList = r.data.toList ++ l.map UInt8.ofNat := by
    intro l
    induction l with
    | nil => intro r; simp
    | cons x l ih =>
      intro r
      rw [List.map_cons, List.foldl_cons, ih, List.map_cons]
      simp
  refine ByteArray.ext (Array.toList_inj.1 ?_)
  unfold ofInts
  rw [key l ByteArray.empty]
  simp [bs]
theorem k_ten : Ev fun n => ∀ k : Nat, k ≤ 10000 → c_i_ten ((C B0).run n) (k : Int) = some (dig (10 ^ k), ()) := by
  refine (k_natMul (B := B0)).succ fun n hn km k hk => ?_
  rw [run_succ, e_i_ten]
  unfold p_i_ten
  refine iter_const (fun p => ∃ i : Nat, p = (((i : Int), ((k : Int), (dig (10 ^ i), ((), ())))), ()) ∧ i ≤ k) (fun p => (20000 - p.1.1).toNat) _ ?_ n _ (by simp only; omega) ⟨0, by rw [Nat.pow_zero, ← dig_one (d := 1) (by decide) (by decide)]; rfl, Nat.zero_le _⟩
  rintro rec _ ⟨i, rfl, hi⟩ ih
  dsimp only
  rw [ilt_iff]
  by_cases h : i < k
  · have hl := dig_ten i
    rw [decide_eq_true (by omega), cond_true, show ([10] : List Int) = dig 10 from dig_one (d := 10) (by decide) (by decide), km _ _ (by omega) (by decide +kernel), ← Nat.pow_succ]
    simp only [Option.bind_some]
    rw [iadd_eq (by omega) (by omega)]
    exact ih _ ⟨i + 1, by simp, by omega⟩ (by simp only; omega)
  · rw [decide_eq_false (by omega), cond_false, show i = k by omega]
theorem k_s7Tens : Ev fun n => ∀ k : Nat, k ≤ 10000 → c_s_l7Tens ((C B0).run n) (k : Int) = some (dig (10 ^ k), ()) := by
  refine (k_sTimes (B := B0)).succ fun n hn km k hk => ?_
  rw [run_succ, e_s_l7Tens]
  unfold p_s_l7Tens
  refine iter_const (fun p => ∃ i : Nat, p = (((i : Int), ((k : Int), (dig (10 ^ i), ((), ())))), ()) ∧ i ≤ k) (fun p => (20000 - p.1.1).toNat) _ ?_ n _ (by simp only; omega) ⟨0, by rw [Nat.pow_zero, ← dig_one (d := 1) (by decide) (by decide)]; rfl, Nat.zero_le _⟩
  rintro rec _ ⟨i, rfl, hi⟩ ih
  dsimp only
  rw [ilt_iff]
  by_cases h : i < k
  · have hl := dig_ten i
    rw [decide_eq_true (by omega), cond_true]
    have := km (10 ^ i) 10 (by omega) (by decide)
    rw [show (((10 : Nat) : Int)) = 10 from rfl] at this
    rw [this, ← Nat.pow_succ]
    simp only [Option.bind_some]
    rw [iadd_eq (by omega) (by omega)]
    exact ih _ ⟨i + 1, by simp, by omega⟩ (by simp only; omega)
  · rw [decide_eq_false (by omega), cond_false, show i = k by omega]
theorem k_s22Tens : Ev fun n => ∀ k : Int, -10000 ≤ k → k ≤ 10000 → c_s_l22Tens ((C B0).run n) k = some (false, (dig (tp k), (dig (tp (-k)), ()))) := by
  refine k_s7Tens.succ fun n hn kt k h1 h2 => ?_
  rw [run_succ, e_s_l22Tens]
  unfold p_s_l22Tens tp
  have e1 : ([1] : List Int) = dig 1 := dig_one (d := 1) (by decide) (by decide)
  rw [ilt_iff]
  by_cases h : k < 0
  · rw [decide_eq_true h, cond_true, ineg_eq (by omega) (by omega), show -k = (((-k).toNat : Nat) : Int) by omega, kt _ (by omega), e1, show k.toNat = 0 by omega]
    rfl
  · rw [decide_eq_false h, cond_false]
    conv => lhs; rw [show k = ((k.toNat : Nat) : Int) by omega]
    rw [kt _ (by omega), e1, show (-k).toNat = 0 by omega]
    rfl
theorem k_natText : Ev fun n => ∀ x : Nat, (dig x).length ≤ 4000 → c_i_natText ((C B0).run n) (dig x) = some (bs (dec x), ()) := by
  refine (k_natDiv.and (k_Itoa.and k_Repeat)).succ fun n hn ⟨kd, ki, kr⟩ x hx => ?_
  rw [run_succ, e_i_natText]
  unfold p_i_natText
  have hdx := dec_dig x
  by_cases hx0 : x = 0
  · subst hx0
    rw [dig_zero, dec_small (by decide)]; rfl
  have hlp := dig_len_pos hx0
  rw [len_eq, beq_f (by omega), cond_false]
  have m0 : (if dig x = [] then 0 else (dec (val (dig x)).toNat).length) < n := by
    rw [val_dig, Int.toNat_natCast]
    split <;> omega
  refine iter_const (fun p => ∃ (a : Nat) (out : List Nat), p = ((dig a, (bs out, (bs [], ()))), ()) ∧ a ≤ x ∧ Bl out ∧ dec x = (if a = 0 then [] else dec a) ++ out) (fun p => if p.1.1 = [] then 0 else (dec (val p.1.1).toNat).length) _ ?_ n _ m0 ⟨x, [], rfl, Nat.le_refl _, fun y hy => (by cases hy), by rw [if_neg hx0, List.append_nil]⟩
  rintro rec _ ⟨a, out, rfl, ha, hb, hd⟩ ih
  dsimp only
  rw [len_eq, ilt_iff]
  by_cases ha0 : a = 0
  · subst ha0
    rw [if_pos rfl, List.nil_append] at hd
    rw [dig_zero, hd]; rfl
  have hal := dig_len_pos ha0
  have hal2 := dig_len_mono ha
  have hmod : a % 10000 < 10000 := Nat.mod_lt _ (by decide)
  rw [if_neg ha0] at hd
  have e10 : ([10000] : List Int) = dig 10000 := dig_one (d := 10000) (by decide) (by decide)
  rw [decide_eq_true (by omega), cond_true, e10, kd a 10000 (by omega) (by rw [← e10]; decide) (by decide)]
  simp only [Option.bind_some]
  rw [jb_of (p := ((((a % 10000 : Nat) : Int), (dig (a / 10000), (bs out, (dig a, (bs [], ()))))), ())) (by
    rw [len_eq, ilt_iff]
    by_cases h0 : a % 10000 = 0
    · rw [h0, dig_zero]; rfl
    · rw [dig_of_lt (by omega) h0]; rfl)]
  dsimp only
  rw [ki _ (by omega) (by omega)]
  have hit : itoa ((a % 10000 : Nat) : Int) = dec (a % 10000) := by
    unfold itoa
    rw [if_neg (by omega), Int.toNat_natCast]
  have hdl := dec_le 4 (a % 10000) (by decide) (by omega)
  have houtl : out.length ≤ (dec x).length := by rw [hd, List.length_append]; omega
  rw [hit]
  simp only [Option.bind_some]
  obtain ⟨part, hpart⟩ : ∃ part, part = if a / 10000 = 0 then dec a else dec4 (a % 10000) := ⟨_, rfl⟩
  have hpl : part.length ≤ 4 := by
    rw [hpart]
    split
    · exact dec_le 4 a (by decide) (by omega)
    · exact Nat.le_refl 4
  have hpb : Bl part := by
    rw [hpart]
    split
    · exact dec_bl _
    · intro y hy
      simp only [dec4, List.mem_cons, List.not_mem_nil, or_false] at hy
      omega
  have hda : dec a = (if a / 10000 = 0 then [] else dec (a / 10000)) ++ part := by
    rw [hpart]
    by_cases h0 : a / 10000 = 0
    · rw [if_pos h0, if_pos h0]; rfl
    · rw [if_neg h0, if_neg h0]; exact dec_four (by omega)
  rw [jb_of (p := ((bs part, (bs out, (dig (a / 10000), (dig a, (bs [], ()))))), ())) (by
    rw [len_eq, ilt_iff]
    by_cases h0 : a / 10000 = 0
    · rw [h0, dig_zero, hpart, if_pos h0, show a % 10000 = a by omega]; rfl
    · have := dig_len_pos h0
      rw [decide_eq_true (by omega), cond_true, bs_len, isub_eq (by omega) (by omega), show (4 : Int) - ((dec (a % 10000)).length : Int) = ((4 - (dec (a % 10000)).length : Nat) : Int) by omega, kr [48] _ (fun y hy => by rw [List.mem_singleton.1 hy]; decide) (by simp; omega) (by omega), flat_rep]
      simp only [Option.bind_some]
      rw [bs_sok, ok_of (decide_eq_true (by rw [List.length_replicate]; omega)), bs_app, dec4_pad hmod, hpart, if_neg h0])]
  dsimp only
  rw [bs_sok, ok_of (decide_eq_true (by omega)), bs_app]
  refine ih _ ⟨a / 10000, part ++ out, rfl, by omega, bl_app.2 ⟨hpb, hb⟩, by rw [hd, hda, List.append_assoc]⟩ ?_
  simp only
  rw [if_neg (show ¬ dig a = [] from fun h => ha0 (dig_eq_nil.1 h)), val_dig, val_dig, Int.toNat_natCast, Int.toNat_natCast]
  have hp := dec_pos a
  split
  · omega
  · rename_i hq
    have hq0 : a / 10000 ≠ 0 := fun h => hq (dig_eq_nil.2 h)
    rw [dec_four (x := a) (by omega), List.length_append]
    show (dec (a / 10000)).length < (dec (a / 10000)).length + 4
    omega
theorem k_sNatText : Ev fun n => ∀ x : Nat, x < 65536 ^ 256 → c_s_NatText ((C B0).run n) (dig x) = some (bs (dec x), ()) := by
  refine ((k_sNatOk (B := B0)).and (k_sDivSmall (B := B0))).succ fun n hn ⟨kn, kd⟩ x hx => ?_
  rw [run_succ, e_s_NatText]
  unfold p_s_NatText
  have hxl : (dig x).length ≤ 256 := dig_len_le.2 hx
  rw [kn, nok_dig, decide_eq_true hx]
  simp only [Option.bind_some]
  rw [Bool.not_true, cond_false]
  have hdx := dec_dig x
  by_cases hx0 : x = 0
  · subst hx0
    rw [dig_zero, dec_small (by decide)]; rfl
  have hlp := dig_len_pos hx0
  rw [len_eq, beq_f (by omega), cond_false]
  have m0 : (if dig x = [] then 0 else (dec (val (dig x)).toNat).length) < n := by
    rw [val_dig, Int.toNat_natCast]
    split <;> omega
  have aok1 : ∀ s : List Int, s.length ≤ 10000 → aok s 1 = true := fun s hs => aok_true (by omega)
  refine iter_const (fun p => ∃ (a : Nat) (E : List Nat), p = ((dig a, ((), (bs [], ()))), ((E.map Int.ofNat).reverse, ())) ∧ a ≤ x ∧ dec x = (if a = 0 then [] else dec a) ++ E) (fun p => if p.1.1 = [] then 0 else (dec (val p.1.1).toNat).length) _ ?_ n _ m0 ⟨x, [], rfl, Nat.le_refl _, by rw [if_neg hx0, List.append_nil]⟩
  rintro rec _ ⟨a, E, rfl, ha, hd⟩ ih
  dsimp only
  have hEl : E.length ≤ (dec x).length := by rw [hd, List.length_append]; omega
  rw [len_eq, ilt_iff]
  by_cases ha0 : a = 0
  · subst ha0
    rw [if_pos rfl, List.nil_append] at hd
    rw [dig_zero, hd]
    simp only [List.length_nil]
    rw [decide_eq_false (by decide), cond_false, len_eq, List.length_reverse, List.length_map, isub_eq (by omega) (by omega)]
    obtain ⟨Z, hZ⟩ : ∃ Z, Z = E.map Int.ofNat := ⟨_, rfl⟩
    have hZl : Z.length = E.length := by rw [hZ, List.length_map]
    rw [← hZ]
    refine iter_const (fun p => ∃ i : Nat, p = (((i : Int) - 1, ((), ((), (bs [], ())))), (Z.take (Z.length - i), (Z.reverse, ()))) ∧ i ≤ Z.length) (fun p => (p.1.1 + 1).toNat) _ ?_ n _ (by simp only; omega) ⟨Z.length, by rw [hZl, Nat.sub_self]; rfl, Nat.le_refl _⟩
    rintro rec2 _ ⟨i, rfl, hi⟩ ih2
    dsimp only
    rw [ile_iff]
    by_cases hi0 : i = 0
    · subst hi0
      rw [decide_eq_false (by omega), cond_false]
      simp only [Nat.sub_zero, List.take_length]
      rw [hZ, ofInts_bs]
    · rw [decide_eq_true (by omega), cond_true, ok_of (inB_true (by omega) (by rw [len_eq, List.length_reverse]; omega)), ok_of (aok1 _ (by rw [List.length_append, List.length_take, List.length_singleton]; omega)), isub_eq (by omega) (by omega)]
      refine ih2 _ ⟨i - 1, ?_, by omega⟩ (by simp only; omega)
      have e1 : ((i : Int) - 1).toNat = i - 1 := by omega
      have e2 : Z.reverse.getD (i - 1) 0 = Z.getD (Z.length - i) 0 := by
        rw [List.getD_eq_getElem?_getD, List.getElem?_reverse (by omega), List.getD_eq_getElem?_getD]
        congr 2
        omega
      rw [e1, e2]
      refine Prod.ext (Prod.ext (by simp only; omega) rfl) (Prod.ext ?_ rfl)
      simp only
      rw [show Z.length - (i - 1) = Z.length - i + 1 by omega, List.take_add_one, List.getD_eq_getElem?_getD]
      rw [List.getElem?_eq_getElem (by omega)]
      rfl
  have hal := dig_len_pos ha0
  have hal2 := dig_len_mono ha
  rw [if_neg ha0] at hd
  have := kd a 10 (by omega) (by decide) (by decide)
  rw [show (((10 : Nat) : Int)) = 10 from rfl] at this
  rw [decide_eq_true (by omega), cond_true, this]
  simp only [Option.bind_some]
  rw [iadd_eq (by omega) (by omega), wrapu8 (by omega) (by omega), ok_of (aok1 _ (by rw [List.length_append, List.length_reverse, List.length_map, List.length_singleton]; omega))]
  refine ih _ ⟨a / 10, (48 + a % 10) :: E, ?_, by omega, ?_⟩ ?_
  · refine Prod.ext rfl (Prod.ext ?_ rfl)
    simp
  · rw [hd]
    by_cases h0 : a < 10
    · rw [dec_small h0, if_pos (by omega), show a % 10 = a by omega]; rfl
    · rw [dec_big h0, if_neg (by omega), List.append_assoc]; rfl
  · simp only
    rw [if_neg (show ¬ dig a = [] from fun h => ha0 (dig_eq_nil.1 h)), val_dig, val_dig, Int.toNat_natCast, Int.toNat_natCast]
    have hp := dec_pos a
    split
    · omega
    · rename_i hq
      have hq0 : a / 10 ≠ 0 := fun h => hq (dig_eq_nil.2 h)
      rw [dec_big (n := a) (by omega), List.length_append]
      show (dec (a / 10)).length < (dec (a / 10)).length + 1
      omega
end Go.Px.Seat

/- Rules for calls that come to something. -/
namespace Go.Px
open Go Pm
/-- It comes to something of which Q holds. -/
def Tot {R : Type} (x : Option R) (Q : R → Prop) : Prop := ∃ r, x = some r ∧ Q r
section
variable {R P α : Type} {Q : R → Prop}
theorem tot_some {r : R} (h : Q r) : Tot (some r) Q := ⟨r, rfl, h⟩
theorem tot_ok {c : Bool} {x : Option R} (hc : c = true) (h : Tot x Q) : Tot (ok c x) Q := by rw [ok_of hc]; exact h
theorem tot_if {c : Bool} {x y : Option R} (h1 : c = true → Tot x Q) (h2 : c = false → Tot y Q) : Tot (bif c then x else y) Q := by
  cases c with
  | true => exact h1 rfl
  | false => exact h2 rfl
theorem tot_eq {x : Option α} {a : α} {f : α → Option R} (h : x = some a) (h' : Tot (f a) Q) : Tot (x.bind f) Q := by rw [h]; exact h'
theorem tot_bind {x : Option α} {f : α → Option R} (I : α → Prop) (h : Tot x I) (h' : ∀ a, I a → Tot (f a) Q) : Tot (x.bind f) Q := by
  obtain ⟨a, h1, h2⟩ := h
  rw [h1]; exact h' a h2
theorem tot_jb {x : Option (R ⊕ P)} {f : P → Option R} (I : P → Prop) (h : Tot x (fun s => match s with | .inl r => Q r | .inr p => I p)) (h' : ∀ p, I p → Tot (f p) Q) : Tot (jb x f) Q := by
  obtain ⟨s, h1, h2⟩ := h
  rw [h1]
  cases s with
  | inl r => exact ⟨r, rfl, h2⟩
  | inr p => exact h' p h2
theorem tot_iter {F : (P → Option R) → P → Option R} {n : Nat} {p : P} (I : P → Prop) (m : P → Nat) (hm : m p < n) (hI : I p)
    (step : ∀ rec p, I p → (∀ q, I q → m q < m p → Tot (rec q) Q) → Tot (F rec p) Q) : Tot (iter F n p) Q :=
  iter_ex I m Q step n p hm hI
end
/-- A text of bytes, not longer than so many. -/
def Txt (k : Nat) (s : ByteArray) : Prop := ∃ l, s = bs l ∧ Bl l ∧ l.length ≤ k
theorem Txt.mono {k k' : Nat} {s : ByteArray} (h : Txt k s) (hk : k ≤ k') : Txt k' s := let ⟨l, h1, h2, h3⟩ := h; ⟨l, h1, h2, Nat.le_trans h3 hk⟩
theorem Txt.sok {k k' : Nat} {s t : ByteArray} (h : Txt k s) (h' : Txt k' t) (hk : k + k' ≤ 140737488355328) : sok s t = true := by
  obtain ⟨l, rfl, h2, h3⟩ := h
  obtain ⟨l', rfl, h5, h6⟩ := h'
  rw [bs_sok]
  exact decide_eq_true (by omega)
end Go.Px

/- Numbers shown with nine digits: the reference. -/
namespace Pm
open Go.Px.Seat
theorem tp_len {k : Int} (h : k ≤ 2000) : (dig (tp k)).length ≤ 2001 := by
  unfold tp
  have := dig_ten k.toNat
  omega
theorem tp_one {k : Int} (h : k ≤ 0) : tp k = 1 := by unfold tp; rw [show k.toNat = 0 by omega]
theorem rnd_le {up : Bool} {a b : Nat} : a / b ≤ rnd up a b ∧ rnd up a b ≤ a / b + 1 := by
  unfold rnd
  split <;> omega
theorem shown_len {p q : Nat} {k : Int} {up : Bool} (hq : q ≠ 0) (h : LG p q k) : (dec (rnd up (p * tp (8 - k)) (q * tp (k - 8)))).length = 9 ∨ (dec (rnd up (p * tp (8 - k)) (q * tp (k - 8)))).length = 10 := by
  obtain ⟨h1, h2⟩ := LG_nine hq h
  obtain ⟨h3, h4⟩ := rnd_le (up := up) (a := p * tp (8 - k)) (b := q * tp (k - 8))
  have h5 := dec_ge 8 _ (Nat.le_trans h1 h3)
  have h6 := dec_le 10 (rnd up (p * tp (8 - k)) (q * tp (k - 8))) (by decide) (by omega)
  omega
/-- what is left when noughts at the end are struck -/
theorem trim_step {l : List Nat} : ((l ++ [48]).reverse.dropWhile (· == 48)).reverse = (l.reverse.dropWhile (· == 48)).reverse := by
  rw [List.reverse_append]; rfl
theorem trim_stop {l : List Nat} {c : Nat} (h : c ≠ 48) : ((l ++ [c]).reverse.dropWhile (· == 48)).reverse = l ++ [c] := by
  rw [List.reverse_append, List.reverse_singleton, List.singleton_append, List.dropWhile_cons, if_neg (by simpa using h), List.reverse_cons, List.reverse_reverse]
theorem take_last' {d : List Nat} {m : Nat} (h1 : 1 < m) (h : m ≤ d.length) : (d.take m).drop 1 = (d.take (m - 1)).drop 1 ++ [d.getD (m - 1) 0] := by
  obtain ⟨j, rfl⟩ : ∃ j, m = j + 1 := ⟨m - 1, by omega⟩
  rw [Nat.add_sub_cancel, List.take_add_one, List.getElem?_eq_getElem (by omega), List.drop_append_of_le_length (by rw [List.length_take]; omega), List.getD_eq_getElem?_getD, List.getElem?_eq_getElem (by omega)]
  rfl
end Pm
namespace Go.Px.Seat
open Go Pm
set_option linter.unusedVariables false
theorem tot_LG {p q : Nat} {x : Option (Int × Unit)} {Q : Int × Unit → Prop} (h : Tot x Q) (hQ : ∀ r, Q r → ∃ k, r = (k, ()) ∧ LG p q k ∧ -400 ≤ k ∧ k ≤ 400 := by exact fun r h => h) : ∃ k : Int, x = some (k, ()) ∧ LG p q k ∧ -400 ≤ k ∧ k ≤ 400 := by
  obtain ⟨r, h1, h2⟩ := h
  obtain ⟨k, rfl, h3⟩ := hQ r h2
  exact ⟨k, h1, h3⟩
theorem one_dg : ([1] : List Int) = dig 1 := dig_one (d := 1) (by decide) (by decide)
theorem k_s21Int : Ev fun n => ∀ k : Int, -1000 < k → k < 1000 → c_s_l21Int ((C B0).run n) k = some (bs (itoa k), ()) := by
  have hI : Ev fun n => ∀ k : Int, -1000 < k → k < 1000 → c_s_FracInt ((C B0).run n) k = some (decide (k < 0), (dig k.natAbs, ([1], ()))) := by
    refine (k_sNatOf (B := B0)).succ fun n hn hO k h1 h2 => ?_
    rw [run_succ, e_s_FracInt]
    unfold p_s_FracInt
    rw [ilt_iff]
    by_cases h : k < 0
    · have e : ineg .u64 (IntKind.u64.wrap k) = ((k.natAbs : Nat) : Int) := by
        unfold ineg
        simp only [IntKind.wrap, IntKind.bits, IntKind.signed]
        simp
        omega
      rw [decide_eq_true h, cond_true, e, hO _ (by omega)]
      rfl
    · rw [decide_eq_false h, cond_false, wrapu64 (by omega) (by omega), show k = ((k.natAbs : Nat) : Int) by omega, hO _ (by omega)]
      rfl
  have hT : Ev fun n => ∀ k : Int, -1000 < k → k < 1000 → c_s_FracText ((C B0).run n) (decide (k < 0)) (dig k.natAbs) [1] = some (bs (itoa k), ()) := by
    refine ((k_sFracOk (B := B0)).and (k_sNatText.and (k_sOne (B := B0)))).succ fun n hn ⟨ho, ht, h1'⟩ k h1 h2 => ?_
    rw [run_succ, e_s_FracText]
    unfold p_s_FracText
    have hbig : k.natAbs < 65536 ^ 256 := by
      have : 65536 ^ 1 ≤ 65536 ^ 256 := Nat.pow_le_pow_right (by decide) (by decide)
      omega
    have hf : fok (decide (k < 0)) (dig k.natAbs) [1] = true := by
      refine fok_iff.2 ⟨(k : Rat), ?_, ?_, ?_, ?_⟩
      · refine ⟨by simpa using hbig, ?_⟩
        rw [Rat.den_intCast]
        exact Nat.one_lt_pow (by decide) (by decide)
      · show decide (k < 0) = decide ((k : Rat).num < 0)
        rw [Rat.num_intCast]
      · simp [ft]
      · simp only [fq, Rat.den_intCast]
        exact one_dg
    rw [ho, hf]
    simp only [Option.bind_some]
    rw [Bool.not_true, cond_false, ht _ hbig]
    simp only [Option.bind_some]
    have hl := dec_le 3 k.natAbs (by decide) (by omega)
    rw [jb_of (p := (((), (bs (itoa k), (bs [], ()))), ((decide (k < 0), (dig k.natAbs, ([1], ()))), ()))) (by
      unfold itoa
      by_cases h : k < 0
      · rw [decide_eq_true h, if_pos h, cond_true, bs_sok, ok_of (decide_eq_true (by simp only [List.length_singleton]; omega)), bs_app]; rfl
      · rw [decide_eq_false h, if_neg h, cond_false, show k.toNat = k.natAbs by omega])]
    dsimp only
    rw [one_dg, h1' 1]
    rfl
  refine (hI.and hT).succ fun n hn ⟨hi, ht⟩ k h1 h2 => ?_
  rw [run_succ, e_s_l21Int]
  unfold p_s_l21Int
  rw [hi k h1 h2]
  simp only [Option.bind_some]
  rw [ht k h1 h2]
  rfl
theorem cmp_le (x y : Int) : ile (if x < y then (-1 : Int) else if y < x then 1 else 0) 0 = decide (x ≤ y) := by
  rw [ile_iff]
  refine decide_eq_decide.2 ?_
  split
  · omega
  · split <;> omega
theorem k_s22Power : Ev fun n => ∀ p q : Nat, q ≠ 0 → (dig p).length ≤ 4000 → (dig q).length ≤ 4000 → G p q (-400) → ¬ G p q 401 → ∃ k : Int, c_s_l22Power ((C B0).run n) false (dig p) (dig q) = some (k, ()) ∧ LG p q k ∧ -400 ≤ k ∧ k ≤ 400 := by
  refine (k_s22Tens.and (k_sCmpN (B := B0))).succ fun n hn ⟨kt, kc⟩ p q hq hp hql hlo hhi => ?_
  rw [run_succ, e_s_l22Power]
  unfold p_s_l22Power
  refine (tot_LG (Q := fun r : Int × Unit => ∃ k, r = (k, ()) ∧ LG p q k ∧ -400 ≤ k ∧ k ≤ 400) (tot_iter (fun s => ∃ lo hi : Int, s = ((lo, (hi, ((), (0, ())))), ((false, (dig p, (dig q, ()))), ())) ∧ -400 ≤ lo ∧ lo ≤ hi ∧ hi ≤ 400 ∧ G p q lo ∧ ¬ G p q (hi + 1)) (fun s => (s.1.2.1 - s.1.1).toNat) (by simp only; omega) ⟨-400, 400, rfl, by omega, by omega, by omega, hlo, hhi⟩ ?_))
  rintro rec _ ⟨lo, hi, rfl, h1, h2, h3, h4, h5⟩ ih
  dsimp only
  rw [ilt_iff]
  by_cases hlt : lo < hi
  · rw [decide_eq_true hlt, cond_true, isub_eq (x := hi) (y := lo) (by omega) (by omega), iquo_eq (by omega) (by omega) (by omega), isub_eq (by omega) (by omega)]
    obtain ⟨m, hm⟩ : ∃ m, m = hi - (hi - lo) / 2 := ⟨_, rfl⟩
    rw [← hm, kt m (by omega) (by omega)]
    simp only [Option.bind_some]
    have l1 := tp_len (k := m) (by omega)
    have l2 := tp_len (k := -m) (by omega)
    rw [kc false false _ _ p q (Nat.ne_of_gt (tp_pos _)) hq (by omega) (by omega) (by omega) (by omega), cmpR_mk (Nat.ne_of_gt (tp_pos _)) hq]
    simp only [Option.bind_some]
    rw [cmp_le]
    have hG : (sg false (tp m) * (q : Int) ≤ sg false p * (tp (-m) : Int)) ↔ G p q m := by
      unfold G sg
      simp only [Bool.false_eq_true, if_false]
      rw [Nat.mul_comm q]
      exact_mod_cast Iff.rfl
    by_cases hg : G p q m
    · rw [decide_eq_true (hG.2 hg), cond_true]
      exact ih _ ⟨m, hi, rfl, by omega, by omega, by omega, hg, h5⟩ (by simp only; omega)
    · rw [decide_eq_false (fun h => hg (hG.1 h)), cond_false, isub_eq (by omega) (by omega)]
      exact ih _ ⟨lo, m - 1, rfl, by omega, by omega, by omega, h4, by rw [show m - 1 + 1 = m by omega]; exact hg⟩ (by simp only; omega)
  · rw [decide_eq_false hlt, cond_false]
    have : lo = hi := by omega
    subst this
    exact ⟨_, rfl, lo, rfl, ⟨h4, h5⟩, by omega, by omega⟩
theorem k_s22Size : Ev fun n => ∀ (p q : Nat) (up : Bool) (k : Int), q ≠ 0 → (dig p).length ≤ 4000 → (dig q).length ≤ 4000 → LG p q k → G p q (-400) → ¬ G p q 401 → c_s_l22Size ((C B0).run n) false (dig p) (dig q) up = some (bs (shown k (rnd up (p * tp (8 - k)) (q * tp (k - 8)))), ()) := by
  refine (k_s22Power.and (k_s22Tens.and ((k_sMul (B := B0)).and ((k_sDiv (B := B0)).and ((k_sAdd (B := B0)).and (k_sNatText.and k_s21Int)))))).succ fun n hn ⟨kp, kt, km, kd, ka, kn, ki⟩ p q up k hq hpl hql hk hlo hhi => ?_
  rw [run_succ, e_s_l22Size]
  unfold p_s_l22Size
  obtain ⟨k', hk', hL, hk1, hk2⟩ := kp p q hq hpl hql hlo hhi
  obtain rfl := LG_uniq hk hL
  rw [hk']
  simp only [Option.bind_some]
  have l1 := tp_len (k := 8 - k) (by omega)
  have l2 := tp_len (k := k - 8) (by omega)
  rw [isub_eq (by omega) (by omega), iadd_eq (by omega) (by omega), show k - 9 + 1 = k - 8 by omega, kt _ (by omega) (by omega), show -(k - 8) = 8 - k by omega]
  simp only [Option.bind_some]
  rw [km p _ (by omega) (by omega)]
  simp only [Option.bind_some]
  rw [km q _ (by omega) (by omega)]
  simp only [Option.bind_some]
  have l3 := len_dig_mul p (tp (8 - k))
  have l4 := len_dig_mul q (tp (k - 8))
  have hb0 : 0 < q * tp (k - 8) := Nat.mul_pos (by omega) (tp_pos _)
  rw [kd _ _ (by omega) (by omega) (by omega)]
  simp only [Option.bind_some]
  have h9 := LG_nine hq hk
  have hdl := shown_len (up := up) hq hk
  obtain ⟨A, hA⟩ : ∃ A, A = p * tp (8 - k) := ⟨_, rfl⟩
  obtain ⟨D, hD⟩ : ∃ D, D = q * tp (k - 8) := ⟨_, rfl⟩
  rw [← hA, ← hD] at h9 hdl ⊢
  rw [← hD] at hb0
  have hql2 : (dig (A / D)).length ≤ 10 := dig_len_le.2 (Nat.lt_of_lt_of_le h9.2 (by decide))
  obtain ⟨N, hN⟩ : ∃ N, N = rnd up A D := ⟨_, rfl⟩
  rw [jb_of (p := ((dig N, (k, (bs [], ()))), ())) (by
    rw [jb_of (p := (((up && decide (A % D ≠ 0)), (dig (A / D), (k, (bs [], ())))), ())) (by
      cases up with
      | false => rfl
      | true =>
        rw [cond_true, len_eq, ilt_iff, Bool.true_and]
        by_cases h0 : A % D = 0
        · rw [h0, dig_zero]; rfl
        · have := dig_len_pos h0
          rw [decide_eq_true (by omega), decide_eq_true h0])]
    dsimp only
    rw [hN]
    unfold rnd
    by_cases h0 : up = true ∧ A % D ≠ 0
    · rw [if_pos h0, h0.1, decide_eq_true h0.2, Bool.true_and, cond_true, one_dg, ka _ _ (by omega) (by rw [← one_dg]; decide)]
      rfl
    · rw [if_neg h0, show (up && decide (A % D ≠ 0)) = false from by
        cases up with
        | false => rfl
        | true =>
          rw [Bool.true_and]
          exact decide_eq_false (fun h => h0 ⟨rfl, h⟩)]
      rfl)]
  dsimp only
  have hNle : N ≤ 1000000000 := by
    have := (rnd_le (up := up) (a := A) (b := D)).2
    rw [hN]
    omega
  have hNb : N < 65536 ^ 256 := by
    have : 65536 ^ 2 ≤ 65536 ^ 256 := Nat.pow_le_pow_right (by decide) (by decide)
    omega
  rw [kn N hNb, ← hN]
  rw [← hN] at hdl
  simp only [Option.bind_some]
  have hdb := dec_bl N
  obtain ⟨d, hd⟩ : ∃ d, d = dec N := ⟨_, rfl⟩
  rw [← hd] at hdl hdb ⊢
  have hshown : shown k N = d.take 1 ++ ((if ((d.drop 1).reverse.dropWhile (· == 48)).reverse = [] then [] else 46 :: ((d.drop 1).reverse.dropWhile (· == 48)).reverse) ++ (if k + ((d.length : Int) - 9) = 0 then [] else 101 :: itoa (k + ((d.length : Int) - 9)))) := by
    rw [hd]; rfl
  rw [jb_of (p := ((bs d, (k + ((d.length : Int) - 9), (bs [], ()))), ())) (by
    rw [bs_len, ilt_iff]
    rcases hdl with h | h
    · rw [h, decide_eq_false (by decide), show k + (((9 : Nat) : Int) - 9) = k by omega]; rfl
    · rw [h, decide_eq_true (by decide), cond_true, iadd_eq (by omega) (by omega), show k + (((10 : Nat) : Int) - 9) = k + 1 by omega])]
  dsimp only
  rw [hshown]
  obtain ⟨K, hK⟩ : ∃ K, K = k + ((d.length : Int) - 9) := ⟨_, rfl⟩
  have hKb : -1000 < K ∧ K < 1000 := by rw [hK]; omega
  rw [← hK, bs_len]
  refine iter_const (fun s => ∃ m : Nat, s = (((m : Int), (bs d, (K, (bs [], ())))), ()) ∧ 1 ≤ m ∧ m ≤ d.length ∧ ((d.drop 1).reverse.dropWhile (· == 48)).reverse = (((d.take m).drop 1).reverse.dropWhile (· == 48)).reverse) (fun s => s.1.1.toNat) _ ?_ n _ (by simp only; omega) ⟨d.length, rfl, by omega, Nat.le_refl _, by rw [List.take_length]⟩
  rintro rec _ ⟨m, rfl, hm1, hm2, htr⟩ ih
  dsimp only
  rw [jb_of (p := ((decide (1 < m ∧ d.getD (m - 1) 0 = 48), ((m : Int), (bs d, (K, (bs [], ()))))), ())) (by
    rw [ilt_iff]
    by_cases h1 : 1 < m
    · rw [decide_eq_true (show (1 : Int) < m by omega), cond_true, isub_eq (by omega) (by omega), bs_len, ok_of (inB_true (by omega) (by omega)), show (m : Int) - 1 = ((m - 1 : Nat) : Int) by omega, bs_bt hdb]
      by_cases h48 : d.getD (m - 1) 0 = 48
      · rw [decide_eq_true ⟨h1, h48⟩, h48]; rfl
      · rw [decide_eq_false (fun h => h48 h.2), beq_f (by omega)]
    · rw [decide_eq_false (show ¬ (1 : Int) < m by omega), decide_eq_false (fun h => h1 h.1)]; rfl)]
  dsimp only
  by_cases hgo : 1 < m ∧ d.getD (m - 1) 0 = 48
  · rw [decide_eq_true hgo, cond_true, isub_eq (by omega) (by omega)]
    refine ih _ ⟨m - 1, by simp only [Prod.mk.injEq, and_true]; omega, by omega, by omega, ?_⟩ (by simp only; omega)
    rw [htr, take_last' hgo.1 hm2, hgo.2, trim_step]
  · rw [decide_eq_false hgo, cond_false, bs_len, ok_of (sliceOk_true (by omega) (by omega) (by omega))]
    have ht1 : (d.take 1).length = 1 := by rw [List.length_take]; omega
    have e1 : ByteArray.extract (bs d) (Int.toNat 0) (Int.toNat 1) = bs (d.take 1) := by rw [bs_sub]; rfl
    obtain ⟨rest, hrest⟩ : ∃ rest, rest = ((d.drop 1).reverse.dropWhile (· == 48)).reverse := ⟨_, rfl⟩
    have hr2 : rest = (d.take m).drop 1 := by
      rw [hrest, htr]
      by_cases h1 : 1 < m
      · have h48 : d.getD (m - 1) 0 ≠ 48 := fun h => hgo ⟨h1, h⟩
        rw [take_last' h1 hm2, trim_stop h48]
      · have : m = 1 := by omega
        subst this
        rw [List.drop_eq_nil_of_le (by omega)]; rfl
    have hrl : rest.length = m - 1 := by rw [hr2, List.length_drop, List.length_take]; omega
    rw [← hrest, e1]
    rw [jb_of (p := ((K, (bs (d.take 1 ++ (if rest = [] then [] else 46 :: rest)), (bs [], ()))), ())) (by
      rw [ilt_iff]
      by_cases h1 : 1 < m
      · have hne : rest ≠ [] := fun h => by rw [h] at hrl; simp at hrl; omega
        rw [decide_eq_true (show (1 : Int) < m by omega), cond_true, bs_sok, ok_of (decide_eq_true (by simp only [List.length_singleton]; omega)), ok_of (sliceOk_true (by omega) (by omega) (by omega)), bs_app, bs_sub, show Int.toNat 1 = 1 from rfl, Int.toNat_natCast, ← hr2, bs_sok, ok_of (decide_eq_true (by rw [List.length_append]; simp only [List.length_singleton]; omega)), bs_app, if_neg hne, List.append_assoc]
        rfl
      · have hne : rest = [] := List.length_eq_zero_iff.1 (by omega)
        rw [decide_eq_false (show ¬ (1 : Int) < m by omega), cond_false, if_pos hne, List.append_nil])]
    dsimp only
    have hol : (d.take 1 ++ (if rest = [] then [] else 46 :: rest)).length ≤ 100 := by
      rw [List.length_append]
      split
      · simp; omega
      · simp only [List.length_cons]; omega
    have hil := itoa_len (x := K) hKb.1 hKb.2
    rw [jb_of (p := ((bs (d.take 1 ++ ((if rest = [] then [] else 46 :: rest) ++ (if K = 0 then [] else 101 :: itoa K))), (bs [], ())), ())) (by
      by_cases h0 : K = 0
      · rw [h0, if_pos rfl, List.append_nil]; rfl
      · rw [if_neg h0, show (K != 0) = true from by simpa using h0, cond_true, bs_sok, ok_of (decide_eq_true (by simp only [List.length_singleton]; omega)), ki K hKb.1 hKb.2, bs_app]
        simp only [Option.bind_some]
        rw [bs_sok, ok_of (decide_eq_true (by rw [List.length_append]; simp only [List.length_singleton]; omega)), bs_app]
        simp)]
end Go.Px.Seat

/- Numbers: the program's functions, part 4: of a word, bits, sum. Seat ZD. -/
namespace Go.Px.Seat
open Go Pm
set_option linter.unusedVariables false
variable {B : Run}
theorem iandu_base {x : Int} (h : 0 ≤ x) (h' : x < 18446744073709551616) : iand .u64 x 65535 = x % 65536 := by
  have e1 : (BitVec.ofInt 64 x).toNat = x.toNat := by
    simp [BitVec.toNat_ofInt]; omega
  have e2 : (BitVec.ofInt 64 65535).toNat = 2 ^ 16 - 1 := by decide
  have e3 : (BitVec.ofInt 64 x &&& BitVec.ofInt 64 65535).toNat = x.toNat % 2 ^ 16 := by
    rw [BitVec.toNat_and, e1, e2, Nat.and_two_pow_sub_one_eq_mod]
  show IntKind.u64.wrap (((BitVec.ofInt 64 x &&& BitVec.ofInt 64 65535).toNat : Nat) : Int) = _
  rw [e3, wrapu64 (by omega) (by omega)]
  omega
theorem k_natOf : Ev fun n => ∀ x : Nat, x < 18446744073709551616 → c_i_natOf ((C B).run n) (x : Int) = some (dig x, ()) := by
  refine Ev.triv.succ fun n hn _ x hx => ?_
  have hlen : (dig x).length ≤ 4 := dig_len_le.2 (by omega)
  rw [run_succ, e_i_natOf]
  unfold p_i_natOf
  refine iter_const (fun p => ∃ i : Nat, p = ((((x / 65536 ^ i : Nat) : Int), ((), ((), ()))), ((dig x).take i, ())) ∧ i ≤ (dig x).length) (fun p => 5 - p.2.1.length) _ ?_ n _ (by simp only; omega) ⟨0, by simp, by omega⟩
  rintro rec _ ⟨i, rfl, hi⟩ ih
  simp only [ilt_iff]
  by_cases h : x / 65536 ^ i = 0
  · rw [h]
    simp only [show ¬ (0 : Int) < ((0 : Nat) : Int) by omega, decide_false, cond_false]
    have : (dig x).length ≤ i := by
      rw [dig_len_le]
      exact (Nat.div_eq_zero_iff_lt (Nat.pow_pos (by decide))).1 h
    rw [List.take_of_length_le this]
  · have hpos : (0 : Int) < ((x / 65536 ^ i : Nat) : Int) := Int.natCast_pos.2 (Nat.pos_of_ne_zero h)
    simp only [hpos, decide_true, cond_true]
    have hil : i < (dig x).length := by
      rcases Nat.lt_or_ge i (dig x).length with h1 | h1
      · exact h1
      · exact absurd (Nat.div_eq_of_lt (dig_len_le.1 h1)) h
    have hb : x / 65536 ^ i ≤ x := Nat.div_le_self ..
    have e1 : IntKind.wrap .i64 (iand .u64 ((x / 65536 ^ i : Nat) : Int) 65535) = ((x / 65536 ^ i % 65536 : Nat) : Int) := by
      rw [iandu_base (by omega) (by omega), wrap64 (by omega) (by omega)]; omega
    have e2 : ishr .u64 ((x / 65536 ^ i : Nat) : Int) 16 = ((x / 65536 ^ (i + 1) : Nat) : Int) := by
      have h16 : ((16 : Nat) : Int) = 16 := rfl
      rw [← h16, ishru_eq (by omega), Nat.pow_succ, ← Nat.div_div_eq_div_mul]
      have : (2 : Int) ^ 16 = 65536 := by decide
      rw [this]; omega
    rw [e1, e2, ← take_dig_succ hil]
    rw [ok_of (aok_true (by simp only [List.length_take]; omega))]
    refine ih _ ⟨i + 1, rfl, by omega⟩ ?_
    simp only [List.length_take]; omega
theorem at_copied (xs ys : List Int) (j : Nat) (h : ys.length ≤ xs.length) : at_ (copied xs ys) j = if j < ys.length then at_ ys j else at_ xs j := by
  unfold copied
  rw [List.take_of_length_le h]
  simp only [at_, List.getD_eq_getElem?_getD]
  split
  · rename_i hj
    rw [List.getElem?_append_left hj]
  · rename_i hj
    rw [List.getElem?_append_right (by omega), List.getElem?_drop, show ys.length + (j - ys.length) = j by omega]
theorem copied_len' (xs ys : List Int) : (copied xs ys).length = xs.length := by
  unfold copied
  rw [List.length_append, List.length_take, List.length_drop]
  omega
theorem at_replicate (N j : Nat) : at_ (List.replicate N 0) j = 0 := by
  simp only [at_, List.getD_eq_getElem?_getD, List.getElem?_replicate]
  split <;> rfl
theorem val_copied (N : Nat) (ys : List Int) (h : ys.length ≤ N) : val (copied (List.replicate N 0) ys) = val ys := by
  unfold copied
  rw [List.take_of_length_le (by simpa using h), List.drop_replicate, val_append, val_replicate_zero]
  omega
end Go.Px.Seat
