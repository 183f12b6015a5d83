/- Own texts, part M7: PnN PnK PnO PnQ PmZf PmZg PmZh PnJ PmZi PnW PnY PnL PoA PnS PnT. -/
import Derived.Test.YtbdlklncblklnaaGreatDoorM6
import Derived.Test.YtbdlklncblklnaaGreatDoorM4
import Derived.Test.YtbdlklncblklnaaGreatDoorM5
set_option linter.unusedVariables false

/- Roots of floats: the program's. Seat ZD. -/
namespace Pm
open Go.Px Go.Px.Seat
theorem rat_pow_le {x y : Rat} (hx : 0 ≤ x) (h : x ≤ y) : ∀ n : Nat, x ^ n ≤ y ^ n
  | 0 => by rw [Rat.pow_zero, Rat.pow_zero]; exact Rat.le_refl
  | n + 1 => by
    rw [Rat.pow_succ, Rat.pow_succ]
    have hy : 0 ≤ y := Rat.le_trans hx h
    have h1 := rat_pow_le hx h n
    have h2 : 0 ≤ y ^ n := Rat.pow_nonneg hy
    exact Rat.le_trans (Rat.mul_le_mul_of_nonneg_right h1 hx) (Rat.mul_le_mul_of_nonneg_left h h2)
theorem rat_pow_lt {x y : Rat} (hx : 0 ≤ x) (h : x < y) : ∀ n : Nat, n ≠ 0 → x ^ n < y ^ n
  | 0, h0 => absurd rfl h0
  | n + 1, _ => by
    rw [Rat.pow_succ, Rat.pow_succ]
    have hy : 0 < y := by grind
    have h1 := rat_pow_le hx (Rat.le_of_lt h) n
    have h2 : 0 < y ^ n := Rat.pow_pos hy
    have h3 := Rat.mul_le_mul_of_nonneg_right h1 hx
    have h4 := Rat.mul_lt_mul_of_pos_left h h2
    grind
theorem rat_pow_le_iff {x y : Rat} (hx : 0 ≤ x) (hy : 0 ≤ y) {n : Nat} (hn : n ≠ 0) : x ^ n ≤ y ^ n ↔ x ≤ y := by
  constructor
  · intro h
    refine Rat.not_lt.1 fun h' => ?_
    exact absurd h (Rat.not_le.2 (rat_pow_lt hy h' n hn))
  · exact fun h => rat_pow_le hx h n
theorem fv_nonneg {w o : Int} (h : 0 ≤ o) : 0 ≤ fv w o := by
  rw [← fv_zero' (w := w)]; exact fv_le.2 h
theorem fv_pos {w o : Int} (h : 0 < o) : 0 < fv w o := by
  rw [← fv_zero' (w := w)]; exact fv_lt.2 h
theorem zero_pow' {n : Nat} (hn : n ≠ 0) : (0 : Rat) ^ n = 0 := by
  obtain ⟨m, rfl⟩ : ∃ m, n = m + 1 := ⟨n - 1, by omega⟩
  rw [Rat.pow_succ, Rat.mul_zero]
/-- the greatest float whose power is not above -/
def IsRt (w a : Int) (n : Nat) (d : Int) : Prop := 0 ≤ d ∧ d < top w ∧ fv w d ^ n ≤ fv w a ∧ (d = top w - 1 ∨ fv w a < fv w (d + 1) ^ n)
theorem IsRt.le {w a : Int} {n : Nat} {d : Int} (h : IsRt w a n d) (hn : n ≠ 0) {o : Int} (h0 : 0 ≤ o) (h1 : o < top w) : o ≤ d ↔ fv w o ^ n ≤ fv w a := by
  obtain ⟨a1, a2, a3, a4⟩ := h
  constructor
  · intro hod
    exact Rat.le_trans (rat_pow_le (fv_nonneg h0) (fv_le.2 hod) n) a3
  · intro ho
    rcases a4 with h | h
    · omega
    · refine Int.not_lt.1 fun h' => ?_
      have := rat_pow_le (fv_nonneg (w := w) (show 0 ≤ d + 1 by omega)) (fv_le.2 (show d + 1 ≤ o by omega)) n
      exact absurd (Rat.le_trans this ho) (Rat.not_le.2 h)
theorem IsRt.unique {w a : Int} {n : Nat} {d e : Int} (hn : n ≠ 0) (h : IsRt w a n d) (h' : IsRt w a n e) : d = e := by
  have h1 := (h.le hn h'.1 h'.2.1).2 h'.2.2.1
  have h2 := (h'.le hn h.1 h.2.1).2 h.2.2.1
  omega
open Classical in
noncomputable def rt (w a : Int) (n : Nat) : Int := if h : ∃ d, IsRt w a n d then choose h else 0
theorem rt_of {w a : Int} {n : Nat} {d : Int} (hn : n ≠ 0) (h : IsRt w a n d) : rt w a n = d := by
  unfold rt
  rw [dif_pos ⟨d, h⟩]
  exact IsRt.unique hn (Classical.choose_spec (⟨d, h⟩ : ∃ d, IsRt w a n d)) h
theorem rt_ex {w a : Int} {n : Nat} (hw : wd w = true) (hn : n ≠ 0) (ha : 0 ≤ a) : ∃ d, IsRt w a n d := by
  have ht := top_pos hw
  have key : ∀ k : Nat, (k : Int) < top w → ∃ d : Int, 0 ≤ d ∧ d ≤ (k : Int) ∧ fv w d ^ n ≤ fv w a ∧ (d = (k : Int) ∨ fv w a < fv w (d + 1) ^ n) := by
    intro k
    induction k with
    | zero => intro _; exact ⟨0, by omega, by omega, by rw [fv_zero', zero_pow' hn]; exact fv_nonneg ha, .inl rfl⟩
    | succ k ih =>
      intro hk
      obtain ⟨d, h1, h2, h3, h4⟩ := ih (by omega)
      rcases h4 with h4 | h4
      · by_cases h : fv w (d + 1) ^ n ≤ fv w a
        · exact ⟨d + 1, by omega, by omega, h, .inl (by omega)⟩
        · exact ⟨d, h1, by omega, h3, .inr (Rat.not_le.1 h)⟩
      · exact ⟨d, h1, by omega, h3, .inr h4⟩
  obtain ⟨d, h1, h2, h3, h4⟩ := key (top w - 1).toNat (by omega)
  exact ⟨d, h1, by omega, h3, h4.elim (fun h => .inl (by omega)) .inr⟩
theorem rt_spec {w a : Int} {n : Nat} (hw : wd w = true) (hn : n ≠ 0) (ha : 0 ≤ a) : IsRt w a n (rt w a n) := by
  obtain ⟨d, h⟩ := rt_ex hw hn ha
  rw [rt_of hn h]; exact h
/-- down and up, of what is from 0 on -/
noncomputable def rdn0 (w a : Int) (n : Nat) : Int := if a = top w then top w else rt w a n
open Classical in
noncomputable def rup0 (w a : Int) (n : Nat) : Int := if a = top w then top w else if fv w (rt w a n) ^ n = fv w a then rt w a n else rt w a n + 1
noncomputable def rdn (w a : Int) (n : Nat) : Int := if a < 0 then -rup0 w (-a) n else rdn0 w a n
noncomputable def rup (w a : Int) (n : Nat) : Int := if a < 0 then -rdn0 w (-a) n else rup0 w a n
theorem powL_num {r : Rat} {n : Nat} (hn : n ≠ 0) : powL (.num r) n = .num (r ^ n) := by unfold powL; rw [if_neg hn]
theorem powL_pos {n : Nat} (hn : n ≠ 0) : powL .pos n = .pos := by unfold powL; rw [if_neg hn]
theorem rdn0_rng {w a : Int} {n : Nat} (hw : wd w = true) (hn : n ≠ 0) (ha : 0 ≤ a) : 0 ≤ rdn0 w a n ∧ rdn0 w a n ≤ top w := by
  have ht := top_pos hw
  have h := rt_spec hw hn ha
  unfold rdn0
  split
  · omega
  · exact ⟨h.1, by have := h.2.1; omega⟩
theorem rup0_rng {w a : Int} {n : Nat} (hw : wd w = true) (hn : n ≠ 0) (ha : 0 ≤ a) : 0 ≤ rup0 w a n ∧ rup0 w a n ≤ top w := by
  have ht := top_pos hw
  have h := rt_spec hw hn ha
  have h1 := h.1
  have h2 := h.2.1
  unfold rup0
  split
  · omega
  · split <;> omega
theorem le_rdn0 {w a o : Int} {n : Nat} (hw : wd w = true) (hn : n ≠ 0) (ha : 0 ≤ a) (ha' : a ≤ top w) (ho : 0 ≤ o) (ho' : o ≤ top w) : o ≤ rdn0 w a n ↔ powL (lim w o) n ≤ lim w a := by
  have ht := top_pos hw
  have h := rt_spec hw hn ha
  unfold rdn0
  by_cases hat : a = top w
  · rw [if_pos hat, hat, lim_top]; simp; omega
  · rw [if_neg hat, lim_num (o := a) ⟨hw, by omega, by omega⟩]
    by_cases hot : o = top w
    · rw [hot, lim_top, powL_pos hn]; simp; exact h.2.1
    · rw [lim_num (o := o) ⟨hw, by omega, by omega⟩, powL_num hn, h.le hn ho (by omega)]; rfl
theorem rup0_le {w a o : Int} {n : Nat} (hw : wd w = true) (hn : n ≠ 0) (ha : 0 ≤ a) (ha' : a ≤ top w) (ho : 0 ≤ o) (ho' : o ≤ top w) : rup0 w a n ≤ o ↔ lim w a ≤ powL (lim w o) n := by
  have ht := top_pos hw
  have h := rt_spec hw hn ha
  unfold rup0
  by_cases hat : a = top w
  · rw [if_pos hat, hat, lim_top]
    by_cases hot : o = top w
    · rw [hot, lim_top, powL_pos hn]; simp
    · rw [lim_num (o := o) ⟨hw, by omega, by omega⟩, powL_num hn]; simp; omega
  · rw [if_neg hat, lim_num (o := a) ⟨hw, by omega, by omega⟩]
    by_cases hot : o = top w
    · rw [hot, lim_top, powL_pos hn]
      have := h.2.1
      simp
      split <;> omega
    · rw [lim_num (o := o) ⟨hw, by omega, by omega⟩, powL_num hn, Lm.num_le]
      have hle := h.le hn ho (show o < top w by omega)
      generalize rt w a n = d at h hle ⊢
      by_cases he : fv w d ^ n = fv w a
      · rw [if_pos he, ← he, rat_pow_le_iff (fv_nonneg h.1) (fv_nonneg ho) hn, fv_le]
      · rw [if_neg he]
        have h1 : fv w d ^ n ≤ fv w a := h.2.2.1
        constructor
        · intro h'
          have : ¬ fv w o ^ n ≤ fv w a := fun hh => by have := hle.2 hh; omega
          exact Rat.le_of_lt (Rat.not_le.1 this)
        · intro h'
          refine Int.not_lt.1 fun hh => ?_
          have hod : o ≤ d := by omega
          have h2 := hle.1 hod
          have h3 : fv w o ^ n = fv w a := Rat.le_antisymm h2 h'
          have h4 := rat_pow_le (fv_nonneg (w := w) ho) (fv_le.2 hod) n
          rw [h3] at h4
          exact he (Rat.le_antisymm h1 h4)
noncomputable def rootS (w : Int) (a : Sp) : Sp := if (meet w a (sp 0 (top w))).1 = true then sp (rdn0 w (meet w a (sp 0 (top w))).2.1 2) (rup0 w (meet w a (sp 0 (top w))).2.2.1 2) else spn
/-! ### a power by its length -/
theorem pow_bl {x : Nat} (hx : x ≠ 0) (n : Nat) : 2 ^ ((bl x - 1) * n) ≤ x ^ n ∧ x ^ n ≤ 2 ^ (bl x * n) := by
  rw [Nat.pow_mul, Nat.pow_mul]
  exact ⟨Nat.pow_le_pow_left (bl_ge hx) n, Nat.pow_le_pow_left (Nat.le_of_lt (bl_lt x)) n⟩
theorem fv_pow {w o : Int} (h : 0 ≤ o) (n : Nat) : fv w o ^ n = mkRat (((sz w o * 2 ^ shf w o) ^ n : Nat) : Int) ((2 ^ lst w) ^ n) := by
  have e : fv w o = mkRat ((sz w o * 2 ^ shf w o : Nat) : Int) (2 ^ lst w) := by
    rw [fv, fI_sg, decide_eq_false (by omega)]; rfl
  rw [e]
  induction n with
  | zero => rw [Rat.pow_zero, Nat.pow_zero, Nat.pow_zero]; decide +kernel
  | succ n ih =>
    rw [Rat.pow_succ, ih, Rat.mkRat_mul_mkRat, Nat.pow_succ, Nat.pow_succ]
    rw [Int.natCast_mul ((sz w o * 2 ^ shf w o) ^ n)]
theorem cmp_pow {w o : Int} {T D : Nat} (h : 0 ≤ o) (n : Nat) (hD : D ≠ 0) : mkRat (T : Int) D < fv w o ^ n ↔ T * (2 ^ lst w) ^ n < (sz w o * 2 ^ shf w o) ^ n * D := by
  rw [fv_pow h, mk_lt2 hD (Nat.ne_of_gt (Nat.pow_pos (Nat.pow_pos (by decide)))), ← Int.natCast_mul, ← Int.natCast_mul, Int.ofNat_lt]
theorem sz_pos {w o : Int} (h : 0 < o) : sz w o ≠ 0 := by
  intro h0
  have : fv w o = 0 := by rw [fv, fI_sg, h0]; cases decide (o < 0) <;> simp [sg, Rat.zero_mkRat]
  have h2 := fv_pos (w := w) h
  rw [this] at h2
  exact absurd h2 (by decide)
theorem above_yes {w o : Int} {T D n : Nat} (h : 0 < o) (hT : T ≠ 0) (hD : D ≠ 0) (hl : (n : Int) * ((bl (sz w o) : Int) - 1 + (-(lst w : Int) + shf w o)) > (bl T : Int) - bl D + 1) : mkRat (T : Int) D < fv w o ^ n := by
  rw [cmp_pow (by omega) n hD]
  have hs := sz_pos (w := w) h
  have hb := bl_pos hs
  have h1 := (pow_bl hs n).1
  have h2 := bl_lt T
  have h3 := bl_ge hD
  have hbD := bl_pos hD
  rw [Nat.mul_pow, ← Nat.pow_mul, ← Nat.pow_mul]
  have e : (n : Int) * ((bl (sz w o) : Int) - 1 + (-(lst w : Int) + shf w o)) = (((bl (sz w o) - 1) * n : Nat) : Int) + ((shf w o * n : Nat) : Int) - ((lst w * n : Nat) : Int) := by
    rw [show ((bl (sz w o) : Int) - 1) = ((bl (sz w o) - 1 : Nat) : Int) by omega, Int.mul_add, Int.mul_add, Int.mul_neg]
    simp only [Int.natCast_mul]
    rw [Int.mul_comm (n : Int), Int.mul_comm (n : Int), Int.mul_comm (n : Int)]
    omega
  rw [e] at hl
  generalize (bl (sz w o) - 1) * n = A at h1 hl
  generalize shf w o * n = Bq at hl ⊢
  generalize lst w * n = Cq at hl ⊢
  have k1 : T * 2 ^ Cq < 2 ^ (bl T + Cq) := by
    rw [Nat.pow_add]; exact Nat.mul_lt_mul_of_pos_right h2 (Nat.pow_pos (by decide))
  have k2 : 2 ^ (A + Bq + (bl D - 1)) ≤ sz w o ^ n * 2 ^ Bq * D := by
    rw [Nat.pow_add, Nat.pow_add]
    exact Nat.mul_le_mul (Nat.mul_le_mul_right _ h1) h3
  have k3 : 2 ^ (bl T + Cq) ≤ 2 ^ (A + Bq + (bl D - 1)) := Nat.pow_le_pow_right (by decide) (by omega)
  omega
theorem above_no {w o : Int} {T D n : Nat} (h : 0 < o) (hT : T ≠ 0) (hD : D ≠ 0) (hl : (n : Int) * ((bl (sz w o) : Int) - 1 + (-(lst w : Int) + shf w o)) + n < (bl T : Int) - bl D - 1) : ¬ mkRat (T : Int) D < fv w o ^ n := by
  rw [cmp_pow (by omega) n hD]
  have hs := sz_pos (w := w) h
  have hb := bl_pos hs
  have h1 := (pow_bl hs n).2
  have h2 := bl_ge hT
  have h3 := bl_lt D
  have hbT := bl_pos hT
  rw [Nat.mul_pow, ← Nat.pow_mul, ← Nat.pow_mul]
  have e : (n : Int) * ((bl (sz w o) : Int) - 1 + (-(lst w : Int) + shf w o)) + n = ((bl (sz w o) * n : Nat) : Int) + ((shf w o * n : Nat) : Int) - ((lst w * n : Nat) : Int) := by
    rw [Int.mul_add, Int.mul_add, Int.mul_neg, Int.mul_sub]
    simp only [Int.natCast_mul]
    rw [Int.mul_comm (n : Int), Int.mul_comm (n : Int) (lst w : Int), Int.mul_comm (n : Int) (shf w o : Int)]
    omega
  rw [e] at hl
  generalize bl (sz w o) * n = A at h1 hl
  generalize shf w o * n = Bq at hl ⊢
  generalize lst w * n = Cq at hl ⊢
  have k1 : 2 ^ (bl T - 1 + Cq) ≤ T * 2 ^ Cq := by
    rw [Nat.pow_add]; exact Nat.mul_le_mul_right _ h2
  have k2 : sz w o ^ n * 2 ^ Bq * D ≤ 2 ^ (A + Bq + bl D) := by
    rw [Nat.pow_add, Nat.pow_add]
    exact Nat.mul_le_mul (Nat.mul_le_mul_right _ h1) (Nat.le_of_lt h3)
  have k3 : 2 ^ (A + Bq + bl D) ≤ 2 ^ (bl T - 1 + Cq) := Nat.pow_le_pow_right (by decide) (by omega)
  omega
end Pm
namespace Go.Px.Seat
open Go Pm
set_option linter.unusedVariables false
variable {B : Run}
theorem k_cmpS : Ev fun n => ∀ r s : Rat, short 1048576 r → short 1048576 s → c_i_Frac_cmp ((C B).run n) (fb r) (ft r) (fq r) (fb s) (ft s) (fq s) = some (cmpR r s, ()) := by
  refine ((k_sign (B := B)).and ((k_natMul (B := B)).and (k_natCmp (B := B)))).succ fun n hn ⟨hSign, hMul, hCmp⟩ r s hr hs => ?_
  rw [run_succ, e_i_Frac_cmp]
  unfold p_i_Frac_cmp
  obtain ⟨r1, r2⟩ := hr
  obtain ⟨s1, s2⟩ := hs
  rw [hSign, hSign]
  simp only [Option.bind_some]
  have b1 : -1 ≤ sgnR r ∧ sgnR r ≤ 1 := by unfold sgnR; split <;> (try split) <;> omega
  have b2 : -1 ≤ sgnR s ∧ sgnR s ≤ 1 := by unfold sgnR; split <;> (try split) <;> omega
  by_cases hne : sgnR r = sgnR s
  · have h1 : (sgnR r != sgnR s) = false := by simp [hne]
    simp only [h1, cond_false]
    have l1 : (dig (r.num.natAbs * s.den)).length ≤ 2097152 := by
      have := len_dig_mul r.num.natAbs s.den
      simp only [ft, fq] at r1 r2 s1 s2
      omega
    have l2 : (dig (s.num.natAbs * r.den)).length ≤ 2097152 := by
      have := len_dig_mul s.num.natAbs r.den
      simp only [ft, fq] at r1 r2 s1 s2
      omega
    simp only [ft, fq] at r1 r2 s1 s2 ⊢
    rw [hMul _ _ (by omega) (by omega)]
    simp only [Option.bind_some]
    rw [hMul _ _ (by omega) (by omega)]
    simp only [Option.bind_some]
    rw [hCmp _ _ (by omega) (by omega)]
    simp only [Option.bind_some]
    rw [cmpR_num, fb]
    have hsn : (r.num < 0 ∧ s.num < 0) ∨ (0 ≤ r.num ∧ 0 ≤ s.num) := by
      have e1 := fb_iff r
      have e2 := fb_iff s
      unfold fb at e1 e2
      have e1' : r.num < 0 ↔ r < 0 := by simpa using e1
      have e2' : s.num < 0 ↔ s < 0 := by simpa using e2
      unfold sgnR at hne
      by_cases h1 : r < 0 <;> by_cases h2 : s < 0
      · exact .inl ⟨e1'.2 h1, e2'.2 h2⟩
      · rw [if_pos h1, if_neg h2] at hne
        split at hne <;> omega
      · rw [if_neg h1, if_pos h2] at hne
        split at hne <;> omega
      · have := mt e1'.1 h1
        have := mt e2'.1 h2
        exact .inr ⟨by omega, by omega⟩
    rcases hsn with ⟨h2, h3⟩ | ⟨h2, h3⟩
    · have e1 : r.num * s.den = -((r.num.natAbs * s.den : Nat) : Int) := by rw [Int.natCast_mul, Int.ofNat_natAbs_of_nonpos (by omega), Int.neg_mul, Int.neg_neg]
      have e2 : s.num * r.den = -((s.num.natAbs * r.den : Nat) : Int) := by rw [Int.natCast_mul, Int.ofNat_natAbs_of_nonpos (by omega), Int.neg_mul, Int.neg_neg]
      rw [e1, e2]
      generalize r.num.natAbs * s.den = X at *
      generalize s.num.natAbs * r.den = Z at *
      simp only [h2, decide_true, cond_true]
      congr 2
      unfold cmp3
      rw [ineg_eq (by split <;> (try split) <;> omega) (by split <;> (try split) <;> omega)]
      rcases Nat.lt_trichotomy X Z with h | h | h
      · rw [if_pos h, if_neg (by omega), if_pos (by omega)]; rfl
      · subst h; simp
      · rw [if_neg (by omega), if_pos h, if_pos (by omega)]
    · have e1 : r.num * s.den = ((r.num.natAbs * s.den : Nat) : Int) := by rw [Int.natCast_mul, Int.natAbs_of_nonneg h2]
      have e2 : s.num * r.den = ((s.num.natAbs * r.den : Nat) : Int) := by rw [Int.natCast_mul, Int.natAbs_of_nonneg h3]
      rw [e1, e2]
      generalize r.num.natAbs * s.den = X at *
      generalize s.num.natAbs * r.den = Z at *
      simp only [show ¬ r.num < 0 by omega, decide_false, cond_false]
      congr 2
      unfold cmp3
      rcases Nat.lt_trichotomy X Z with h | h | h
      · rw [if_pos h, if_pos (by omega)]
      · subst h; simp
      · rw [if_neg (by omega), if_pos h, if_neg (by omega), if_pos (by omega)]
  · have h1 : (sgnR r != sgnR s) = true := by simpa using hne
    simp only [h1, cond_true]
    rw [isub_eq (by omega) (by omega)]
    congr 2
    unfold cmpR sgnR imax imin at *
    have t1 := @Rat.not_lt r 0
    have t2 := @Rat.not_lt s 0
    by_cases a1 : r < 0 <;> by_cases a2 : s < 0
    · rw [if_pos a1, if_pos a2] at hne; exact absurd rfl hne
    · have : r < s := by grind
      rw [if_pos a1, if_neg a2, if_pos this]
      by_cases a3 : s = 0 <;> simp [a3] <;> omega
    · have h2 : s < r := by grind
      have h3 : ¬ r < s := by grind
      rw [if_neg a1, if_pos a2, if_neg h3, if_pos h2]
      by_cases a3 : r = 0 <;> simp [a3] <;> omega
    · rw [if_neg a1, if_neg a2] at hne ⊢
      by_cases a3 : r = 0 <;> by_cases a4 : s = 0
      · rw [if_pos a3, if_pos a4] at hne; exact absurd rfl hne
      · have : r < s := by grind
        rw [if_pos a3, if_neg a4, if_pos this]; omega
      · have h2 : s < r := by grind
        have h3 : ¬ r < s := by grind
        rw [if_neg a3, if_pos a4, if_neg h3, if_pos h2]; omega
      · rw [if_neg a3, if_neg a4] at hne; exact absurd rfl hne
end Go.Px.Seat

/- Backward over a product: both sides; bytes turned round. Seat ZD. -/
namespace Pm
open Go.Px Go.Px.Seat
/-- has 0 -/
def nuS (s : Sp) : Bool := decide (s.2.1 ≤ 0 ∧ 0 ≤ s.2.2.1)
def three (w : Int) (z y x : Sp) : Bool := ok1 w z && (ok1 w y && ok1 w x)
noncomputable def bparts (w : Int) (z y x : Sp) : Sp × Sp := (meet w x (divTwoS w z y).1, meet w x (divTwoS w z y).2)
noncomputable def bmulS (w : Int) (z y x : Sp) : Sp := if three w z y x = true then (if (nuS z && nuS y) = true then x else hullS w (bparts w z y x).1 (bparts w z y x).2) else spn
noncomputable def gapS (w : Int) (z y x : Sp) : Int × (Int × (Bool × Unit)) :=
  if (three w z y x && (!(nuS z && nuS y) && ((bparts w z y x).1.1 && (bparts w z y x).2.1))) = true then ((bparts w z y x).1.2.2.1, ((bparts w z y x).2.2.1, (true, ()))) else (0, (0, (false, ())))
theorem full3 (w : Int) (z y x : Sp) : ([z, y, x].all fun s => s.1 && spk w s) = three w z y x := by simp [three, ok1]
theorem meet_cases (w : Int) (a b : Sp) : meet w a b = spn ∨ ∃ a1 a2 b1 b2, a = sp a1 a2 ∧ b = sp b1 b2 ∧ pok w a1 a2 = true ∧ pok w b1 b2 = true ∧ max a1 b1 ≤ min a2 b2 ∧ meet w a b = sp (max a1 b1) (min a2 b2) := by
  unfold meet
  by_cases h : both w a b = true ∧ max a.2.1 b.2.1 ≤ min a.2.2.1 b.2.2.1
  · right
    have h1 := h.1
    rw [both_ok1, Bool.and_eq_true] at h1
    obtain ⟨a1, a2, rfl, pa⟩ := ok1_iff.1 h1.1
    obtain ⟨b1, b2, rfl, pb⟩ := ok1_iff.1 h1.2
    exact ⟨a1, a2, b1, b2, rfl, rfl, pa, pb, h.2, if_pos h⟩
  · exact .inl (if_neg h)
theorem meet_pok2 {w a1 a2 b1 b2 : Int} (pa : pok w a1 a2 = true) (pb : pok w b1 b2 = true) (h : max a1 b1 ≤ min a2 b2) : pok w (max a1 b1) (min a2 b2) = true := by
  obtain ⟨hw, x1, x2, x3, x4, x5⟩ := pok_rng pa
  obtain ⟨_, y1, y2, y3, y4, y5⟩ := pok_rng pb
  exact pok_of hw (by unfold rng at *; omega) (by unfold rng at *; omega) h (by omega) (by omega)
theorem meet_spk {w : Int} {a b : Sp} (hw : wd w = true) : spk w (meet w a b) = true := by
  rcases meet_cases w a b with h | ⟨a1, a2, b1, b2, rfl, rfl, pa, pb, h, e⟩
  · rw [h, spk_spn, hw]
  · rw [e, spk_sp]; exact meet_pok2 pa pb h
theorem memS_meet {w : Int} {a b : Sp} {r : Rat} (h : memS w a r) (h' : memS w b r) : memS w (meet w a b) r := by
  have hw := h.wd
  have hb := both_mem h h'
  obtain ⟨a1, a2, rfl, pa, l1, l2⟩ := h
  obtain ⟨b1, b2, rfl, pb, m1, m2⟩ := h'
  obtain ⟨_, x1, x2, x3, x4, x5⟩ := pok_rng pa
  obtain ⟨_, y1, y2, y3, y4, y5⟩ := pok_rng pb
  have k1 : rng w (max a1 b1) := by unfold rng at *; omega
  have k2 : rng w (min a2 b2) := by unfold rng at *; omega
  have g1 : lim w (max a1 b1) ≤ .num r := by
    rcases Int.le_total a1 b1 with h | h
    · rw [show max a1 b1 = b1 by omega]; exact m1
    · rw [show max a1 b1 = a1 by omega]; exact l1
  have g2 : .num r ≤ lim w (min a2 b2) := by
    rcases Int.le_total a2 b2 with h | h
    · rw [show min a2 b2 = a2 by omega]; exact l2
    · rw [show min a2 b2 = b2 by omega]; exact m2
  have hle := (lim_le hw k1 k2).1 (Lm.trans g1 g2)
  have e : meet w (sp a1 a2) (sp b1 b2) = sp (max a1 b1) (min a2 b2) := if_pos ⟨hb, hle⟩
  rw [e]
  exact memS_of hw k1 k2 g1 g2
theorem memS_nu {w : Int} {a : Sp} (h : memS w a 0) : nuS a = true := by
  have hw := h.wd
  obtain ⟨a1, a2, rfl, pa, l1, l2⟩ := h
  obtain ⟨_, x1, x2, x3, x4, x5⟩ := pok_rng pa
  unfold nuS
  rw [decide_eq_true_iff]
  exact ⟨(nonpos_lim hw x1).2 l1, (nonneg_lim hw x2).2 l2⟩
end Pm
namespace Go.Px.Seat
open Go Pm
set_option linter.unusedVariables false
variable {B : Run}
theorem k_zero : Ev fun n => ∀ (s : Sp), c_i_Span_zero ((C B).run n) s.1 s.2.1 s.2.2.1 = some (nuS s, ()) := by
  refine Ev.triv.succ fun n hn _ s => ?_
  rw [run_succ, e_i_Span_zero]
  unfold p_i_Span_zero nuS
  obtain ⟨b, lo, hi, u⟩ := s
  simp only [ile_iff]
  by_cases h : lo ≤ 0
  · rw [decide_eq_true h, cond_true, jb_inr]
    simp [h]
  · rw [decide_eq_false h, cond_false, jb_inr]
    simp [h]
theorem k_bparts : Ev fun n => ∀ (w : Int) (z y x : Sp), c_i_backParts ((C B0).run n) w z.1 z.2.1 z.2.2.1 y.1 y.2.1 y.2.2.1 x.1 x.2.1 x.2.2.1 = some (out2 (bparts w z y x)) := by
  refine (k_divTwoS.and (k_Meet (B := B0))).succ fun n hn ⟨hD, hM⟩ w z y x => ?_
  rw [run_succ, e_i_backParts]
  unfold p_i_backParts bparts
  rw [hD]
  simp only [Option.bind_some, out2]
  rw [hM w x (divTwoS w z y).1]
  simp only [Option.bind_some]
  rw [hM w x (divTwoS w z y).2]
  rfl
theorem k_bmulS : Ev fun n => ∀ (w : Int) (z y x : Sp), c_i_BackMul ((C B0).run n) w z.1 z.2.1 z.2.2.1 y.1 y.2.1 y.2.2.1 x.1 x.2.1 x.2.2.1 = some (bmulS w z y x) := by
  refine ((k_full (B := B0)).and ((k_zero (B := B0)).and (k_bparts.and (k_HullS (B := B0))))).succ fun n hn ⟨hF, hZ, hP, hH⟩ w z y x => ?_
  rw [run_succ, e_i_BackMul]
  unfold p_i_BackMul bmulS
  have e2 : [(z.1, (z.2.1, (z.2.2.1, ()))), (y.1, (y.2.1, (y.2.2.1, ()))), (x.1, (x.2.1, (x.2.2.1, ())))] = [z, y, x] := rfl
  rw [e2, hF _ _ (by simp), full3]
  simp only [Option.bind_some]
  cases h : three w z y x
  · rfl
  simp only [Bool.not_true, cond_false, if_true]
  have key : (c_i_backParts ((C B0).run n) w z.1 z.2.1 z.2.2.1 y.1 y.2.1 y.2.2.1 x.1 x.2.1 x.2.2.1).bind (fun (r96_1, (r96b, (r96c, (r96d, (r96e, (r96f, _)))))) =>
      (c_i_SpanHull ((C B0).run n) w r96_1 r96b r96c r96d r96e r96f).bind fun (r49_1, (r49b, (r49c, _))) =>
      some (r49_1, (r49b, (r49c, ())))) = some (hullS w (bparts w z y x).1 (bparts w z y x).2) := by
    rw [hP]
    simp only [Option.bind_some, out2]
    rw [hH w (bparts w z y x).1 (bparts w z y x).2]
    rfl
  rw [hZ]
  simp only [Option.bind_some]
  cases hz : nuS z
  · simp only [cond_false, jb_inr, Bool.false_and, Bool.false_eq_true, if_false]
    exact key
  · simp only [cond_true, Bool.true_and]
    rw [hZ]
    simp only [Option.bind_some, jb_inr]
    cases hy : nuS y
    · simp only [cond_false, Bool.false_eq_true, if_false]
      exact key
    · rfl
theorem k_psTurn : Ev fun n => ∀ l : List Int, byt l → l.length ≤ 1099511627776 → ∃ r, c_w_psTurn ((C B).run n) l = some (r, ()) ∧ byt r ∧ r.length ≤ 2000 := by
  refine Ev.triv.succ fun n hn _ l hl hlen => ?_
  rw [run_succ, e_w_psTurn]
  unfold p_w_psTurn
  have e0 : isub .i64 (len l) 1 = (l.length : Int) - 1 := by rw [len_eq]; exact isub_eq (by omega) (by omega)
  rw [e0]
  refine iter_goal (fun x => ∃ r, x = some (r, ()) ∧ byt r ∧ r.length ≤ 2000) (fun st => ∃ (i : Nat) (r : List Int), i ≤ l.length ∧ byt r ∧ r.length ≤ 2000 ∧ st = ((((i : Int) - 1), ((), (l, ((), ())))), (r, ())))
    (fun st => (st.1.1 + 1).toNat) (fun (o : List Int × Unit) => ∃ r, o = (r, ()) ∧ byt r ∧ r.length ≤ 2000) ?_ (by simp only; omega) ⟨l.length, [], Nat.le_refl _, fun x hx => (by cases hx), by simp, rfl⟩ ?_
  rotate_left
  · rintro o ⟨r, rfl, h⟩
    exact ⟨r, rfl, h⟩
  rintro rec _ ⟨i, r, hi, hr, hr2, rfl⟩ ih
  simp only [ile_iff, ilt_iff, len_eq]
  by_cases h : i = 0
  · subst h
    exact ⟨_, rfl, r, rfl, hr, hr2⟩
  rw [decide_eq_true (show (0 : Int) ≤ (i : Int) - 1 by omega), cond_true, jb_inr]
  simp only
  by_cases h2 : r.length < 2000
  · have hx : List.getD l ((i : Int) - 1).toNat 0 ∈ l := by
      rw [List.getD_eq_getElem?_getD, List.getElem?_eq_getElem (by omega), Option.getD_some]
      exact List.getElem_mem _
    rw [decide_eq_true (by omega), cond_true, ok_of (inB_true (by omega) (by omega)), ok_of (aok_true (by simp; omega)), isub_eq (by omega) (by omega)]
    obtain ⟨o, g1, g2⟩ := ih _ ⟨i - 1, r ++ [List.getD l ((i : Int) - 1).toNat 0], by omega, fun x hx' => by
        rcases List.mem_append.1 hx' with h | h
        · exact hr x h
        · rw [List.mem_singleton.1 h]; exact hl _ hx, by simp; omega, rfl⟩ (by simp only; omega)
    have e : ((i - 1 : Nat) : Int) - 1 = (i : Int) - 1 - 1 := by omega
    rw [e] at g1
    exact ⟨o, g1, g2⟩
  · rw [decide_eq_false (by omega), cond_false]
    exact ⟨_, rfl, r, rfl, hr, hr2⟩
end Go.Px.Seat

/- Roots of spans: the program's. Seat ZD. -/
namespace Pm
open Go.Px Go.Px.Seat
theorem nonneg_mk {f : Rat} (h : 0 ≤ f) : mkRat ((f.num.natAbs : Nat) : Int) f.den = f := by
  have := mk_self f
  rw [show fb f = false by rw [fb_iff]; exact decide_eq_false (Rat.not_lt.2 h)] at this
  exact this
theorem ilt_cmp (r s : Rat) : ilt 0 (cmpR r s) = decide (s < r) := by
  unfold cmpR
  by_cases h : r < s
  · rw [if_pos h, decide_eq_false (by grind)]; rfl
  · rw [if_neg h]
    by_cases h' : s < r
    · rw [if_pos h', decide_eq_true h']; rfl
    · rw [if_neg h', decide_eq_false h']; rfl
theorem bl_le64 {x : Nat} (h : x < 9007199254740992) : bl x ≤ 53 := bl_le.2 h
end Pm
namespace Pm
open Go.Px Go.Px.Seat
theorem _root_.Go.Px.Ev.succ2 {p r q : Nat → Prop} (h : Ev p) (h' : Ev r) (hq : ∀ n, 1152921504606846976 ≤ n → p n → r (n + 1) → q (n + 1)) : Ev q := by
  obtain ⟨a, h⟩ := h
  obtain ⟨b, h'⟩ := h'
  refine ⟨max (max a b) 1152921504606846976 + 1, fun n hn => ?_⟩
  obtain ⟨k, rfl⟩ : ∃ k, n = k + 1 := ⟨n - 1, by omega⟩
  exact hq k (by omega) (h k (by omega)) (h' (k + 1) (by omega))
end Pm
namespace Go.Px.Seat
open Go Pm
set_option linter.unusedVariables false
variable {B : Run}
theorem k_above : Ev fun n => ∀ (w o : Int) (m : Nat) (f : Rat), fin w o → 0 < o → 1 ≤ m → m ≤ 8 → 0 ≤ f → short 1024 f → c_i_powerAbove ((C B0).run n) w o (m : Int) (fb f) (ft f) (fq f) = some (decide (f < fv w o ^ m), ()) := by
  refine ((k_Part (B := B0)).and ((k_natOf (B := B0)).and ((k_natBits (B := B0)).and (k_value.and ((k_Fpow (B := B0)).and (k_cmpS (B := B0))))))).succ fun n hn ⟨hP, hO, hB, hV, hPw, hC⟩ w o m f hf ho hm1 hm8 hf0 hs => ?_
  rw [run_succ, e_i_powerAbove]
  unfold p_i_powerAbove
  obtain ⟨s1, s2⟩ := hs
  have hsz := sz_lt w o
  have hb := bl_le64 hsz
  have hsh := shf_lt hf
  have hll := lst_le w
  rw [hP w o hf]
  simp only [Option.bind_some]
  rw [hO _ (by omega)]
  simp only [Option.bind_some]
  have l0 : (dig (sz w o)).length ≤ 4 := dig_len_le.2 (Nat.lt_of_lt_of_le hsz (by decide))
  rw [hB _ (by omega)]
  simp only [Option.bind_some]
  have s1' : (dig f.num.natAbs).length ≤ 1024 := s1
  have s2' : (dig f.den).length ≤ 1024 := s2
  have b1 := bl_len f.num.natAbs
  have b2 := bl_len f.den
  have hbT : c_i_natBits ((C B0).run n) (ft f) = some ((bl f.num.natAbs : Int), ()) := hB _ (by omega)
  have hbD : c_i_natBits ((C B0).run n) (fq f) = some ((bl f.den : Int), ()) := hB _ (by omega)
  rw [hbT, hbD]
  simp only [Option.bind_some]
  have hbs := bl_pos (sz_pos (w := w) ho)
  have e1 : isub .i64 (bl (sz w o) : Int) 1 = (bl (sz w o) : Int) - 1 := isub_eq (by omega) (by omega)
  have e2 : iadd .i64 ((bl (sz w o) : Int) - 1) (-(lst w : Int) + (shf w o : Int)) = (bl (sz w o) : Int) - 1 + (-(lst w : Int) + (shf w o : Int)) := iadd_eq (by omega) (by omega)
  have hlow : -8592 ≤ (m : Int) * ((bl (sz w o) : Int) - 1 + (-(lst w : Int) + (shf w o : Int))) ∧ (m : Int) * ((bl (sz w o) : Int) - 1 + (-(lst w : Int) + (shf w o : Int))) ≤ 17000 := by
    have g1 : -1074 ≤ (bl (sz w o) : Int) - 1 + (-(lst w : Int) + (shf w o : Int)) := by omega
    have g2 : (bl (sz w o) : Int) - 1 + (-(lst w : Int) + (shf w o : Int)) ≤ 2125 := by omega
    generalize (bl (sz w o) : Int) - 1 + (-(lst w : Int) + (shf w o : Int)) = E at g1 g2
    have : m = 1 ∨ m = 2 ∨ m = 3 ∨ m = 4 ∨ m = 5 ∨ m = 6 ∨ m = 7 ∨ m = 8 := by omega
    rcases this with h | h | h | h | h | h | h | h <;> subst h <;> omega
  have e3 : imul .i64 (m : Int) ((bl (sz w o) : Int) - 1 + (-(lst w : Int) + (shf w o : Int))) = (m : Int) * ((bl (sz w o) : Int) - 1 + (-(lst w : Int) + (shf w o : Int))) := imul_eq (by omega) (by omega)
  have e4 : isub .i64 (bl f.num.natAbs : Int) (bl f.den : Int) = (bl f.num.natAbs : Int) - bl f.den := isub_eq (by omega) (by omega)
  have e5 : iadd .i64 ((bl f.num.natAbs : Int) - bl f.den) 1 = (bl f.num.natAbs : Int) - bl f.den + 1 := iadd_eq (by omega) (by omega)
  have e6 : isub .i64 ((bl f.num.natAbs : Int) - bl f.den) 1 = (bl f.num.natAbs : Int) - bl f.den - 1 := isub_eq (by omega) (by omega)
  have e7 : iadd .i64 ((m : Int) * ((bl (sz w o) : Int) - 1 + (-(lst w : Int) + (shf w o : Int)))) (m : Int) = (m : Int) * ((bl (sz w o) : Int) - 1 + (-(lst w : Int) + (shf w o : Int))) + m := iadd_eq (by omega) (by omega)
  rw [e1, e2, e3, e4, e5]
  simp only [ilt_iff, len_zero_iff]
  have hmk := nonneg_mk hf0
  by_cases hz : f = 0
  · have e : ft f = [] := ft_nil.2 hz
    rw [e]
    simp only [List.isEmpty_nil, cond_true, jb_inr]
    rw [hz, decide_eq_true (Rat.pow_pos (fv_pos ho))]
  have hT : f.num.natAbs ≠ 0 := fun h => hz (Rat.num_eq_zero.1 (Int.natAbs_eq_zero.1 h))
  have e : (ft f).isEmpty = false := by
    cases h : (ft f).isEmpty
    · rfl
    · exact absurd (ft_nil.1 (List.isEmpty_iff.1 h)) hz
  rw [e]
  simp only [cond_false, jb_inr]
  by_cases g1 : (bl f.num.natAbs : Int) - bl f.den + 1 < (m : Int) * ((bl (sz w o) : Int) - 1 + (-(lst w : Int) + (shf w o : Int)))
  · rw [decide_eq_true g1, cond_true]
    have := above_yes (w := w) (n := m) ho hT f.den_nz g1
    rw [hmk] at this
    rw [decide_eq_true this]
  rw [decide_eq_false g1, cond_false, e6, e7]
  by_cases g2 : (m : Int) * ((bl (sz w o) : Int) - 1 + (-(lst w : Int) + (shf w o : Int))) + m < (bl f.num.natAbs : Int) - bl f.den - 1
  · rw [decide_eq_true g2, cond_true]
    have := above_no (w := w) (n := m) ho hT f.den_nz g2
    rw [hmk] at this
    rw [decide_eq_false this]
  rw [decide_eq_false g2, cond_false, hV w o hf]
  simp only [Option.bind_some, outF]
  rw [hPw (fv w o) m 69 (short_fv hf) (by omega) (by omega)]
  simp only [Option.bind_some, outF]
  have hp8 : 69 * m + 1 ≤ 1048576 := by omega
  rw [hC _ _ (short_mono (short_pow (short_fv hf) (by omega) m) hp8) (short_mono ⟨s1, s2⟩ (by omega))]
  simp only [Option.bind_some]
  have := ilt_cmp (fv w o ^ m) f
  rw [ilt_iff] at this
  rw [this]
theorem k_root : Ev fun n => ∀ (w a : Int) (m : Nat), fin w a → 0 ≤ a → 1 ≤ m → m ≤ 8 → c_i_root ((C B0).run n) w a (m : Int) = some (rt w a m, (decide (fv w (rt w a m) ^ m = fv w a), ())) := by
  refine (k_value.and ((k_BitTop (B := B0)).and (k_above.and ((k_Fpow (B := B0)).and (k_cmpS (B := B0)))))).succ fun n hn ⟨hV, hT, hA, hPw, hC⟩ w a m hf ha hm1 hm8 => ?_
  rw [run_succ, e_i_root]
  unfold p_i_root
  have hw := hf.1
  have ht := top_pos hw
  have htn := top_nonneg w
  have hm0 : m ≠ 0 := by omega
  rw [hV w a hf, hT]
  simp only [Option.bind_some, outF]
  rw [isub_eq (x := top w) (y := 1) (by omega) (by omega)]
  refine iter_const (fun st => ∃ lo hi : Int, 0 ≤ lo ∧ lo ≤ hi ∧ hi < top w ∧ fv w lo ^ m ≤ fv w a ∧ (hi = top w - 1 ∨ fv w a < fv w (hi + 1) ^ m) ∧
      st = ((lo, (hi, (w, ((m : Int), ((), (0, (false, ()))))))), ((fb (fv w a), (ft (fv w a), (fq (fv w a), ()))), ()))) (fun st => bl (st.1.2.1 - st.1.1).toNat) _ ?_ n _ ?_
    ⟨0, top w - 1, by omega, by omega, by omega, by rw [fv_zero', zero_pow' hm0]; exact fv_nonneg ha, .inl rfl, rfl⟩
  · rintro rec _ ⟨lo, hi, h1, h2, h3, h4, h5, rfl⟩ ih
    simp only [ilt_iff]
    by_cases h : lo < hi
    · have e1 : isub .i64 hi lo = hi - lo := isub_eq (by omega) (by omega)
      have e2 : iadd .i64 (hi - lo) 1 = hi - lo + 1 := iadd_eq (by omega) (by omega)
      have e3 : iquo .i64 (hi - lo + 1) 2 = (hi - lo + 1) / 2 := iquo_eq (by omega) (by omega) (by omega)
      have e4 : iadd .i64 lo ((hi - lo + 1) / 2) = lo + (hi - lo + 1) / 2 := iadd_eq (by omega) (by omega)
      rw [decide_eq_true h, cond_true, e1, e2, e3, e4]
      have hbl : ∀ x : Nat, 2 * x ≤ (hi - lo).toNat → bl x < bl (hi - lo).toNat := fun x hx => bl_half hx (by omega)
      generalize hmid : lo + (hi - lo + 1) / 2 = mid at *
      have hmf : fin w mid := ⟨hw, by omega, by omega⟩
      have e5 : isub .i64 mid 1 = mid - 1 := isub_eq (by omega) (by omega)
      rw [hA w mid m (fv w a) hmf (by omega) hm1 hm8 (fv_nonneg ha) (short_mono (short_fv hf) (by omega))]
      simp only [Option.bind_some]
      by_cases hc : fv w a < fv w mid ^ m
      · rw [decide_eq_true hc, cond_true, e5]
        exact ih _ ⟨lo, mid - 1, h1, by omega, by omega, h4, .inr (by rw [Int.sub_add_cancel]; exact hc), rfl⟩ (hbl _ (by simp only; omega))
      · rw [decide_eq_false hc, cond_false]
        exact ih _ ⟨mid, hi, by omega, by omega, h3, Rat.not_lt.1 hc, h5, rfl⟩ (hbl _ (by simp only; omega))
    · have hlh : lo = hi := by omega
      subst hlh
      rw [decide_eq_false h, cond_false]
      have hlf : fin w lo := ⟨hw, by omega, h3⟩
      have hrt : rt w a m = lo := rt_of hm0 ⟨h1, h3, h4, h5⟩
      rw [hV w lo hlf]
      simp only [Option.bind_some, outF]
      rw [hPw (fv w lo) m 69 (short_fv hlf) (by omega) (by omega)]
      simp only [Option.bind_some, outF]
      have hp8 : 69 * m + 1 ≤ 1048576 := by omega
      rw [hC _ _ (short_mono (short_pow (short_fv hlf) (by omega) m) hp8) (short_mono (short_fv hf) (by omega)), hrt]
      simp only [Option.bind_some]
      by_cases he : fv w lo ^ m = fv w a
      · rw [decide_eq_true he, (cmpR_eq _ _).2 he]; rfl
      · rw [decide_eq_false he, beq_f (fun h => he ((cmpR_eq _ _).1 h))]
  · simp only
    have : bl (top w - 1 - 0).toNat ≤ 64 := bl_le.2 (by omega)
    omega
theorem k_rootDn0 : Ev fun n => ∀ (w a : Int) (m : Nat), wd w = true → 0 ≤ a → a ≤ top w → 1 ≤ m → m ≤ 8 → c_i_rootDown ((C B0).run n) w a (m : Int) = some (rdn0 w a m, ()) := by
  refine ((k_BitTop (B := B0)).and k_root).succ fun n hn ⟨hT, hR⟩ w a m hw h0 h1 hm1 hm8 => ?_
  rw [run_succ, e_i_rootDown]
  unfold p_i_rootDown rdn0
  rw [ilt_iff, decide_eq_false (by omega), cond_false, hT]
  simp only [Option.bind_some]
  have ht := top_pos hw
  by_cases h : a = top w
  · rw [if_pos h, show (a == top w) = true by simpa using h, cond_true, h]
  · rw [if_neg h, beq_f h, cond_false, hR w a m ⟨hw, by omega, by omega⟩ h0 hm1 hm8]
    rfl
theorem k_rootUp0 : Ev fun n => ∀ (w a : Int) (m : Nat), wd w = true → 0 ≤ a → a ≤ top w → 1 ≤ m → m ≤ 8 → c_i_rootUp ((C B0).run n) w a (m : Int) = some (rup0 w a m, ()) := by
  refine ((k_BitTop (B := B0)).and k_root).succ fun n hn ⟨hT, hR⟩ w a m hw h0 h1 hm1 hm8 => ?_
  rw [run_succ, e_i_rootUp]
  unfold p_i_rootUp rup0
  rw [ilt_iff, decide_eq_false (by omega), cond_false, hT]
  simp only [Option.bind_some]
  have ht := top_pos hw
  have htn := top_nonneg w
  by_cases h : a = top w
  · rw [if_pos h, show (a == top w) = true by simpa using h, cond_true, h]
  · rw [if_neg h, beq_f h, cond_false, hR w a m ⟨hw, by omega, by omega⟩ h0 hm1 hm8]
    simp only [Option.bind_some]
    have hr := rt_spec (n := m) hw (by omega) h0
    have r1 := hr.1
    have r2 := hr.2.1
    by_cases he : fv w (rt w a m) ^ m = fv w a
    · rw [decide_eq_true he, if_pos he]; rfl
    · rw [decide_eq_false he, if_neg he, iadd_eq (by omega) (by omega)]; rfl
theorem k_rootDn : Ev fun n => ∀ (w a : Int) (m : Nat), wd w = true → rng w a → 1 ≤ m → m ≤ 8 → c_i_rootDown ((C B0).run n) w a (m : Int) = some (rdn w a m, ()) := by
  refine k_rootUp0.succ2 k_rootDn0 fun n hn hU hD w a m hw ha hm1 hm8 => ?_
  have htn := top_nonneg w
  obtain ⟨a1, a2⟩ := ha
  unfold rdn
  by_cases h : a < 0
  · rw [if_pos h, run_succ, e_i_rootDown]
    unfold p_i_rootDown
    have hr := rup0_rng (n := m) (a := -a) hw (by omega) (by omega)
    rw [ilt_iff, decide_eq_true h, cond_true, ineg_eq (by omega) (by omega), hU w (-a) m hw (by omega) (by omega) hm1 hm8]
    simp only [Option.bind_some]
    rw [ineg_eq (by omega) (by omega)]
  · rw [if_neg h]
    exact hD w a m hw (by omega) a2 hm1 hm8
theorem k_rootUp : Ev fun n => ∀ (w a : Int) (m : Nat), wd w = true → rng w a → 1 ≤ m → m ≤ 8 → c_i_rootUp ((C B0).run n) w a (m : Int) = some (rup w a m, ()) := by
  refine k_rootDn0.succ2 k_rootUp0 fun n hn hD hU w a m hw ha hm1 hm8 => ?_
  have htn := top_nonneg w
  obtain ⟨a1, a2⟩ := ha
  unfold rup
  by_cases h : a < 0
  · rw [if_pos h, run_succ, e_i_rootUp]
    unfold p_i_rootUp
    have hr := rdn0_rng (n := m) (a := -a) hw (by omega) (by omega)
    rw [ilt_iff, decide_eq_true h, cond_true, ineg_eq (by omega) (by omega), hD w (-a) m hw (by omega) (by omega) hm1 hm8]
    simp only [Option.bind_some]
    rw [ineg_eq (by omega) (by omega)]
  · rw [if_neg h]
    exact hU w a m hw (by omega) a2 hm1 hm8
end Go.Px.Seat

/- More makes more: what is reckoned of spans within spans. Seat ZD. -/
namespace Pm
open Go.Px Go.Px.Seat
/-- a span in a span -/
def isS (a b : Sp) : Bool := !a.1 || (b.1 && decide (b.2.1 ≤ a.2.1 ∧ a.2.2.1 ≤ b.2.2.1))
theorem isS_sp (a1 a2 b1 b2 : Int) : isS (sp a1 a2) (sp b1 b2) = true ↔ b1 ≤ a1 ∧ a2 ≤ b2 := by
  show decide (b1 ≤ a1 ∧ a2 ≤ b2) = true ↔ _
  exact decide_eq_true_iff
structure Sub (w a1 a2 x1 x2 : Int) : Prop where
  pa : pok w a1 a2 = true
  px : pok w x1 x2 = true
  l : a1 ≤ x1
  r : x2 ≤ a2
variable {w a1 a2 x1 x2 b1 b2 y1 y2 : Int}
theorem Sub.neg (h : Sub w a1 a2 x1 x2) : Sub w (-a2) (-a1) (-x2) (-x1) := ⟨pok_neg h.pa, pok_neg h.px, by have := h.r; omega, by have := h.l; omega⟩
theorem both_sp (pa : pok w a1 a2 = true) (pb : pok w b1 b2 = true) : both w (sp a1 a2) (sp b1 b2) = true := by rw [both_ok1, ok1_sp, ok1_sp, pa, pb]; rfl
theorem rat_pow_odd {x y : Rat} (h : x ≤ y) : ∀ k : Nat, x ^ (2 * k + 1) ≤ y ^ (2 * k + 1) := by
  have neg_odd : ∀ (z : Rat) (k : Nat), (-z) ^ (2 * k + 1) = -(z ^ (2 * k + 1)) := by
    intro z k
    induction k with
    | zero => simp [Rat.pow_succ]
    | succ k ih =>
      have e : ∀ t : Rat, t ^ (2 * (k + 1) + 1) = t ^ (2 * k + 1) * t * t := fun t => by
        rw [show 2 * (k + 1) + 1 = 2 * k + 1 + 1 + 1 by omega, Rat.pow_succ t (2 * k + 1 + 1), Rat.pow_succ t (2 * k + 1)]
      rw [e, e, ih]
      grind
  intro k
  by_cases hx : 0 ≤ x
  · exact rat_pow_le hx h _
  · by_cases hy : 0 ≤ y
    · have h1 : 0 ≤ (-x) ^ (2 * k + 1) := Rat.pow_nonneg (by grind)
      rw [neg_odd] at h1
      have h2 : 0 ≤ y ^ (2 * k + 1) := Rat.pow_nonneg hy
      grind
    · have := rat_pow_le (x := -y) (y := -x) (by grind) (by grind) (2 * k + 1)
      rw [neg_odd, neg_odd] at this
      grind
/-- powers: of what is from 0 on, or odd ones -/
theorem powL_mono {a b : Lm} (n : Nat) (h : a ≤ b) (hc : n % 2 = 1 ∨ .num 0 ≤ a) : powL a n ≤ powL b n := by
  unfold powL
  by_cases h0 : n = 0
  · rw [if_pos h0, if_pos h0]; exact Lm.rfl' _
  rw [if_neg h0, if_neg h0]
  cases a with
  | pos => cases b <;> simp_all
  | neg =>
    rcases hc with hc | hc
    · cases b with
      | neg => exact Lm.rfl' _
      | pos => simp
      | num s => simp [show ¬ n % 2 = 0 by omega]
    · simp at hc
  | num r =>
    cases b with
    | neg => simp at h
    | pos => simp
    | num s =>
      simp at h
      simp only [Lm.num_le]
      rcases hc with hc | hc
      · obtain ⟨k, rfl⟩ : ∃ k, n = 2 * k + 1 := ⟨n / 2, by omega⟩
        exact rat_pow_odd h k
      · simp at hc
        exact rat_pow_le hc h n
end Pm

/- The least and the greatest of some numbers, rounded outward. No program here. -/
namespace Pm
/-- o goes from the float below the least of S to the float above the greatest -/
def Best (w : Int) (S : List Rat) (o : Sp) : Prop := o.1 = true ∧ (∃ r ∈ S, (∀ s ∈ S, r ≤ s) ∧ IsDn w r o.2.1) ∧ (∃ r ∈ S, (∀ s ∈ S, s ≤ r) ∧ IsDn w (-r) (-o.2.2.1))
theorem Best.one {w d u : Int} {r : Rat} (h1 : IsDn w r d) (h2 : IsDn w (-r) (-u)) : Best w [r] (sp d u) :=
  ⟨rfl, ⟨r, by simp, fun s hs => by rw [List.mem_singleton.1 hs]; exact Rat.le_refl, h1⟩, ⟨r, by simp, fun s hs => by rw [List.mem_singleton.1 hs]; exact Rat.le_refl, h2⟩⟩
theorem Best.more {w d u : Int} {s : Rat} {S : List Rat} {o : Sp} (h : Best w S o) (h1 : IsDn w s d) (h2 : IsDn w (-s) (-u)) : Best w (s :: S) (sp (min o.2.1 d) (max o.2.2.1 u)) := by
  obtain ⟨_, ⟨r, hr, hle, hd⟩, ⟨r', hr', hge, hu⟩⟩ := h
  refine ⟨rfl, ?_, ?_⟩
  · rcases (Rat.le_total : r ≤ s ∨ s ≤ r) with hrs | hrs
    · refine ⟨r, List.mem_cons_of_mem _ hr, fun x hx => ?_, ?_⟩
      · rcases List.mem_cons.1 hx with rfl | hx
        · exact hrs
        · exact hle x hx
      · have := hd.mono h1 hrs
        show IsDn w r (min o.2.1 d)
        rw [Int.min_eq_left this]; exact hd
    · refine ⟨s, List.mem_cons_self .., fun x hx => ?_, ?_⟩
      · rcases List.mem_cons.1 hx with rfl | hx
        · exact Rat.le_refl
        · exact Rat.le_trans hrs (hle x hx)
      · have := h1.mono hd hrs
        show IsDn w s (min o.2.1 d)
        rw [Int.min_eq_right this]; exact h1
  · rcases (Rat.le_total : s ≤ r' ∨ r' ≤ s) with hrs | hrs
    · refine ⟨r', List.mem_cons_of_mem _ hr', fun x hx => ?_, ?_⟩
      · rcases List.mem_cons.1 hx with rfl | hx
        · exact hrs
        · exact hge x hx
      · have := hu.mono h2 (by grind)
        show IsDn w (-r') (-(max o.2.2.1 u))
        rw [Int.max_eq_left (by omega)]; exact hu
    · refine ⟨s, List.mem_cons_self .., fun x hx => ?_, ?_⟩
      · rcases List.mem_cons.1 hx with rfl | hx
        · exact Rat.le_refl
        · exact Rat.le_trans (hge x hx) hrs
      · have := h2.mono hu (by grind)
        show IsDn w (-s) (-(max o.2.2.1 u))
        rw [Int.max_eq_right (by omega)]; exact h2
end Pm

/- Products of spans: the program's. Seat ZD. -/
namespace Go.Px.Seat
open Go Pm
set_option linter.unusedVariables false
variable {B : Run}
def Bst (w : Int) (S : List Rat) (o : Sp) : Prop := (S = [] ∧ o = spn) ∨ Best w S o
end Go.Px.Seat

/- Helpers of the law on tight spans. Seat ZD. -/
namespace Go.Px.Seat
open Go Pm
set_option linter.unusedVariables false
variable {B : Run}
end Go.Px.Seat

/- The law on both parts of a quotient: what its function comes to. Seat ZD. -/
namespace Pm
open Go.Px Go.Px.Seat
def hf : Rat := mkRat 1 2
end Pm
namespace Go.Px.Seat
open Go Pm
set_option linter.unusedVariables false
variable {B : Run}
theorem k_psI : Ev fun n => ∀ (w : Int) (s : Sp) (r : Rat), fits r → c_w_psIn ((C B).run n) w s.1 s.2.1 s.2.2.1 (fb r) (ft r) (fq r) = some (psI w s r, ()) := k_psIn (B := B)
end Go.Px.Seat

/- The law on tight spans: the loop at its end. Seat ZD. -/
namespace Go.Px.Seat
open Go Pm
set_option linter.unusedVariables false
variable {B : Run}
/-- a fraction as one of a list -/
def inF (r : Rat) : Bool × (List Int × (List Int × Unit)) := (fb r, (ft r, (fq r, ())))
/-- the least and the greatest so far -/
def mnF (r s : Rat) : Rat := if s < r then s else r
def mxF (r s : Rat) : Rat := if r < s then s else r
theorem cmp_gt (s r : Rat) : (cmpR s r == 1) = decide (r < s) := by
  unfold cmpR
  by_cases h : s < r
  · rw [if_pos h, decide_eq_false (by grind)]; rfl
  · rw [if_neg h]
    by_cases h2 : r < s
    · rw [if_pos h2, decide_eq_true h2]; rfl
    · rw [if_neg h2, decide_eq_false h2]; rfl
theorem mnF_or (r s : Rat) : mnF r s = r ∨ mnF r s = s := by unfold mnF; split <;> simp
theorem mxF_or (r s : Rat) : mxF r s = r ∨ mxF r s = s := by unfold mxF; split <;> simp
theorem mnF_le (r s : Rat) : mnF r s ≤ r ∧ mnF r s ≤ s := by unfold mnF; split <;> constructor <;> grind
end Go.Px.Seat

/- Quotients, powers, sizes of fractions: the reference's; more that lies in spans. Seat ZD. -/
namespace Pm
open Go.Px Go.Px.Seat
def rabs (r : Rat) : Rat := if r < 0 then -r else r
theorem rabs_nonneg (r : Rat) : 0 ≤ rabs r := by
  unfold rabs
  split <;> grind
theorem rabs_fb (r : Rat) : fb (rabs r) = false := by rw [fb_iff]; exact decide_eq_false (Rat.not_lt.2 (rabs_nonneg r))
theorem rabs_ft (r : Rat) : ft (rabs r) = ft r := by unfold rabs; split <;> simp [ft_neg]
theorem rabs_fq (r : Rat) : fq (rabs r) = fq r := by unfold rabs; split <;> simp [fq_neg]
theorem rabs_fits {r : Rat} (h : fits r) : fits (rabs r) := by
  unfold rabs
  split
  · exact fits_neg.2 h
  · exact h
theorem rabs_pow (r : Rat) {n : Nat} (h : n % 2 = 0) : rabs r ^ n = r ^ n := by
  unfold rabs
  split
  · obtain ⟨k, rfl⟩ : ∃ k, n = 2 * k := ⟨n / 2, by omega⟩
    clear h
    induction k with
    | zero => rw [Nat.mul_zero, Rat.pow_zero, Rat.pow_zero]
    | succ k ih =>
      have e : ∀ t : Rat, t ^ (2 * (k + 1)) = t ^ (2 * k) * t * t := fun t => by
        rw [show 2 * (k + 1) = 2 * k + 1 + 1 by omega, Rat.pow_succ t (2 * k + 1), Rat.pow_succ t (2 * k)]
      rw [e, e, ih]
      grind
  · rfl
theorem memS_abs {w : Int} {a : Sp} {f : Rat} (h : memS w a f) : memS w (absS w a) (rabs f) := by
  have hw := h.wd
  have hn := memS_neg h
  obtain ⟨a1, a2, rfl, pa, l1, l2⟩ := h
  rw [negS_sp pa] at hn
  obtain ⟨_, _, e, pn, m1, m2⟩ := hn
  cases e
  rw [absS_sp pa]
  have kp := abs_pok pa
  obtain ⟨_, r1, r2, r3, _⟩ := pok_rng pa
  obtain ⟨_, s1, s2, s3, _⟩ := pok_rng pn
  obtain ⟨_, u1, u2, _⟩ := pok_rng kp.1
  refine ⟨_, _, rfl, kp.1, ?_, ?_⟩
  · have h0 : Lm.num 0 ≤ .num (rabs f) := by simp; exact rabs_nonneg f
    have h1 : f ≤ rabs f := by unfold rabs; split <;> grind
    have h2 : -f ≤ rabs f := by unfold rabs; split <;> grind
    by_cases q1 : 0 < a1
    · rw [show max (max 0 a1) (-a2) = a1 by omega]
      exact Lm.trans l1 (by simpa using h1)
    · by_cases q2 : 0 < -a2
      · rw [show max (max 0 a1) (-a2) = -a2 by omega]
        exact Lm.trans m1 (by simpa using h2)
      · rw [show max (max 0 a1) (-a2) = 0 by omega, lim_zero hw]; exact h0
  · unfold rabs
    split
    · exact Lm.trans m2 ((lim_le hw s2 u2).2 (by omega))
    · exact Lm.trans l2 ((lim_le hw r2 u2).2 (by omega))
theorem powL_of_num (r : Rat) (n : Nat) : powL (.num r) n = .num (r ^ n) := by
  unfold powL
  split
  · rename_i h; subst h; rw [Rat.pow_zero]
  · rfl
theorem memS_pow {w : Int} {a : Sp} {f : Rat} (h : memS w a f) {n : Nat} (hn : n ≤ 8) : memS w (powS w a n) (f ^ n) := by
  have hw := h.wd
  have ha := memS_abs h
  obtain ⟨a1, a2, rfl, pa, l1, l2⟩ := h
  have e : powS w (sp a1 a2) n = sp (dn w (powL (lim w (if (n : Int) % 2 = 0 then absS w (sp a1 a2) else sp a1 a2).2.1) n)) (up w (powL (lim w (if (n : Int) % 2 = 0 then absS w (sp a1 a2) else sp a1 a2).2.2.1) n)) := if_pos ⟨by rw [ok1_sp]; exact pa, by omega, by omega⟩
  rw [e]
  by_cases hp : (n : Int) % 2 = 0
  · rw [if_pos hp, ← rabs_pow f (show n % 2 = 0 by omega)]
    rw [absS_sp pa] at ha ⊢
    obtain ⟨_, _, ee, pk, m1, m2⟩ := ha
    cases ee
    have k0 := (nonneg_lim hw (pok_rng pk).2.1).1 (abs_pok pa).2
    refine memS_du hw ?_ ?_
    · rw [← powL_of_num]; exact powL_mono n m1 (.inr k0)
    · rw [← powL_of_num]; exact powL_mono n m2 (.inr (by simp; exact rabs_nonneg f))
  · rw [if_neg hp]
    refine memS_du hw ?_ ?_
    · rw [← powL_of_num]; exact powL_mono n l1 (.inl (by omega))
    · rw [← powL_of_num]; exact powL_mono n l2 (.inl (by omega))
theorem pow_le_pow' {x i n : Nat} (hx : x ≠ 0) (h : i ≤ n) : x ^ i ≤ x ^ n := Nat.pow_le_pow_right (by omega) h
end Pm
namespace Go.Px.Seat
open Go Pm
set_option linter.unusedVariables false
variable {B : Run}
theorem k_sFracDiv : Ev fun n => ∀ r s : Rat, fits r → fits s → c_s_FracDiv ((C B).run n) (fb r) (ft r) (fq r) (fb s) (ft s) (fq s) = some (if s = 0 then (false, ([], ([], (false, ())))) else resF (r / s)) := by
  refine ((k_sFracOk (B := B)).and ((k_sMul (B := B)).and (k_sMake (B := B)))).succ fun n hn ⟨hO, hM, hK⟩ r s hr hs => ?_
  rw [run_succ, e_s_FracDiv]
  unfold p_s_FracDiv
  obtain ⟨r1, r2⟩ := fits_len hr
  obtain ⟨s1, s2⟩ := fits_len hs
  rw [hO, hO, fok_fr, fok_fr, decide_eq_true hr, decide_eq_true hs]
  simp only [Option.bind_some, Bool.not_true, cond_false, jb_inr, len_zero_iff]
  by_cases h0 : s = 0
  · rw [if_pos h0, ft_nil.2 h0]; rfl
  have e : (ft s).isEmpty = false := by
    cases h : (ft s).isEmpty
    · rfl
    · exact absurd (ft_nil.1 (List.isEmpty_iff.1 h)) h0
  rw [if_neg h0, e, cond_false]
  simp only [ft, fq] at r1 r2 s1 s2 ⊢
  have l1 := len_dig_mul r.num.natAbs s.den
  have l3 := len_dig_mul r.den s.num.natAbs
  have hn : s.num.natAbs ≠ 0 := fun h => h0 (Rat.num_eq_zero.1 (Int.natAbs_eq_zero.1 h))
  rw [hM _ _ (by omega) (by omega)]
  simp only [Option.bind_some]
  rw [hM _ _ (by omega) (by omega)]
  simp only [Option.bind_some, beqB_eq]
  have e' : (!(fb r == fb s)) = (fb r != fb s) := rfl
  rw [e', hK _ _ _ (Nat.mul_ne_zero r.den_nz hn) (by omega) (by omega), ← div_sg h0]
  rfl
theorem k_sNatPow : Ev fun n => ∀ x m : Nat, x < 65536 ^ 256 → m ≤ 64 → c_s_NatPow ((C B).run n) (dig x) (m : Int) = some (if x ^ m < 65536 ^ 256 then (dig (x ^ m), (true, ())) else ([], (false, ()))) := by
  refine ((k_sNatOk (B := B)).and (k_sMul (B := B))).succ fun n hn ⟨hO, hM⟩ x m hx hm => ?_
  rw [run_succ, e_s_NatPow]
  unfold p_s_NatPow
  rw [hO, nok_dig, decide_eq_true hx]
  simp only [Option.bind_some, Bool.not_true, cond_false]
  rw [show ilt (m : Int) 0 = false from decide_eq_false (by omega), cond_false, jb_inr]
  simp only
  rw [show ilt 64 (m : Int) = false from decide_eq_false (by omega), cond_false]
  have hxl : (dig x).length ≤ 256 := dig_len_le.2 hx
  generalize hBig : (65536 : Nat) ^ 256 = BIG at hx ⊢
  have hfit : ∀ z : Nat, (dig z).length ≤ 256 ↔ z < BIG := fun z => by rw [← hBig]; exact dig_len_le
  refine iter_const (fun st => ∃ i : Nat, i ≤ m ∧ x ^ i < BIG ∧ st = (((i : Int), ((m : Int), (dig (x ^ i), (dig x, ((), (false, ())))))), ())) (fun st => (m - st.1.1).toNat) _ ?_ n _ (by simp only; omega)
    ⟨0, Nat.zero_le _, by rw [Nat.pow_zero, ← hfit, ← one_dig]; decide, by rw [Nat.pow_zero, ← one_dig]; rfl⟩
  rintro rec _ ⟨i, hi, hlt, rfl⟩ ih
  simp only
  by_cases h : i < m
  · have hl := (hfit _).2 hlt
    rw [show ilt (i : Int) (m : Int) = true from decide_eq_true (by omega), cond_true, hM _ _ (by omega) (by omega)]
    simp only [Option.bind_some]
    rw [show x ^ i * x = x ^ (i + 1) from (Nat.pow_succ ..).symm]
    by_cases hf : x ^ (i + 1) < BIG
    · have := (hfit _).2 hf
      rw [show ilt 256 (len (dig (x ^ (i + 1)))) = false from decide_eq_false (by rw [len_eq]; omega), cond_false, iadd_eq (by omega) (by omega)]
      exact ih _ ⟨i + 1, h, hf, rfl⟩ (by simp only; omega)
    · have : ¬ (dig (x ^ (i + 1))).length ≤ 256 := fun h' => hf ((hfit _).1 h')
      rw [show ilt 256 (len (dig (x ^ (i + 1)))) = true from decide_eq_true (by rw [len_eq]; omega), cond_true, if_neg]
      intro h'
      have hx0 : x ≠ 0 := fun h0 => by
        subst h0
        rw [Nat.pow_succ, Nat.mul_zero] at hf
        omega
      have := pow_le_pow' hx0 (show i + 1 ≤ m by omega)
      omega
  · have : i = m := by omega
    subst this
    rw [show ilt (i : Int) (i : Int) = false from decide_eq_false (by omega), cond_false, if_pos hlt]
theorem k_sFracPow : Ev fun n => ∀ (r : Rat) (m : Nat), fits r → m ≤ 64 → c_s_FracPow ((C B).run n) (fb r) (ft r) (fq r) (m : Int) = some (resF (r ^ m)) := by
  refine ((k_sFracOk (B := B)).and (k_sNatPow (B := B))).succ fun n hn ⟨hO, hP⟩ r m hr hm => ?_
  rw [run_succ, e_s_FracPow]
  unfold p_s_FracPow
  rw [hO, fok_fr, decide_eq_true hr]
  simp only [Option.bind_some, Bool.not_true, cond_false, ilt_iff]
  rw [decide_eq_false (by omega), cond_false, jb_inr]
  simp only
  rw [decide_eq_false (by omega), cond_false]
  have h1 := hP r.num.natAbs m hr.1 hm
  have h2 := hP r.den m hr.2 hm
  simp only [ft, fq]
  rw [h1, h2]
  simp only [Option.bind_some]
  have hfit : fits (r ^ m) ↔ r.num.natAbs ^ m < 65536 ^ 256 ∧ r.den ^ m < 65536 ^ 256 := by
    unfold fits
    rw [Rat.num_pow, Rat.den_pow, natAbs_pow']
  have e3 : (irem .i64 (m : Int) 2 == 1) = decide (m % 2 = 1) := by
    rw [irem_eq (by omega)]
    by_cases h : m % 2 = 1
    · rw [decide_eq_true h]; simp; omega
    · rw [decide_eq_false h]; exact beq_f (by omega)
  generalize (65536 : Nat) ^ 256 = BIG at hfit ⊢
  by_cases f1 : r.num.natAbs ^ m < BIG
  · by_cases f2 : r.den ^ m < BIG
    · rw [if_pos f1, if_pos f2, resF_fits (hfit.2 ⟨f1, f2⟩), fb_pow, ft_pow, fq_pow]
      simp only [Bool.not_true, cond_false, jb_inr]
      cases fb r
      · rfl
      · simp only [cond_true, jb_inr, e3, Bool.true_and]
    · rw [if_pos f1, if_neg f2, resF_not (fun h => f2 (hfit.1 h).2)]; rfl
  · rw [if_neg f1, resF_not (fun h => f1 (hfit.1 h).1)]; rfl
theorem k_sFracAbs : Ev fun n => ∀ r : Rat, fits r → c_s_FracAbs ((C B).run n) (fb r) (ft r) (fq r) = some (fb (rabs r), (ft (rabs r), (fq (rabs r), (true, ())))) := by
  refine ((k_sFracOk (B := B)).and (k_sTrim (B := B))).succ fun n hn ⟨hO, hT⟩ r hr => ?_
  rw [run_succ, e_s_FracAbs]
  unfold p_s_FracAbs
  obtain ⟨r1, r2⟩ := fits_len hr
  have st : ∀ x, strip (dig x) = dig x := fun x => by rw [strip_dig (dig_Dg x), val_dig, Int.toNat_natCast]
  have e1 : strip (ft r) = ft r := st _
  have e2 : strip (fq r) = fq r := st _
  rw [hO, fok_fr, decide_eq_true hr]
  simp only [Option.bind_some, Bool.not_true, cond_false]
  rw [hT _ (by omega), hT _ (by omega), e1, e2, rabs_fb, rabs_ft, rabs_fq]
  rfl
end Go.Px.Seat

/- Backward: the program's. Seat ZD. -/
namespace Pm
open Go.Px Go.Px.Seat
def zeS (s : Sp) : Bool := decide (s.2.1 = 0 ∧ s.2.2.1 = 0)
noncomputable def btopS (w : Int) (z y x : Sp) : Sp := if (three w z y x && !zeS y) = true then meet w x (mulS w z y) else spn
noncomputable def bbotS (w : Int) (z x y : Sp) : Sp := if (three w z x y && !zeS y) = true then bmulS w x z y else spn
def eitherS (w : Int) (x r : Sp) : Sp := hullS w (meet w x r) (meet w x (negS w r))
def fromS (w lo : Int) : Sp := sp lo (top w)
noncomputable def bpowS (w : Int) (z : Sp) (n : Nat) (x : Sp) : Sp :=
  if (both w z x && decide (n ≤ 8)) = true then
    (if n = 0 then (if psI w z 1 = true then x else spn)
     else if n % 2 = 1 then meet w x (sp (rdn w z.2.1 n) (rup w z.2.2.1 n))
     else if (meet w z (fromS w 0)).1 = true then eitherS w x (sp (rdn0 w (meet w z (fromS w 0)).2.1 n) (rup0 w (meet w z (fromS w 0)).2.2.1 n)) else spn)
  else spn
noncomputable def brootS (w : Int) (z x : Sp) : Sp := if both w z x = true then meet w x (powS w (meet w z (fromS w 0)) 2) else spn
def babsS (w : Int) (z x : Sp) : Sp := if both w z x = true then eitherS w x (meet w z (fromS w 0)) else spn
def bminS (w : Int) (z y x : Sp) : Sp := if (three w z y x && !decide (y.2.2.1 < z.2.1)) = true then (if z.2.2.1 < y.2.1 then meet w x z else meet w x (fromS w z.2.1)) else spn
def bmaxS (w : Int) (z y x : Sp) : Sp := negS w (bminS w (negS w z) (negS w y) (negS w x))
theorem one_fits : fits 1 := ⟨lt_two_of (A := 0) (by decide) (by decide), lt_two_of (A := 0) (by decide) (by decide)⟩
theorem three_both {w : Int} {z y x : Sp} (h : three w z y x = true) : ok1 w z = true ∧ ok1 w y = true ∧ ok1 w x = true := by
  unfold three at h
  simp only [Bool.and_eq_true] at h
  exact h
end Pm
namespace Go.Px.Seat
open Go Pm
set_option linter.unusedVariables false
variable {B : Run}
theorem k_nought0 : Ev fun n => ∀ (s : Sp), c_i_Span_nought ((C B).run n) s.1 s.2.1 s.2.2.1 = some (zeS s, ()) := by
  refine Ev.triv.succ fun n hn _ s => ?_
  rw [run_succ, e_i_Span_nought]
  unfold p_i_Span_nought zeS
  obtain ⟨b, lo, hi, u⟩ := s
  simp only
  by_cases h : lo = 0
  · rw [show (lo == 0) = true by simpa using h, cond_true, jb_inr]
    by_cases h' : hi = 0
    · simp [h, h']
    · simp [h, h']
  · rw [beq_f h, cond_false, jb_inr]
    simp [h]
theorem k_iPairHas : Ev fun n => ∀ (w lo hi : Int) (r : Rat), fits r → c_i_PairHas ((C B0).run n) w lo hi (fb r) (ft r) (fq r) = some (pok w lo hi && inn w lo hi r, ()) := by
  refine ((k_BitTop (B := B0)).and ((k_PairOk (B := B0)).and (k_FracOk.and (k_value.and (k_cmp (B := B0)))))).succ fun n hn ⟨hT, hO, hF, hV, hC⟩ w lo hi r hr => ?_
  rw [run_succ, e_i_PairHas]
  unfold p_i_PairHas
  rw [hT, hO]
  simp only [Option.bind_some]
  cases hp : pok w lo hi
  · rfl
  rw [hF, fok_fr, decide_eq_true hr]
  simp only [Option.bind_some, cond_true, Bool.true_and, ineg_top]
  obtain ⟨hw, r1, r2, r3, r4, r5⟩ := pok_rng hp
  have leP : ∀ a b : Rat, ile (cmpR a b) 0 = decide (a ≤ b) := fun a b => by
    rw [ile_iff]
    by_cases h : a ≤ b
    · rw [decide_eq_true h, decide_eq_true ((cmpR_le a b).2 h)]
    · rw [decide_eq_false h, decide_eq_false (fun h' => h ((cmpR_le a b).1 h'))]
  have hih : hi ≠ top w → c_i_value ((C B0).run n) w hi = some (outF (fv w hi)) := fun h => hV w hi ⟨hw, r5, by have := r2.2; omega⟩
  have hil : lo ≠ -top w → c_i_value ((C B0).run n) w lo = some (outF (fv w lo)) := fun h => hV w lo ⟨hw, by have := r1.1; omega, r4⟩
  have fh : hi ≠ top w → fits (fv w hi) := fun h => fits_fv ⟨hw, r5, by have := r2.2; omega⟩
  have fl : lo ≠ -top w → fits (fv w lo) := fun h => fits_fv ⟨hw, by have := r1.1; omega, r4⟩
  unfold inn
  by_cases h1 : lo = -top w
  · rw [show (lo == -top w) = true by simpa using h1, cond_true, decide_eq_true h1, Bool.true_or, Bool.true_and]
    by_cases h2 : hi = top w
    · rw [show (hi == top w) = true by simpa using h2, cond_true, decide_eq_true h2]; rfl
    · rw [beq_f h2, cond_false, hih h2, decide_eq_false h2, Bool.false_or]
      simp only [Option.bind_some, outF]
      rw [hC _ _ hr (fh h2)]
      simp only [Option.bind_some, jb_inr, leP]
  · rw [beq_f h1, cond_false, hil h1, decide_eq_false h1, Bool.false_or]
    simp only [Option.bind_some, outF]
    rw [hC _ _ (fl h1) hr]
    simp only [Option.bind_some, leP]
    by_cases h3 : fv w lo ≤ r
    · rw [decide_eq_true h3, cond_true, Bool.true_and]
      by_cases h2 : hi = top w
      · rw [show (hi == top w) = true by simpa using h2, cond_true, decide_eq_true h2]; rfl
      · rw [beq_f h2, cond_false, hih h2, decide_eq_false h2, Bool.false_or]
        simp only [Option.bind_some, outF]
        rw [hC _ _ hr (fh h2)]
        simp only [Option.bind_some, jb_inr, leP]
    · rw [decide_eq_false h3]; rfl
theorem k_iSpanHas : Ev fun n => ∀ (w : Int) (s : Sp) (r : Rat), fits r → c_i_SpanHas ((C B0).run n) w s.1 s.2.1 s.2.2.1 (fb r) (ft r) (fq r) = some (psI w s r, ()) := by
  refine k_iPairHas.succ fun n hn hP w s r hr => ?_
  rw [run_succ, e_i_SpanHas]
  unfold p_i_SpanHas psI
  rw [hP w _ _ r hr]
  cases s.1 <;> rfl
theorem k_btopS : Ev fun n => ∀ (w : Int) (z y x : Sp), c_i_BackTop ((C B0).run n) w z.1 z.2.1 z.2.2.1 y.1 y.2.1 y.2.2.1 x.1 x.2.1 x.2.2.1 = some (btopS w z y x) := by
  refine ((k_full (B := B0)).and ((k_nought0 (B := B0)).and (k_MulS.and (k_Meet (B := B0))))).succ fun n hn ⟨hF, hZ, hM, hMt⟩ w z y x => ?_
  rw [run_succ, e_i_BackTop]
  unfold p_i_BackTop btopS
  have e2 : [(z.1, (z.2.1, (z.2.2.1, ()))), (y.1, (y.2.1, (y.2.2.1, ()))), (x.1, (x.2.1, (x.2.2.1, ())))] = [z, y, x] := rfl
  rw [e2, hF _ _ (by simp), full3]
  simp only [Option.bind_some]
  cases h : three w z y x
  · rfl
  simp only [Bool.not_true, cond_false, Bool.true_and]
  rw [hZ]
  simp only [Option.bind_some, jb_inr]
  cases zeS y
  · simp only [cond_false, Bool.not_false, if_true]
    rw [hM]
    simp only [Option.bind_some]
    rw [hMt w x (mulS w z y)]
    rfl
  · rfl
theorem k_bbotS : Ev fun n => ∀ (w : Int) (z x y : Sp), c_i_BackBottom ((C B0).run n) w z.1 z.2.1 z.2.2.1 x.1 x.2.1 x.2.2.1 y.1 y.2.1 y.2.2.1 = some (bbotS w z x y) := by
  refine ((k_full (B := B0)).and ((k_nought0 (B := B0)).and k_bmulS)).succ fun n hn ⟨hF, hZ, hM⟩ w z x y => ?_
  rw [run_succ, e_i_BackBottom]
  unfold p_i_BackBottom bbotS
  have e2 : [(z.1, (z.2.1, (z.2.2.1, ()))), (x.1, (x.2.1, (x.2.2.1, ()))), (y.1, (y.2.1, (y.2.2.1, ())))] = [z, x, y] := rfl
  rw [e2, hF _ _ (by simp), full3]
  simp only [Option.bind_some]
  cases h : three w z x y
  · rfl
  simp only [Bool.not_true, cond_false, Bool.true_and]
  rw [hZ]
  simp only [Option.bind_some, jb_inr]
  cases zeS y
  · simp only [cond_false, Bool.not_false, if_true]
    rw [hM w x z y]
    rfl
  · rfl
theorem k_either : Ev fun n => ∀ (w : Int) (x r : Sp), c_i_either ((C B).run n) w x.1 x.2.1 x.2.2.1 r.1 r.2.1 r.2.2.1 = some (eitherS w x r) := by
  refine ((k_Meet (B := B)).and ((k_NegS (B := B)).and (k_HullS (B := B)))).succ fun n hn ⟨hM, hN, hH⟩ w x r => ?_
  rw [run_succ, e_i_either]
  unfold p_i_either eitherS
  rw [hM, hN]
  simp only [Option.bind_some]
  rw [hM w x (negS w r)]
  simp only [Option.bind_some]
  rw [hH w (meet w x r) (meet w x (negS w r))]
  rfl
theorem k_bpowS : Ev fun n => ∀ (w : Int) (z : Sp) (m : Nat) (x : Sp), m ≤ 8 → c_i_BackPow ((C B0).run n) w z.1 z.2.1 z.2.2.1 (m : Int) x.1 x.2.1 x.2.2.1 = some (bpowS w z m x) := by
  refine ((k_full (B := B0)).and ((k_in (B := B0)).and ((k_whole (B := B0)).and (k_iSpanHas.and (k_rootDn.and (k_rootUp.and (k_rootDn0.and (k_rootUp0.and ((k_some (B := B0)).and ((k_Meet (B := B0)).and ((k_from (B := B0)).and (k_either (B := B0))))))))))))).succ
    fun n hn ⟨hF, hI, hW, hH, hD, hU, hD0, hU0, hSo, hM, hFr, hE⟩ w z m x hm => ?_
  rw [run_succ, e_i_BackPow]
  unfold p_i_BackPow bpowS
  have e2 : [(z.1, (z.2.1, (z.2.2.1, ()))), (x.1, (x.2.1, (x.2.2.1, ())))] = [z, x] := rfl
  rw [e2, hF _ _ (by simp), full2]
  simp only [Option.bind_some]
  cases h : both w z x
  · rfl
  simp only [Bool.not_true, cond_false]
  rw [hI, decide_eq_true (show (0 : Int) ≤ (m : Int) ∧ (m : Int) ≤ 8 by omega)]
  simp only [Option.bind_some, jb_inr, Bool.not_true, cond_false, Bool.true_and, decide_eq_true hm, if_true]
  by_cases h0 : m = 0
  · rw [if_pos h0, show ((m : Int) == 0) = true by simp [h0], cond_true, one_dig, hW]
    simp only [Option.bind_some, outF]
    have e1 : mkRat (sg false 1) 1 = (1 : Rat) := by decide +kernel
    rw [e1, hH w z 1 one_fits]
    simp only [Option.bind_some, jb_inr]
    cases psI w z 1
    · simp only [cond_false, Bool.false_eq_true, if_false]
      rw [show ((m : Int) == 0) = true by simp [h0]]; rfl
    · rfl
  rw [if_neg h0, beq_f (by omega), cond_false]
  simp only [jb_inr, cond_false]
  rw [beq_f (show ¬ (m : Int) = 0 by omega), cond_false]
  rw [both_ok1, Bool.and_eq_true] at h
  obtain ⟨z1, z2, rfl, pz⟩ := ok1_iff.1 h.1
  obtain ⟨hw, r1, r2, _⟩ := pok_rng pz
  have e3 : (irem .i64 (m : Int) 2 == 1) = decide (m % 2 = 1) := by
    rw [irem_eq (by omega)]
    by_cases h : m % 2 = 1
    · rw [decide_eq_true h]; simp; omega
    · rw [decide_eq_false h]; exact beq_f (by omega)
  rw [e3]
  by_cases hp : m % 2 = 1
  · rw [decide_eq_true hp, cond_true, if_pos hp]
    simp only [sp]
    rw [hD w z1 m hw r1 (by omega) hm, hU w z2 m hw r2 (by omega) hm]
    simp only [Option.bind_some]
    rw [hSo]
    simp only [Option.bind_some, sp]
    rw [hM w x (true, (rdn w z1 m, (rup w z2 m, ())))]
    rfl
  · rw [decide_eq_false hp, cond_false, if_neg hp, hFr]
    simp only [Option.bind_some]
    rw [hM w (sp z1 z2) (sp 0 (top w))]
    simp only [Option.bind_some]
    show _ = some (if (meet w (sp z1 z2) (sp 0 (top w))).1 = true then eitherS w x (sp (rdn0 w (meet w (sp z1 z2) (sp 0 (top w))).2.1 m) (rup0 w (meet w (sp z1 z2) (sp 0 (top w))).2.2.1 m)) else spn)
    have ht := top_pos hw
    rcases meet_cases w (sp z1 z2) (sp 0 (top w)) with e | ⟨c1, c2, b1, b2, ea, eb, pa, pb, hle, e⟩
    · rw [e]; rfl
    · cases ea; cases eb
      rw [e]
      unfold rng at r1 r2
      simp only [sp, Bool.not_true, cond_false, if_true]
      rw [hD0 w _ m hw (by omega) (by omega) (by omega) hm, hU0 w _ m hw (by omega) (by omega) (by omega) hm]
      simp only [Option.bind_some]
      rw [hSo]
      simp only [Option.bind_some, sp]
      rw [hE w x (true, (rdn0 w (max z1 0) m, (rup0 w (min z2 (top w)) m, ())))]
      rfl
theorem k_brootS : Ev fun n => ∀ (w : Int) (z x : Sp), c_i_BackRoot ((C B0).run n) w z.1 z.2.1 z.2.2.1 x.1 x.2.1 x.2.2.1 = some (brootS w z x) := by
  refine ((k_full (B := B0)).and ((k_from (B := B0)).and ((k_Meet (B := B0)).and k_powS))).succ fun n hn ⟨hF, hFr, hM, hP⟩ w z x => ?_
  rw [run_succ, e_i_BackRoot]
  unfold p_i_BackRoot brootS
  have e2 : [(z.1, (z.2.1, (z.2.2.1, ()))), (x.1, (x.2.1, (x.2.2.1, ())))] = [z, x] := rfl
  rw [e2, hF _ _ (by simp), full2]
  simp only [Option.bind_some]
  cases h : both w z x
  · rfl
  simp only [Bool.not_true, cond_false, if_true]
  rw [hFr]
  simp only [Option.bind_some]
  rw [hM w z (sp 0 (top w))]
  simp only [Option.bind_some]
  rw [hP w (meet w z (sp 0 (top w))) 2 (by omega)]
  simp only [Option.bind_some]
  rw [hM w x (powS w (meet w z (sp 0 (top w))) 2)]
  rfl
theorem k_babsS : Ev fun n => ∀ (w : Int) (z x : Sp), c_i_BackAbs ((C B0).run n) w z.1 z.2.1 z.2.2.1 x.1 x.2.1 x.2.2.1 = some (babsS w z x) := by
  refine ((k_full (B := B0)).and ((k_from (B := B0)).and ((k_Meet (B := B0)).and (k_either (B := B0))))).succ fun n hn ⟨hF, hFr, hM, hE⟩ w z x => ?_
  rw [run_succ, e_i_BackAbs]
  unfold p_i_BackAbs babsS
  have e2 : [(z.1, (z.2.1, (z.2.2.1, ()))), (x.1, (x.2.1, (x.2.2.1, ())))] = [z, x] := rfl
  rw [e2, hF _ _ (by simp), full2]
  simp only [Option.bind_some]
  cases h : both w z x
  · rfl
  simp only [Bool.not_true, cond_false, if_true]
  rw [hFr]
  simp only [Option.bind_some]
  rw [hM w z (sp 0 (top w))]
  simp only [Option.bind_some]
  rw [hE w x (meet w z (sp 0 (top w)))]
  rfl
theorem k_bminS : Ev fun n => ∀ (w : Int) (z y x : Sp), c_i_BackMin ((C B).run n) w z.1 z.2.1 z.2.2.1 y.1 y.2.1 y.2.2.1 x.1 x.2.1 x.2.2.1 = some (bminS w z y x) := by
  refine ((k_full (B := B)).and ((k_from (B := B)).and (k_Meet (B := B)))).succ fun n hn ⟨hF, hFr, hM⟩ w z y x => ?_
  rw [run_succ, e_i_BackMin]
  unfold p_i_BackMin bminS
  have e2 : [(z.1, (z.2.1, (z.2.2.1, ()))), (y.1, (y.2.1, (y.2.2.1, ()))), (x.1, (x.2.1, (x.2.2.1, ())))] = [z, y, x] := rfl
  rw [e2, hF _ _ (by simp), full3]
  simp only [Option.bind_some]
  cases h : three w z y x
  · rfl
  simp only [Bool.not_true, cond_false, Bool.true_and, jb_inr, ilt_iff]
  by_cases h1 : y.2.2.1 < z.2.1
  · rw [decide_eq_true h1]; rfl
  rw [decide_eq_false h1]
  simp only [cond_false, Bool.not_false, if_true]
  by_cases h2 : z.2.2.1 < y.2.1
  · rw [decide_eq_true h2, cond_true, if_pos h2, hM]
    rfl
  · rw [decide_eq_false h2, cond_false, if_neg h2, hFr]
    simp only [Option.bind_some]
    rw [hM w x (sp z.2.1 (top w))]
    rfl
theorem k_bmaxS : Ev fun n => ∀ (w : Int) (z y x : Sp), c_i_BackMax ((C B).run n) w z.1 z.2.1 z.2.2.1 y.1 y.2.1 y.2.2.1 x.1 x.2.1 x.2.2.1 = some (bmaxS w z y x) := by
  refine ((k_NegS (B := B)).and (k_bminS (B := B))).succ fun n hn ⟨hN, hM⟩ w z y x => ?_
  rw [run_succ, e_i_BackMax]
  unfold p_i_BackMax bmaxS
  rw [hN, hN, hN]
  simp only [Option.bind_some]
  rw [hM w (negS w z) (negS w y) (negS w x)]
  simp only [Option.bind_some]
  rw [hN w (bminS w (negS w z) (negS w y) (negS w x))]
  rfl
end Go.Px.Seat

/- The law on gaps: what its function comes to. Seat ZD. -/
namespace Pm
open Go.Px Go.Px.Seat
end Pm
namespace Go.Px.Seat
open Go Pm
set_option linter.unusedVariables false
variable {B : Run}
end Go.Px.Seat

/- Backward loses nothing: the mathematics. Seat ZD. -/
namespace Pm
open Go.Px Go.Px.Seat
variable {w : Int}
theorem isS_refl {x : Sp} : isS x x = true := by
  obtain ⟨s, lo, hi, u⟩ := x
  cases s
  · rfl
  · exact (isS_sp lo hi lo hi).2 ⟨Int.le_refl _, Int.le_refl _⟩
theorem meet_isS {x s : Sp} : isS (meet w x s) x = true := by
  rcases meet_cases w x s with e | ⟨a1, a2, b1, b2, rfl, rfl, pa, pb, h, e⟩
  · rw [e]; rfl
  · rw [e, isS_sp]; omega
theorem hull_isS {a b x : Sp} (hw : wd w = true) (ha : spk w a = true) (hb : spk w b = true) (h : isS a x = true) (h' : isS b x = true) : isS (hullS w a b) x = true := by
  rcases spk_cases ha with rfl | ⟨a1, a2, rfl, pa⟩
  · rwa [spn_hullS hb hw]
  rcases spk_cases hb with rfl | ⟨b1, b2, rfl, pb⟩
  · rwa [hullS_spn ha hw]
  rw [hullS_sp pa pb]
  obtain ⟨s, x1, x2, u⟩ := x
  cases s
  · cases h
  · have h1 := (isS_sp a1 a2 x1 x2).1 h
    have h2 := (isS_sp b1 b2 x1 x2).1 h'
    exact (isS_sp _ _ x1 x2).2 (by omega)
theorem three_ok {z y x : Sp} (hz : ok1 w z = true) (hy : ok1 w y = true) (hx : ok1 w x = true) : three w z y x = true := by
  unfold three; rw [hz, hy, hx]; rfl
theorem wd_ok1 {a : Sp} (h : ok1 w a = true) : wd w = true := by
  obtain ⟨a1, a2, rfl, pa⟩ := ok1_iff.1 h
  exact (pok_rng pa).1
theorem bmul_isS {z y x : Sp} : isS (bmulS w z y x) x = true := by
  unfold bmulS
  cases h : three w z y x
  · rfl
  rw [if_pos rfl]
  have hw := wd_ok1 (three_both h).1
  by_cases hn : (nuS z && nuS y) = true
  · rw [if_pos hn]; exact isS_refl
  · rw [if_neg hn]
    exact hull_isS hw (meet_spk hw) (meet_spk hw) meet_isS meet_isS
theorem memS_bmul {z y x : Sp} {r s : Rat} (hz : memS w z (r * s)) (hy : memS w y s) (hx : memS w x r) : memS w (bmulS w z y x) r := by
  unfold bmulS
  rw [if_pos (three_ok hz.ok1 hy.ok1 hx.ok1)]
  by_cases hn : (nuS z && nuS y) = true
  · rw [if_pos hn]; exact hx
  · rw [if_neg hn]
    have h0 : s ≠ 0 := fun h0 => by
      subst h0
      rw [Rat.mul_zero] at hz
      rw [memS_nu hz, memS_nu hy] at hn
      exact hn rfl
    have hd := memS_divTwo hz hy h0
    rw [Rat.mul_div_cancel h0] at hd
    exact memS_hull (meet_spk hx.wd) (meet_spk hx.wd) (hd.imp (memS_meet hx) (memS_meet hx))
theorem memS_zeS {y : Sp} {s : Rat} (hy : memS w y s) (h0 : s ≠ 0) : zeS y = false := by
  have hw := hy.wd
  obtain ⟨y1, y2, rfl, py, l1, l2⟩ := hy
  refine decide_eq_false fun h => h0 ?_
  have e1 : y1 = 0 := h.1
  have e2 : y2 = 0 := h.2
  rw [e1, lim_zero hw] at l1
  rw [e2, lim_zero hw] at l2
  simp at l1 l2
  exact Rat.le_antisymm l2 l1
theorem btop_isS {z y x : Sp} : isS (btopS w z y x) x = true := by
  unfold btopS
  split
  · exact meet_isS
  · rfl
theorem bbot_isS {z x y : Sp} : isS (bbotS w z x y) y = true := by
  unfold bbotS
  split
  · exact bmul_isS
  · rfl
theorem memS_btop {z y x : Sp} {r s : Rat} (hz : memS w z (r / s)) (hy : memS w y s) (hx : memS w x r) (h0 : s ≠ 0) : memS w (btopS w z y x) r ∧ memS w (bbotS w z x y) s := by
  unfold btopS bbotS
  rw [three_ok hz.ok1 hy.ok1 hx.ok1, three_ok hz.ok1 hx.ok1 hy.ok1, memS_zeS hy h0]
  simp only [Bool.true_and, Bool.not_false, if_true]
  have h1 := memS_mul hz hy
  rw [Rat.div_mul_cancel h0] at h1
  refine ⟨memS_meet hx h1, memS_bmul ?_ hz hy⟩
  rw [Rat.mul_comm, Rat.div_mul_cancel h0]
  exact hx
theorem either_isS {x r : Sp} (hw : wd w = true) : isS (eitherS w x r) x = true := hull_isS hw (meet_spk hw) (meet_spk hw) meet_isS meet_isS
theorem memS_either {x R : Sp} {r : Rat} (hx : memS w x r) (h : memS w R r ∨ memS w (negS w R) r) : memS w (eitherS w x R) r :=
  memS_hull (meet_spk hx.wd) (meet_spk hx.wd) (h.imp (memS_meet hx) (memS_meet hx))
theorem memS_opp {R : Sp} {r : Rat} (h : memS w R (rabs r)) : memS w R r ∨ memS w (negS w R) r := by
  unfold rabs at h
  split at h
  · right
    have := memS_neg h
    rwa [Rat.neg_neg] at this
  · exact .inl h
theorem memS_from {r : Rat} (hw : wd w = true) (h : 0 ≤ r) : memS w (fromS w 0) r := by
  have ht := top_pos hw
  exact memS_of hw (by unfold rng; omega) (by unfold rng; omega) (by rw [lim_zero hw]; simpa using h) (by rw [lim_top]; simp)
/-! ### roots -/
theorem root_lo {a : Int} {n : Nat} {y : Rat} (hw : wd w = true) (hn : n ≠ 0) (h0 : 0 ≤ a) (h1 : a ≤ top w) (hy : 0 ≤ y) (h : lim w a ≤ .num (y ^ n)) : lim w (rdn0 w a n) ≤ .num y := by
  obtain ⟨d1, d2⟩ := rdn0_rng (n := n) hw hn h0
  have h2 := Lm.trans ((le_rdn0 (n := n) hw hn h0 h1 d1 d2).1 (Int.le_refl _)) h
  have ht := top_pos hw
  rcases lim_cases hw (show rng w (rdn0 w a n) by unfold rng; omega) with ⟨h, e'⟩ | ⟨h, e'⟩ | ⟨h, e'⟩
  · rw [e']; simp
  · rw [e', powL_pos hn] at h2; simp at h2
  · rw [e', powL_num hn] at h2
    rw [e']
    simp at h2 ⊢
    exact (rat_pow_le_iff (fv_nonneg d1) hy hn).1 h2
theorem root_hi {a : Int} {n : Nat} {y : Rat} (hw : wd w = true) (hn : n ≠ 0) (h0 : 0 ≤ a) (h1 : a ≤ top w) (hy : 0 ≤ y) (h : .num (y ^ n) ≤ lim w a) : .num y ≤ lim w (rup0 w a n) := by
  obtain ⟨d1, d2⟩ := rup0_rng (n := n) hw hn h0
  have h2 := Lm.trans h ((rup0_le (n := n) hw hn h0 h1 d1 d2).1 (Int.le_refl _))
  have ht := top_pos hw
  rcases lim_cases hw (show rng w (rup0 w a n) by unfold rng; omega) with ⟨h, e'⟩ | ⟨h, e'⟩ | ⟨h, e'⟩
  · omega
  · rw [e']; simp
  · rw [e', powL_num hn] at h2
    rw [e']
    simp at h2 ⊢
    exact (rat_pow_le_iff hy (fv_nonneg d1) hn).1 h2
theorem neg_odd (z : Rat) (k : Nat) : (-z) ^ (2 * k + 1) = -(z ^ (2 * k + 1)) := by
  induction k with
  | zero => simp [Rat.pow_succ]
  | succ k ih =>
    have e : ∀ t : Rat, t ^ (2 * (k + 1) + 1) = t ^ (2 * k + 1) * t * t := fun t => by
      rw [show 2 * (k + 1) + 1 = 2 * k + 1 + 1 + 1 by omega, Rat.pow_succ t (2 * k + 1 + 1), Rat.pow_succ t (2 * k + 1)]
    rw [e, e, ih]
    grind
theorem odd_sign {r : Rat} {n : Nat} (ho : n % 2 = 1) (h : 0 ≤ r ^ n) : 0 ≤ r := by
  refine Rat.not_lt.1 fun hr => ?_
  obtain ⟨k, rfl⟩ : ∃ k, n = 2 * k + 1 := ⟨n / 2, by omega⟩
  have h1 : 0 < (-r) ^ (2 * k + 1) := Rat.pow_pos (by grind)
  rw [neg_odd] at h1
  grind
theorem rdn_rng {a : Int} {n : Nat} (hw : wd w = true) (hn : n ≠ 0) (ha : rng w a) : rng w (rdn w a n) ∧ rng w (rup w a n) := by
  have ht := top_pos hw
  unfold rng at *
  unfold rdn rup
  by_cases h : a < 0
  · rw [if_pos h, if_pos h]
    have h1 := rup0_rng (n := n) (a := -a) hw hn (by omega)
    have h2 := rdn0_rng (n := n) (a := -a) hw hn (by omega)
    omega
  · rw [if_neg h, if_neg h]
    have h1 := rup0_rng (n := n) (a := a) hw hn (by omega)
    have h2 := rdn0_rng (n := n) (a := a) hw hn (by omega)
    omega
theorem root_odd_lo {a : Int} {n : Nat} {r : Rat} (hw : wd w = true) (ho : n % 2 = 1) (ha : rng w a) (h : lim w a ≤ .num (r ^ n)) : lim w (rdn w a n) ≤ .num r := by
  have hn : n ≠ 0 := by omega
  have ht := top_pos hw
  have ha' := ha
  unfold rng at ha'
  unfold rdn
  by_cases h0 : a < 0
  · rw [if_pos h0]
    obtain ⟨u1, u2⟩ := rup0_rng (n := n) (a := -a) hw hn (by omega)
    rw [lim_opp hw (show rng w (rup0 w (-a) n) by unfold rng; omega), show Lm.num r = (Lm.num (-r)).opp by simp [Rat.neg_neg], Lm.opp_le]
    by_cases hr : 0 ≤ -r
    · refine root_hi hw hn (by omega) (by omega) hr ?_
      obtain ⟨k, rfl⟩ : ∃ k, n = 2 * k + 1 := ⟨n / 2, by omega⟩
      rw [neg_odd, lim_opp hw ha, show Lm.num (-(r ^ (2 * k + 1))) = (Lm.num (r ^ (2 * k + 1))).opp from rfl, Lm.opp_le]
      exact h
    · refine Lm.trans (b := .num 0) (by simp; grind) ?_
      exact (nonneg_lim hw (show rng w (rup0 w (-a) n) by unfold rng; omega)).1 u1
  · rw [if_neg h0]
    have h1 : 0 ≤ r ^ n := by
      have := Lm.trans ((nonneg_lim hw ha).1 (by omega)) h
      simpa using this
    exact root_lo hw hn (by omega) ha'.2 (odd_sign ho h1) h
theorem root_odd_hi {a : Int} {n : Nat} {r : Rat} (hw : wd w = true) (ho : n % 2 = 1) (ha : rng w a) (h : .num (r ^ n) ≤ lim w a) : .num r ≤ lim w (rup w a n) := by
  have hn : n ≠ 0 := by omega
  have ht := top_pos hw
  have ha' := ha
  unfold rng at ha'
  unfold rup
  by_cases h0 : a < 0
  · rw [if_pos h0]
    obtain ⟨u1, u2⟩ := rdn0_rng (n := n) (a := -a) hw hn (by omega)
    rw [lim_opp hw (show rng w (rdn0 w (-a) n) by unfold rng; omega), show Lm.num r = (Lm.num (-r)).opp by simp [Rat.neg_neg], Lm.opp_le]
    obtain ⟨k, rfl⟩ : ∃ k, n = 2 * k + 1 := ⟨n / 2, by omega⟩
    have h2 : lim w (-a) ≤ .num ((-r) ^ (2 * k + 1)) := by
      rw [neg_odd, lim_opp hw ha, show Lm.num (-(r ^ (2 * k + 1))) = (Lm.num (r ^ (2 * k + 1))).opp from rfl, Lm.opp_le]
      exact h
    have hna : rng w (-a) := by unfold rng; omega
    have h1 : 0 ≤ (-r) ^ (2 * k + 1) := by
      have := Lm.trans ((nonneg_lim hw hna).1 (by omega)) h2
      simpa using this
    exact root_lo hw hn (by omega) (by omega) (odd_sign ho h1) h2
  · rw [if_neg h0]
    by_cases hr : 0 ≤ r
    · exact root_hi hw hn (by omega) ha'.2 hr h
    · obtain ⟨u1, u2⟩ := rup0_rng (n := n) (a := a) hw hn (by omega)
      refine Lm.trans (b := .num 0) (by simp; grind) ?_
      exact (nonneg_lim hw (show rng w (rup0 w a n) by unfold rng; omega)).1 u1
theorem bpow_isS {z x : Sp} {n : Nat} : isS (bpowS w z n x) x = true := by
  unfold bpowS
  cases h : both w z x
  · rfl
  have hw : wd w = true := by
    rw [both_ok1, Bool.and_eq_true] at h
    exact wd_ok1 h.1
  split
  · split
    · split
      · exact isS_refl
      · rfl
    · split
      · exact meet_isS
      · split
        · exact either_isS hw
        · rfl
  · rfl
theorem memS_bpow {z x : Sp} {r : Rat} {n : Nat} (hn : n ≤ 8) (hz : memS w z (r ^ n)) (hx : memS w x r) : memS w (bpowS w z n x) r := by
  have hw := hx.wd
  unfold bpowS
  rw [if_pos (by rw [both_mem hz hx, decide_eq_true hn]; rfl)]
  by_cases h0 : n = 0
  · rw [if_pos h0]
    subst h0
    rw [Rat.pow_zero] at hz
    rw [if_pos (psI_iff.2 hz)]
    exact hx
  rw [if_neg h0]
  by_cases ho : n % 2 = 1
  · rw [if_pos ho]
    obtain ⟨z1, z2, rfl, pz, l1, l2⟩ := hz
    obtain ⟨_, r1, r2, _⟩ := pok_rng pz
    exact memS_meet hx (memS_of hw (rdn_rng hw h0 r1).1 (rdn_rng hw h0 r2).2 (root_odd_lo hw ho r1 l1) (root_odd_hi hw ho r2 l2))
  · rw [if_neg ho]
    have e := rabs_pow r (show n % 2 = 0 by omega)
    rw [← e] at hz
    have hm := memS_meet hz (memS_from hw (Rat.pow_nonneg (rabs_nonneg r)))
    have h1 : (meet w z (fromS w 0)).1 = true := by
      obtain ⟨c1, c2, ee, _⟩ := hm
      rw [ee]; rfl
    rw [if_pos h1]
    refine memS_either hx (memS_opp ?_)
    rcases meet_cases w z (fromS w 0) with e1 | ⟨a1, a2, b1, b2, ea, eb, pa, pb, hle, e1⟩
    · rw [e1] at h1; cases h1
    · cases eb
      rw [e1] at hm ⊢
      obtain ⟨_, _, ee, pm, l1, l2⟩ := hm
      cases ee
      obtain ⟨_, r1, r2, _⟩ := pok_rng pm
      have ht := top_pos hw
      unfold rng at r1 r2
      obtain ⟨d1, d2⟩ := rdn0_rng (n := n) (a := max a1 0) hw h0 (by omega)
      obtain ⟨u1, u2⟩ := rup0_rng (n := n) (a := min a2 (top w)) hw h0 (by omega)
      show memS w (sp (rdn0 w (max a1 0) n) (rup0 w (min a2 (top w)) n)) _
      exact memS_of hw (by unfold rng; omega) (by unfold rng; omega) (root_lo hw h0 (by omega) (by omega) (rabs_nonneg r) l1) (root_hi hw h0 (by omega) (by omega) (rabs_nonneg r) l2)
theorem broot_isS {z x : Sp} : isS (brootS w z x) x = true := by
  unfold brootS
  split
  · exact meet_isS
  · rfl
theorem memS_broot {z x : Sp} {r v : Rat} (hv : 0 ≤ v) (e : v ^ 2 = r) (hz : memS w z v) (hx : memS w x r) : memS w (brootS w z x) r := by
  unfold brootS
  rw [if_pos (both_mem hz hx)]
  refine memS_meet hx ?_
  rw [← e]
  exact memS_pow (n := 2) (memS_meet hz (memS_from hx.wd hv)) (by omega)
theorem babs_isS {z x : Sp} : isS (babsS w z x) x = true := by
  unfold babsS
  split
  · rename_i h
    rw [both_ok1, Bool.and_eq_true] at h
    exact either_isS (wd_ok1 h.1)
  · rfl
theorem memS_babs {z x : Sp} {r : Rat} (hz : memS w z (rabs r)) (hx : memS w x r) : memS w (babsS w z x) r := by
  unfold babsS
  rw [if_pos (both_mem hz hx)]
  exact memS_either hx (memS_opp (memS_meet hz (memS_from hx.wd (rabs_nonneg r))))
theorem bmin_isS {z y x : Sp} : isS (bminS w z y x) x = true := by
  unfold bminS
  split
  · split
    · exact meet_isS
    · exact meet_isS
  · rfl
theorem memS_bmin {z y x : Sp} {r s : Rat} (hz : memS w z (mnF r s)) (hy : memS w y s) (hx : memS w x r) : memS w (bminS w z y x) r := by
  have hw := hx.wd
  unfold bminS
  rw [three_ok hz.ok1 hy.ok1 hx.ok1]
  have hle := mnF_le r s
  have hor := mnF_or r s
  obtain ⟨z1, z2, rfl, pz, l1, l2⟩ := hz
  obtain ⟨y1, y2, rfl, py, m1, m2⟩ := hy
  obtain ⟨_, r1, r2, _⟩ := pok_rng pz
  obtain ⟨_, s1, s2, _⟩ := pok_rng py
  have h1 : z1 ≤ y2 := (lim_le hw r1 s2).1 (Lm.trans l1 (Lm.trans (by simpa using hle.2) m2))
  show memS w (if (true && !decide (y2 < z1)) = true then (if z2 < y1 then meet w x (sp z1 z2) else meet w x (fromS w z1)) else spn) r
  rw [decide_eq_false (show ¬ y2 < z1 by omega)]
  simp only [Bool.not_false, Bool.true_and, if_true]
  by_cases h2 : z2 < y1
  · rw [if_pos h2]
    have e : mnF r s = r := by
      rcases hor with e | e
      · exact e
      · exfalso
        rw [e] at l2
        have := (lim_le hw s1 r2).1 (Lm.trans m1 l2)
        omega
    rw [e] at l1 l2
    exact memS_meet hx ⟨z1, z2, rfl, pz, l1, l2⟩
  · rw [if_neg h2]
    have ht := top_pos hw
    exact memS_meet hx (memS_of hw r1 (by unfold rng; omega) (Lm.trans l1 (by simpa using hle.1)) (by rw [lim_top]; simp))
theorem neg_isS {s x : Sp} (hx : ok1 w x = true) (h : isS s (negS w x) = true) : isS (negS w s) x = true := by
  unfold negS
  split
  · rename_i hs
    obtain ⟨s1, s2, rfl, ps⟩ := ok1_iff.1 hs
    obtain ⟨x1, x2, rfl, px⟩ := ok1_iff.1 hx
    rw [negS_sp px, isS_sp] at h
    exact (isS_sp _ _ _ _).2 (by simp only [sp]; omega)
  · rfl
theorem bmax_isS {z y x : Sp} (hx : ok1 w x = true) : isS (bmaxS w z y x) x = true := neg_isS hx bmin_isS
theorem mx_mn (r s : Rat) : mnF (-r) (-s) = -(mxF r s) := by
  unfold mnF mxF
  by_cases h : r < s
  · rw [if_pos h, if_pos (by grind)]
  · rw [if_neg h, if_neg (by grind)]
theorem memS_bmax {z y x : Sp} {r s : Rat} (hz : memS w z (mxF r s)) (hy : memS w y s) (hx : memS w x r) : memS w (bmaxS w z y x) r := by
  have h := memS_bmin (z := negS w z) (y := negS w y) (x := negS w x) (r := -r) (s := -s) (by rw [mx_mn]; exact memS_neg hz) (memS_neg hy) (memS_neg hx)
  have := memS_neg h
  rwa [Rat.neg_neg] at this
end Pm

/- Narrow floats among the wide ones: the reference's. Seat ZD. -/
namespace Pm
open Go.Px Go.Px.Seat
theorem wd32 : wd 32 = true := by decide
theorem wd64 : wd 64 = true := by decide
noncomputable def wide (o : Int) : Int := dn 64 (lim 32 o)
end Pm

/- Widths crossed: the reference's. Seat ZD. -/
namespace Pm
open Go.Px Go.Px.Seat
end Pm
namespace Go.Px.Seat
open Go Pm
set_option linter.unusedVariables false
variable {B : Run}
end Go.Px.Seat
