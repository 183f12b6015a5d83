/- Own texts, part M8: PnO PnQ PmZf PmZg PmZh PnJ PmZi PnW PnX. -/
import Derived.Test.YtbdlklncblklnaaGreatDoorM7
import Derived.Test.YtbdlklncblklnaaGreatDoorM5
import Derived.Test.YtbdlklncblklnaaGreatDoorM6
set_option linter.unusedVariables false

/- Roots of spans: the program's. Seat ZD. -/
namespace Pm
open Go.Px Go.Px.Seat
theorem nonneg_mk {f : Rat} (h : 0 ≤ f) : mkRat ((f.num.natAbs : Nat) : Int) f.den = f := by
  have := mk_self f
  rw [show fb f = false by rw [fb_iff]; exact decide_eq_false (Rat.not_lt.2 h)] at this
  exact this
theorem ilt_cmp (r s : Rat) : ilt 0 (cmpR r s) = decide (s < r) := by
  unfold cmpR
  by_cases h : r < s
  · rw [if_pos h, decide_eq_false (by grind)]; rfl
  · rw [if_neg h]
    by_cases h' : s < r
    · rw [if_pos h', decide_eq_true h']; rfl
    · rw [if_neg h', decide_eq_false h']; rfl
theorem bl_le64 {x : Nat} (h : x < 9007199254740992) : bl x ≤ 53 := bl_le.2 h
end Pm
namespace Pm
open Go.Px Go.Px.Seat
end Pm
namespace Go.Px.Seat
open Go Pm
set_option linter.unusedVariables false
variable {B : Run}
theorem k_above : Ev fun n => ∀ (w o : Int) (m : Nat) (f : Rat), fin w o → 0 < o → 1 ≤ m → m ≤ 8 → 0 ≤ f → short 1024 f → c_i_powerAbove ((C B0).run n) w o (m : Int) (fb f) (ft f) (fq f) = some (decide (f < fv w o ^ m), ()) := by
  refine ((k_Part (B := B0)).and ((k_natOf (B := B0)).and ((k_natBits (B := B0)).and (k_value.and ((k_Fpow (B := B0)).and (k_cmpS (B := B0))))))).succ fun n hn ⟨hP, hO, hB, hV, hPw, hC⟩ w o m f hf ho hm1 hm8 hf0 hs => ?_
  rw [run_succ, e_i_powerAbove]
  unfold p_i_powerAbove
  obtain ⟨s1, s2⟩ := hs
  have hsz := sz_lt w o
  have hb := bl_le64 hsz
  have hsh := shf_lt hf
  have hll := lst_le w
  rw [hP w o hf]
  simp only [Option.bind_some]
  rw [hO _ (by omega)]
  simp only [Option.bind_some]
  have l0 : (dig (sz w o)).length ≤ 4 := dig_len_le.2 (Nat.lt_of_lt_of_le hsz (by decide))
  rw [hB _ (by omega)]
  simp only [Option.bind_some]
  have s1' : (dig f.num.natAbs).length ≤ 1024 := s1
  have s2' : (dig f.den).length ≤ 1024 := s2
  have b1 := bl_len f.num.natAbs
  have b2 := bl_len f.den
  have hbT : c_i_natBits ((C B0).run n) (ft f) = some ((bl f.num.natAbs : Int), ()) := hB _ (by omega)
  have hbD : c_i_natBits ((C B0).run n) (fq f) = some ((bl f.den : Int), ()) := hB _ (by omega)
  rw [hbT, hbD]
  simp only [Option.bind_some]
  have hbs := bl_pos (sz_pos (w := w) ho)
  have e1 : isub .i64 (bl (sz w o) : Int) 1 = (bl (sz w o) : Int) - 1 := isub_eq (by omega) (by omega)
  have e2 : iadd .i64 ((bl (sz w o) : Int) - 1) (-(lst w : Int) + (shf w o : Int)) = (bl (sz w o) : Int) - 1 + (-(lst w : Int) + (shf w o : Int)) := iadd_eq (by omega) (by omega)
  have hlow : -8592 ≤ (m : Int) * ((bl (sz w o) : Int) - 1 + (-(lst w : Int) + (shf w o : Int))) ∧ (m : Int) * ((bl (sz w o) : Int) - 1 + (-(lst w : Int) + (shf w o : Int))) ≤ 17000 := by
    have g1 : -1074 ≤ (bl (sz w o) : Int) - 1 + (-(lst w : Int) + (shf w o : Int)) := by omega
    have g2 : (bl (sz w o) : Int) - 1 + (-(lst w : Int) + (shf w o : Int)) ≤ 2125 := by omega
    generalize (bl (sz w o) : Int) - 1 + (-(lst w : Int) + (shf w o : Int)) = E at g1 g2
    have : m = 1 ∨ m = 2 ∨ m = 3 ∨ m = 4 ∨ m = 5 ∨ m = 6 ∨ m = 7 ∨ m = 8 := by omega
    rcases this with h | h | h | h | h | h | h | h <;> subst h <;> omega
  have e3 : imul .i64 (m : Int) ((bl (sz w o) : Int) - 1 + (-(lst w : Int) + (shf w o : Int))) = (m : Int) * ((bl (sz w o) : Int) - 1 + (-(lst w : Int) + (shf w o : Int))) := imul_eq (by omega) (by omega)
  have e4 : isub .i64 (bl f.num.natAbs : Int) (bl f.den : Int) = (bl f.num.natAbs : Int) - bl f.den := isub_eq (by omega) (by omega)
  have e5 : iadd .i64 ((bl f.num.natAbs : Int) - bl f.den) 1 = (bl f.num.natAbs : Int) - bl f.den + 1 := iadd_eq (by omega) (by omega)
  have e6 : isub .i64 ((bl f.num.natAbs : Int) - bl f.den) 1 = (bl f.num.natAbs : Int) - bl f.den - 1 := isub_eq (by omega) (by omega)
  have e7 : iadd .i64 ((m : Int) * ((bl (sz w o) : Int) - 1 + (-(lst w : Int) + (shf w o : Int)))) (m : Int) = (m : Int) * ((bl (sz w o) : Int) - 1 + (-(lst w : Int) + (shf w o : Int))) + m := iadd_eq (by omega) (by omega)
  rw [e1, e2, e3, e4, e5]
  simp only [ilt_iff, len_zero_iff]
  have hmk := nonneg_mk hf0
  by_cases hz : f = 0
  · have e : ft f = [] := ft_nil.2 hz
    rw [e]
    simp only [List.isEmpty_nil, cond_true, jb_inr]
    rw [hz, decide_eq_true (Rat.pow_pos (fv_pos ho))]
  have hT : f.num.natAbs ≠ 0 := fun h => hz (Rat.num_eq_zero.1 (Int.natAbs_eq_zero.1 h))
  have e : (ft f).isEmpty = false := by
    cases h : (ft f).isEmpty
    · rfl
    · exact absurd (ft_nil.1 (List.isEmpty_iff.1 h)) hz
  rw [e]
  simp only [cond_false, jb_inr]
  by_cases g1 : (bl f.num.natAbs : Int) - bl f.den + 1 < (m : Int) * ((bl (sz w o) : Int) - 1 + (-(lst w : Int) + (shf w o : Int)))
  · rw [decide_eq_true g1, cond_true]
    have := above_yes (w := w) (n := m) ho hT f.den_nz g1
    rw [hmk] at this
    rw [decide_eq_true this]
  rw [decide_eq_false g1, cond_false, e6, e7]
  by_cases g2 : (m : Int) * ((bl (sz w o) : Int) - 1 + (-(lst w : Int) + (shf w o : Int))) + m < (bl f.num.natAbs : Int) - bl f.den - 1
  · rw [decide_eq_true g2, cond_true]
    have := above_no (w := w) (n := m) ho hT f.den_nz g2
    rw [hmk] at this
    rw [decide_eq_false this]
  rw [decide_eq_false g2, cond_false, hV w o hf]
  simp only [Option.bind_some, outF]
  rw [hPw (fv w o) m 69 (short_fv hf) (by omega) (by omega)]
  simp only [Option.bind_some, outF]
  have hp8 : 69 * m + 1 ≤ 1048576 := by omega
  rw [hC _ _ (short_mono (short_pow (short_fv hf) (by omega) m) hp8) (short_mono ⟨s1, s2⟩ (by omega))]
  simp only [Option.bind_some]
  have := ilt_cmp (fv w o ^ m) f
  rw [ilt_iff] at this
  rw [this]
theorem k_root : Ev fun n => ∀ (w a : Int) (m : Nat), fin w a → 0 ≤ a → 1 ≤ m → m ≤ 8 → c_i_root ((C B0).run n) w a (m : Int) = some (rt w a m, (decide (fv w (rt w a m) ^ m = fv w a), ())) := by
  refine (k_value.and ((k_BitTop (B := B0)).and (k_above.and ((k_Fpow (B := B0)).and (k_cmpS (B := B0)))))).succ fun n hn ⟨hV, hT, hA, hPw, hC⟩ w a m hf ha hm1 hm8 => ?_
  rw [run_succ, e_i_root]
  unfold p_i_root
  have hw := hf.1
  have ht := top_pos hw
  have htn := top_nonneg w
  have hm0 : m ≠ 0 := by omega
  rw [hV w a hf, hT]
  simp only [Option.bind_some, outF]
  rw [isub_eq (x := top w) (y := 1) (by omega) (by omega)]
  refine iter_const (fun st => ∃ lo hi : Int, 0 ≤ lo ∧ lo ≤ hi ∧ hi < top w ∧ fv w lo ^ m ≤ fv w a ∧ (hi = top w - 1 ∨ fv w a < fv w (hi + 1) ^ m) ∧
      st = ((lo, (hi, (w, ((m : Int), ((), (0, (false, ()))))))), ((fb (fv w a), (ft (fv w a), (fq (fv w a), ()))), ()))) (fun st => bl (st.1.2.1 - st.1.1).toNat) _ ?_ n _ ?_
    ⟨0, top w - 1, by omega, by omega, by omega, by rw [fv_zero', zero_pow' hm0]; exact fv_nonneg ha, .inl rfl, rfl⟩
  · rintro rec _ ⟨lo, hi, h1, h2, h3, h4, h5, rfl⟩ ih
    simp only [ilt_iff]
    by_cases h : lo < hi
    · have e1 : isub .i64 hi lo = hi - lo := isub_eq (by omega) (by omega)
      have e2 : iadd .i64 (hi - lo) 1 = hi - lo + 1 := iadd_eq (by omega) (by omega)
      have e3 : iquo .i64 (hi - lo + 1) 2 = (hi - lo + 1) / 2 := iquo_eq (by omega) (by omega) (by omega)
      have e4 : iadd .i64 lo ((hi - lo + 1) / 2) = lo + (hi - lo + 1) / 2 := iadd_eq (by omega) (by omega)
      rw [decide_eq_true h, cond_true, e1, e2, e3, e4]
      have hbl : ∀ x : Nat, 2 * x ≤ (hi - lo).toNat → bl x < bl (hi - lo).toNat := fun x hx => bl_half hx (by omega)
      generalize hmid : lo + (hi - lo + 1) / 2 = mid at *
      have hmf : fin w mid := ⟨hw, by omega, by omega⟩
      have e5 : isub .i64 mid 1 = mid - 1 := isub_eq (by omega) (by omega)
      rw [hA w mid m (fv w a) hmf (by omega) hm1 hm8 (fv_nonneg ha) (short_mono (short_fv hf) (by omega))]
      simp only [Option.bind_some]
      by_cases hc : fv w a < fv w mid ^ m
      · rw [decide_eq_true hc, cond_true, e5]
        exact ih _ ⟨lo, mid - 1, h1, by omega, by omega, h4, .inr (by rw [Int.sub_add_cancel]; exact hc), rfl⟩ (hbl _ (by simp only; omega))
      · rw [decide_eq_false hc, cond_false]
        exact ih _ ⟨mid, hi, by omega, by omega, h3, Rat.not_lt.1 hc, h5, rfl⟩ (hbl _ (by simp only; omega))
    · have hlh : lo = hi := by omega
      subst hlh
      rw [decide_eq_false h, cond_false]
      have hlf : fin w lo := ⟨hw, by omega, h3⟩
      have hrt : rt w a m = lo := rt_of hm0 ⟨h1, h3, h4, h5⟩
      rw [hV w lo hlf]
      simp only [Option.bind_some, outF]
      rw [hPw (fv w lo) m 69 (short_fv hlf) (by omega) (by omega)]
      simp only [Option.bind_some, outF]
      have hp8 : 69 * m + 1 ≤ 1048576 := by omega
      rw [hC _ _ (short_mono (short_pow (short_fv hlf) (by omega) m) hp8) (short_mono (short_fv hf) (by omega)), hrt]
      simp only [Option.bind_some]
      by_cases he : fv w lo ^ m = fv w a
      · rw [decide_eq_true he, (cmpR_eq _ _).2 he]; rfl
      · rw [decide_eq_false he, beq_f (fun h => he ((cmpR_eq _ _).1 h))]
  · simp only
    have : bl (top w - 1 - 0).toNat ≤ 64 := bl_le.2 (by omega)
    omega
theorem k_rootDn0 : Ev fun n => ∀ (w a : Int) (m : Nat), wd w = true → 0 ≤ a → a ≤ top w → 1 ≤ m → m ≤ 8 → c_i_rootDown ((C B0).run n) w a (m : Int) = some (rdn0 w a m, ()) := by
  refine ((k_BitTop (B := B0)).and k_root).succ fun n hn ⟨hT, hR⟩ w a m hw h0 h1 hm1 hm8 => ?_
  rw [run_succ, e_i_rootDown]
  unfold p_i_rootDown rdn0
  rw [ilt_iff, decide_eq_false (by omega), cond_false, hT]
  simp only [Option.bind_some]
  have ht := top_pos hw
  by_cases h : a = top w
  · rw [if_pos h, show (a == top w) = true by simpa using h, cond_true, h]
  · rw [if_neg h, beq_f h, cond_false, hR w a m ⟨hw, by omega, by omega⟩ h0 hm1 hm8]
    rfl
theorem k_rootUp0 : Ev fun n => ∀ (w a : Int) (m : Nat), wd w = true → 0 ≤ a → a ≤ top w → 1 ≤ m → m ≤ 8 → c_i_rootUp ((C B0).run n) w a (m : Int) = some (rup0 w a m, ()) := by
  refine ((k_BitTop (B := B0)).and k_root).succ fun n hn ⟨hT, hR⟩ w a m hw h0 h1 hm1 hm8 => ?_
  rw [run_succ, e_i_rootUp]
  unfold p_i_rootUp rup0
  rw [ilt_iff, decide_eq_false (by omega), cond_false, hT]
  simp only [Option.bind_some]
  have ht := top_pos hw
  have htn := top_nonneg w
  by_cases h : a = top w
  · rw [if_pos h, show (a == top w) = true by simpa using h, cond_true, h]
  · rw [if_neg h, beq_f h, cond_false, hR w a m ⟨hw, by omega, by omega⟩ h0 hm1 hm8]
    simp only [Option.bind_some]
    have hr := rt_spec (n := m) hw (by omega) h0
    have r1 := hr.1
    have r2 := hr.2.1
    by_cases he : fv w (rt w a m) ^ m = fv w a
    · rw [decide_eq_true he, if_pos he]; rfl
    · rw [decide_eq_false he, if_neg he, iadd_eq (by omega) (by omega)]; rfl
theorem k_rootS : Ev fun n => ∀ (w : Int) (a : Sp), wd w = true → c_i_SpanRoot ((C B0).run n) w a.1 a.2.1 a.2.2.1 = some (rootS w a) := by
  refine ((k_from (B := B0)).and ((k_Meet (B := B0)).and (k_rootDn0.and (k_rootUp0.and (k_some (B := B0)))))).succ fun n hn ⟨hF, hM, hD, hU, hSo⟩ w a hw => ?_
  rw [run_succ, e_i_SpanRoot]
  unfold p_i_SpanRoot rootS
  rw [hF]
  simp only [Option.bind_some]
  rw [hM w a (sp 0 (top w))]
  simp only [Option.bind_some]
  have ht := top_pos hw
  rcases meet_cases w a (sp 0 (top w)) with e | ⟨a1, a2, b1, b2, rfl, eb, pa, pb, h, e⟩
  · rw [e]; rfl
  · cases eb
    rw [e]
    obtain ⟨_, r1, r2, _⟩ := pok_rng pa
    unfold rng at r1 r2
    simp only [sp, Bool.not_true, cond_false, if_true]
    have d := hD w (max a1 0) 2 hw (by omega) (by omega) (by omega) (by omega)
    have u := hU w (min a2 (top w)) 2 hw (by omega) (by omega) (by omega) (by omega)
    have e2 : ((2 : Nat) : Int) = 2 := rfl
    rw [e2] at d u
    rw [d, u]
    simp only [Option.bind_some]
    rw [hSo]
    rfl
end Go.Px.Seat

/- More makes more: what is reckoned of spans within spans. Seat ZD. -/
namespace Pm
open Go.Px Go.Px.Seat
/-- a span in a span -/
def isS (a b : Sp) : Bool := !a.1 || (b.1 && decide (b.2.1 ≤ a.2.1 ∧ a.2.2.1 ≤ b.2.2.1))
structure Sub (w a1 a2 x1 x2 : Int) : Prop where
  pa : pok w a1 a2 = true
  px : pok w x1 x2 = true
  l : a1 ≤ x1
  r : x2 ≤ a2
variable {w a1 a2 x1 x2 b1 b2 y1 y2 : Int}
theorem Sub.neg (h : Sub w a1 a2 x1 x2) : Sub w (-a2) (-a1) (-x2) (-x1) := ⟨pok_neg h.pa, pok_neg h.px, by have := h.r; omega, by have := h.l; omega⟩
theorem both_sp (pa : pok w a1 a2 = true) (pb : pok w b1 b2 = true) : both w (sp a1 a2) (sp b1 b2) = true := by rw [both_ok1, ok1_sp, ok1_sp, pa, pb]; rfl
theorem rat_pow_odd {x y : Rat} (h : x ≤ y) : ∀ k : Nat, x ^ (2 * k + 1) ≤ y ^ (2 * k + 1) := by
  have neg_odd : ∀ (z : Rat) (k : Nat), (-z) ^ (2 * k + 1) = -(z ^ (2 * k + 1)) := by
    intro z k
    induction k with
    | zero => simp [Rat.pow_succ]
    | succ k ih =>
      have e : ∀ t : Rat, t ^ (2 * (k + 1) + 1) = t ^ (2 * k + 1) * t * t := fun t => by
        rw [show 2 * (k + 1) + 1 = 2 * k + 1 + 1 + 1 by omega, Rat.pow_succ t (2 * k + 1 + 1), Rat.pow_succ t (2 * k + 1)]
      rw [e, e, ih]
      grind
  intro k
  by_cases hx : 0 ≤ x
  · exact rat_pow_le hx h _
  · by_cases hy : 0 ≤ y
    · have h1 : 0 ≤ (-x) ^ (2 * k + 1) := Rat.pow_nonneg (by grind)
      rw [neg_odd] at h1
      have h2 : 0 ≤ y ^ (2 * k + 1) := Rat.pow_nonneg hy
      grind
    · have := rat_pow_le (x := -y) (y := -x) (by grind) (by grind) (2 * k + 1)
      rw [neg_odd, neg_odd] at this
      grind
/-- powers: of what is from 0 on, or odd ones -/
theorem powL_mono {a b : Lm} (n : Nat) (h : a ≤ b) (hc : n % 2 = 1 ∨ .num 0 ≤ a) : powL a n ≤ powL b n := by
  unfold powL
  by_cases h0 : n = 0
  · rw [if_pos h0, if_pos h0]; exact Lm.rfl' _
  rw [if_neg h0, if_neg h0]
  cases a with
  | pos => cases b <;> simp_all
  | neg =>
    rcases hc with hc | hc
    · cases b with
      | neg => exact Lm.rfl' _
      | pos => simp
      | num s => simp [show ¬ n % 2 = 0 by omega]
    · simp at hc
  | num r =>
    cases b with
    | neg => simp at h
    | pos => simp
    | num s =>
      simp at h
      simp only [Lm.num_le]
      rcases hc with hc | hc
      · obtain ⟨k, rfl⟩ : ∃ k, n = 2 * k + 1 := ⟨n / 2, by omega⟩
        exact rat_pow_odd h k
      · simp at hc
        exact rat_pow_le hc h n
theorem root_zero {a1 a2 : Int} (pa : pok w a1 a2 = true) : rootS w (sp a1 a2) = if 0 ≤ a2 then sp (rdn0 w (max a1 0) 2) (rup0 w a2 2) else spn := by
  obtain ⟨hw, r1, r2, r3, r4, r5⟩ := pok_rng pa
  have ht := top_pos hw
  unfold rng at r1 r2
  have p0 : pok w 0 (top w) = true := pok_of hw (by unfold rng; omega) (by unfold rng; omega) (by omega) (by omega) (by omega)
  have hb := both_sp pa p0
  have em : meet w (sp a1 a2) (sp 0 (top w)) = if 0 ≤ a2 then sp (max a1 0) a2 else spn := by
    unfold meet
    by_cases h : 0 ≤ a2
    · rw [if_pos ⟨hb, by simp only [sp]; omega⟩, if_pos h]
      show sp (max a1 0) (min a2 (top w)) = _
      rw [show min a2 (top w) = a2 by omega]
    · rw [if_neg (fun h' => h (by have := h'.2; simp only [sp] at this; omega)), if_neg h]
  unfold rootS
  rw [em]
  by_cases h : 0 ≤ a2
  · rw [if_pos h, if_pos h]; rfl
  · rw [if_neg h, if_neg h]; rfl
end Pm

/- The least and the greatest of some numbers, rounded outward. No program here. -/
namespace Pm
/-- o goes from the float below the least of S to the float above the greatest -/
def Best (w : Int) (S : List Rat) (o : Sp) : Prop := o.1 = true ∧ (∃ r ∈ S, (∀ s ∈ S, r ≤ s) ∧ IsDn w r o.2.1) ∧ (∃ r ∈ S, (∀ s ∈ S, s ≤ r) ∧ IsDn w (-r) (-o.2.2.1))
theorem Best.one {w d u : Int} {r : Rat} (h1 : IsDn w r d) (h2 : IsDn w (-r) (-u)) : Best w [r] (sp d u) :=
  ⟨rfl, ⟨r, by simp, fun s hs => by rw [List.mem_singleton.1 hs]; exact Rat.le_refl, h1⟩, ⟨r, by simp, fun s hs => by rw [List.mem_singleton.1 hs]; exact Rat.le_refl, h2⟩⟩
theorem Best.more {w d u : Int} {s : Rat} {S : List Rat} {o : Sp} (h : Best w S o) (h1 : IsDn w s d) (h2 : IsDn w (-s) (-u)) : Best w (s :: S) (sp (min o.2.1 d) (max o.2.2.1 u)) := by
  obtain ⟨_, ⟨r, hr, hle, hd⟩, ⟨r', hr', hge, hu⟩⟩ := h
  refine ⟨rfl, ?_, ?_⟩
  · rcases (Rat.le_total : r ≤ s ∨ s ≤ r) with hrs | hrs
    · refine ⟨r, List.mem_cons_of_mem _ hr, fun x hx => ?_, ?_⟩
      · rcases List.mem_cons.1 hx with rfl | hx
        · exact hrs
        · exact hle x hx
      · have := hd.mono h1 hrs
        show IsDn w r (min o.2.1 d)
        rw [Int.min_eq_left this]; exact hd
    · refine ⟨s, List.mem_cons_self .., fun x hx => ?_, ?_⟩
      · rcases List.mem_cons.1 hx with rfl | hx
        · exact Rat.le_refl
        · exact Rat.le_trans hrs (hle x hx)
      · have := h1.mono hd hrs
        show IsDn w s (min o.2.1 d)
        rw [Int.min_eq_right this]; exact h1
  · rcases (Rat.le_total : s ≤ r' ∨ r' ≤ s) with hrs | hrs
    · refine ⟨r', List.mem_cons_of_mem _ hr', fun x hx => ?_, ?_⟩
      · rcases List.mem_cons.1 hx with rfl | hx
        · exact hrs
        · exact hge x hx
      · have := hu.mono h2 (by grind)
        show IsDn w (-r') (-(max o.2.2.1 u))
        rw [Int.max_eq_left (by omega)]; exact hu
    · refine ⟨s, List.mem_cons_self .., fun x hx => ?_, ?_⟩
      · rcases List.mem_cons.1 hx with rfl | hx
        · exact Rat.le_refl
        · exact Rat.le_trans (hge x hx) hrs
      · have := h2.mono hu (by grind)
        show IsDn w (-s) (-(max o.2.2.1 u))
        rw [Int.max_eq_right (by omega)]; exact h2
end Pm

/- Products of spans: the program's. Seat ZD. -/
namespace Go.Px.Seat
open Go Pm
set_option linter.unusedVariables false
variable {B : Run}
def Bst (w : Int) (S : List Rat) (o : Sp) : Prop := (S = [] ∧ o = spn) ∨ Best w S o
end Go.Px.Seat

/- Helpers of the law on tight spans. Seat ZD. -/
namespace Go.Px.Seat
open Go Pm
set_option linter.unusedVariables false
variable {B : Run}
end Go.Px.Seat

/- The law on both parts of a quotient: what its function comes to. Seat ZD. -/
namespace Pm
open Go.Px Go.Px.Seat
def hf : Rat := mkRat 1 2
end Pm
namespace Go.Px.Seat
open Go Pm
set_option linter.unusedVariables false
variable {B : Run}
theorem k_psI : Ev fun n => ∀ (w : Int) (s : Sp) (r : Rat), fits r → c_w_psIn ((C B).run n) w s.1 s.2.1 s.2.2.1 (fb r) (ft r) (fq r) = some (psI w s r, ()) := k_psIn (B := B)
end Go.Px.Seat

/- The law on tight spans: the loop at its end. Seat ZD. -/
namespace Go.Px.Seat
open Go Pm
set_option linter.unusedVariables false
variable {B : Run}
/-- a fraction as one of a list -/
def inF (r : Rat) : Bool × (List Int × (List Int × Unit)) := (fb r, (ft r, (fq r, ())))
/-- the least and the greatest so far -/
def mnF (r s : Rat) : Rat := if s < r then s else r
def mxF (r s : Rat) : Rat := if r < s then s else r
theorem cmp_gt (s r : Rat) : (cmpR s r == 1) = decide (r < s) := by
  unfold cmpR
  by_cases h : s < r
  · rw [if_pos h, decide_eq_false (by grind)]; rfl
  · rw [if_neg h]
    by_cases h2 : r < s
    · rw [if_pos h2, decide_eq_true h2]; rfl
    · rw [if_neg h2, decide_eq_false h2]; rfl
theorem mnF_or (r s : Rat) : mnF r s = r ∨ mnF r s = s := by unfold mnF; split <;> simp
theorem mxF_or (r s : Rat) : mxF r s = r ∨ mxF r s = s := by unfold mxF; split <;> simp
theorem mnF_le (r s : Rat) : mnF r s ≤ r ∧ mnF r s ≤ s := by unfold mnF; split <;> constructor <;> grind
theorem mxF_ge (r s : Rat) : r ≤ mxF r s ∧ s ≤ mxF r s := by unfold mxF; split <;> constructor <;> grind
end Go.Px.Seat

/- Quotients, powers, sizes of fractions: the reference's; more that lies in spans. Seat ZD. -/
namespace Pm
open Go.Px Go.Px.Seat
def rabs (r : Rat) : Rat := if r < 0 then -r else r
theorem rabs_nonneg (r : Rat) : 0 ≤ rabs r := by
  unfold rabs
  split <;> grind
theorem rabs_fb (r : Rat) : fb (rabs r) = false := by rw [fb_iff]; exact decide_eq_false (Rat.not_lt.2 (rabs_nonneg r))
theorem rabs_ft (r : Rat) : ft (rabs r) = ft r := by unfold rabs; split <;> simp [ft_neg]
theorem rabs_fq (r : Rat) : fq (rabs r) = fq r := by unfold rabs; split <;> simp [fq_neg]
theorem rabs_fits {r : Rat} (h : fits r) : fits (rabs r) := by
  unfold rabs
  split
  · exact fits_neg.2 h
  · exact h
theorem rabs_pow (r : Rat) {n : Nat} (h : n % 2 = 0) : rabs r ^ n = r ^ n := by
  unfold rabs
  split
  · obtain ⟨k, rfl⟩ : ∃ k, n = 2 * k := ⟨n / 2, by omega⟩
    clear h
    induction k with
    | zero => rw [Nat.mul_zero, Rat.pow_zero, Rat.pow_zero]
    | succ k ih =>
      have e : ∀ t : Rat, t ^ (2 * (k + 1)) = t ^ (2 * k) * t * t := fun t => by
        rw [show 2 * (k + 1) = 2 * k + 1 + 1 by omega, Rat.pow_succ t (2 * k + 1), Rat.pow_succ t (2 * k)]
      rw [e, e, ih]
      grind
  · rfl
theorem memS_abs {w : Int} {a : Sp} {f : Rat} (h : memS w a f) : memS w (absS w a) (rabs f) := by
  have hw := h.wd
  have hn := memS_neg h
  obtain ⟨a1, a2, rfl, pa, l1, l2⟩ := h
  rw [negS_sp pa] at hn
  obtain ⟨_, _, e, pn, m1, m2⟩ := hn
  cases e
  rw [absS_sp pa]
  have kp := abs_pok pa
  obtain ⟨_, r1, r2, r3, _⟩ := pok_rng pa
  obtain ⟨_, s1, s2, s3, _⟩ := pok_rng pn
  obtain ⟨_, u1, u2, _⟩ := pok_rng kp.1
  refine ⟨_, _, rfl, kp.1, ?_, ?_⟩
  · have h0 : Lm.num 0 ≤ .num (rabs f) := by simp; exact rabs_nonneg f
    have h1 : f ≤ rabs f := by unfold rabs; split <;> grind
    have h2 : -f ≤ rabs f := by unfold rabs; split <;> grind
    by_cases q1 : 0 < a1
    · rw [show max (max 0 a1) (-a2) = a1 by omega]
      exact Lm.trans l1 (by simpa using h1)
    · by_cases q2 : 0 < -a2
      · rw [show max (max 0 a1) (-a2) = -a2 by omega]
        exact Lm.trans m1 (by simpa using h2)
      · rw [show max (max 0 a1) (-a2) = 0 by omega, lim_zero hw]; exact h0
  · unfold rabs
    split
    · exact Lm.trans m2 ((lim_le hw s2 u2).2 (by omega))
    · exact Lm.trans l2 ((lim_le hw r2 u2).2 (by omega))
theorem powL_of_num (r : Rat) (n : Nat) : powL (.num r) n = .num (r ^ n) := by
  unfold powL
  split
  · rename_i h; subst h; rw [Rat.pow_zero]
  · rfl
theorem memS_pow {w : Int} {a : Sp} {f : Rat} (h : memS w a f) {n : Nat} (hn : n ≤ 8) : memS w (powS w a n) (f ^ n) := by
  have hw := h.wd
  have ha := memS_abs h
  obtain ⟨a1, a2, rfl, pa, l1, l2⟩ := h
  have e : powS w (sp a1 a2) n = sp (dn w (powL (lim w (if (n : Int) % 2 = 0 then absS w (sp a1 a2) else sp a1 a2).2.1) n)) (up w (powL (lim w (if (n : Int) % 2 = 0 then absS w (sp a1 a2) else sp a1 a2).2.2.1) n)) := if_pos ⟨by rw [ok1_sp]; exact pa, by omega, by omega⟩
  rw [e]
  by_cases hp : (n : Int) % 2 = 0
  · rw [if_pos hp, ← rabs_pow f (show n % 2 = 0 by omega)]
    rw [absS_sp pa] at ha ⊢
    obtain ⟨_, _, ee, pk, m1, m2⟩ := ha
    cases ee
    have k0 := (nonneg_lim hw (pok_rng pk).2.1).1 (abs_pok pa).2
    refine memS_du hw ?_ ?_
    · rw [← powL_of_num]; exact powL_mono n m1 (.inr k0)
    · rw [← powL_of_num]; exact powL_mono n m2 (.inr (by simp; exact rabs_nonneg f))
  · rw [if_neg hp]
    refine memS_du hw ?_ ?_
    · rw [← powL_of_num]; exact powL_mono n l1 (.inl (by omega))
    · rw [← powL_of_num]; exact powL_mono n l2 (.inl (by omega))
theorem memS_root {w : Int} {a : Sp} {x y : Rat} (h : memS w a x) (h0 : 0 ≤ y) (e : y ^ 2 = x) : memS w (rootS w a) y := by
  have hw := h.wd
  have ht := top_pos hw
  obtain ⟨a1, a2, rfl, pa, l1, l2⟩ := h
  obtain ⟨_, r1, r2, r3, r4, r5⟩ := pok_rng pa
  have hx : 0 ≤ x := by rw [← e]; exact Rat.pow_nonneg h0
  have ha2 : 0 ≤ a2 := (nonneg_lim hw r2).2 (Lm.trans (by simpa using hx) l2)
  rw [root_zero pa, if_pos ha2]
  unfold rng at r1 r2
  have hm : rng w (max a1 0) := by unfold rng; omega
  obtain ⟨d1, d2⟩ := rdn0_rng (n := 2) (a := max a1 0) hw (by decide) (by omega)
  obtain ⟨u1, u2⟩ := rup0_rng (n := 2) (a := a2) hw (by decide) ha2
  have hlo : lim w (max a1 0) ≤ .num x := by
    by_cases h1 : 0 ≤ a1
    · rw [show max a1 0 = a1 by omega]; exact l1
    · rw [show max a1 0 = 0 by omega, lim_zero hw]; simpa using hx
  have key : ∀ z : Rat, 0 ≤ z → (z ^ 2 ≤ x ↔ z ≤ y) ∧ (x ≤ z ^ 2 ↔ y ≤ z) := fun z hz => by
    rw [← e]; exact ⟨rat_pow_le_iff hz h0 (by decide), rat_pow_le_iff h0 hz (by decide)⟩
  refine memS_of hw (by unfold rng; omega) (by unfold rng; omega) ?_ ?_
  · have h1 := Lm.trans ((le_rdn0 (n := 2) hw (by decide) (by omega) (by omega) d1 d2).1 (Int.le_refl _)) hlo
    rcases lim_cases hw (show rng w (rdn0 w (max a1 0) 2) by unfold rng; omega) with ⟨h, e'⟩ | ⟨h, e'⟩ | ⟨h, e'⟩
    · rw [e']; simp
    · rw [e', powL_pos (by decide)] at h1; simp at h1
    · rw [e', powL_num (by decide)] at h1
      rw [e']
      simp at h1 ⊢
      exact (key _ (fv_nonneg d1)).1.1 h1
  · have h1 := Lm.trans l2 ((rup0_le (n := 2) hw (by decide) ha2 (by omega) u1 u2).1 (Int.le_refl _))
    rcases lim_cases hw (show rng w (rup0 w a2 2) by unfold rng; omega) with ⟨h, e'⟩ | ⟨h, e'⟩ | ⟨h, e'⟩
    · omega
    · rw [e']; simp
    · rw [e', powL_num (by decide)] at h1
      rw [e']
      simp at h1 ⊢
      exact (key _ (fv_nonneg u1)).2.1 h1
theorem memS_min {w : Int} {a b : Sp} {f g : Rat} (h : memS w a f) (h' : memS w b g) : memS w (minS w a b) (mnF f g) ∧ memS w (maxS w a b) (mxF f g) := by
  have hw := h.wd
  have hb := both_mem h h'
  obtain ⟨a1, a2, rfl, pa, l1, l2⟩ := h
  obtain ⟨b1, b2, rfl, pb, m1, m2⟩ := h'
  obtain ⟨_, r1, r2, _⟩ := pok_rng pa
  obtain ⟨_, s1, s2, _⟩ := pok_rng pb
  unfold minS maxS
  rw [if_pos hb, if_pos hb]
  show memS w (sp (min a1 b1) (min a2 b2)) _ ∧ memS w (sp (max a1 b1) (max a2 b2)) _
  have k1 : rng w (min a1 b1) := by unfold rng at *; omega
  have k2 : rng w (min a2 b2) := by unfold rng at *; omega
  have k3 : rng w (max a1 b1) := by unfold rng at *; omega
  have k4 : rng w (max a2 b2) := by unfold rng at *; omega
  have n1 := mnF_le f g
  have n2 := mxF_ge f g
  refine ⟨memS_of hw k1 k2 ?_ ?_, memS_of hw k3 k4 ?_ ?_⟩
  · rcases mnF_or f g with e | e <;> rw [e]
    · exact Lm.trans ((lim_le hw k1 r1).2 (by omega)) l1
    · exact Lm.trans ((lim_le hw k1 s1).2 (by omega)) m1
  · rcases Int.le_total a2 b2 with q | q
    · rw [show min a2 b2 = a2 by omega]; exact Lm.trans (by simpa using n1.1) l2
    · rw [show min a2 b2 = b2 by omega]; exact Lm.trans (by simpa using n1.2) m2
  · rcases Int.le_total a1 b1 with q | q
    · rw [show max a1 b1 = b1 by omega]; exact Lm.trans m1 (by simpa using n2.2)
    · rw [show max a1 b1 = a1 by omega]; exact Lm.trans l1 (by simpa using n2.1)
  · rcases mxF_or f g with e | e <;> rw [e]
    · exact Lm.trans l2 ((lim_le hw r2 k4).2 (by omega))
    · exact Lm.trans m2 ((lim_le hw s2 k4).2 (by omega))
theorem pow_le_pow' {x i n : Nat} (hx : x ≠ 0) (h : i ≤ n) : x ^ i ≤ x ^ n := Nat.pow_le_pow_right (by omega) h
end Pm
namespace Go.Px.Seat
open Go Pm
set_option linter.unusedVariables false
variable {B : Run}
theorem k_sFracDiv : Ev fun n => ∀ r s : Rat, fits r → fits s → c_s_FracDiv ((C B).run n) (fb r) (ft r) (fq r) (fb s) (ft s) (fq s) = some (if s = 0 then (false, ([], ([], (false, ())))) else resF (r / s)) := by
  refine ((k_sFracOk (B := B)).and ((k_sMul (B := B)).and (k_sMake (B := B)))).succ fun n hn ⟨hO, hM, hK⟩ r s hr hs => ?_
  rw [run_succ, e_s_FracDiv]
  unfold p_s_FracDiv
  obtain ⟨r1, r2⟩ := fits_len hr
  obtain ⟨s1, s2⟩ := fits_len hs
  rw [hO, hO, fok_fr, fok_fr, decide_eq_true hr, decide_eq_true hs]
  simp only [Option.bind_some, Bool.not_true, cond_false, jb_inr, len_zero_iff]
  by_cases h0 : s = 0
  · rw [if_pos h0, ft_nil.2 h0]; rfl
  have e : (ft s).isEmpty = false := by
    cases h : (ft s).isEmpty
    · rfl
    · exact absurd (ft_nil.1 (List.isEmpty_iff.1 h)) h0
  rw [if_neg h0, e, cond_false]
  simp only [ft, fq] at r1 r2 s1 s2 ⊢
  have l1 := len_dig_mul r.num.natAbs s.den
  have l3 := len_dig_mul r.den s.num.natAbs
  have hn : s.num.natAbs ≠ 0 := fun h => h0 (Rat.num_eq_zero.1 (Int.natAbs_eq_zero.1 h))
  rw [hM _ _ (by omega) (by omega)]
  simp only [Option.bind_some]
  rw [hM _ _ (by omega) (by omega)]
  simp only [Option.bind_some, beqB_eq]
  have e' : (!(fb r == fb s)) = (fb r != fb s) := rfl
  rw [e', hK _ _ _ (Nat.mul_ne_zero r.den_nz hn) (by omega) (by omega), ← div_sg h0]
  rfl
theorem k_sNatPow : Ev fun n => ∀ x m : Nat, x < 65536 ^ 256 → m ≤ 64 → c_s_NatPow ((C B).run n) (dig x) (m : Int) = some (if x ^ m < 65536 ^ 256 then (dig (x ^ m), (true, ())) else ([], (false, ()))) := by
  refine ((k_sNatOk (B := B)).and (k_sMul (B := B))).succ fun n hn ⟨hO, hM⟩ x m hx hm => ?_
  rw [run_succ, e_s_NatPow]
  unfold p_s_NatPow
  rw [hO, nok_dig, decide_eq_true hx]
  simp only [Option.bind_some, Bool.not_true, cond_false]
  rw [show ilt (m : Int) 0 = false from decide_eq_false (by omega), cond_false, jb_inr]
  simp only
  rw [show ilt 64 (m : Int) = false from decide_eq_false (by omega), cond_false]
  have hxl : (dig x).length ≤ 256 := dig_len_le.2 hx
  generalize hBig : (65536 : Nat) ^ 256 = BIG at hx ⊢
  have hfit : ∀ z : Nat, (dig z).length ≤ 256 ↔ z < BIG := fun z => by rw [← hBig]; exact dig_len_le
  refine iter_const (fun st => ∃ i : Nat, i ≤ m ∧ x ^ i < BIG ∧ st = (((i : Int), ((m : Int), (dig (x ^ i), (dig x, ((), (false, ())))))), ())) (fun st => (m - st.1.1).toNat) _ ?_ n _ (by simp only; omega)
    ⟨0, Nat.zero_le _, by rw [Nat.pow_zero, ← hfit, ← one_dig]; decide, by rw [Nat.pow_zero, ← one_dig]; rfl⟩
  rintro rec _ ⟨i, hi, hlt, rfl⟩ ih
  simp only
  by_cases h : i < m
  · have hl := (hfit _).2 hlt
    rw [show ilt (i : Int) (m : Int) = true from decide_eq_true (by omega), cond_true, hM _ _ (by omega) (by omega)]
    simp only [Option.bind_some]
    rw [show x ^ i * x = x ^ (i + 1) from (Nat.pow_succ ..).symm]
    by_cases hf : x ^ (i + 1) < BIG
    · have := (hfit _).2 hf
      rw [show ilt 256 (len (dig (x ^ (i + 1)))) = false from decide_eq_false (by rw [len_eq]; omega), cond_false, iadd_eq (by omega) (by omega)]
      exact ih _ ⟨i + 1, h, hf, rfl⟩ (by simp only; omega)
    · have : ¬ (dig (x ^ (i + 1))).length ≤ 256 := fun h' => hf ((hfit _).1 h')
      rw [show ilt 256 (len (dig (x ^ (i + 1)))) = true from decide_eq_true (by rw [len_eq]; omega), cond_true, if_neg]
      intro h'
      have hx0 : x ≠ 0 := fun h0 => by
        subst h0
        rw [Nat.pow_succ, Nat.mul_zero] at hf
        omega
      have := pow_le_pow' hx0 (show i + 1 ≤ m by omega)
      omega
  · have : i = m := by omega
    subst this
    rw [show ilt (i : Int) (i : Int) = false from decide_eq_false (by omega), cond_false, if_pos hlt]
theorem k_sFracPow : Ev fun n => ∀ (r : Rat) (m : Nat), fits r → m ≤ 64 → c_s_FracPow ((C B).run n) (fb r) (ft r) (fq r) (m : Int) = some (resF (r ^ m)) := by
  refine ((k_sFracOk (B := B)).and (k_sNatPow (B := B))).succ fun n hn ⟨hO, hP⟩ r m hr hm => ?_
  rw [run_succ, e_s_FracPow]
  unfold p_s_FracPow
  rw [hO, fok_fr, decide_eq_true hr]
  simp only [Option.bind_some, Bool.not_true, cond_false, ilt_iff]
  rw [decide_eq_false (by omega), cond_false, jb_inr]
  simp only
  rw [decide_eq_false (by omega), cond_false]
  have h1 := hP r.num.natAbs m hr.1 hm
  have h2 := hP r.den m hr.2 hm
  simp only [ft, fq]
  rw [h1, h2]
  simp only [Option.bind_some]
  have hfit : fits (r ^ m) ↔ r.num.natAbs ^ m < 65536 ^ 256 ∧ r.den ^ m < 65536 ^ 256 := by
    unfold fits
    rw [Rat.num_pow, Rat.den_pow, natAbs_pow']
  have e3 : (irem .i64 (m : Int) 2 == 1) = decide (m % 2 = 1) := by
    rw [irem_eq (by omega)]
    by_cases h : m % 2 = 1
    · rw [decide_eq_true h]; simp; omega
    · rw [decide_eq_false h]; exact beq_f (by omega)
  generalize (65536 : Nat) ^ 256 = BIG at hfit ⊢
  by_cases f1 : r.num.natAbs ^ m < BIG
  · by_cases f2 : r.den ^ m < BIG
    · rw [if_pos f1, if_pos f2, resF_fits (hfit.2 ⟨f1, f2⟩), fb_pow, ft_pow, fq_pow]
      simp only [Bool.not_true, cond_false, jb_inr]
      cases fb r
      · rfl
      · simp only [cond_true, jb_inr, e3, Bool.true_and]
    · rw [if_pos f1, if_neg f2, resF_not (fun h => f2 (hfit.1 h).2)]; rfl
  · rw [if_neg f1, resF_not (fun h => f1 (hfit.1 h).1)]; rfl
theorem k_sFracAbs : Ev fun n => ∀ r : Rat, fits r → c_s_FracAbs ((C B).run n) (fb r) (ft r) (fq r) = some (fb (rabs r), (ft (rabs r), (fq (rabs r), (true, ())))) := by
  refine ((k_sFracOk (B := B)).and (k_sTrim (B := B))).succ fun n hn ⟨hO, hT⟩ r hr => ?_
  rw [run_succ, e_s_FracAbs]
  unfold p_s_FracAbs
  obtain ⟨r1, r2⟩ := fits_len hr
  have st : ∀ x, strip (dig x) = dig x := fun x => by rw [strip_dig (dig_Dg x), val_dig, Int.toNat_natCast]
  have e1 : strip (ft r) = ft r := st _
  have e2 : strip (fq r) = fq r := st _
  rw [hO, fok_fr, decide_eq_true hr]
  simp only [Option.bind_some, Bool.not_true, cond_false]
  rw [hT _ (by omega), hT _ (by omega), e1, e2, rabs_fb, rabs_ft, rabs_fq]
  rfl
theorem k_sFracNeg : Ev fun n => ∀ r : Rat, fits r → c_s_FracNeg ((C B).run n) (fb r) (ft r) (fq r) = some (fb (-r), (ft (-r), (fq (-r), (true, ())))) := by
  refine ((k_sFracOk (B := B)).and (k_sNegR (B := B))).succ fun n hn ⟨hO, hN⟩ r hr => ?_
  rw [run_succ, e_s_FracNeg]
  unfold p_s_FracNeg
  rw [hO, fok_fr, decide_eq_true hr]
  simp only [Option.bind_some, Bool.not_true, cond_false]
  rw [hN r hr]
  rfl
end Go.Px.Seat

/- The law that nothing falls out: what its function comes to. Seat ZD. -/
namespace Go.Px.Seat
open Go Pm
set_option linter.unusedVariables false
variable {B : Run}
theorem cmpR_one (s r : Rat) : (cmpR s r == 1) = decide (r < s) := cmp_gt s r
theorem k_FnSpanTop : Ev fun n => ∀ l m : List Int, byt l → byt m → c_w_FnSpanTop ((C B0).run n) l m = some (true, ()) := by
  refine ((k_Fine (B := B0)).and ((k_FineOf (B := B0)).and ((k_psI (B := B0)).and (k_AddS.and (k_SubS.and (k_MulS.and (k_divTwoS.and (k_divS.and (k_powS.and (k_rootS.and (k_AbsS.and ((k_MinS (B := B0)).and ((k_MaxS (B := B0)).and ((k_NegS (B := B0)).and ((k_HullS (B := B0)).and
    ((k_sFracAdd (B := B0)).and ((k_sFracSub (B := B0)).and ((k_sFracMul (B := B0)).and ((k_sFracDiv (B := B0)).and ((k_sFracPow (B := B0)).and ((k_sFracAbs (B := B0)).and ((k_sFracNeg (B := B0)).and (k_sFracCmp (B := B0)))))))))))))))))))))))).succ
    fun n hn ⟨hF, hFO, hI, hA, hS, hM, hD2, hD, hP, hR, hAb, hMi, hMa, hNe, hHu, fA, fS, fM, fD, fP, fAb, fN, fC⟩ l m hl hm => ?_
  rw [run_succ, e_w_FnSpanTop]
  unfold p_w_FnSpanTop
  simp only [ilt_iff, len_eq]
  by_cases q1 : (1048576 : Int) < (l.length : Int)
  · rw [decide_eq_true q1]; rfl
  rw [decide_eq_false q1, cond_false, jb_inr]
  simp only
  by_cases q2 : (1048576 : Int) < (m.length : Int)
  · rw [decide_eq_true q2]; rfl
  rw [decide_eq_false q2, cond_false]
  obtain ⟨w, a1, a2, f, u1, u2, u3, u4, u5⟩ := hF l hl (by omega)
  obtain ⟨b1, b2, g, v1, v2, v3, v4⟩ := hFO w m u2 hm (by omega)
  have mf : memS w (sp a1 a2) f := ⟨a1, a2, rfl, u3, (inn_lim u3).1 u5⟩
  have mg : memS w (sp b1 b2) g := ⟨b1, b2, rfl, v2, (inn_lim v2).1 v4⟩
  rw [u1]
  simp only [Option.bind_some]
  rw [v1]
  simp only [Option.bind_some]
  have ps : ∀ (s : Sp) (r : Rat), fits r → memS w s r → c_w_psIn ((C B0).run n) w s.1 s.2.1 s.2.2.1 (fb r) (ft r) (fq r) = some (true, ()) := fun s r hr hm => by
    rw [hI w s r hr, psI_iff.2 hm]
  have A1 := hA w (sp a1 a2) (sp b1 b2)
  have S1 := hS w (sp a1 a2) (sp b1 b2)
  have M1 := hM w (sp a1 a2) (sp b1 b2)
  have D1 := hD w (sp a1 a2) (sp b1 b2)
  have T1 := hD2 w (sp a1 a2) (sp b1 b2)
  have R1 := hR w (powS w (sp a1 a2) (2 : Nat)) u2
  have Q1 := hP w (sp a1 a2) (2 : Nat) (by omega)
  have B1 := hAb w (sp a1 a2)
  have I1 := hMi w (sp a1 a2) (sp b1 b2)
  have X1 := hMa w (sp a1 a2) (sp b1 b2)
  have N1 := hNe w (sp a1 a2)
  have H1 := hHu w (sp a1 a2) (sp b1 b2)
  have e6 : irem .i64 (l.length : Int) 6 = ((l.length % 6 : Nat) : Int) := by rw [irem_eq (by omega)]; omega
  have hk : l.length % 6 ≤ 8 := by omega
  have P1 := hP w (sp a1 a2) (l.length % 6 : Nat) (by omega)
  have pA := fun h => ps _ (f + g) h (memS_add mf mg)
  have pS := fun h => ps _ (f - g) h (memS_sub mf mg)
  have pM := fun h => ps _ (f * g) h (memS_mul mf mg)
  have pD := fun (h0 : g ≠ 0) h => ps _ (f / g) h (memS_div mf mg h0)
  have pT := fun (h0 : g ≠ 0) => memS_divTwo mf mg h0
  have pP := fun h => ps _ (f ^ (l.length % 6)) h (memS_pow mf hk)
  have m2 : memS w (powS w (sp a1 a2) (2 : Nat)) (f ^ 2) := memS_pow mf (by omega)
  have e2 : f ^ 2 = f * f := by rw [show (2 : Nat) = 0 + 1 + 1 from rfl, Rat.pow_succ, Rat.pow_succ, Rat.pow_zero, Rat.one_mul]
  have pQ := fun h => ps _ (f ^ 2) h m2
  have pR := ps _ (rabs f) (rabs_fits u4) (memS_root m2 (rabs_nonneg f) (rabs_pow f (by decide)))
  have pB := ps _ (rabs f) (rabs_fits u4) (memS_abs mf)
  have fmn : fits (mnF f g) := by rcases mnF_or f g with h | h <;> rw [h] <;> assumption
  have fmx : fits (mxF f g) := by rcases mxF_or f g with h | h <;> rw [h] <;> assumption
  have pI := ps _ _ fmn (memS_min mf mg).1
  have pX := ps _ _ fmx (memS_min mf mg).2
  have pN := ps _ (-f) (fits_neg.2 u4) (memS_neg mf)
  have pH1 := ps _ f u4 (memS_hull (a := sp a1 a2) (b := sp b1 b2) u3 v2 (.inl mf))
  have pH2 := ps _ g v3 (memS_hull (a := sp a1 a2) (b := sp b1 b2) u3 v2 (.inr mg))
  have psT : ∀ s : Sp, c_w_psIn ((C B0).run n) w s.1 s.2.1 s.2.2.1 (fb (f / g)) (ft (f / g)) (fq (f / g)) = c_w_psIn ((C B0).run n) w s.1 s.2.1 s.2.2.1 (fb (f / g)) (ft (f / g)) (fq (f / g)) := fun _ => rfl
  have hI' := fun s h => hI w s (f / g) h
  generalize addS w (sp a1 a2) (sp b1 b2) = rA at *
  generalize subS w (sp a1 a2) (sp b1 b2) = rS at *
  generalize mulS w (sp a1 a2) (sp b1 b2) = rM at *
  generalize divS w (sp a1 a2) (sp b1 b2) = rD at *
  generalize divTwoS w (sp a1 a2) (sp b1 b2) = rT at *
  generalize rootS w (powS w (sp a1 a2) (2 : Nat)) = rR at *
  generalize powS w (sp a1 a2) (2 : Nat) = rQ at *
  generalize powS w (sp a1 a2) (l.length % 6 : Nat) = rP at *
  generalize absS w (sp a1 a2) = rB at *
  generalize minS w (sp a1 a2) (sp b1 b2) = rI at *
  generalize maxS w (sp a1 a2) (sp b1 b2) = rX at *
  generalize negS w (sp a1 a2) = rN at *
  generalize hullS w (sp a1 a2) (sp b1 b2) = rH at *
  simp only [sp] at A1 S1 M1 D1 T1 Q1 B1 I1 X1 N1 H1 P1
  rw [e2] at pQ
  have q2' : ((2 : Nat) : Int) = 2 := rfl
  rw [q2'] at Q1
  -- sums
  rw [fA _ _ u4 v3]
  simp only [Option.bind_some]
  refine Eq.trans (jb_of (p := ?zp1) ?zx1 _) ?zk1
  case zx1 =>
    by_cases h : fits (f + g)
    · rw [resF_fits h]
      simp only [cond_true]
      rw [A1]
      simp only [Option.bind_some]
      rw [pA h]
      rfl
    · rw [resF_not h]; rfl
  simp only [cond_false]
  -- differences
  rw [fS _ _ u4 v3]
  simp only [Option.bind_some]
  refine Eq.trans (jb_of (p := ?zp2) ?zx2 _) ?zk2
  case zx2 =>
    by_cases h : fits (f - g)
    · rw [resF_fits h]
      simp only [cond_true]
      rw [S1]
      simp only [Option.bind_some]
      rw [pS h]
      rfl
    · rw [resF_not h]; rfl
  simp only [cond_false]
  -- products
  rw [fM _ _ u4 v3]
  simp only [Option.bind_some]
  refine Eq.trans (jb_of (p := ?zp3) ?zx3 _) ?zk3
  case zx3 =>
    by_cases h : fits (f * g)
    · rw [resF_fits h]
      simp only [cond_true]
      rw [M1]
      simp only [Option.bind_some]
      rw [pM h]
      rfl
    · rw [resF_not h]; rfl
  simp only [cond_false]
  -- quotients
  rw [fD _ _ u4 v3]
  simp only [Option.bind_some]
  refine Eq.trans (jb_of (p := ?zp4) ?zx4 _) ?zk4
  case zx4 =>
    by_cases h0 : g = 0
    · rw [if_pos h0]; rfl
    rw [if_neg h0]
    by_cases h : fits (f / g)
    · rw [resF_fits h]
      simp only [cond_true]
      rw [T1]
      simp only [Option.bind_some, out2]
      rw [D1]
      simp only [Option.bind_some]
      rw [pD h0 h]
      simp only [Option.bind_some, Bool.not_true, cond_false]
      have hT1 := hI' rT.1 h
      have hT2 := hI' rT.2 h
      rw [hT1]
      simp only [Option.bind_some]
      cases hp : psI w rT.1 (f / g)
      · have : memS w rT.2 (f / g) := (pT h0).resolve_left fun h' => by
          rw [psI_iff.2 h'] at hp; cases hp
        simp only [Bool.not_false, cond_true]
        rw [hT2, psI_iff.2 this]
        rfl
      · rfl
    · rw [resF_not h]; rfl
  simp only
  -- powers
  rw [e6, fP _ _ u4 (by omega)]
  simp only [Option.bind_some]
  refine Eq.trans (jb_of (p := ?zp5) ?zx5 _) ?zk5
  case zx5 =>
    by_cases h : fits (f ^ (l.length % 6))
    · rw [resF_fits h]
      simp only [cond_true]
      rw [P1]
      simp only [Option.bind_some]
      rw [pP h]
      rfl
    · rw [resF_not h]; rfl
  simp only [cond_false]
  -- squares, roots, sizes
  rw [fM _ _ u4 u4]
  simp only [Option.bind_some]
  refine Eq.trans (jb_of (p := ?zp6) ?zx6 _) ?zk6
  case zx6 =>
    by_cases h : fits (f * f)
    · rw [resF_fits h]
      simp only [cond_true]
      rw [Q1]
      simp only [Option.bind_some]
      rw [R1]
      simp only [Option.bind_some]
      rw [fAb f u4]
      simp only [Option.bind_some]
      rw [pQ h]
      simp only [Option.bind_some, Bool.not_true, cond_false]
      rw [pR]
      simp only [Option.bind_some, Bool.not_true, cond_false]
      rw [B1]
      simp only [Option.bind_some]
      rw [pB]
      rfl
    · rw [resF_not h]; rfl
  simp only
  -- the lesser, the greater
  rw [fC _ _ u4 v3]
  simp only [Option.bind_some, cmpR_one]
  refine Eq.trans (jb_of (p := (((), (w, ((), ((), ((), ((), ((), (false, ())))))))), ((fb f, (ft f, (fq f, ()))), ((true, (a1, (a2, ()))), ((true, (b1, (b2, ()))), ((fb (mnF f g), (ft (mnF f g), (fq (mnF f g), ()))), ((fb (mxF f g), (ft (mxF f g), (fq (mxF f g), ()))), ((fb g, (ft g, (fq g, ()))), ())))))))) ?_ _) ?_
  · unfold mnF mxF
    by_cases h : g < f
    · rw [decide_eq_true h, if_pos h, if_neg (by grind)]; rfl
    · rw [decide_eq_false h, if_neg h]
      by_cases h' : f < g
      · rw [if_pos h']; rfl
      · have e : f = g := by grind
        rw [if_neg h', e]; rfl
  simp only
  rw [fN f u4]
  simp only [Option.bind_some]
  rw [I1]
  simp only [Option.bind_some]
  rw [pI]
  simp only [Option.bind_some, cond_true]
  rw [X1]
  simp only [Option.bind_some]
  rw [pX]
  simp only [Option.bind_some, cond_true]
  rw [N1]
  simp only [Option.bind_some]
  rw [pN]
  simp only [Option.bind_some, cond_true]
  rw [H1]
  simp only [Option.bind_some]
  rw [pH1]
  simp only [Option.bind_some, cond_true]
  rw [pH2]
  rfl
end Go.Px.Seat
