/- Own texts, part M8: PnO PnQ PnR. -/
import Derived.Test.YtbdlklncblklnaaGreatDoorM7
import Derived.Test.YtbdlklncblklnaaGreatDoorM5
set_option linter.unusedVariables false

/- Roots of spans: the program's. Seat ZD. -/
namespace Pm
open Go.Px Go.Px.Seat
theorem nonneg_mk {f : Rat} (h : 0 ≤ f) : mkRat ((f.num.natAbs : Nat) : Int) f.den = f := by
  have := mk_self f
  rw [show fb f = false by rw [fb_iff]; exact decide_eq_false (Rat.not_lt.2 h)] at this
  exact this
theorem ilt_cmp (r s : Rat) : ilt 0 (cmpR r s) = decide (s < r) := by
  unfold cmpR
  by_cases h : r < s
  · rw [if_pos h, decide_eq_false (by grind)]; rfl
  · rw [if_neg h]
    by_cases h' : s < r
    · rw [if_pos h', decide_eq_true h']; rfl
    · rw [if_neg h', decide_eq_false h']; rfl
theorem bl_le64 {x : Nat} (h : x < 9007199254740992) : bl x ≤ 53 := bl_le.2 h
end Pm
namespace Pm
open Go.Px Go.Px.Seat
theorem _root_.Go.Px.Ev.succ2 {p r q : Nat → Prop} (h : Ev p) (h' : Ev r) (hq : ∀ n, 1152921504606846976 ≤ n → p n → r (n + 1) → q (n + 1)) : Ev q := by
  obtain ⟨a, h⟩ := h
  obtain ⟨b, h'⟩ := h'
  refine ⟨max (max a b) 1152921504606846976 + 1, fun n hn => ?_⟩
  obtain ⟨k, rfl⟩ : ∃ k, n = k + 1 := ⟨n - 1, by omega⟩
  exact hq k (by omega) (h k (by omega)) (h' (k + 1) (by omega))
end Pm
namespace Go.Px.Seat
open Go Pm
set_option linter.unusedVariables false
variable {B : Run}
theorem k_above : Ev fun n => ∀ (w o : Int) (m : Nat) (f : Rat), fin w o → 0 < o → 1 ≤ m → m ≤ 8 → 0 ≤ f → short 1024 f → c_i_powerAbove ((C B0).run n) w o (m : Int) (fb f) (ft f) (fq f) = some (decide (f < fv w o ^ m), ()) := by
  refine ((k_Part (B := B0)).and ((k_natOf (B := B0)).and ((k_natBits (B := B0)).and (k_value.and ((k_Fpow (B := B0)).and (k_cmpS (B := B0))))))).succ fun n hn ⟨hP, hO, hB, hV, hPw, hC⟩ w o m f hf ho hm1 hm8 hf0 hs => ?_
  rw [run_succ, e_i_powerAbove]
  unfold p_i_powerAbove
  obtain ⟨s1, s2⟩ := hs
  have hsz := sz_lt w o
  have hb := bl_le64 hsz
  have hsh := shf_lt hf
  have hll := lst_le w
  rw [hP w o hf]
  simp only [Option.bind_some]
  rw [hO _ (by omega)]
  simp only [Option.bind_some]
  have l0 : (dig (sz w o)).length ≤ 4 := dig_len_le.2 (Nat.lt_of_lt_of_le hsz (by decide))
  rw [hB _ (by omega)]
  simp only [Option.bind_some]
  have s1' : (dig f.num.natAbs).length ≤ 1024 := s1
  have s2' : (dig f.den).length ≤ 1024 := s2
  have b1 := bl_len f.num.natAbs
  have b2 := bl_len f.den
  have hbT : c_i_natBits ((C B0).run n) (ft f) = some ((bl f.num.natAbs : Int), ()) := hB _ (by omega)
  have hbD : c_i_natBits ((C B0).run n) (fq f) = some ((bl f.den : Int), ()) := hB _ (by omega)
  rw [hbT, hbD]
  simp only [Option.bind_some]
  have hbs := bl_pos (sz_pos (w := w) ho)
  have e1 : isub .i64 (bl (sz w o) : Int) 1 = (bl (sz w o) : Int) - 1 := isub_eq (by omega) (by omega)
  have e2 : iadd .i64 ((bl (sz w o) : Int) - 1) (-(lst w : Int) + (shf w o : Int)) = (bl (sz w o) : Int) - 1 + (-(lst w : Int) + (shf w o : Int)) := iadd_eq (by omega) (by omega)
  have hlow : -8592 ≤ (m : Int) * ((bl (sz w o) : Int) - 1 + (-(lst w : Int) + (shf w o : Int))) ∧ (m : Int) * ((bl (sz w o) : Int) - 1 + (-(lst w : Int) + (shf w o : Int))) ≤ 17000 := by
    have g1 : -1074 ≤ (bl (sz w o) : Int) - 1 + (-(lst w : Int) + (shf w o : Int)) := by omega
    have g2 : (bl (sz w o) : Int) - 1 + (-(lst w : Int) + (shf w o : Int)) ≤ 2125 := by omega
    generalize (bl (sz w o) : Int) - 1 + (-(lst w : Int) + (shf w o : Int)) = E at g1 g2
    have : m = 1 ∨ m = 2 ∨ m = 3 ∨ m = 4 ∨ m = 5 ∨ m = 6 ∨ m = 7 ∨ m = 8 := by omega
    rcases this with h | h | h | h | h | h | h | h <;> subst h <;> omega
  have e3 : imul .i64 (m : Int) ((bl (sz w o) : Int) - 1 + (-(lst w : Int) + (shf w o : Int))) = (m : Int) * ((bl (sz w o) : Int) - 1 + (-(lst w : Int) + (shf w o : Int))) := imul_eq (by omega) (by omega)
  have e4 : isub .i64 (bl f.num.natAbs : Int) (bl f.den : Int) = (bl f.num.natAbs : Int) - bl f.den := isub_eq (by omega) (by omega)
  have e5 : iadd .i64 ((bl f.num.natAbs : Int) - bl f.den) 1 = (bl f.num.natAbs : Int) - bl f.den + 1 := iadd_eq (by omega) (by omega)
  have e6 : isub .i64 ((bl f.num.natAbs : Int) - bl f.den) 1 = (bl f.num.natAbs : Int) - bl f.den - 1 := isub_eq (by omega) (by omega)
  have e7 : iadd .i64 ((m : Int) * ((bl (sz w o) : Int) - 1 + (-(lst w : Int) + (shf w o : Int)))) (m : Int) = (m : Int) * ((bl (sz w o) : Int) - 1 + (-(lst w : Int) + (shf w o : Int))) + m := iadd_eq (by omega) (by omega)
  rw [e1, e2, e3, e4, e5]
  simp only [ilt_iff, len_zero_iff]
  have hmk := nonneg_mk hf0
  by_cases hz : f = 0
  · have e : ft f = [] := ft_nil.2 hz
    rw [e]
    simp only [List.isEmpty_nil, cond_true, jb_inr]
    rw [hz, decide_eq_true (Rat.pow_pos (fv_pos ho))]
  have hT : f.num.natAbs ≠ 0 := fun h => hz (Rat.num_eq_zero.1 (Int.natAbs_eq_zero.1 h))
  have e : (ft f).isEmpty = false := by
    cases h : (ft f).isEmpty
    · rfl
    · exact absurd (ft_nil.1 (List.isEmpty_iff.1 h)) hz
  rw [e]
  simp only [cond_false, jb_inr]
  by_cases g1 : (bl f.num.natAbs : Int) - bl f.den + 1 < (m : Int) * ((bl (sz w o) : Int) - 1 + (-(lst w : Int) + (shf w o : Int)))
  · rw [decide_eq_true g1, cond_true]
    have := above_yes (w := w) (n := m) ho hT f.den_nz g1
    rw [hmk] at this
    rw [decide_eq_true this]
  rw [decide_eq_false g1, cond_false, e6, e7]
  by_cases g2 : (m : Int) * ((bl (sz w o) : Int) - 1 + (-(lst w : Int) + (shf w o : Int))) + m < (bl f.num.natAbs : Int) - bl f.den - 1
  · rw [decide_eq_true g2, cond_true]
    have := above_no (w := w) (n := m) ho hT f.den_nz g2
    rw [hmk] at this
    rw [decide_eq_false this]
  rw [decide_eq_false g2, cond_false, hV w o hf]
  simp only [Option.bind_some, outF]
  rw [hPw (fv w o) m 69 (short_fv hf) (by omega) (by omega)]
  simp only [Option.bind_some, outF]
  have hp8 : 69 * m + 1 ≤ 1048576 := by omega
  rw [hC _ _ (short_mono (short_pow (short_fv hf) (by omega) m) hp8) (short_mono ⟨s1, s2⟩ (by omega))]
  simp only [Option.bind_some]
  have := ilt_cmp (fv w o ^ m) f
  rw [ilt_iff] at this
  rw [this]
theorem k_root : Ev fun n => ∀ (w a : Int) (m : Nat), fin w a → 0 ≤ a → 1 ≤ m → m ≤ 8 → c_i_root ((C B0).run n) w a (m : Int) = some (rt w a m, (decide (fv w (rt w a m) ^ m = fv w a), ())) := by
  refine (k_value.and ((k_BitTop (B := B0)).and (k_above.and ((k_Fpow (B := B0)).and (k_cmpS (B := B0)))))).succ fun n hn ⟨hV, hT, hA, hPw, hC⟩ w a m hf ha hm1 hm8 => ?_
  rw [run_succ, e_i_root]
  unfold p_i_root
  have hw := hf.1
  have ht := top_pos hw
  have htn := top_nonneg w
  have hm0 : m ≠ 0 := by omega
  rw [hV w a hf, hT]
  simp only [Option.bind_some, outF]
  rw [isub_eq (x := top w) (y := 1) (by omega) (by omega)]
  refine iter_const (fun st => ∃ lo hi : Int, 0 ≤ lo ∧ lo ≤ hi ∧ hi < top w ∧ fv w lo ^ m ≤ fv w a ∧ (hi = top w - 1 ∨ fv w a < fv w (hi + 1) ^ m) ∧
      st = ((lo, (hi, (w, ((m : Int), ((), (0, (false, ()))))))), ((fb (fv w a), (ft (fv w a), (fq (fv w a), ()))), ()))) (fun st => bl (st.1.2.1 - st.1.1).toNat) _ ?_ n _ ?_
    ⟨0, top w - 1, by omega, by omega, by omega, by rw [fv_zero', zero_pow' hm0]; exact fv_nonneg ha, .inl rfl, rfl⟩
  · rintro rec _ ⟨lo, hi, h1, h2, h3, h4, h5, rfl⟩ ih
    simp only [ilt_iff]
    by_cases h : lo < hi
    · have e1 : isub .i64 hi lo = hi - lo := isub_eq (by omega) (by omega)
      have e2 : iadd .i64 (hi - lo) 1 = hi - lo + 1 := iadd_eq (by omega) (by omega)
      have e3 : iquo .i64 (hi - lo + 1) 2 = (hi - lo + 1) / 2 := iquo_eq (by omega) (by omega) (by omega)
      have e4 : iadd .i64 lo ((hi - lo + 1) / 2) = lo + (hi - lo + 1) / 2 := iadd_eq (by omega) (by omega)
      rw [decide_eq_true h, cond_true, e1, e2, e3, e4]
      have hbl : ∀ x : Nat, 2 * x ≤ (hi - lo).toNat → bl x < bl (hi - lo).toNat := fun x hx => bl_half hx (by omega)
      generalize hmid : lo + (hi - lo + 1) / 2 = mid at *
      have hmf : fin w mid := ⟨hw, by omega, by omega⟩
      have e5 : isub .i64 mid 1 = mid - 1 := isub_eq (by omega) (by omega)
      rw [hA w mid m (fv w a) hmf (by omega) hm1 hm8 (fv_nonneg ha) (short_mono (short_fv hf) (by omega))]
      simp only [Option.bind_some]
      by_cases hc : fv w a < fv w mid ^ m
      · rw [decide_eq_true hc, cond_true, e5]
        exact ih _ ⟨lo, mid - 1, h1, by omega, by omega, h4, .inr (by rw [Int.sub_add_cancel]; exact hc), rfl⟩ (hbl _ (by simp only; omega))
      · rw [decide_eq_false hc, cond_false]
        exact ih _ ⟨mid, hi, by omega, by omega, h3, Rat.not_lt.1 hc, h5, rfl⟩ (hbl _ (by simp only; omega))
    · have hlh : lo = hi := by omega
      subst hlh
      rw [decide_eq_false h, cond_false]
      have hlf : fin w lo := ⟨hw, by omega, h3⟩
      have hrt : rt w a m = lo := rt_of hm0 ⟨h1, h3, h4, h5⟩
      rw [hV w lo hlf]
      simp only [Option.bind_some, outF]
      rw [hPw (fv w lo) m 69 (short_fv hlf) (by omega) (by omega)]
      simp only [Option.bind_some, outF]
      have hp8 : 69 * m + 1 ≤ 1048576 := by omega
      rw [hC _ _ (short_mono (short_pow (short_fv hlf) (by omega) m) hp8) (short_mono (short_fv hf) (by omega)), hrt]
      simp only [Option.bind_some]
      by_cases he : fv w lo ^ m = fv w a
      · rw [decide_eq_true he, (cmpR_eq _ _).2 he]; rfl
      · rw [decide_eq_false he, beq_f (fun h => he ((cmpR_eq _ _).1 h))]
  · simp only
    have : bl (top w - 1 - 0).toNat ≤ 64 := bl_le.2 (by omega)
    omega
theorem k_rootDn0 : Ev fun n => ∀ (w a : Int) (m : Nat), wd w = true → 0 ≤ a → a ≤ top w → 1 ≤ m → m ≤ 8 → c_i_rootDown ((C B0).run n) w a (m : Int) = some (rdn0 w a m, ()) := by
  refine ((k_BitTop (B := B0)).and k_root).succ fun n hn ⟨hT, hR⟩ w a m hw h0 h1 hm1 hm8 => ?_
  rw [run_succ, e_i_rootDown]
  unfold p_i_rootDown rdn0
  rw [ilt_iff, decide_eq_false (by omega), cond_false, hT]
  simp only [Option.bind_some]
  have ht := top_pos hw
  by_cases h : a = top w
  · rw [if_pos h, show (a == top w) = true by simpa using h, cond_true, h]
  · rw [if_neg h, beq_f h, cond_false, hR w a m ⟨hw, by omega, by omega⟩ h0 hm1 hm8]
    rfl
theorem k_rootUp0 : Ev fun n => ∀ (w a : Int) (m : Nat), wd w = true → 0 ≤ a → a ≤ top w → 1 ≤ m → m ≤ 8 → c_i_rootUp ((C B0).run n) w a (m : Int) = some (rup0 w a m, ()) := by
  refine ((k_BitTop (B := B0)).and k_root).succ fun n hn ⟨hT, hR⟩ w a m hw h0 h1 hm1 hm8 => ?_
  rw [run_succ, e_i_rootUp]
  unfold p_i_rootUp rup0
  rw [ilt_iff, decide_eq_false (by omega), cond_false, hT]
  simp only [Option.bind_some]
  have ht := top_pos hw
  have htn := top_nonneg w
  by_cases h : a = top w
  · rw [if_pos h, show (a == top w) = true by simpa using h, cond_true, h]
  · rw [if_neg h, beq_f h, cond_false, hR w a m ⟨hw, by omega, by omega⟩ h0 hm1 hm8]
    simp only [Option.bind_some]
    have hr := rt_spec (n := m) hw (by omega) h0
    have r1 := hr.1
    have r2 := hr.2.1
    by_cases he : fv w (rt w a m) ^ m = fv w a
    · rw [decide_eq_true he, if_pos he]; rfl
    · rw [decide_eq_false he, if_neg he, iadd_eq (by omega) (by omega)]; rfl
theorem k_rootDn : Ev fun n => ∀ (w a : Int) (m : Nat), wd w = true → rng w a → 1 ≤ m → m ≤ 8 → c_i_rootDown ((C B0).run n) w a (m : Int) = some (rdn w a m, ()) := by
  refine k_rootUp0.succ2 k_rootDn0 fun n hn hU hD w a m hw ha hm1 hm8 => ?_
  have htn := top_nonneg w
  obtain ⟨a1, a2⟩ := ha
  unfold rdn
  by_cases h : a < 0
  · rw [if_pos h, run_succ, e_i_rootDown]
    unfold p_i_rootDown
    have hr := rup0_rng (n := m) (a := -a) hw (by omega) (by omega)
    rw [ilt_iff, decide_eq_true h, cond_true, ineg_eq (by omega) (by omega), hU w (-a) m hw (by omega) (by omega) hm1 hm8]
    simp only [Option.bind_some]
    rw [ineg_eq (by omega) (by omega)]
  · rw [if_neg h]
    exact hD w a m hw (by omega) a2 hm1 hm8
theorem k_rootUp : Ev fun n => ∀ (w a : Int) (m : Nat), wd w = true → rng w a → 1 ≤ m → m ≤ 8 → c_i_rootUp ((C B0).run n) w a (m : Int) = some (rup w a m, ()) := by
  refine k_rootDn0.succ2 k_rootUp0 fun n hn hD hU w a m hw ha hm1 hm8 => ?_
  have htn := top_nonneg w
  obtain ⟨a1, a2⟩ := ha
  unfold rup
  by_cases h : a < 0
  · rw [if_pos h, run_succ, e_i_rootUp]
    unfold p_i_rootUp
    have hr := rdn0_rng (n := m) (a := -a) hw (by omega) (by omega)
    rw [ilt_iff, decide_eq_true h, cond_true, ineg_eq (by omega) (by omega), hD w (-a) m hw (by omega) (by omega) hm1 hm8]
    simp only [Option.bind_some]
    rw [ineg_eq (by omega) (by omega)]
  · rw [if_neg h]
    exact hU w a m hw (by omega) a2 hm1 hm8
theorem k_rootS : Ev fun n => ∀ (w : Int) (a : Sp), wd w = true → c_i_SpanRoot ((C B0).run n) w a.1 a.2.1 a.2.2.1 = some (rootS w a) := by
  refine ((k_from (B := B0)).and ((k_Meet (B := B0)).and (k_rootDn0.and (k_rootUp0.and (k_some (B := B0)))))).succ fun n hn ⟨hF, hM, hD, hU, hSo⟩ w a hw => ?_
  rw [run_succ, e_i_SpanRoot]
  unfold p_i_SpanRoot rootS
  rw [hF]
  simp only [Option.bind_some]
  rw [hM w a (sp 0 (top w))]
  simp only [Option.bind_some]
  have ht := top_pos hw
  rcases meet_cases w a (sp 0 (top w)) with e | ⟨a1, a2, b1, b2, rfl, eb, pa, pb, h, e⟩
  · rw [e]; rfl
  · cases eb
    rw [e]
    obtain ⟨_, r1, r2, _⟩ := pok_rng pa
    unfold rng at r1 r2
    simp only [sp, Bool.not_true, cond_false, if_true]
    have d := hD w (max a1 0) 2 hw (by omega) (by omega) (by omega) (by omega)
    have u := hU w (min a2 (top w)) 2 hw (by omega) (by omega) (by omega) (by omega)
    have e2 : ((2 : Nat) : Int) = 2 := rfl
    rw [e2] at d u
    rw [d, u]
    simp only [Option.bind_some]
    rw [hSo]
    rfl
end Go.Px.Seat

/- More makes more: what is reckoned of spans within spans. Seat ZD. -/
namespace Pm
open Go.Px Go.Px.Seat
/-- a span in a span -/
def isS (a b : Sp) : Bool := !a.1 || (b.1 && decide (b.2.1 ≤ a.2.1 ∧ a.2.2.1 ≤ b.2.2.1))
theorem isS_sp (a1 a2 b1 b2 : Int) : isS (sp a1 a2) (sp b1 b2) = true ↔ b1 ≤ a1 ∧ a2 ≤ b2 := by
  show decide (b1 ≤ a1 ∧ a2 ≤ b2) = true ↔ _
  exact decide_eq_true_iff
theorem isS_spn (b : Sp) : isS spn b = true := rfl
theorem isS_trans {a b c : Sp} (h : isS a b = true) (h' : isS b c = true) : isS a c = true := by
  obtain ⟨s, a1, a2, u⟩ := a
  obtain ⟨t, b1, b2, u'⟩ := b
  obtain ⟨r, c1, c2, u2⟩ := c
  cases s
  · rfl
  cases t
  · simp [isS] at h
  cases r
  · simp [isS] at h'
  simp [isS] at h h' ⊢
  omega
structure Sub (w a1 a2 x1 x2 : Int) : Prop where
  pa : pok w a1 a2 = true
  px : pok w x1 x2 = true
  l : a1 ≤ x1
  r : x2 ≤ a2
variable {w a1 a2 x1 x2 b1 b2 y1 y2 : Int}
theorem Sub.lims (h : Sub w a1 a2 x1 x2) : lim w a1 ≤ lim w x1 ∧ lim w x2 ≤ lim w a2 ∧ lim w x1 ≤ lim w x2 ∧ wd w = true := by
  obtain ⟨pa, px, l, r⟩ := h
  obtain ⟨hw, r1, r2, _⟩ := pok_rng pa
  obtain ⟨_, s1, s2, s3, _⟩ := pok_rng px
  exact ⟨(lim_le hw r1 s1).2 l, (lim_le hw s2 r2).2 r, (lim_le hw s1 s2).2 s3, hw⟩
theorem Sub.neg (h : Sub w a1 a2 x1 x2) : Sub w (-a2) (-a1) (-x2) (-x1) := ⟨pok_neg h.pa, pok_neg h.px, by have := h.r; omega, by have := h.l; omega⟩
theorem more_add (h : Sub w a1 a2 x1 x2) (h' : Sub w b1 b2 y1 y2) : isS (addS w (sp x1 x2) (sp y1 y2)) (addS w (sp a1 a2) (sp b1 b2)) = true := by
  rw [addS_sp h.px h'.px, addS_sp h.pa h'.pa, isS_sp]
  obtain ⟨g1, g2, _, hw⟩ := h.lims
  obtain ⟨f1, f2, _, _⟩ := h'.lims
  have n1 := lo_ne h.pa
  have n2 := lo_ne h.px
  have m1 := lo_ne h'.pa
  have m2 := lo_ne h'.px
  refine ⟨dn_mono hw ?_, up_mono hw ?_⟩
  · revert g1 f1 n1 n2 m1 m2
    generalize lim w a1 = A; generalize lim w x1 = X; generalize lim w b1 = BB; generalize lim w y1 = Y
    intro g1 f1 n1 n2 m1 m2
    cases A <;> cases X <;> cases BB <;> cases Y <;> simp_all [Lm.add]
    grind
  · revert g2 f2 n1 n2 m1 m2
    generalize lim w a2 = A; generalize lim w x2 = X; generalize lim w b2 = BB; generalize lim w y2 = Y
    intro g1 f1 n1 n2 m1 m2
    cases A <;> cases X <;> cases BB <;> cases Y <;> simp_all [Lm.add]
    grind
theorem more_sub (h : Sub w a1 a2 x1 x2) (h' : Sub w b1 b2 y1 y2) : isS (subS w (sp x1 x2) (sp y1 y2)) (subS w (sp a1 a2) (sp b1 b2)) = true := by
  unfold subS
  rw [negS_sp h'.px, negS_sp h'.pa]
  exact more_add h h'.neg
theorem more_mul (h : Sub w a1 a2 x1 x2) (h' : Sub w b1 b2 y1 y2) : isS (mulS w (sp x1 x2) (sp y1 y2)) (mulS w (sp a1 a2) (sp b1 b2)) = true := by
  rw [mulS_sp h.px h'.px, mulS_sp h.pa h'.pa, isS_sp]
  obtain ⟨g1, g2, g3, hw⟩ := h.lims
  obtain ⟨f1, f2, f3, _⟩ := h'.lims
  have key : ∀ x y : Lm, lim w a1 ≤ x → x ≤ lim w a2 → lim w b1 ≤ y → y ≤ lim w b2 →
      min (min (dn w (Lm.mul (lim w a1) (lim w b1))) (dn w (Lm.mul (lim w a1) (lim w b2)))) (min (dn w (Lm.mul (lim w a2) (lim w b1))) (dn w (Lm.mul (lim w a2) (lim w b2)))) ≤ dn w (Lm.mul x y) ∧
      up w (Lm.mul x y) ≤ max (max (up w (Lm.mul (lim w a1) (lim w b1))) (up w (Lm.mul (lim w a1) (lim w b2)))) (max (up w (Lm.mul (lim w a2) (lim w b1))) (up w (Lm.mul (lim w a2) (lim w b2)))) := by
    intro x y q1 q2 q3 q4
    have hb := Lm.mul_box q1 q2 q3 q4
    constructor
    · rcases hb.1 with q | q | q | q <;> have := dn_mono hw q <;> omega
    · rcases hb.2 with q | q | q | q <;> have := up_mono hw q <;> omega
  have k1 := key (lim w x1) (lim w y1) g1 (Lm.trans g3 g2) f1 (Lm.trans f3 f2)
  have k2 := key (lim w x1) (lim w y2) g1 (Lm.trans g3 g2) (Lm.trans f1 f3) f2
  have k3 := key (lim w x2) (lim w y1) (Lm.trans g1 g3) g2 f1 (Lm.trans f3 f2)
  have k4 := key (lim w x2) (lim w y2) (Lm.trans g1 g3) g2 (Lm.trans f1 f3) f2
  omega
theorem more_quot (h : Sub w a1 a2 x1 x2) (h' : Sub w b1 b2 y1 y2) : isS (quotS w (sp x1 x2) (sp y1 y2)) (quotS w (sp a1 a2) (sp b1 b2)) = true := by
  rw [quotS_sp, quotS_sp]
  obtain ⟨g1, g2, g3, hw⟩ := h.lims
  obtain ⟨f1, f2, f3, _⟩ := h'.lims
  by_cases hy : y2 ≤ 0
  · rw [if_pos hy]; rfl
  · have := h'.r
    rw [if_neg hy, if_neg (by omega), isS_sp]
    have hpos := (pos_lim' hw (pok_rng h'.px).2.2.1).1 (show 0 < y2 by omega)
    exact ⟨dn_mono hw (qlo_mono g1 f1 f2 f3 hpos), up_mono hw (qhi_mono g2 f1 f2 f3 hpos)⟩
theorem more_hull {a b c d : Sp} (hw : wd w = true) (ha : spk w a = true) (hb : spk w b = true) (hc : spk w c = true) (hd : spk w d = true) (h : isS a c = true) (h' : isS b d = true) : isS (hullS w a b) (hullS w c d) = true := by
  rcases spk_cases ha with rfl | ⟨a1, a2, rfl, pa⟩
  · rw [spn_hullS hb hw]
    rcases spk_cases hb with rfl | ⟨b1, b2, rfl, pb⟩
    · rfl
    rcases spk_cases hd with rfl | ⟨d1, d2, rfl, pd⟩
    · cases h'
    rcases spk_cases hc with rfl | ⟨c1, c2, rfl, pc⟩
    · rwa [spn_hullS hd hw]
    rw [hullS_sp pc pd, isS_sp]
    rw [isS_sp] at h'
    omega
  rcases spk_cases hc with rfl | ⟨c1, c2, rfl, pc⟩
  · cases h
  rw [isS_sp] at h
  rcases spk_cases hb with rfl | ⟨b1, b2, rfl, pb⟩
  · rw [hullS_spn ha hw]
    rcases spk_cases hd with rfl | ⟨d1, d2, rfl, pd⟩
    · rw [hullS_spn hc hw, isS_sp]; exact h
    · rw [hullS_sp pc pd, isS_sp]; omega
  rcases spk_cases hd with rfl | ⟨d1, d2, rfl, pd⟩
  · cases h'
  rw [isS_sp] at h'
  rw [hullS_sp pa pb, hullS_sp pc pd, isS_sp]
  omega
theorem both_sp (pa : pok w a1 a2 = true) (pb : pok w b1 b2 = true) : both w (sp a1 a2) (sp b1 b2) = true := by rw [both_ok1, ok1_sp, ok1_sp, pa, pb]; rfl
theorem more_div (h : Sub w a1 a2 x1 x2) (h' : Sub w b1 b2 y1 y2) : isS (divS w (sp x1 x2) (sp y1 y2)) (divS w (sp a1 a2) (sp b1 b2)) = true := by
  rw [divS_eq (both_sp h.px h'.px), divS_eq (both_sp h.pa h'.pa)]
  have hw := h.lims.2.2.2
  have o : ∀ {a b : Int}, pok w a b = true → ok1 w (sp a b) = true := fun h => by rwa [ok1_sp]
  rw [negS_sp h.px, negS_sp h.pa, negS_sp h'.px, negS_sp h'.pa]
  exact more_hull hw (quot_spk hw (o h.px) (o h'.px)) (quot_spk hw (o h.neg.px) (o h'.neg.px)) (quot_spk hw (o h.pa) (o h'.pa)) (quot_spk hw (o h.neg.pa) (o h'.neg.pa)) (more_quot h h') (more_quot h.neg h'.neg)
theorem more_abs (h : Sub w a1 a2 x1 x2) : isS (absS w (sp x1 x2)) (absS w (sp a1 a2)) = true ∧ Sub w (max (max 0 a1) (-a2)) (max (a1.natAbs : Int) (a2.natAbs : Int)) (max (max 0 x1) (-x2)) (max (x1.natAbs : Int) (x2.natAbs : Int)) := by
  have h1 := h.l
  have h2 := h.r
  have h3 := (pok_rng h.px).2.2.2.1
  rw [absS_sp h.px, absS_sp h.pa, isS_sp]
  exact ⟨⟨by omega, by omega⟩, (abs_pok h.pa).1, (abs_pok h.px).1, by omega, by omega⟩
theorem more_min (h : Sub w a1 a2 x1 x2) (h' : Sub w b1 b2 y1 y2) : isS (minS w (sp x1 x2) (sp y1 y2)) (minS w (sp a1 a2) (sp b1 b2)) = true := by
  unfold minS
  rw [if_pos (both_sp h.px h'.px), if_pos (both_sp h.pa h'.pa), isS_sp]
  have := h.l; have := h.r; have := h'.l; have := h'.r
  simp only [sp]
  omega
theorem more_max (h : Sub w a1 a2 x1 x2) (h' : Sub w b1 b2 y1 y2) : isS (maxS w (sp x1 x2) (sp y1 y2)) (maxS w (sp a1 a2) (sp b1 b2)) = true := by
  unfold maxS
  rw [if_pos (both_sp h.px h'.px), if_pos (both_sp h.pa h'.pa), isS_sp]
  have := h.l; have := h.r; have := h'.l; have := h'.r
  simp only [sp]
  omega
theorem rat_pow_odd {x y : Rat} (h : x ≤ y) : ∀ k : Nat, x ^ (2 * k + 1) ≤ y ^ (2 * k + 1) := by
  have neg_odd : ∀ (z : Rat) (k : Nat), (-z) ^ (2 * k + 1) = -(z ^ (2 * k + 1)) := by
    intro z k
    induction k with
    | zero => simp [Rat.pow_succ]
    | succ k ih =>
      have e : ∀ t : Rat, t ^ (2 * (k + 1) + 1) = t ^ (2 * k + 1) * t * t := fun t => by
        rw [show 2 * (k + 1) + 1 = 2 * k + 1 + 1 + 1 by omega, Rat.pow_succ t (2 * k + 1 + 1), Rat.pow_succ t (2 * k + 1)]
      rw [e, e, ih]
      grind
  intro k
  by_cases hx : 0 ≤ x
  · exact rat_pow_le hx h _
  · by_cases hy : 0 ≤ y
    · have h1 : 0 ≤ (-x) ^ (2 * k + 1) := Rat.pow_nonneg (by grind)
      rw [neg_odd] at h1
      have h2 : 0 ≤ y ^ (2 * k + 1) := Rat.pow_nonneg hy
      grind
    · have := rat_pow_le (x := -y) (y := -x) (by grind) (by grind) (2 * k + 1)
      rw [neg_odd, neg_odd] at this
      grind
/-- powers: of what is from 0 on, or odd ones -/
theorem powL_mono {a b : Lm} (n : Nat) (h : a ≤ b) (hc : n % 2 = 1 ∨ .num 0 ≤ a) : powL a n ≤ powL b n := by
  unfold powL
  by_cases h0 : n = 0
  · rw [if_pos h0, if_pos h0]; exact Lm.rfl' _
  rw [if_neg h0, if_neg h0]
  cases a with
  | pos => cases b <;> simp_all
  | neg =>
    rcases hc with hc | hc
    · cases b with
      | neg => exact Lm.rfl' _
      | pos => simp
      | num s => simp [show ¬ n % 2 = 0 by omega]
    · simp at hc
  | num r =>
    cases b with
    | neg => simp at h
    | pos => simp
    | num s =>
      simp at h
      simp only [Lm.num_le]
      rcases hc with hc | hc
      · obtain ⟨k, rfl⟩ : ∃ k, n = 2 * k + 1 := ⟨n / 2, by omega⟩
        exact rat_pow_odd h k
      · simp at hc
        exact rat_pow_le hc h n
theorem more_pow (h : Sub w a1 a2 x1 x2) {n : Nat} (hn : n ≤ 8) : isS (powS w (sp x1 x2) n) (powS w (sp a1 a2) n) = true := by
  have hw := h.lims.2.2.2
  have e : ∀ {u v : Int}, pok w u v = true → powS w (sp u v) n = sp (dn w (powL (lim w (if (n : Int) % 2 = 0 then absS w (sp u v) else sp u v).2.1) n)) (up w (powL (lim w (if (n : Int) % 2 = 0 then absS w (sp u v) else sp u v).2.2.1) n)) := fun hp => if_pos ⟨by rw [ok1_sp]; exact hp, by omega, by omega⟩
  rw [e h.px, e h.pa, isS_sp]
  by_cases hp : (n : Int) % 2 = 0
  · rw [if_pos hp, if_pos hp, absS_sp h.px, absS_sp h.pa]
    have hs := (more_abs h).2
    obtain ⟨g1, g2, g3, _⟩ := hs.lims
    have k1 := (abs_pok h.pa).2
    have k2 := (abs_pok h.px).2
    have n1 := (nonneg_lim hw (pok_rng hs.pa).2.1).1 k1
    have n2 := (nonneg_lim hw (pok_rng hs.px).2.1).1 k2
    exact ⟨dn_mono hw (powL_mono n g1 (.inr n1)), up_mono hw (powL_mono n g2 (.inr (Lm.trans n2 g3)))⟩
  · rw [if_neg hp, if_neg hp]
    obtain ⟨g1, g2, g3, _⟩ := h.lims
    exact ⟨dn_mono hw (powL_mono n g1 (.inl (by omega))), up_mono hw (powL_mono n g2 (.inl (by omega)))⟩
theorem rdn0_mono {a b : Int} {n : Nat} (hw : wd w = true) (hn : n ≠ 0) (ha : 0 ≤ a) (hab : a ≤ b) (hb : b ≤ top w) : rdn0 w a n ≤ rdn0 w b n := by
  obtain ⟨r1, r2⟩ := rdn0_rng (n := n) hw hn ha
  rw [le_rdn0 hw hn (by omega) hb r1 r2]
  have ht := top_pos hw
  exact Lm.trans ((le_rdn0 hw hn ha (by omega) r1 r2).1 (Int.le_refl _)) ((lim_le hw (by unfold rng; omega) (by unfold rng; omega)).2 hab)
theorem rup0_mono {a b : Int} {n : Nat} (hw : wd w = true) (hn : n ≠ 0) (ha : 0 ≤ a) (hab : a ≤ b) (hb : b ≤ top w) : rup0 w a n ≤ rup0 w b n := by
  obtain ⟨r1, r2⟩ := rup0_rng (n := n) (a := b) hw hn (by omega)
  rw [rup0_le hw hn ha (by omega) r1 r2]
  have ht := top_pos hw
  exact Lm.trans ((lim_le hw (by unfold rng; omega) (by unfold rng; omega)).2 hab) ((rup0_le hw hn (by omega) hb r1 r2).1 (Int.le_refl _))
theorem root_zero {a1 a2 : Int} (pa : pok w a1 a2 = true) : rootS w (sp a1 a2) = if 0 ≤ a2 then sp (rdn0 w (max a1 0) 2) (rup0 w a2 2) else spn := by
  obtain ⟨hw, r1, r2, r3, r4, r5⟩ := pok_rng pa
  have ht := top_pos hw
  unfold rng at r1 r2
  have p0 : pok w 0 (top w) = true := pok_of hw (by unfold rng; omega) (by unfold rng; omega) (by omega) (by omega) (by omega)
  have hb := both_sp pa p0
  have em : meet w (sp a1 a2) (sp 0 (top w)) = if 0 ≤ a2 then sp (max a1 0) a2 else spn := by
    unfold meet
    by_cases h : 0 ≤ a2
    · rw [if_pos ⟨hb, by simp only [sp]; omega⟩, if_pos h]
      show sp (max a1 0) (min a2 (top w)) = _
      rw [show min a2 (top w) = a2 by omega]
    · rw [if_neg (fun h' => h (by have := h'.2; simp only [sp] at this; omega)), if_neg h]
  unfold rootS
  rw [em]
  by_cases h : 0 ≤ a2
  · rw [if_pos h, if_pos h]; rfl
  · rw [if_neg h, if_neg h]; rfl
theorem more_root (h : Sub w a1 a2 x1 x2) : isS (rootS w (sp x1 x2)) (rootS w (sp a1 a2)) = true := by
  have hw := h.lims.2.2.2
  rw [root_zero h.px, root_zero h.pa]
  obtain ⟨_, r1, r2, r3, r4, r5⟩ := pok_rng h.pa
  obtain ⟨_, s1, s2, s3, s4, s5⟩ := pok_rng h.px
  have hl := h.l
  have hr := h.r
  unfold rng at *
  by_cases hx : 0 ≤ x2
  · rw [if_pos hx, if_pos (by omega), isS_sp]
    exact ⟨rdn0_mono hw (by decide) (by omega) (by omega) (by omega), rup0_mono hw (by decide) hx hr (by omega)⟩
  · rw [if_neg hx]; rfl
end Pm

/- The law that more makes more: what its function comes to. Seat ZD. -/
namespace Go.Px.Seat
open Go Pm
set_option linter.unusedVariables false
variable {B : Run}
theorem addS_fst {w a1 a2 b1 b2 : Int} (pa : pok w a1 a2 = true) (pb : pok w b1 b2 = true) : (addS w (sp a1 a2) (sp b1 b2)).1 = true := by rw [addS_sp pa pb]; rfl
theorem k_isS : Ev fun n => ∀ (a b : Sp), c_w_psIs ((C B).run n) a.1 a.2.1 a.2.2.1 b.1 b.2.1 b.2.2.1 = some (isS a b, ()) := k_psIs (B := B)
theorem k_FnSpanMore : Ev fun n => ∀ l m : List Int, byt l → byt m → c_w_FnSpanMore ((C B0).run n) l m = some (true, ()) := by
  refine ((k_Fine (B := B0)).and ((k_FineOf (B := B0)).and ((k_Within (B := B0)).and ((k_isS (B := B0)).and (k_AddS.and (k_SubS.and (k_MulS.and (k_divS.and (k_powS.and (k_rootS.and (k_AbsS.and ((k_MinS (B := B0)).and (k_MaxS (B := B0)))))))))))))).succ
    fun n hn ⟨hF, hFO, hW, hIs, hA, hS, hM, hD, hP, hR, hAb, hMi, hMa⟩ l m hl hm => ?_
  rw [run_succ, e_w_FnSpanMore]
  unfold p_w_FnSpanMore
  simp only [ilt_iff, len_eq]
  by_cases q1 : (1048576 : Int) < (l.length : Int)
  · rw [decide_eq_true q1]; rfl
  rw [decide_eq_false q1, cond_false, jb_inr]
  simp only
  by_cases q2 : (1048576 : Int) < (m.length : Int)
  · rw [decide_eq_true q2]; rfl
  rw [decide_eq_false q2, cond_false]
  obtain ⟨w, a1, a2, f, u1, u2, u3, u4, u5⟩ := hF l hl (by omega)
  obtain ⟨b1, b2, g, v1, v2, v3, v4⟩ := hFO w m u2 hm (by omega)
  obtain ⟨x1, x2, s1, s2, s3, s4⟩ := hW w a1 a2 m u3 hm (by omega)
  obtain ⟨y1, y2, t1, t2, t3, t4⟩ := hW w b1 b2 l v2 hl (by omega)
  rw [u1]
  simp only [Option.bind_some]
  rw [v1]
  simp only [Option.bind_some]
  rw [s1, t1]
  simp only [Option.bind_some, sp]
  have hx : Sub w a1 a2 x1 x2 := ⟨u3, s2, s3, s4⟩
  have hy : Sub w b1 b2 y1 y2 := ⟨v2, t2, t3, t4⟩
  have e6 : irem .i64 (l.length : Int) 6 = ((l.length % 6 : Nat) : Int) := by rw [irem_eq (by omega)]; omega
  rw [e6]
  have hk : l.length % 6 ≤ 8 := by omega
  generalize l.length % 6 = k at hk
  have A1 := hA w (sp a1 a2) (sp b1 b2)
  have A2 := hA w (sp x1 x2) (sp y1 y2)
  have S1 := hS w (sp a1 a2) (sp b1 b2)
  have S2 := hS w (sp x1 x2) (sp y1 y2)
  have M1 := hM w (sp a1 a2) (sp b1 b2)
  have M2 := hM w (sp x1 x2) (sp y1 y2)
  have D1 := hD w (sp a1 a2) (sp b1 b2)
  have D2 := hD w (sp x1 x2) (sp y1 y2)
  have P1 := hP w (sp a1 a2) k (by omega)
  have P2 := hP w (sp x1 x2) k (by omega)
  have R1 := hR w (sp a1 a2) u2
  have R2 := hR w (sp x1 x2) u2
  have B1 := hAb w (sp a1 a2)
  have B2 := hAb w (sp x1 x2)
  have I1 := hMi w (sp a1 a2) (sp b1 b2)
  have I2 := hMi w (sp x1 x2) (sp y1 y2)
  have X1 := hMa w (sp a1 a2) (sp b1 b2)
  have X2 := hMa w (sp x1 x2) (sp y1 y2)
  have f1 := addS_fst u3 v2
  have f2 := addS_fst s2 t2
  have i1 := more_add hx hy
  have i2 := more_sub hx hy
  have i3 := more_mul hx hy
  have i4 := more_div hx hy
  have i5 := more_pow hx hk
  have i6 := more_root hx
  have i7 := (more_abs hx).1
  have i8 := more_min hx hy
  have i9 := more_max hx hy
  generalize addS w (sp a1 a2) (sp b1 b2) = rA1 at *
  generalize addS w (sp x1 x2) (sp y1 y2) = rA2 at *
  generalize subS w (sp a1 a2) (sp b1 b2) = rS1 at *
  generalize subS w (sp x1 x2) (sp y1 y2) = rS2 at *
  generalize mulS w (sp a1 a2) (sp b1 b2) = rM1 at *
  generalize mulS w (sp x1 x2) (sp y1 y2) = rM2 at *
  generalize divS w (sp a1 a2) (sp b1 b2) = rD1 at *
  generalize divS w (sp x1 x2) (sp y1 y2) = rD2 at *
  generalize powS w (sp a1 a2) k = rP1 at *
  generalize powS w (sp x1 x2) k = rP2 at *
  generalize rootS w (sp a1 a2) = rR1 at *
  generalize rootS w (sp x1 x2) = rR2 at *
  generalize absS w (sp a1 a2) = rB1 at *
  generalize absS w (sp x1 x2) = rB2 at *
  generalize minS w (sp a1 a2) (sp b1 b2) = rI1 at *
  generalize minS w (sp x1 x2) (sp y1 y2) = rI2 at *
  generalize maxS w (sp a1 a2) (sp b1 b2) = rX1 at *
  generalize maxS w (sp x1 x2) (sp y1 y2) = rX2 at *
  simp only [sp] at A1 A2 S1 S2 M1 M2 D1 D2 P1 P2 R1 R2 B1 B2 I1 I2 X1 X2
  have j1 := hIs rA2 rA1
  have j2 := hIs rS2 rS1
  have j3 := hIs rM2 rM1
  have j4 := hIs rD2 rD1
  have j5 := hIs rP2 rP1
  have j6 := hIs rR2 rR1
  have j7 := hIs rB2 rB1
  have j8 := hIs rI2 rI1
  have j9 := hIs rX2 rX1
  rw [i1, f1, f2] at j1
  rw [i2] at j2
  rw [i3] at j3
  rw [i4] at j4
  rw [i5] at j5
  rw [i6] at j6
  rw [i7] at j7
  rw [i8] at j8
  rw [i9] at j9
  simp only [A1, A2, f1, f2, Option.bind_some, Bool.not_true, cond_false, jb_inr, j1, cond_true, S1, S2, j2, M1, M2, j3, D1, D2, j4, P1, P2, j5, R1, R2, j6, B1, B2, j7, I1, I2, j8, X1, X2, j9]
end Go.Px.Seat
