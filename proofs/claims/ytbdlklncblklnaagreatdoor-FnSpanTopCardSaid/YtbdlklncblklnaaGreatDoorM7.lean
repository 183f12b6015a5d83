/- Own texts, part M7: PnH PnI PnM PnN PnK. -/
import Derived.Test.YtbdlklncblklnaaGreatDoorM6
import Derived.Test.YtbdlklncblklnaaGreatDoorM5
set_option linter.unusedVariables false

/- What is reckoned of spans: the reference's. Seat ZD. -/
namespace Pm
open Go.Px Go.Px.Seat
noncomputable def du (w : Int) (u : Bool) (a : Lm) : Int := if u = true then up w a else dn w a
theorem stm4 (w a1 a2 b1 b2 : Int) : stm w (stm w (stm w (stm w spn a1 b1) a1 b2) a2 b1) a2 b2 =
    sp (min (min (du w false (Lm.mul (lim w a1) (lim w b1))) (du w false (Lm.mul (lim w a1) (lim w b2)))) (min (du w false (Lm.mul (lim w a2) (lim w b1))) (du w false (Lm.mul (lim w a2) (lim w b2)))))
      (max (max (du w true (Lm.mul (lim w a1) (lim w b1))) (du w true (Lm.mul (lim w a1) (lim w b2)))) (max (du w true (Lm.mul (lim w a2) (lim w b1))) (du w true (Lm.mul (lim w a2) (lim w b2))))) := by
  unfold stm stp du
  simp only [spn, sp, Bool.false_eq_true, if_false, if_true]
  congr 1
  congr 1
  · omega
  · congr 1
    omega
end Pm
namespace Go.Px.Seat
open Go Pm
set_option linter.unusedVariables false
variable {B : Run}
end Go.Px.Seat

/- What lies in spans; spans in spans. -/
namespace Pm
open Go.Px Go.Px.Seat
/-- a number in a span -/
def psI (w : Int) (s : Sp) (r : Rat) : Bool := s.1 && (pok w s.2.1 s.2.2.1 && inn w s.2.1 s.2.2.1 r)
def memS (w : Int) (s : Sp) (r : Rat) : Prop := ∃ lo hi, s = sp lo hi ∧ pok w lo hi = true ∧ lim w lo ≤ .num r ∧ .num r ≤ lim w hi
theorem psI_iff {w : Int} {s : Sp} {r : Rat} : psI w s r = true ↔ memS w s r := by
  obtain ⟨b, lo, hi, u⟩ := s
  unfold psI memS
  simp only [Bool.and_eq_true]
  constructor
  · rintro ⟨rfl, h1, h2⟩
    exact ⟨lo, hi, rfl, h1, (inn_lim h1).1 h2⟩
  · rintro ⟨lo', hi', h, h1, h2⟩
    cases h
    exact ⟨rfl, h1, (inn_lim h1).2 h2⟩
theorem memS_of {w lo hi : Int} {r : Rat} (hw : wd w = true) (h1 : rng w lo) (h2 : rng w hi) (h3 : lim w lo ≤ .num r) (h4 : .num r ≤ lim w hi) : memS w (sp lo hi) r := by
  refine ⟨lo, hi, rfl, pok_of hw h1 h2 ((lim_le hw h1 h2).1 (Lm.trans h3 h4)) ?_ ?_, h3, h4⟩
  · rcases lim_cases hw h1 with ⟨h, e⟩ | ⟨h, e⟩ | ⟨h, e⟩
    · have := top_pos hw; omega
    · rw [e] at h3; simp at h3
    · exact h.2.2
  · rcases lim_cases hw h2 with ⟨h, e⟩ | ⟨h, e⟩ | ⟨h, e⟩
    · rw [e] at h4; simp at h4
    · have := top_pos hw; omega
    · exact h.2.1
theorem memS_du {w : Int} {a b : Lm} {r : Rat} (hw : wd w = true) (h1 : a ≤ .num r) (h2 : .num r ≤ b) : memS w (sp (dn w a) (up w b)) r :=
  memS_of hw (dn_rng hw a) (up_rng hw b) (Lm.trans (lim_dn hw a) h1) (Lm.trans h2 (lim_up hw b))
theorem memS.ok1 {w : Int} {s : Sp} {r : Rat} (h : memS w s r) : ok1 w s = true := by
  obtain ⟨lo, hi, rfl, h1, _⟩ := h
  rwa [ok1_sp]
theorem memS.wd {w : Int} {s : Sp} {r : Rat} (h : memS w s r) : wd w = true := by
  obtain ⟨lo, hi, rfl, h1, _⟩ := h
  exact (pok_rng h1).1
theorem both_mem {w : Int} {a b : Sp} {f g : Rat} (h : memS w a f) (h' : memS w b g) : both w a b = true := by
  rw [both_ok1, h.ok1, h'.ok1]; rfl
theorem add_le {a b : Lm} {f g : Rat} (h : a ≤ .num f) (h' : b ≤ .num g) : Lm.add a b ≤ .num (f + g) := by
  cases a <;> cases b <;> simp_all [Lm.add]
  grind
theorem le_add {a b : Lm} {f g : Rat} (h : .num f ≤ a) (h' : .num g ≤ b) : .num (f + g) ≤ Lm.add a b := by
  cases a <;> cases b <;> simp_all [Lm.add]
  grind
theorem addS_sp {w a1 a2 b1 b2 : Int} (pa : pok w a1 a2 = true) (pb : pok w b1 b2 = true) : addS w (sp a1 a2) (sp b1 b2) = sp (dn w (Lm.add (lim w a1) (lim w b1))) (up w (Lm.add (lim w a2) (lim w b2))) := by
  have : both w (sp a1 a2) (sp b1 b2) = true := by rw [both_ok1, ok1_sp, ok1_sp, pa, pb]; rfl
  unfold addS
  rw [if_pos this]; rfl
theorem mulS_sp {w a1 a2 b1 b2 : Int} (pa : pok w a1 a2 = true) (pb : pok w b1 b2 = true) : mulS w (sp a1 a2) (sp b1 b2) =
    sp (min (min (dn w (Lm.mul (lim w a1) (lim w b1))) (dn w (Lm.mul (lim w a1) (lim w b2)))) (min (dn w (Lm.mul (lim w a2) (lim w b1))) (dn w (Lm.mul (lim w a2) (lim w b2)))))
      (max (max (up w (Lm.mul (lim w a1) (lim w b1))) (up w (Lm.mul (lim w a1) (lim w b2)))) (max (up w (Lm.mul (lim w a2) (lim w b1))) (up w (Lm.mul (lim w a2) (lim w b2))))) := by
  have : both w (sp a1 a2) (sp b1 b2) = true := by rw [both_ok1, ok1_sp, ok1_sp, pa, pb]; rfl
  unfold mulS
  rw [if_pos this]
  exact stm4 w a1 a2 b1 b2
theorem memS_add {w : Int} {a b : Sp} {f g : Rat} (h : memS w a f) (h' : memS w b g) : memS w (addS w a b) (f + g) := by
  have hw := h.wd
  obtain ⟨a1, a2, rfl, pa, l1, l2⟩ := h
  obtain ⟨b1, b2, rfl, pb, m1, m2⟩ := h'
  rw [addS_sp pa pb]
  exact memS_du hw (add_le l1 m1) (le_add l2 m2)
theorem memS_neg {w : Int} {a : Sp} {f : Rat} (h : memS w a f) : memS w (negS w a) (-f) := by
  have hw := h.wd
  obtain ⟨a1, a2, rfl, pa, l1, l2⟩ := h
  obtain ⟨_, r1, r2, _⟩ := pok_rng pa
  rw [negS_sp pa]
  refine ⟨-a2, -a1, rfl, pok_neg pa, ?_, ?_⟩
  · rw [lim_opp hw r2, show Lm.num (-f) = (Lm.num f).opp from rfl, Lm.opp_le]; exact l2
  · rw [lim_opp hw r1, show Lm.num (-f) = (Lm.num f).opp from rfl, Lm.opp_le]; exact l1
theorem memS_sub {w : Int} {a b : Sp} {f g : Rat} (h : memS w a f) (h' : memS w b g) : memS w (subS w a b) (f - g) := by
  rw [Rat.sub_eq_add_neg]
  exact memS_add h (memS_neg h')
theorem min4_rng {w a b c d : Int} (ha : rng w a) (hb : rng w b) (hc : rng w c) (hd : rng w d) : rng w (min (min a b) (min c d)) ∧ rng w (max (max a b) (max c d)) := by
  unfold rng at *; omega
theorem memS_mul {w : Int} {a b : Sp} {f g : Rat} (h : memS w a f) (h' : memS w b g) : memS w (mulS w a b) (f * g) := by
  have hw := h.wd
  obtain ⟨a1, a2, rfl, pa, l1, l2⟩ := h
  obtain ⟨b1, b2, rfl, pb, m1, m2⟩ := h'
  rw [mulS_sp pa pb]
  have hd := fun x => dn_rng hw x
  have hu := fun x => up_rng hw x
  have hbox := Lm.mul_box l1 l2 m1 m2
  rw [show Lm.mul (.num f) (.num g) = .num (f * g) from rfl] at hbox
  have kd : ∀ x : Lm, ∀ m : Int, rng w m → m ≤ dn w x → x ≤ .num (f * g) → lim w m ≤ .num (f * g) := fun x m hm h1 h2 =>
    Lm.trans ((lim_le hw hm (hd x)).2 h1) (Lm.trans (lim_dn hw x) h2)
  have ku : ∀ x : Lm, ∀ m : Int, rng w m → up w x ≤ m → .num (f * g) ≤ x → .num (f * g) ≤ lim w m := fun x m hm h1 h2 =>
    Lm.trans h2 (Lm.trans (lim_up hw x) ((lim_le hw (hu x) hm).2 h1))
  refine memS_of hw (min4_rng (hd _) (hd _) (hd _) (hd _)).1 (min4_rng (hu _) (hu _) (hu _) (hu _)).2 ?_ ?_
  · have hm := (min4_rng (hd (Lm.mul (lim w a1) (lim w b1))) (hd (Lm.mul (lim w a1) (lim w b2))) (hd (Lm.mul (lim w a2) (lim w b1))) (hd (Lm.mul (lim w a2) (lim w b2)))).1
    rcases hbox.1 with q | q | q | q
    · exact kd _ _ hm (by omega) q
    · exact kd _ _ hm (by omega) q
    · exact kd _ _ hm (by omega) q
    · exact kd _ _ hm (by omega) q
  · have hm := (min4_rng (hu (Lm.mul (lim w a1) (lim w b1))) (hu (Lm.mul (lim w a1) (lim w b2))) (hu (Lm.mul (lim w a2) (lim w b1))) (hu (Lm.mul (lim w a2) (lim w b2)))).2
    rcases hbox.2 with q | q | q | q
    · exact ku _ _ hm (by omega) q
    · exact ku _ _ hm (by omega) q
    · exact ku _ _ hm (by omega) q
    · exact ku _ _ hm (by omega) q
theorem hullS_spn {w : Int} {a : Sp} (h : spk w a = true) (hw : wd w = true) : hullS w a spn = a := by
  unfold hullS
  rw [h, spk_spn, hw]
  simp only [Bool.and_self, if_true, spn, Bool.false_eq_true, if_false]
  by_cases h1 : a.1 = true
  · rw [if_pos h1]
  · rw [if_neg h1]
    obtain ⟨s, lo, hi, u⟩ := a
    simp only [Bool.not_eq_true] at h1
    subst h1
    simp [spk] at h
    rw [h.2.1, h.2.2]
theorem hullS_sp {w a1 a2 b1 b2 : Int} (pa : pok w a1 a2 = true) (pb : pok w b1 b2 = true) : hullS w (sp a1 a2) (sp b1 b2) = sp (min a1 b1) (max a2 b2) := by
  unfold hullS
  rw [spk_sp, spk_sp, pa, pb]; rfl
theorem spn_hullS {w : Int} {a : Sp} (h : spk w a = true) (hw : wd w = true) : hullS w spn a = a := by
  unfold hullS
  rw [h, spk_spn, hw]; rfl
theorem spk_cases {w : Int} {a : Sp} (h : spk w a = true) : a = spn ∨ ∃ lo hi, a = sp lo hi ∧ pok w lo hi = true := by
  obtain ⟨s, lo, hi, u⟩ := a
  cases s
  · simp [spk] at h
    left
    rw [h.2.1, h.2.2]; rfl
  · exact .inr ⟨lo, hi, rfl, h⟩
theorem memS_hull {w : Int} {a b : Sp} {r : Rat} (ha : spk w a = true) (hb : spk w b = true) (h : memS w a r ∨ memS w b r) : memS w (hullS w a b) r := by
  have hw : wd w = true := by rcases h with h | h <;> exact h.wd
  have no : ¬ memS w spn r := fun ⟨_, _, h, _⟩ => by cases h
  rcases spk_cases ha with rfl | ⟨a1, a2, rfl, pa⟩
  · rw [spn_hullS hb hw]
    exact h.resolve_left no
  rcases spk_cases hb with rfl | ⟨b1, b2, rfl, pb⟩
  · rw [hullS_spn ha hw]
    exact h.resolve_right no
  rw [hullS_sp pa pb]
  obtain ⟨_, x1, x2, x3, x4, x5⟩ := pok_rng pa
  obtain ⟨_, y1, y2, y3, y4, y5⟩ := pok_rng pb
  have k1 : rng w (min a1 b1) := by unfold rng at *; omega
  have k2 : rng w (max a2 b2) := by unfold rng at *; omega
  rcases h with ⟨_, _, h, _, h1, h2⟩ | ⟨_, _, h, _, h1, h2⟩ <;> cases h
  · exact memS_of hw k1 k2 (Lm.trans ((lim_le hw k1 x1).2 (by omega)) h1) (Lm.trans h2 ((lim_le hw x2 k2).2 (by omega)))
  · exact memS_of hw k1 k2 (Lm.trans ((lim_le hw k1 y1).2 (by omega)) h1) (Lm.trans h2 ((lim_le hw y2 k2).2 (by omega)))
theorem quotS_sp (w a1 a2 b1 b2 : Int) : quotS w (sp a1 a2) (sp b1 b2) = if b2 ≤ 0 then spn else sp (dn w (qlo (lim w a1) (lim w b1) (lim w b2))) (up w (qhi (lim w a2) (lim w b1) (lim w b2))) := rfl
theorem memS_quot {w : Int} {a b : Sp} {f g : Rat} (h : memS w a f) (h' : memS w b g) (hg : 0 < g) : memS w (quotS w a b) (f / g) := by
  have hw := h.wd
  obtain ⟨a1, a2, rfl, pa, l1, l2⟩ := h
  obtain ⟨b1, b2, rfl, pb, m1, m2⟩ := h'
  obtain ⟨_, rb1, rb2, _⟩ := pok_rng pb
  have hy : ¬ Lm.num g ≤ .num 0 := by simp; exact Rat.not_le.2 hg
  have hb : 0 < b2 := (pos_lim' hw rb2).2 fun h => hy (Lm.trans m2 h)
  rw [quotS_sp, if_neg (by omega)]
  exact memS_du hw (qlo_le (x := .num f) (y := .num g) l1 m1 m2 hy) (le_qhi (x := .num f) (y := .num g) l2 m1 m2 hy)
theorem parts_or (w : Int) (p q : Sp) : (parts w p q = (p, q) ∧ p.1 = true ∧ q.1 = true ∧ p.2.2.1 < q.2.1) ∨ (parts w p q = (q, p) ∧ p.1 = true ∧ q.1 = true ∧ q.2.2.1 < p.2.1) ∨ parts w p q = (hullS w p q, spn) := by
  unfold parts
  by_cases h : (p.1 && q.1 && decide (p.2.2.1 < q.2.1)) = true
  · rw [if_pos h]
    simp only [Bool.and_eq_true, decide_eq_true_iff] at h
    exact .inl ⟨rfl, h.1.1, h.1.2, h.2⟩
  · rw [if_neg h]
    by_cases h' : (p.1 && q.1 && decide (q.2.2.1 < p.2.1)) = true
    · rw [if_pos h']
      simp only [Bool.and_eq_true, decide_eq_true_iff] at h'
      exact .inr (.inl ⟨rfl, h'.1.1, h'.1.2, h'.2⟩)
    · rw [if_neg h']; exact .inr (.inr rfl)
theorem divTwoS_eq {w : Int} {a b : Sp} (h : both w a b = true) : divTwoS w a b = parts w (quotS w a b) (quotS w (negS w a) (negS w b)) := by
  unfold divTwoS
  rw [if_pos h]
theorem hull_spk {w : Int} {a b : Sp} (ha : spk w a = true) (hb : spk w b = true) (hw : wd w = true) : spk w (hullS w a b) = true := by
  rcases spk_cases ha with rfl | ⟨a1, a2, rfl, pa⟩
  · rwa [spn_hullS hb hw]
  rcases spk_cases hb with rfl | ⟨b1, b2, rfl, pb⟩
  · rwa [hullS_spn ha hw]
  rw [hullS_sp pa pb, spk_sp]
  obtain ⟨_, x1, x2, x3, x4, x5⟩ := pok_rng pa
  obtain ⟨_, y1, y2, y3, y4, y5⟩ := pok_rng pb
  exact pok_of hw (by unfold rng at *; omega) (by unfold rng at *; omega) (by omega) (by omega) (by omega)
/-- a quotient lies in one of both parts -/
theorem memS_divTwo {w : Int} {a b : Sp} {f g : Rat} (h : memS w a f) (h' : memS w b g) (hg : g ≠ 0) : memS w (divTwoS w a b).1 (f / g) ∨ memS w (divTwoS w a b).2 (f / g) := by
  have hb := both_mem h h'
  rw [divTwoS_eq hb]
  have hp := quot_spk h.wd h.ok1 h'.ok1
  have hq := quot_spk h.wd (ok1_neg h.ok1) (ok1_neg h'.ok1)
  have hm : memS w (quotS w a b) (f / g) ∨ memS w (quotS w (negS w a) (negS w b)) (f / g) := by
    by_cases h0 : 0 < g
    · exact .inl (memS_quot h h' h0)
    · right
      have := memS_quot (memS_neg h) (memS_neg h') (by grind)
      have e : -f / -g = f / g := by
        have e2 : (-g)⁻¹ = -(g⁻¹) := by
          refine Rat.inv_eq_of_mul_eq_one ?_
          rw [Rat.neg_mul, Rat.mul_neg, Rat.neg_neg, Rat.mul_inv_cancel g hg]
        rw [Rat.div_def, Rat.div_def, e2, Rat.neg_mul, Rat.mul_neg, Rat.neg_neg]
      rwa [e] at this
  rcases parts_or w (quotS w a b) (quotS w (negS w a) (negS w b)) with ⟨e, _⟩ | ⟨e, _⟩ | e <;> rw [e]
  · exact hm
  · exact hm.symm
  · exact .inl (memS_hull hp hq hm)
theorem memS_div {w : Int} {a b : Sp} {f g : Rat} (h : memS w a f) (h' : memS w b g) (hg : g ≠ 0) : memS w (divS w a b) (f / g) := by
  have hb := both_mem h h'
  have hw := h.wd
  have hp := quot_spk hw h.ok1 h'.ok1
  have hq := quot_spk hw (ok1_neg h.ok1) (ok1_neg h'.ok1)
  unfold divS
  have key := memS_divTwo h h' hg
  rw [divTwoS_eq hb] at key ⊢
  rcases parts_or w (quotS w a b) (quotS w (negS w a) (negS w b)) with ⟨e, _⟩ | ⟨e, _⟩ | e <;> rw [e] at key ⊢
  · exact memS_hull hp hq key
  · exact memS_hull hq hp key
  · exact memS_hull (hull_spk hp hq hw) (by rw [spk_spn, hw]) key
end Pm

/- Powers of spans: the program's. Seat ZD. -/
namespace Pm
open Go.Px Go.Px.Seat
def powL (a : Lm) (n : Nat) : Lm := if n = 0 then .num 1 else match a with
  | .num r => .num (r ^ n)
  | .pos => .pos
  | .neg => if n % 2 = 0 then .pos else .neg
theorem natAbs_pow' (a : Int) : ∀ n : Nat, (a ^ n).natAbs = a.natAbs ^ n
  | 0 => by simp
  | n + 1 => by rw [Int.pow_succ, Int.natAbs_mul, natAbs_pow' a n, Nat.pow_succ]
theorem int_pow_neg {a : Int} (h : a < 0) : ∀ n : Nat, decide (a ^ n < 0) = decide (n % 2 = 1) ∧ a ^ n ≠ 0
  | 0 => by simp
  | n + 1 => by
    obtain ⟨h1, h2⟩ := int_pow_neg h n
    rw [Int.pow_succ]
    refine ⟨?_, Int.mul_ne_zero h2 (by omega)⟩
    by_cases hn : n % 2 = 1
    · rw [decide_eq_true hn, decide_eq_true_iff] at h1
      have := Int.mul_pos_of_neg_of_neg h1 h
      rw [decide_eq_false (by omega), decide_eq_false (by omega)]
    · rw [decide_eq_false hn, decide_eq_false_iff_not] at h1
      have := Int.mul_neg_of_pos_of_neg (show 0 < a ^ n by omega) h
      rw [decide_eq_true this, decide_eq_true (by omega)]
theorem int_pow_nonneg {a : Int} (h : 0 ≤ a) (n : Nat) : 0 ≤ a ^ n := Int.pow_nonneg h
theorem fb_pow (r : Rat) (n : Nat) : fb (r ^ n) = (fb r && decide (n % 2 = 1)) := by
  unfold fb
  rw [Rat.num_pow]
  by_cases h : r.num < 0
  · rw [(int_pow_neg h n).1, decide_eq_true h, Bool.true_and]
  · have := int_pow_nonneg (show 0 ≤ r.num by omega) n
    rw [decide_eq_false h, decide_eq_false (by omega), Bool.false_and]
theorem ft_pow (r : Rat) (n : Nat) : ft (r ^ n) = dig (r.num.natAbs ^ n) := by unfold ft; rw [Rat.num_pow, natAbs_pow']
theorem fq_pow (r : Rat) (n : Nat) : fq (r ^ n) = dig (r.den ^ n) := by unfold fq; rw [Rat.den_pow]
theorem len_dig_pow {x k : Nat} (h : (dig x).length ≤ k) (hk : 1 ≤ k) : ∀ n : Nat, (dig (x ^ n)).length ≤ k * n + 1
  | 0 => by
    rw [Nat.pow_zero, ← one_dig]; simp
  | n + 1 => by
    have := len_dig_mul (x ^ n) x
    have ih := len_dig_pow h hk n
    rw [Nat.pow_succ, Nat.mul_succ]
    omega
theorem short_fv {w o : Int} (h : fin w o) : short 69 (fv w o) := by
  have hs := sz_lt w o
  have h1 := shf_sub h
  have h2 := lst_le w
  by_cases hc : lst w ≤ shf w o
  · rw [fv_big (show shf w o = lst w + (shf w o - lst w) by omega)]
    refine mk_short (by decide) ?_ (by rw [← one_dig]; decide)
    rw [sg_natAbs]
    have l1 : (dig (sz w o)).length ≤ 4 := dig_len_le.2 (Nat.lt_of_lt_of_le hs (by decide))
    have l2 := dig_len_pow (shf w o - lst w)
    have l3 := len_dig_mul (sz w o) (2 ^ (shf w o - lst w))
    omega
  · rw [fv_small (show lst w = shf w o + (lst w - shf w o) by omega)]
    refine mk_short (pow2_ne _) ?_ ?_
    · rw [sg_natAbs]
      have l1 : (dig (sz w o)).length ≤ 4 := dig_len_le.2 (Nat.lt_of_lt_of_le hs (by decide))
      omega
    · have l2 := dig_len_pow (lst w - shf w o)
      omega
theorem short_pow {r : Rat} {k : Nat} (h : short k r) (hk : 1 ≤ k) (n : Nat) : short (k * n + 1) (r ^ n) := by
  obtain ⟨h1, h2⟩ := h
  refine ⟨?_, ?_⟩
  · rw [ft_pow]; exact len_dig_pow h1 hk n
  · rw [fq_pow]; exact len_dig_pow h2 hk n
theorem shL_pow {w o : Int} (hw : wd w = true) (ho : rng w o) {n : Nat} (hn : n ≤ 8) : shL 1024 (powL (lim w o) n) := by
  unfold powL
  split
  · exact ⟨by
      show (dig 1).length ≤ _
      rw [← one_dig]; decide, by
      show (dig 1).length ≤ _
      rw [← one_dig]; decide⟩
  · rcases lim_cases hw ho with ⟨h, e⟩ | ⟨h, e⟩ | ⟨h, e⟩ <;> rw [e]
    · show shL 1024 (if n % 2 = 0 then .pos else .neg)
      split <;> trivial
    · trivial
    · have hn8 : 69 * n + 1 ≤ 1024 := by omega
      exact short_mono (short_pow (short_fv h) (by omega) n) hn8
open Classical in
noncomputable def powS (w : Int) (a : Sp) (n : Int) : Sp := if ok1 w a = true ∧ 0 ≤ n ∧ n ≤ 8 then
    sp (dn w (powL (lim w (if n % 2 = 0 then absS w a else a).2.1) n.toNat)) (up w (powL (lim w (if n % 2 = 0 then absS w a else a).2.2.1) n.toNat)) else spn
theorem absS_sp {w a1 a2 : Int} (h : pok w a1 a2 = true) : absS w (sp a1 a2) = sp (max (max 0 a1) (-a2)) (max (a1.natAbs : Int) (a2.natAbs : Int)) := by
  unfold absS
  rw [if_pos (by rwa [ok1_sp])]; rfl
theorem abs_pok {w a1 a2 : Int} (h : pok w a1 a2 = true) : pok w (max (max 0 a1) (-a2)) (max (a1.natAbs : Int) (a2.natAbs : Int)) = true ∧ 0 ≤ max (max 0 a1) (-a2) := by
  obtain ⟨hw, r1, r2, r3, r4, r5⟩ := pok_rng h
  have ht := top_pos hw
  unfold rng at *
  exact ⟨pok_of hw (by unfold rng; omega) (by unfold rng; omega) (by omega) (by omega) (by omega), by omega⟩
end Pm
namespace Go.Px.Seat
open Go Pm
set_option linter.unusedVariables false
variable {B : Run}
theorem k_natPow : Ev fun n => ∀ x m k : Nat, (dig x).length ≤ k → 1 ≤ k → k * m + 1 ≤ 1024 → c_i_natPow ((C B).run n) (dig x) (m : Int) = some (dig (x ^ m), ()) := by
  refine (k_natMul (B := B)).succ fun n hn hM x m k hx hk hm => ?_
  rw [run_succ, e_i_natPow]
  unfold p_i_natPow
  have hm2 : m ≤ 1024 := by
    have : 1 * m ≤ k * m := Nat.mul_le_mul_right m hk
    omega
  refine (jb_of (p := (((dig (x ^ m)), ((), ())), ())) ?_ _).trans rfl
  refine iter_const (fun st => ∃ i : Nat, i ≤ m ∧ st = (((i : Int), ((m : Int), (dig (x ^ i), (dig x, ((), ()))))), ())) (fun st => (m - st.1.1).toNat) _ ?_ n _ (by simp only; omega) ⟨0, Nat.zero_le _, by rw [Nat.pow_zero, ← one_dig]; rfl⟩
  rintro rec _ ⟨i, hi, rfl⟩ ih
  simp only [ilt_iff, len_eq]
  by_cases h : i < m
  · have hi1 : k * i + 1 ≤ 1024 := by
      have : k * i ≤ k * m := Nat.mul_le_mul_left k hi
      omega
    have l1 := len_dig_pow hx hk i
    have l2 := len_dig_pow hx hk (i + 1)
    have l3 : k * (i + 1) + 1 ≤ 1024 := by
      have : k * (i + 1) ≤ k * m := Nat.mul_le_mul_left k h
      omega
    have hkk : k ≤ 1024 := by
      have : k * 1 ≤ k * m := Nat.mul_le_mul_left k (by omega)
      omega
    rw [decide_eq_true (by omega), cond_true, hM _ _ (by omega) (by omega)]
    simp only [Option.bind_some]
    rw [show x ^ i * x = x ^ (i + 1) from (Nat.pow_succ ..).symm, decide_eq_false (by omega), cond_false, iadd_eq (by omega) (by omega)]
    exact ih _ ⟨i + 1, h, rfl⟩ (by simp only; omega)
  · have : i = m := by omega
    subst this
    rw [decide_eq_false (by omega), cond_false]
theorem k_Fpow : Ev fun n => ∀ (r : Rat) (m k : Nat), short k r → 1 ≤ k → k * m + 1 ≤ 1024 → c_i_Frac_pow ((C B).run n) (fb r) (ft r) (fq r) (m : Int) = some (outF (r ^ m)) := by
  refine (k_natPow (B := B)).succ fun n hn hP r m k hr hk hm => ?_
  rw [run_succ, e_i_Frac_pow]
  unfold p_i_Frac_pow outF
  rw [fb_pow, ft_pow, fq_pow]
  obtain ⟨r1, r2⟩ := hr
  simp only [ft, fq] at r1 r2 ⊢
  have h1 := hP r.num.natAbs m k r1 hk hm
  have h2 := hP r.den m k r2 hk hm
  have e : (irem .i64 (m : Int) 2 == 1) = decide (m % 2 = 1) := by
    rw [irem_eq (by omega)]
    by_cases h : m % 2 = 1
    · rw [decide_eq_true h]; simp; omega
    · rw [decide_eq_false h]; exact beq_f (by omega)
  cases hb : fb r
  · simp only [cond_false, Bool.false_and]
    rw [h1, h2]
    rfl
  · simp only [cond_true, Bool.true_and]
    rw [h1, h2, e]
    rfl
theorem k_power : Ev fun n => ∀ (w o : Int) (m : Nat), wd w = true → rng w o → m ≤ 8 → c_i_power ((C B0).run n) w o (m : Int) = some (dn w (powL (lim w o) m), (up w (powL (lim w o) m), ())) := by
  refine (k_limL.and ((k_whole (B := B0)).and (k_around.and ((k_Fpow (B := B0)).and k_floatsL)))).succ fun n hn ⟨hL, hW, hA, hP, hFl⟩ w o m hw ho hm => ?_
  rw [run_succ, e_i_power]
  unfold p_i_power
  rw [hL w o hw ho]
  simp only [Option.bind_some, outL]
  have hsh := shL_pow hw ho hm
  by_cases h0 : m = 0
  · subst h0
    have e1 : (1 : Rat) = mkRat (sg false 1) 1 := by decide +kernel
    rw [show (((0 : Nat) : Int) == 0) = true from rfl, cond_true, one_dig, hW]
    simp only [Option.bind_some, outF]
    rw [← e1]
    obtain ⟨d, u, g1, g2, g3⟩ := hA w 1 hw hsh
    rw [g1]
    simp only [Option.bind_some, jb_inl]
    have : powL (lim w o) 0 = .num 1 := rfl
    rw [this, dn_num g2, up_num g3]
  rw [beq_f (by omega), cond_false]
  have hfl := hFl w _ hw hsh
  have e2 : (irem .i64 (m : Int) 2 == 0) = decide (m % 2 = 0) := by
    rw [irem_eq (by omega)]
    by_cases h : m % 2 = 0
    · rw [decide_eq_true h]; simp; omega
    · rw [decide_eq_false h]; exact beq_f (by omega)
  rcases lim_cases hw ho with ⟨h, e⟩ | ⟨h, e⟩ | ⟨h, e⟩ <;> rw [e] at hfl ⊢
  · simp only [li, ilt_iff, show decide ((-1 : Int) < 0) = true from rfl, cond_true, jb_inr, e2]
    unfold powL at hfl ⊢
    rw [if_neg h0] at hfl ⊢
    by_cases hp : m % 2 = 0
    · simp only [hp, decide_true, cond_true, jb_inr, if_true] at hfl ⊢
      simp only [li, lb, lu, lv] at hfl ⊢
      rw [hfl]
      rfl
    · simp only [hp, decide_false, cond_false, jb_inr, if_false, show ((-1 : Int) == 0) = false from rfl] at hfl ⊢
      simp only [li, lb, lu, lv] at hfl ⊢
      rw [hfl]
      rfl
  · simp only [li, ilt_iff, show decide ((1 : Int) < 0) = false from rfl, cond_false, jb_inr, show ((1 : Int) == 0) = false from rfl]
    unfold powL at hfl ⊢
    rw [if_neg h0] at hfl ⊢
    simp only [li, lb, lu, lv] at hfl ⊢
    rw [hfl]
    rfl
  · simp only [li, lb, lu, lv, ilt_iff, show decide ((0 : Int) < 0) = false from rfl, cond_false, jb_inr, show ((0 : Int) == 0) = true from rfl, cond_true]
    unfold powL at hfl ⊢
    rw [if_neg h0] at hfl ⊢
    simp only [li, lb, lu, lv] at hfl ⊢
    rw [hP (fv w o) m 69 (short_fv h) (by omega) (by omega)]
    simp only [Option.bind_some, outF, jb_inr]
    rw [hfl]
    rfl
theorem k_powS : Ev fun n => ∀ (w : Int) (a : Sp) (m : Int), -9223372036854775808 ≤ m → c_i_SpanPow ((C B0).run n) w a.1 a.2.1 a.2.2.1 m = some (powS w a m) := by
  refine ((k_full (B := B0)).and ((k_in (B := B0)).and (k_AbsS.and (k_power.and (k_some (B := B0)))))).succ fun n hn ⟨hF, hI, hA, hP, hSo⟩ w a m hm0 => ?_
  rw [run_succ, e_i_SpanPow]
  unfold p_i_SpanPow powS
  have e2 : [(a.1, (a.2.1, (a.2.2.1, ())))] = [a] := rfl
  rw [e2, hF _ _ (by simp), full1]
  simp only [Option.bind_some]
  cases h : ok1 w a
  · rw [if_neg (by simp)]; rfl
  simp only [Bool.not_true, cond_false]
  rw [hI]
  simp only [Option.bind_some, jb_inr]
  by_cases hm : 0 ≤ m ∧ m ≤ 8
  rotate_left
  · rw [decide_eq_false hm, if_neg (fun h => hm h.2)]; rfl
  rw [decide_eq_true hm, if_pos ⟨trivial, hm⟩]
  simp only [Bool.not_true, cond_false]
  obtain ⟨k, rfl⟩ : ∃ k : Nat, m = (k : Int) := ⟨m.toNat, by omega⟩
  have e3 : (irem .i64 (k : Int) 2 == 0) = decide ((k : Int) % 2 = 0) := by
    rw [irem_eq (by omega)]
    by_cases h : (k : Int) % 2 = 0
    · rw [decide_eq_true h, h]; rfl
    · rw [decide_eq_false h]; exact beq_f h
  rw [e3, Int.toNat_natCast]
  obtain ⟨a1, a2, rfl, pa⟩ := ok1_iff.1 h
  obtain ⟨hw, r1, r2, _⟩ := pok_rng pa
  by_cases hp : (k : Int) % 2 = 0
  · simp only [hp, decide_true, cond_true, if_true]
    rw [hA w (sp a1 a2), absS_sp pa]
    obtain ⟨_, s1, s2, _⟩ := pok_rng (abs_pok pa).1
    simp only [Option.bind_some, jb_inr, sp]
    rw [hP w _ k hw s1 (by omega), hP w _ k hw s2 (by omega)]
    simp only [Option.bind_some]
    rw [hSo]
    rfl
  · simp only [hp, decide_false, cond_false, if_false, jb_inr, sp]
    rw [hP w _ k hw r1 (by omega), hP w _ k hw r2 (by omega)]
    simp only [Option.bind_some]
    rw [hSo]
    rfl
end Go.Px.Seat

/- Roots of floats: the program's. Seat ZD. -/
namespace Pm
open Go.Px Go.Px.Seat
theorem rat_pow_le {x y : Rat} (hx : 0 ≤ x) (h : x ≤ y) : ∀ n : Nat, x ^ n ≤ y ^ n
  | 0 => by rw [Rat.pow_zero, Rat.pow_zero]; exact Rat.le_refl
  | n + 1 => by
    rw [Rat.pow_succ, Rat.pow_succ]
    have hy : 0 ≤ y := Rat.le_trans hx h
    have h1 := rat_pow_le hx h n
    have h2 : 0 ≤ y ^ n := Rat.pow_nonneg hy
    exact Rat.le_trans (Rat.mul_le_mul_of_nonneg_right h1 hx) (Rat.mul_le_mul_of_nonneg_left h h2)
theorem rat_pow_lt {x y : Rat} (hx : 0 ≤ x) (h : x < y) : ∀ n : Nat, n ≠ 0 → x ^ n < y ^ n
  | 0, h0 => absurd rfl h0
  | n + 1, _ => by
    rw [Rat.pow_succ, Rat.pow_succ]
    have hy : 0 < y := by grind
    have h1 := rat_pow_le hx (Rat.le_of_lt h) n
    have h2 : 0 < y ^ n := Rat.pow_pos hy
    have h3 := Rat.mul_le_mul_of_nonneg_right h1 hx
    have h4 := Rat.mul_lt_mul_of_pos_left h h2
    grind
theorem rat_pow_le_iff {x y : Rat} (hx : 0 ≤ x) (hy : 0 ≤ y) {n : Nat} (hn : n ≠ 0) : x ^ n ≤ y ^ n ↔ x ≤ y := by
  constructor
  · intro h
    refine Rat.not_lt.1 fun h' => ?_
    exact absurd h (Rat.not_le.2 (rat_pow_lt hy h' n hn))
  · exact fun h => rat_pow_le hx h n
theorem fv_nonneg {w o : Int} (h : 0 ≤ o) : 0 ≤ fv w o := by
  rw [← fv_zero' (w := w)]; exact fv_le.2 h
theorem fv_pos {w o : Int} (h : 0 < o) : 0 < fv w o := by
  rw [← fv_zero' (w := w)]; exact fv_lt.2 h
theorem zero_pow' {n : Nat} (hn : n ≠ 0) : (0 : Rat) ^ n = 0 := by
  obtain ⟨m, rfl⟩ : ∃ m, n = m + 1 := ⟨n - 1, by omega⟩
  rw [Rat.pow_succ, Rat.mul_zero]
/-- the greatest float whose power is not above -/
def IsRt (w a : Int) (n : Nat) (d : Int) : Prop := 0 ≤ d ∧ d < top w ∧ fv w d ^ n ≤ fv w a ∧ (d = top w - 1 ∨ fv w a < fv w (d + 1) ^ n)
theorem IsRt.le {w a : Int} {n : Nat} {d : Int} (h : IsRt w a n d) (hn : n ≠ 0) {o : Int} (h0 : 0 ≤ o) (h1 : o < top w) : o ≤ d ↔ fv w o ^ n ≤ fv w a := by
  obtain ⟨a1, a2, a3, a4⟩ := h
  constructor
  · intro hod
    exact Rat.le_trans (rat_pow_le (fv_nonneg h0) (fv_le.2 hod) n) a3
  · intro ho
    rcases a4 with h | h
    · omega
    · refine Int.not_lt.1 fun h' => ?_
      have := rat_pow_le (fv_nonneg (w := w) (show 0 ≤ d + 1 by omega)) (fv_le.2 (show d + 1 ≤ o by omega)) n
      exact absurd (Rat.le_trans this ho) (Rat.not_le.2 h)
theorem IsRt.unique {w a : Int} {n : Nat} {d e : Int} (hn : n ≠ 0) (h : IsRt w a n d) (h' : IsRt w a n e) : d = e := by
  have h1 := (h.le hn h'.1 h'.2.1).2 h'.2.2.1
  have h2 := (h'.le hn h.1 h.2.1).2 h.2.2.1
  omega
open Classical in
noncomputable def rt (w a : Int) (n : Nat) : Int := if h : ∃ d, IsRt w a n d then choose h else 0
theorem rt_of {w a : Int} {n : Nat} {d : Int} (hn : n ≠ 0) (h : IsRt w a n d) : rt w a n = d := by
  unfold rt
  rw [dif_pos ⟨d, h⟩]
  exact IsRt.unique hn (Classical.choose_spec (⟨d, h⟩ : ∃ d, IsRt w a n d)) h
theorem rt_ex {w a : Int} {n : Nat} (hw : wd w = true) (hn : n ≠ 0) (ha : 0 ≤ a) : ∃ d, IsRt w a n d := by
  have ht := top_pos hw
  have key : ∀ k : Nat, (k : Int) < top w → ∃ d : Int, 0 ≤ d ∧ d ≤ (k : Int) ∧ fv w d ^ n ≤ fv w a ∧ (d = (k : Int) ∨ fv w a < fv w (d + 1) ^ n) := by
    intro k
    induction k with
    | zero => intro _; exact ⟨0, by omega, by omega, by rw [fv_zero', zero_pow' hn]; exact fv_nonneg ha, .inl rfl⟩
    | succ k ih =>
      intro hk
      obtain ⟨d, h1, h2, h3, h4⟩ := ih (by omega)
      rcases h4 with h4 | h4
      · by_cases h : fv w (d + 1) ^ n ≤ fv w a
        · exact ⟨d + 1, by omega, by omega, h, .inl (by omega)⟩
        · exact ⟨d, h1, by omega, h3, .inr (Rat.not_le.1 h)⟩
      · exact ⟨d, h1, by omega, h3, .inr h4⟩
  obtain ⟨d, h1, h2, h3, h4⟩ := key (top w - 1).toNat (by omega)
  exact ⟨d, h1, by omega, h3, h4.elim (fun h => .inl (by omega)) .inr⟩
theorem rt_spec {w a : Int} {n : Nat} (hw : wd w = true) (hn : n ≠ 0) (ha : 0 ≤ a) : IsRt w a n (rt w a n) := by
  obtain ⟨d, h⟩ := rt_ex hw hn ha
  rw [rt_of hn h]; exact h
/-- down and up, of what is from 0 on -/
noncomputable def rdn0 (w a : Int) (n : Nat) : Int := if a = top w then top w else rt w a n
open Classical in
noncomputable def rup0 (w a : Int) (n : Nat) : Int := if a = top w then top w else if fv w (rt w a n) ^ n = fv w a then rt w a n else rt w a n + 1
noncomputable def rdn (w a : Int) (n : Nat) : Int := if a < 0 then -rup0 w (-a) n else rdn0 w a n
noncomputable def rup (w a : Int) (n : Nat) : Int := if a < 0 then -rdn0 w (-a) n else rup0 w a n
theorem powL_num {r : Rat} {n : Nat} (hn : n ≠ 0) : powL (.num r) n = .num (r ^ n) := by unfold powL; rw [if_neg hn]
theorem powL_pos {n : Nat} (hn : n ≠ 0) : powL .pos n = .pos := by unfold powL; rw [if_neg hn]
theorem rdn0_rng {w a : Int} {n : Nat} (hw : wd w = true) (hn : n ≠ 0) (ha : 0 ≤ a) : 0 ≤ rdn0 w a n ∧ rdn0 w a n ≤ top w := by
  have ht := top_pos hw
  have h := rt_spec hw hn ha
  unfold rdn0
  split
  · omega
  · exact ⟨h.1, by have := h.2.1; omega⟩
theorem rup0_rng {w a : Int} {n : Nat} (hw : wd w = true) (hn : n ≠ 0) (ha : 0 ≤ a) : 0 ≤ rup0 w a n ∧ rup0 w a n ≤ top w := by
  have ht := top_pos hw
  have h := rt_spec hw hn ha
  have h1 := h.1
  have h2 := h.2.1
  unfold rup0
  split
  · omega
  · split <;> omega
theorem le_rdn0 {w a o : Int} {n : Nat} (hw : wd w = true) (hn : n ≠ 0) (ha : 0 ≤ a) (ha' : a ≤ top w) (ho : 0 ≤ o) (ho' : o ≤ top w) : o ≤ rdn0 w a n ↔ powL (lim w o) n ≤ lim w a := by
  have ht := top_pos hw
  have h := rt_spec hw hn ha
  unfold rdn0
  by_cases hat : a = top w
  · rw [if_pos hat, hat, lim_top]; simp; omega
  · rw [if_neg hat, lim_num (o := a) ⟨hw, by omega, by omega⟩]
    by_cases hot : o = top w
    · rw [hot, lim_top, powL_pos hn]; simp; exact h.2.1
    · rw [lim_num (o := o) ⟨hw, by omega, by omega⟩, powL_num hn, h.le hn ho (by omega)]; rfl
theorem rup0_le {w a o : Int} {n : Nat} (hw : wd w = true) (hn : n ≠ 0) (ha : 0 ≤ a) (ha' : a ≤ top w) (ho : 0 ≤ o) (ho' : o ≤ top w) : rup0 w a n ≤ o ↔ lim w a ≤ powL (lim w o) n := by
  have ht := top_pos hw
  have h := rt_spec hw hn ha
  unfold rup0
  by_cases hat : a = top w
  · rw [if_pos hat, hat, lim_top]
    by_cases hot : o = top w
    · rw [hot, lim_top, powL_pos hn]; simp
    · rw [lim_num (o := o) ⟨hw, by omega, by omega⟩, powL_num hn]; simp; omega
  · rw [if_neg hat, lim_num (o := a) ⟨hw, by omega, by omega⟩]
    by_cases hot : o = top w
    · rw [hot, lim_top, powL_pos hn]
      have := h.2.1
      simp
      split <;> omega
    · rw [lim_num (o := o) ⟨hw, by omega, by omega⟩, powL_num hn, Lm.num_le]
      have hle := h.le hn ho (show o < top w by omega)
      generalize rt w a n = d at h hle ⊢
      by_cases he : fv w d ^ n = fv w a
      · rw [if_pos he, ← he, rat_pow_le_iff (fv_nonneg h.1) (fv_nonneg ho) hn, fv_le]
      · rw [if_neg he]
        have h1 : fv w d ^ n ≤ fv w a := h.2.2.1
        constructor
        · intro h'
          have : ¬ fv w o ^ n ≤ fv w a := fun hh => by have := hle.2 hh; omega
          exact Rat.le_of_lt (Rat.not_le.1 this)
        · intro h'
          refine Int.not_lt.1 fun hh => ?_
          have hod : o ≤ d := by omega
          have h2 := hle.1 hod
          have h3 : fv w o ^ n = fv w a := Rat.le_antisymm h2 h'
          have h4 := rat_pow_le (fv_nonneg (w := w) ho) (fv_le.2 hod) n
          rw [h3] at h4
          exact he (Rat.le_antisymm h1 h4)
noncomputable def rootS (w : Int) (a : Sp) : Sp := if (meet w a (sp 0 (top w))).1 = true then sp (rdn0 w (meet w a (sp 0 (top w))).2.1 2) (rup0 w (meet w a (sp 0 (top w))).2.2.1 2) else spn
/-! ### a power by its length -/
theorem pow_bl {x : Nat} (hx : x ≠ 0) (n : Nat) : 2 ^ ((bl x - 1) * n) ≤ x ^ n ∧ x ^ n ≤ 2 ^ (bl x * n) := by
  rw [Nat.pow_mul, Nat.pow_mul]
  exact ⟨Nat.pow_le_pow_left (bl_ge hx) n, Nat.pow_le_pow_left (Nat.le_of_lt (bl_lt x)) n⟩
theorem fv_pow {w o : Int} (h : 0 ≤ o) (n : Nat) : fv w o ^ n = mkRat (((sz w o * 2 ^ shf w o) ^ n : Nat) : Int) ((2 ^ lst w) ^ n) := by
  have e : fv w o = mkRat ((sz w o * 2 ^ shf w o : Nat) : Int) (2 ^ lst w) := by
    rw [fv, fI_sg, decide_eq_false (by omega)]; rfl
  rw [e]
  induction n with
  | zero => rw [Rat.pow_zero, Nat.pow_zero, Nat.pow_zero]; decide +kernel
  | succ n ih =>
    rw [Rat.pow_succ, ih, Rat.mkRat_mul_mkRat, Nat.pow_succ, Nat.pow_succ]
    rw [Int.natCast_mul ((sz w o * 2 ^ shf w o) ^ n)]
theorem cmp_pow {w o : Int} {T D : Nat} (h : 0 ≤ o) (n : Nat) (hD : D ≠ 0) : mkRat (T : Int) D < fv w o ^ n ↔ T * (2 ^ lst w) ^ n < (sz w o * 2 ^ shf w o) ^ n * D := by
  rw [fv_pow h, mk_lt2 hD (Nat.ne_of_gt (Nat.pow_pos (Nat.pow_pos (by decide)))), ← Int.natCast_mul, ← Int.natCast_mul, Int.ofNat_lt]
theorem sz_pos {w o : Int} (h : 0 < o) : sz w o ≠ 0 := by
  intro h0
  have : fv w o = 0 := by rw [fv, fI_sg, h0]; cases decide (o < 0) <;> simp [sg, Rat.zero_mkRat]
  have h2 := fv_pos (w := w) h
  rw [this] at h2
  exact absurd h2 (by decide)
theorem above_yes {w o : Int} {T D n : Nat} (h : 0 < o) (hT : T ≠ 0) (hD : D ≠ 0) (hl : (n : Int) * ((bl (sz w o) : Int) - 1 + (-(lst w : Int) + shf w o)) > (bl T : Int) - bl D + 1) : mkRat (T : Int) D < fv w o ^ n := by
  rw [cmp_pow (by omega) n hD]
  have hs := sz_pos (w := w) h
  have hb := bl_pos hs
  have h1 := (pow_bl hs n).1
  have h2 := bl_lt T
  have h3 := bl_ge hD
  have hbD := bl_pos hD
  rw [Nat.mul_pow, ← Nat.pow_mul, ← Nat.pow_mul]
  have e : (n : Int) * ((bl (sz w o) : Int) - 1 + (-(lst w : Int) + shf w o)) = (((bl (sz w o) - 1) * n : Nat) : Int) + ((shf w o * n : Nat) : Int) - ((lst w * n : Nat) : Int) := by
    rw [show ((bl (sz w o) : Int) - 1) = ((bl (sz w o) - 1 : Nat) : Int) by omega, Int.mul_add, Int.mul_add, Int.mul_neg]
    simp only [Int.natCast_mul]
    rw [Int.mul_comm (n : Int), Int.mul_comm (n : Int), Int.mul_comm (n : Int)]
    omega
  rw [e] at hl
  generalize (bl (sz w o) - 1) * n = A at h1 hl
  generalize shf w o * n = Bq at hl ⊢
  generalize lst w * n = Cq at hl ⊢
  have k1 : T * 2 ^ Cq < 2 ^ (bl T + Cq) := by
    rw [Nat.pow_add]; exact Nat.mul_lt_mul_of_pos_right h2 (Nat.pow_pos (by decide))
  have k2 : 2 ^ (A + Bq + (bl D - 1)) ≤ sz w o ^ n * 2 ^ Bq * D := by
    rw [Nat.pow_add, Nat.pow_add]
    exact Nat.mul_le_mul (Nat.mul_le_mul_right _ h1) h3
  have k3 : 2 ^ (bl T + Cq) ≤ 2 ^ (A + Bq + (bl D - 1)) := Nat.pow_le_pow_right (by decide) (by omega)
  omega
theorem above_no {w o : Int} {T D n : Nat} (h : 0 < o) (hT : T ≠ 0) (hD : D ≠ 0) (hl : (n : Int) * ((bl (sz w o) : Int) - 1 + (-(lst w : Int) + shf w o)) + n < (bl T : Int) - bl D - 1) : ¬ mkRat (T : Int) D < fv w o ^ n := by
  rw [cmp_pow (by omega) n hD]
  have hs := sz_pos (w := w) h
  have hb := bl_pos hs
  have h1 := (pow_bl hs n).2
  have h2 := bl_ge hT
  have h3 := bl_lt D
  have hbT := bl_pos hT
  rw [Nat.mul_pow, ← Nat.pow_mul, ← Nat.pow_mul]
  have e : (n : Int) * ((bl (sz w o) : Int) - 1 + (-(lst w : Int) + shf w o)) + n = ((bl (sz w o) * n : Nat) : Int) + ((shf w o * n : Nat) : Int) - ((lst w * n : Nat) : Int) := by
    rw [Int.mul_add, Int.mul_add, Int.mul_neg, Int.mul_sub]
    simp only [Int.natCast_mul]
    rw [Int.mul_comm (n : Int), Int.mul_comm (n : Int) (lst w : Int), Int.mul_comm (n : Int) (shf w o : Int)]
    omega
  rw [e] at hl
  generalize bl (sz w o) * n = A at h1 hl
  generalize shf w o * n = Bq at hl ⊢
  generalize lst w * n = Cq at hl ⊢
  have k1 : 2 ^ (bl T - 1 + Cq) ≤ T * 2 ^ Cq := by
    rw [Nat.pow_add]; exact Nat.mul_le_mul_right _ h2
  have k2 : sz w o ^ n * 2 ^ Bq * D ≤ 2 ^ (A + Bq + bl D) := by
    rw [Nat.pow_add, Nat.pow_add]
    exact Nat.mul_le_mul (Nat.mul_le_mul_right _ h1) (Nat.le_of_lt h3)
  have k3 : 2 ^ (A + Bq + bl D) ≤ 2 ^ (bl T - 1 + Cq) := Nat.pow_le_pow_right (by decide) (by omega)
  omega
end Pm
namespace Go.Px.Seat
open Go Pm
set_option linter.unusedVariables false
variable {B : Run}
theorem k_cmpS : Ev fun n => ∀ r s : Rat, short 1048576 r → short 1048576 s → c_i_Frac_cmp ((C B).run n) (fb r) (ft r) (fq r) (fb s) (ft s) (fq s) = some (cmpR r s, ()) := by
  refine ((k_sign (B := B)).and ((k_natMul (B := B)).and (k_natCmp (B := B)))).succ fun n hn ⟨hSign, hMul, hCmp⟩ r s hr hs => ?_
  rw [run_succ, e_i_Frac_cmp]
  unfold p_i_Frac_cmp
  obtain ⟨r1, r2⟩ := hr
  obtain ⟨s1, s2⟩ := hs
  rw [hSign, hSign]
  simp only [Option.bind_some]
  have b1 : -1 ≤ sgnR r ∧ sgnR r ≤ 1 := by unfold sgnR; split <;> (try split) <;> omega
  have b2 : -1 ≤ sgnR s ∧ sgnR s ≤ 1 := by unfold sgnR; split <;> (try split) <;> omega
  by_cases hne : sgnR r = sgnR s
  · have h1 : (sgnR r != sgnR s) = false := by simp [hne]
    simp only [h1, cond_false]
    have l1 : (dig (r.num.natAbs * s.den)).length ≤ 2097152 := by
      have := len_dig_mul r.num.natAbs s.den
      simp only [ft, fq] at r1 r2 s1 s2
      omega
    have l2 : (dig (s.num.natAbs * r.den)).length ≤ 2097152 := by
      have := len_dig_mul s.num.natAbs r.den
      simp only [ft, fq] at r1 r2 s1 s2
      omega
    simp only [ft, fq] at r1 r2 s1 s2 ⊢
    rw [hMul _ _ (by omega) (by omega)]
    simp only [Option.bind_some]
    rw [hMul _ _ (by omega) (by omega)]
    simp only [Option.bind_some]
    rw [hCmp _ _ (by omega) (by omega)]
    simp only [Option.bind_some]
    rw [cmpR_num, fb]
    have hsn : (r.num < 0 ∧ s.num < 0) ∨ (0 ≤ r.num ∧ 0 ≤ s.num) := by
      have e1 := fb_iff r
      have e2 := fb_iff s
      unfold fb at e1 e2
      have e1' : r.num < 0 ↔ r < 0 := by simpa using e1
      have e2' : s.num < 0 ↔ s < 0 := by simpa using e2
      unfold sgnR at hne
      by_cases h1 : r < 0 <;> by_cases h2 : s < 0
      · exact .inl ⟨e1'.2 h1, e2'.2 h2⟩
      · rw [if_pos h1, if_neg h2] at hne
        split at hne <;> omega
      · rw [if_neg h1, if_pos h2] at hne
        split at hne <;> omega
      · have := mt e1'.1 h1
        have := mt e2'.1 h2
        exact .inr ⟨by omega, by omega⟩
    rcases hsn with ⟨h2, h3⟩ | ⟨h2, h3⟩
    · have e1 : r.num * s.den = -((r.num.natAbs * s.den : Nat) : Int) := by rw [Int.natCast_mul, Int.ofNat_natAbs_of_nonpos (by omega), Int.neg_mul, Int.neg_neg]
      have e2 : s.num * r.den = -((s.num.natAbs * r.den : Nat) : Int) := by rw [Int.natCast_mul, Int.ofNat_natAbs_of_nonpos (by omega), Int.neg_mul, Int.neg_neg]
      rw [e1, e2]
      generalize r.num.natAbs * s.den = X at *
      generalize s.num.natAbs * r.den = Z at *
      simp only [h2, decide_true, cond_true]
      congr 2
      unfold cmp3
      rw [ineg_eq (by split <;> (try split) <;> omega) (by split <;> (try split) <;> omega)]
      rcases Nat.lt_trichotomy X Z with h | h | h
      · rw [if_pos h, if_neg (by omega), if_pos (by omega)]; rfl
      · subst h; simp
      · rw [if_neg (by omega), if_pos h, if_pos (by omega)]
    · have e1 : r.num * s.den = ((r.num.natAbs * s.den : Nat) : Int) := by rw [Int.natCast_mul, Int.natAbs_of_nonneg h2]
      have e2 : s.num * r.den = ((s.num.natAbs * r.den : Nat) : Int) := by rw [Int.natCast_mul, Int.natAbs_of_nonneg h3]
      rw [e1, e2]
      generalize r.num.natAbs * s.den = X at *
      generalize s.num.natAbs * r.den = Z at *
      simp only [show ¬ r.num < 0 by omega, decide_false, cond_false]
      congr 2
      unfold cmp3
      rcases Nat.lt_trichotomy X Z with h | h | h
      · rw [if_pos h, if_pos (by omega)]
      · subst h; simp
      · rw [if_neg (by omega), if_pos h, if_neg (by omega), if_pos (by omega)]
  · have h1 : (sgnR r != sgnR s) = true := by simpa using hne
    simp only [h1, cond_true]
    rw [isub_eq (by omega) (by omega)]
    congr 2
    unfold cmpR sgnR imax imin at *
    have t1 := @Rat.not_lt r 0
    have t2 := @Rat.not_lt s 0
    by_cases a1 : r < 0 <;> by_cases a2 : s < 0
    · rw [if_pos a1, if_pos a2] at hne; exact absurd rfl hne
    · have : r < s := by grind
      rw [if_pos a1, if_neg a2, if_pos this]
      by_cases a3 : s = 0 <;> simp [a3] <;> omega
    · have h2 : s < r := by grind
      have h3 : ¬ r < s := by grind
      rw [if_neg a1, if_pos a2, if_neg h3, if_pos h2]
      by_cases a3 : r = 0 <;> simp [a3] <;> omega
    · rw [if_neg a1, if_neg a2] at hne ⊢
      by_cases a3 : r = 0 <;> by_cases a4 : s = 0
      · rw [if_pos a3, if_pos a4] at hne; exact absurd rfl hne
      · have : r < s := by grind
        rw [if_pos a3, if_neg a4, if_pos this]; omega
      · have h2 : s < r := by grind
        have h3 : ¬ r < s := by grind
        rw [if_neg a3, if_pos a4, if_neg h3, if_pos h2]; omega
      · rw [if_neg a3, if_neg a4] at hne; exact absurd rfl hne
end Go.Px.Seat

/- Backward over a product: both sides; bytes turned round. Seat ZD. -/
namespace Pm
open Go.Px Go.Px.Seat
/-- has 0 -/
def nuS (s : Sp) : Bool := decide (s.2.1 ≤ 0 ∧ 0 ≤ s.2.2.1)
def three (w : Int) (z y x : Sp) : Bool := ok1 w z && (ok1 w y && ok1 w x)
noncomputable def bparts (w : Int) (z y x : Sp) : Sp × Sp := (meet w x (divTwoS w z y).1, meet w x (divTwoS w z y).2)
noncomputable def bmulS (w : Int) (z y x : Sp) : Sp := if three w z y x = true then (if (nuS z && nuS y) = true then x else hullS w (bparts w z y x).1 (bparts w z y x).2) else spn
noncomputable def gapS (w : Int) (z y x : Sp) : Int × (Int × (Bool × Unit)) :=
  if (three w z y x && (!(nuS z && nuS y) && ((bparts w z y x).1.1 && (bparts w z y x).2.1))) = true then ((bparts w z y x).1.2.2.1, ((bparts w z y x).2.2.1, (true, ()))) else (0, (0, (false, ())))
theorem meet_cases (w : Int) (a b : Sp) : meet w a b = spn ∨ ∃ a1 a2 b1 b2, a = sp a1 a2 ∧ b = sp b1 b2 ∧ pok w a1 a2 = true ∧ pok w b1 b2 = true ∧ max a1 b1 ≤ min a2 b2 ∧ meet w a b = sp (max a1 b1) (min a2 b2) := by
  unfold meet
  by_cases h : both w a b = true ∧ max a.2.1 b.2.1 ≤ min a.2.2.1 b.2.2.1
  · right
    have h1 := h.1
    rw [both_ok1, Bool.and_eq_true] at h1
    obtain ⟨a1, a2, rfl, pa⟩ := ok1_iff.1 h1.1
    obtain ⟨b1, b2, rfl, pb⟩ := ok1_iff.1 h1.2
    exact ⟨a1, a2, b1, b2, rfl, rfl, pa, pb, h.2, if_pos h⟩
  · exact .inl (if_neg h)
end Pm
namespace Go.Px.Seat
open Go Pm
set_option linter.unusedVariables false
variable {B : Run}
end Go.Px.Seat
