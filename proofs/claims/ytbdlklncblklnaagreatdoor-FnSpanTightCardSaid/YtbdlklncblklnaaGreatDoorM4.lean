/- Own texts, part M4: PmK PmL PmM PmO. -/
import Derived.Test.YtbdlklncblklnaaGreatDoorM3
import Derived.Test.YtbdlklncblklnaaGreatDoorM2
set_option linter.unusedVariables false

/- Fractions: the program's functions. -/
namespace Go.Px.Seat
open Go Pm
set_option linter.unusedVariables false

theorem k_natGcd : Ev fun n => ∀ x y : Nat, (dig x).length ≤ 134217728 → (dig y).length ≤ 134217728 → c_i_natGcd ((C B0).run n) (dig x) (dig y) = some (dig (Nat.gcd x y), ()) := by
  refine k_natDiv.succ fun n hn hDiv x y hx hy => ?_
  rw [run_succ, e_i_natGcd]
  unfold p_i_natGcd
  refine iter_const (fun p => ∃ a b : Nat, p = ((dig b, (dig a, ((), ()))), ()) ∧ (dig a).length ≤ 134217728 ∧ (dig b).length ≤ 134217728 ∧ Nat.gcd a b = Nat.gcd x y) (fun q => gm (val q.1.2.1).toNat (val q.1.1).toNat) _ ?_ n _ ?_ ⟨x, y, rfl, hx, hy, rfl⟩
  · rintro rec _ ⟨a, b, rfl, h1, h2, h3⟩ ih
    simp only [ilt_iff, len_eq]
    by_cases hb : b = 0
    · subst hb
      simp only [dig_zero, List.length_nil, show ¬ (0 : Int) < ((0 : Nat) : Int) by omega, decide_false, cond_false]
      rw [← h3, Nat.gcd_zero_right]
    · have hpos := dig_len_pos hb
      simp only [show (0 : Int) < ((dig b).length : Int) by omega, decide_true, cond_true]
      rw [hDiv a b h1 h2 hb]
      simp only [Option.bind_some]
      refine ih _ ⟨b, a % b, rfl, h2, ?_, ?_⟩ ?_
      · have := dig_len_mono (Nat.le_of_lt (Nat.mod_lt a (Nat.pos_of_ne_zero hb))); omega
      · rw [← h3, Nat.gcd_comm a b, Nat.gcd_rec b a, Nat.gcd_comm]
      · simp only [val_dig, Int.toNat_natCast]
        exact gm_step hb
  · simp only [val_dig, Int.toNat_natCast]
    have h1 := bl_len x
    have h2 := bl_len y
    have h3 : gm x y ≤ bl x + bl y + 1 := by unfold gm; split <;> omega
    omega
theorem getD_some {α : Type} {l : List α} {i : Nat} (d : α) (h : i < l.length) : l[i]? = some (l.getD i d) := by
  rw [List.getD_eq_getElem?_getD, List.getElem?_eq_getElem h]; rfl
section
variable {B : Run}
theorem k_nats : Ev fun n => ∀ l : List (List Int), l.length ≤ 1073741824 → c_i_nats ((C B).run n) l = some (l.all nok, ()) := by
  have k1 : Ev fun n => ∀ a : List Int, c_i_nats_1 ((C B).run n) a = some (!(nok a), ()) := by
    refine (k_NatOk (B := B)).succ fun n hn hin a => ?_
    rw [run_succ, e_i_nats_1]
    unfold p_i_nats_1
    rw [hin]; rfl
  have k2 : Ev fun n => ∀ l : List (List Int), l.length ≤ 1073741824 → ∃ r : Int × Unit, c_slices_IndexFunc_int_int_i_nats_1 ((C B).run n) l = some r ∧ (decide (0 ≤ r.1) = !(l.all nok)) := by
    refine k1.succ fun n hn h1 l hl => ?_
    rw [run_succ, e_slices_IndexFunc_int_int_i_nats_1]
    unfold p_slices_IndexFunc_int_int_i_nats_1
    simp only [len_eq]
    refine iter_ex (fun p => ∃ i : Nat, p = (((i : Int), ((l.length : Int), ((), (l, (0, ()))))), ()) ∧ i ≤ l.length ∧ (l.take i).all nok = true) (fun p => l.length - p.1.1.toNat)
      (fun r : Int × Unit => decide (0 ≤ r.1) = !(l.all nok)) ?_ n _ (by simp only; omega) ⟨0, rfl, by omega, by simp⟩
    rintro rec _ ⟨i, rfl, hi, ha⟩ ih
    simp only [ilt_iff]
    by_cases hil : i < l.length
    · simp only [show (i : Int) < (l.length : Int) by omega, decide_true, cond_true]
      rw [ok_of (inB_true (by omega) (by omega)), Int.toNat_natCast, h1]
      simp only [Option.bind_some]
      have hx := getD_some [] hil
      have hmem := List.mem_of_getElem? hx
      generalize List.getD l i [] = a at *
      cases hb : nok a
      · have : l.all nok = false := List.all_eq_false.2 ⟨_, hmem, by rw [hb]; simp⟩
        rw [this]
        exact ⟨((i : Int), ()), rfl, by simp⟩
      · simp only [Bool.not_true, cond_false]
        rw [iadd_eq (by omega) (by omega)]
        refine ih _ ⟨i + 1, by simp, by omega, ?_⟩ (by simp only; omega)
        rw [List.take_add_one, hx, List.all_append, ha]
        simpa using hb
    · have : i = l.length := by omega
      subst this
      simp only [show ¬ ((l.length : Nat) : Int) < (l.length : Int) by omega, decide_false, cond_false]
      rw [List.take_length] at ha
      exact ⟨_, rfl, by rw [ha]; rfl⟩
  have k3 : Ev fun n => ∀ l : List (List Int), l.length ≤ 1073741824 → c_slices_ContainsFunc_int_int_i_nats_1 ((C B).run n) l = some (!(l.all nok), ()) := by
    refine k2.succ fun n hn h2 l hl => ?_
    rw [run_succ, e_slices_ContainsFunc_int_int_i_nats_1]
    unfold p_slices_ContainsFunc_int_int_i_nats_1
    obtain ⟨r, h3, h4⟩ := h2 l hl
    rw [h3]
    simp only [Option.bind_some, ile_iff, h4]
  refine k3.succ fun n hn h3 l hl => ?_
  rw [run_succ, e_i_nats]
  unfold p_i_nats
  rw [h3 l hl]
  simp
end
theorem lt_len_iff (l : List Int) : ilt 0 (len l) = !l.isEmpty := by
  cases l <;> simp [len, ilt]
theorem k_FracOk : Ev fun n => ∀ (b : Bool) (l m : List Int), c_i_FracOk ((C B0).run n) b l m = some (fok b l m, ()) := by
  refine ((k_nats (B := B0)).and (k_natGcd.and (k_natCmp (B := B0)))).succ fun n hn ⟨hOk, hGcd, hCmp⟩ b l m => ?_
  rw [run_succ, e_i_FracOk]
  unfold p_i_FracOk
  rw [hOk _ (by simp)]
  simp only [Option.bind_some, lt_len_iff, List.all_cons, List.all_nil, Bool.and_true]
  cases h1 : nok l
  · simp [fok, h1]
  · cases h2 : nok m
    · simp [fok, h1, h2]
    · obtain ⟨p, hp, rfl⟩ := nok_iff.1 h1
      obtain ⟨q, hq, rfl⟩ := nok_iff.1 h2
      have hpl := dig_len_le.2 hp
      have hql := dig_len_le.2 hq
      simp only [Bool.and_true, cond_true]
      cases h3 : (dig q).isEmpty
      · simp only [Bool.not_false, cond_true]
        have hg := hGcd p q (by omega) (by omega)
        have hgl : (dig (Nat.gcd p q)).length ≤ 256 := by
          have hq0 : q ≠ 0 := fun h => by subst h; simp at h3
          have := dig_len_mono (Nat.le_of_dvd (Nat.pos_of_ne_zero hq0) (Nat.gcd_dvd_right p q)); omega
        have hc := hCmp (Nat.gcd p q) 1 (by omega) (by rw [dig_of_lt (by omega) (by omega)]; simp)
        rw [dig_of_lt (d := 1) (by omega) (by omega), Int.natCast_one] at hc
        have hv : (cmp3 (Nat.gcd p q) 1 == 0) = (Nat.gcd p q == 1) := by
          rw [Bool.eq_iff_iff, beq_iff_eq, beq_iff_eq]
          unfold cmp3
          split
          · omega
          · split <;> omega
        have hf : fok b (dig p) (dig q) = (!((dig p).isEmpty && b) && (Nat.gcd p q == 1)) := by
          unfold fok
          rw [h1, h2, h3, val_dig, val_dig, Int.toNat_natCast, Int.toNat_natCast]
          rfl
        rw [hf]
        cases h4 : (dig p).isEmpty
        · simp only [Bool.not_false, cond_true, Bool.false_and, Bool.true_and]
          rw [hg]
          simp only [Option.bind_some]
          rw [hc]
          simp only [Option.bind_some, jb_inr, hv]
        · cases b
          · simp only [Bool.not_true, cond_false, Bool.not_false, cond_true, Bool.and_false, Bool.true_and]
            rw [hg]
            simp only [Option.bind_some]
            rw [hc]
            simp only [Option.bind_some, jb_inr, hv]
          · rfl
      · simp [fok, h1, h2, h3]
def sgnR (r : Rat) : Int := if r < 0 then -1 else if r = 0 then 0 else 1
section
variable {B : Run}
theorem k_sign : Ev fun n => ∀ r : Rat, c_i_Frac_sign ((C B).run n) (fb r) (ft r) (fq r) = some (sgnR r, ()) := by
  refine Ev.triv.succ fun n hn _ r => ?_
  rw [run_succ, e_i_Frac_sign]
  unfold p_i_Frac_sign
  rw [len_zero_iff, fb_iff]
  unfold sgnR
  by_cases h : r < 0
  · simp [h]
  · by_cases h0 : r = 0
    · have : (ft r).isEmpty = true := by simpa using ft_nil.2 h0
      rw [this, decide_eq_false h, if_neg h, if_pos h0]
      rfl
    · have : (ft r).isEmpty = false := by simpa using mt ft_nil.1 h0
      simp [h, h0, this]
end
theorem cmpR_num (r s : Rat) : cmpR r s = if r.num * s.den < s.num * r.den then -1 else if s.num * r.den < r.num * s.den then 1 else 0 := by
  unfold cmpR
  simp only [Rat.lt_iff]
section
variable {B : Run}
theorem k_cmp : Ev fun n => ∀ r s : Rat, fits r → fits s → c_i_Frac_cmp ((C B).run n) (fb r) (ft r) (fq r) (fb s) (ft s) (fq s) = some (cmpR r s, ()) := by
  refine ((k_sign (B := B)).and ((k_natMul (B := B)).and (k_natCmp (B := B)))).succ fun n hn ⟨hSign, hMul, hCmp⟩ r s hr hs => ?_
  rw [run_succ, e_i_Frac_cmp]
  unfold p_i_Frac_cmp
  obtain ⟨r1, r2⟩ := fits_len hr
  obtain ⟨s1, s2⟩ := fits_len hs
  rw [hSign, hSign]
  simp only [Option.bind_some]
  have b1 : -1 ≤ sgnR r ∧ sgnR r ≤ 1 := by unfold sgnR; split <;> (try split) <;> omega
  have b2 : -1 ≤ sgnR s ∧ sgnR s ≤ 1 := by unfold sgnR; split <;> (try split) <;> omega
  by_cases hne : sgnR r = sgnR s
  · have h1 : (sgnR r != sgnR s) = false := by simp [hne]
    simp only [h1, cond_false]
    have l1 : (dig (r.num.natAbs * s.den)).length ≤ 512 := by
      have := len_dig_mul r.num.natAbs s.den
      simp only [ft, fq] at r1 r2 s1 s2
      omega
    have l2 : (dig (s.num.natAbs * r.den)).length ≤ 512 := by
      have := len_dig_mul s.num.natAbs r.den
      simp only [ft, fq] at r1 r2 s1 s2
      omega
    simp only [ft, fq] at r1 r2 s1 s2 ⊢
    rw [hMul _ _ (by omega) (by omega)]
    simp only [Option.bind_some]
    rw [hMul _ _ (by omega) (by omega)]
    simp only [Option.bind_some]
    rw [hCmp _ _ (by omega) (by omega)]
    simp only [Option.bind_some]
    rw [cmpR_num, fb]
    have hsn : (r.num < 0 ∧ s.num < 0) ∨ (0 ≤ r.num ∧ 0 ≤ s.num) := by
      have e1 := fb_iff r
      have e2 := fb_iff s
      unfold fb at e1 e2
      have e1' : r.num < 0 ↔ r < 0 := by simpa using e1
      have e2' : s.num < 0 ↔ s < 0 := by simpa using e2
      unfold sgnR at hne
      by_cases h1 : r < 0 <;> by_cases h2 : s < 0
      · exact .inl ⟨e1'.2 h1, e2'.2 h2⟩
      · rw [if_pos h1, if_neg h2] at hne
        split at hne <;> omega
      · rw [if_neg h1, if_pos h2] at hne
        split at hne <;> omega
      · have := mt e1'.1 h1
        have := mt e2'.1 h2
        exact .inr ⟨by omega, by omega⟩
    rcases hsn with ⟨h2, h3⟩ | ⟨h2, h3⟩
    · have e1 : r.num * s.den = -((r.num.natAbs * s.den : Nat) : Int) := by rw [Int.natCast_mul, Int.ofNat_natAbs_of_nonpos (by omega), Int.neg_mul, Int.neg_neg]
      have e2 : s.num * r.den = -((s.num.natAbs * r.den : Nat) : Int) := by rw [Int.natCast_mul, Int.ofNat_natAbs_of_nonpos (by omega), Int.neg_mul, Int.neg_neg]
      rw [e1, e2]
      generalize r.num.natAbs * s.den = X at *
      generalize s.num.natAbs * r.den = Z at *
      simp only [h2, decide_true, cond_true]
      congr 2
      unfold cmp3
      rw [ineg_eq (by split <;> (try split) <;> omega) (by split <;> (try split) <;> omega)]
      rcases Nat.lt_trichotomy X Z with h | h | h
      · rw [if_pos h, if_neg (by omega), if_pos (by omega)]; rfl
      · subst h; simp
      · rw [if_neg (by omega), if_pos h, if_pos (by omega)]
    · have e1 : r.num * s.den = ((r.num.natAbs * s.den : Nat) : Int) := by rw [Int.natCast_mul, Int.natAbs_of_nonneg h2]
      have e2 : s.num * r.den = ((s.num.natAbs * r.den : Nat) : Int) := by rw [Int.natCast_mul, Int.natAbs_of_nonneg h3]
      rw [e1, e2]
      generalize r.num.natAbs * s.den = X at *
      generalize s.num.natAbs * r.den = Z at *
      simp only [show ¬ r.num < 0 by omega, decide_false, cond_false]
      congr 2
      unfold cmp3
      rcases Nat.lt_trichotomy X Z with h | h | h
      · rw [if_pos h, if_pos (by omega)]
      · subst h; simp
      · rw [if_neg (by omega), if_pos h, if_neg (by omega), if_pos (by omega)]
  · have h1 : (sgnR r != sgnR s) = true := by simpa using hne
    simp only [h1, cond_true]
    rw [isub_eq (by omega) (by omega)]
    congr 2
    unfold cmpR sgnR imax imin at *
    have t1 := @Rat.not_lt r 0
    have t2 := @Rat.not_lt s 0
    by_cases a1 : r < 0 <;> by_cases a2 : s < 0
    · rw [if_pos a1, if_pos a2] at hne; exact absurd rfl hne
    · have : r < s := by grind
      rw [if_pos a1, if_neg a2, if_pos this]
      by_cases a3 : s = 0 <;> simp [a3] <;> omega
    · have h2 : s < r := by grind
      have h3 : ¬ r < s := by grind
      rw [if_neg a1, if_pos a2, if_neg h3, if_pos h2]
      by_cases a3 : r = 0 <;> simp [a3] <;> omega
    · rw [if_neg a1, if_neg a2] at hne ⊢
      by_cases a3 : r = 0 <;> by_cases a4 : s = 0
      · rw [if_pos a3, if_pos a4] at hne; exact absurd rfl hne
      · have : r < s := by grind
        rw [if_pos a3, if_neg a4, if_pos this]; omega
      · have h2 : s < r := by grind
        have h3 : ¬ r < s := by grind
        rw [if_neg a3, if_pos a4, if_neg h3, if_pos h2]; omega
      · rw [if_neg a3, if_neg a4] at hne; exact absurd rfl hne
/-- does a relation hold? -/
theorem cmpR_le (r s : Rat) : (cmpR r s ≤ 0) ↔ r ≤ s := by
  unfold cmpR
  have t1 := @Rat.not_lt r s
  have t2 := @Rat.not_lt s r
  split
  · constructor <;> intro <;> grind
  · split
    · constructor <;> intro <;> grind
    · constructor <;> intro <;> grind
theorem cmpR_ge (r s : Rat) : (0 ≤ cmpR r s) ↔ s ≤ r := by
  unfold cmpR
  have t1 := @Rat.not_lt r s
  have t2 := @Rat.not_lt s r
  split
  · constructor <;> intro <;> grind
  · split
    · constructor <;> intro <;> grind
    · constructor <;> intro <;> grind
theorem cmpR_eq (r s : Rat) : (cmpR r s = 0) ↔ r = s := by
  have h1 := cmpR_le r s
  have h2 := cmpR_ge r s
  constructor
  · intro h
    exact Rat.le_antisymm (h1.1 (by omega)) (h2.1 (by omega))
  · intro h
    subst h
    exact cmpR_self r
end
end Go.Px.Seat

/- Floats and spans as numbers. No program here. -/
namespace Pm

def wd (w : Int) : Bool := decide (w = 32 ∨ w = 64)
def top (w : Int) : Int := if w = 32 then 2139095040 else if w = 64 then 9218868437227405312 else 0
def bok (w o : Int) : Bool := wd w && decide (-top w ≤ o ∧ o ≤ top w)
def pok (w lo hi : Int) : Bool := bok w lo && (bok w hi && decide (lo ≤ hi ∧ lo < top w ∧ -top w < hi))
abbrev Sp := Bool × (Int × (Int × Unit))
def sp (lo hi : Int) : Sp := (true, (lo, (hi, ())))
def spn : Sp := (false, (0, (0, ())))
def spk (w : Int) (s : Sp) : Bool := if s.1 = true then pok w s.2.1 s.2.2.1 else wd w && decide (s.2.1 = 0 ∧ s.2.2.1 = 0)
def both (w : Int) (a b : Sp) : Bool := (spk w a && spk w b) && (a.1 && b.1)
def meet (w : Int) (a b : Sp) : Sp := if both w a b = true ∧ max a.2.1 b.2.1 ≤ min a.2.2.1 b.2.2.1 then sp (max a.2.1 b.2.1) (min a.2.2.1 b.2.2.1) else spn
theorem top_nonneg (w : Int) : 0 ≤ top w ∧ top w ≤ 9218868437227405312 := by unfold top; split <;> (try split) <;> omega
theorem top_pos {w : Int} (h : wd w = true) : 2139095040 ≤ top w := by
  unfold wd at h
  have h := of_decide_eq_true h
  unfold top
  rcases h with h | h <;> simp [h]
theorem bok_iff {w o : Int} : bok w o = true ↔ wd w = true ∧ -top w ≤ o ∧ o ≤ top w := by simp [bok]
theorem pok_iff {w lo hi : Int} : pok w lo hi = true ↔ wd w = true ∧ -top w ≤ lo ∧ lo < top w ∧ -top w < hi ∧ hi ≤ top w ∧ lo ≤ hi := by
  simp only [pok, Bool.and_eq_true, bok_iff, decide_eq_true_eq]
  constructor
  · rintro ⟨⟨h1, h2, h3⟩, ⟨_, h4, h5⟩, h6, h7, h8⟩
    exact ⟨h1, h2, h7, h8, h5, h6⟩
  · rintro ⟨h1, h2, h3, h4, h5, h6⟩
    exact ⟨⟨h1, h2, by omega⟩, ⟨h1, by omega, h5⟩, h6, h3, h4⟩
theorem spk_sp {w lo hi : Int} : spk w (sp lo hi) = pok w lo hi := rfl

/-! ### Values -/
def frw (w : Int) : Nat := if w = 32 then 23 else 52
def lst (w : Int) : Nat := if w = 32 then 149 else 1074
/-- the value of a float from 0 on, in least floats -/
def fN (F m : Nat) : Nat := if m / 2 ^ F = 0 then m % 2 ^ F else (m % 2 ^ F + 2 ^ F) * 2 ^ (m / 2 ^ F - 1)
theorem fN_succ (F m : Nat) : fN F m < fN F (m + 1) := by
  have hU : 0 < 2 ^ F := Nat.pow_pos (by decide)
  unfold fN
  generalize 2 ^ F = U at *
  have h1 := Nat.div_add_mod m U
  have h2 := Nat.mod_lt m hU
  by_cases h : m % U + 1 < U
  · have e1 : (m + 1) / U = m / U := by
      conv => lhs; rw [← h1]
      rw [Nat.add_assoc, Nat.mul_add_div hU, Nat.div_eq_of_lt h, Nat.add_zero]
    have e2 : (m + 1) % U = m % U + 1 := by
      conv => lhs; rw [← h1]
      rw [Nat.add_assoc, Nat.mul_add_mod, Nat.mod_eq_of_lt h]
    rw [e1, e2]
    split
    · omega
    · exact Nat.mul_lt_mul_of_pos_right (by omega) (Nat.pow_pos (by decide))
  · have h3 : m % U + 1 = U := by omega
    have e0 : m + 1 = U * (m / U + 1) := by rw [Nat.mul_add, Nat.mul_one]; omega
    have e1 : (m + 1) / U = m / U + 1 := by rw [e0, Nat.mul_div_cancel_left _ hU]
    have e2 : (m + 1) % U = 0 := by rw [e0, Nat.mul_mod_right]
    rw [e1, e2]
    clear e0 e1 e2 h1
    generalize m / U = d at *
    rw [if_neg (show ¬ d + 1 = 0 by omega), Nat.zero_add, Nat.add_sub_cancel]
    split
    · rename_i h0
      rw [h0, Nat.pow_zero]; omega
    · rename_i h0
      obtain ⟨e, he⟩ : ∃ e, d = e + 1 := ⟨d - 1, by omega⟩
      rw [he, Nat.add_sub_cancel, Nat.pow_succ, Nat.mul_comm (2 ^ e) 2, ← Nat.mul_assoc]
      exact Nat.mul_lt_mul_of_pos_right (by omega) (Nat.pow_pos (by decide))
theorem fN_mono (F : Nat) : ∀ {a b : Nat}, a < b → fN F a < fN F b
  | a, b + 1, h => by
    rcases Nat.lt_or_ge a b with h1 | h1
    · exact Nat.lt_trans (fN_mono F h1) (fN_succ F b)
    · have : a = b := by omega
      subst this; exact fN_succ F a
theorem fN_lt {F a b : Nat} : fN F a < fN F b ↔ a < b := by
  constructor
  · intro h
    rcases Nat.lt_trichotomy a b with h1 | h1 | h1
    · exact h1
    · subst h1; omega
    · have := fN_mono F h1; omega
  · exact fN_mono F
theorem fN_le {F a b : Nat} : fN F a ≤ fN F b ↔ a ≤ b := by
  have := @fN_lt F b a
  omega
theorem fN_zero (F : Nat) : fN F 0 = 0 := by simp [fN]
/-- the value of a float, in least floats -/
def fI (w o : Int) : Int := if o < 0 then -(fN (frw w) o.natAbs : Int) else fN (frw w) o.natAbs
theorem fI_neg (w o : Int) : fI w (-o) = -fI w o := by
  unfold fI
  rcases Int.lt_trichotomy o 0 with h | h | h
  · rw [if_neg (by omega), if_pos h, Int.natAbs_neg, Int.neg_neg]
  · subst h; simp [fN_zero]
  · rw [if_pos (by omega), if_neg (by omega), Int.natAbs_neg]
theorem fI_lt {w a b : Int} : fI w a < fI w b ↔ a < b := by
  unfold fI
  have h1 := @fN_lt (frw w) a.natAbs b.natAbs
  have h2 := @fN_lt (frw w) b.natAbs a.natAbs
  have h3 := @fN_lt (frw w) 0 b.natAbs
  have h4 := @fN_lt (frw w) 0 a.natAbs
  rw [fN_zero] at h3 h4
  split <;> split <;> omega
theorem fI_le {w a b : Int} : fI w a ≤ fI w b ↔ a ≤ b := by
  have := @fI_lt w b a
  omega
def fv (w o : Int) : Rat := mkRat (fI w o) (2 ^ lst w)
theorem pow2_ne (k : Nat) : (2 : Nat) ^ k ≠ 0 := Nat.ne_of_gt (Nat.pow_pos (by decide))
theorem mk_lt {a b : Int} {q : Nat} (h : q ≠ 0) : mkRat a q < mkRat b q ↔ a < b := by
  have hq : (0 : Rat) < (q : Rat) := Rat.natCast_pos.2 (Nat.pos_of_ne_zero h)
  rw [Rat.mkRat_eq_div, Rat.mkRat_eq_div, Rat.div_lt_iff hq, Rat.div_mul_cancel (by grind), Rat.intCast_lt_intCast]
theorem mk_le {a b : Int} {q : Nat} (h : q ≠ 0) : mkRat a q ≤ mkRat b q ↔ a ≤ b := by
  have h1 := @mk_lt b a q h
  have h2 := @Rat.not_lt (mkRat b q) (mkRat a q)
  rw [h1] at h2
  constructor
  · intro h3; have := h2.2 h3; omega
  · intro h3; exact h2.1 (by omega)
theorem fv_lt {w a b : Int} : fv w a < fv w b ↔ a < b := by rw [fv, fv, mk_lt (pow2_ne _), fI_lt]
theorem fv_le {w a b : Int} : fv w a ≤ fv w b ↔ a ≤ b := by rw [fv, fv, mk_le (pow2_ne _), fI_le]
theorem fv_inj {w a b : Int} (h : fv w a = fv w b) : a = b := by
  have h1 := (@fv_le w a b).1 (by rw [h]; exact Rat.le_refl)
  have h2 := (@fv_le w b a).1 (by rw [h]; exact Rat.le_refl)
  omega
theorem fv_neg (w o : Int) : fv w (-o) = -fv w o := by rw [fv, fv, fI_neg, Rat.neg_mkRat]
/-- is a number in a span's bounds? -/
def inn (w lo hi : Int) (f : Rat) : Bool := (decide (lo = -top w) || decide (fv w lo ≤ f)) && (decide (hi = top w) || decide (f ≤ fv w hi))
theorem inn_iff {w lo hi : Int} {f : Rat} : inn w lo hi f = true ↔ (lo = -top w ∨ fv w lo ≤ f) ∧ (hi = top w ∨ f ≤ fv w hi) := by simp [inn]

/-! ### Relations -/
def relS (w rel : Int) (a b : Sp) : Int :=
  if (spk w a && (spk w b && decide (rel = 1 ∨ rel = 2 ∨ rel = 3))) = false then 0
  else if (a.1 && b.1) = false then -1
  else
    let x := if rel = 2 then b else a
    let y := if rel = 2 then a else b
    if rel = 3 then if (meet w a b).1 = false then -1 else if a.2.1 = a.2.2.1 ∧ a.2.1 = b.2.1 ∧ a.2.2.1 = b.2.2.1 then 1 else 0
    else if x.2.2.1 ≤ y.2.1 then 1 else if y.2.2.1 < x.2.1 then -1 else 0
end Pm

/- Widths, pairs, spans: the program's and the reference's. -/
namespace Go.Px.Seat
open Go Pm
set_option linter.unusedVariables false
variable {B : Run}
theorem ineg_top (w : Int) : ineg .i64 (top w) = -top w := by
  have := top_nonneg w
  exact ineg_eq (by omega) (by omega)
theorem k_sWidth : Ev fun n => ∀ w : Int, c_s_l1Width ((C B).run n) w = some (wd w, ()) := by
  refine Ev.triv.succ fun n hn _ w => ?_
  rw [run_succ, e_s_l1Width]
  unfold p_s_l1Width
  simp only [jb_cond, jb_inr]
  by_cases h : w = 32
  · subst h; rfl
  · rw [beq_f h, cond_false, wd]
    by_cases h2 : w = 64
    · subst h2; rfl
    · rw [beq_f h2]; simp [h, h2]
theorem k_sTop' : Ev fun n => ∀ w : Int, c_s_BitTop ((C B).run n) w = some (top w, ()) := by
  refine Ev.triv.succ fun n hn _ w => ?_
  rw [run_succ, e_s_BitTop]
  unfold p_s_BitTop top
  by_cases h : w = 32
  · subst h; rfl
  · rw [beq_f h, cond_false, if_neg h]
    by_cases h2 : w = 64
    · subst h2; rfl
    · rw [beq_f h2, cond_false, if_neg h2]
theorem k_sBitOk : Ev fun n => ∀ w o : Int, c_s_BitOk ((C B).run n) w o = some (bok w o, ()) := by
  refine ((k_sWidth (B := B)).and (k_sTop' (B := B))).succ fun n hn ⟨hW, hT⟩ w o => ?_
  rw [run_succ, e_s_BitOk]
  unfold p_s_BitOk
  rw [hW, hT]
  simp only [Option.bind_some, ile_iff, ineg_top]
  unfold bok
  cases wd w
  · simp
  · by_cases h : -top w ≤ o <;> simp [h]
theorem k_sPairOk : Ev fun n => ∀ w lo hi : Int, c_s_PairOk ((C B).run n) w lo hi = some (pok w lo hi, ()) := by
  refine ((k_sBitOk (B := B)).and (k_sTop' (B := B))).succ fun n hn ⟨hB, hT⟩ w lo hi => ?_
  rw [run_succ, e_s_PairOk]
  unfold p_s_PairOk
  rw [hT, hB, hB]
  simp only [Option.bind_some, ile_iff, ilt_iff, ineg_top]
  unfold pok
  cases bok w lo
  · simp
  · cases bok w hi
    · simp
    · by_cases h : lo ≤ hi
      · by_cases h2 : lo < top w <;> simp [h, h2]
      · simp [h]
theorem k_sPair : Ev fun n => ∀ (s : Bool) (lo hi : Int), c_s_l9Pair ((C B).run n) s lo hi = some (lo, (hi, ())) := by
  refine Ev.triv.succ fun n hn _ s lo hi => ?_
  rw [run_succ, e_s_l9Pair]; rfl
theorem k_sOf : Ev fun n => ∀ (lo hi : Int), c_s_l9Of ((C B).run n) lo hi = some (sp lo hi) := by
  refine Ev.triv.succ fun n hn _ lo hi => ?_
  rw [run_succ, e_s_l9Of]; rfl
theorem k_sSpanOk : Ev fun n => ∀ (w : Int) (s : Bool) (lo hi : Int), c_s_SpanOk ((C B).run n) w s lo hi = some (spk w (s, (lo, (hi, ()))), ()) := by
  refine ((k_sWidth (B := B)).and ((k_sPair (B := B)).and (k_sPairOk (B := B)))).succ fun n hn ⟨hW, hP, hPk⟩ w s lo hi => ?_
  rw [run_succ, e_s_SpanOk]
  unfold p_s_SpanOk
  rw [hW, hP]
  simp only [Option.bind_some]
  rw [hPk]
  unfold spk
  cases s
  · simp only [Bool.not_false, cond_true, Bool.false_eq_true, if_false]
    cases wd w
    · simp
    · simp only [cond_true, Bool.true_and, jb_cond, jb_inr]
      by_cases h : lo = 0
      · subst h
        simp
        rfl
      · rw [beq_f h]; simp [h]
  · simp
theorem k_sBoth : Ev fun n => ∀ (w : Int) (a b : Sp), c_s_l9Both ((C B).run n) w a.1 a.2.1 a.2.2.1 b.1 b.2.1 b.2.2.1 = some (both w a b, ()) := by
  refine (k_sSpanOk (B := B)).succ fun n hn hS w a b => ?_
  rw [run_succ, e_s_l9Both]
  unfold p_s_l9Both
  rw [hS, hS]
  simp only [Option.bind_some]
  show _ = some (both w a b, ())
  unfold both
  have e1 : ∀ c : Sp, spk w (c.1, (c.2.1, (c.2.2.1, ()))) = spk w c := fun c => rfl
  rw [e1, e1]
  cases spk w a
  · simp
  · cases spk w b
    · simp
    · cases a.1 <;> simp
theorem k_sMax : Ev fun n => ∀ a b : Int, c_s_l3Max ((C B).run n) a b = some (max a b, ()) := by
  refine Ev.triv.succ fun n hn _ a b => ?_
  rw [run_succ, e_s_l3Max]
  unfold p_s_l3Max
  rw [ilt_iff]
  by_cases h : b < a
  · simp only [h, decide_true, cond_true]; congr 2; omega
  · simp only [h, decide_false, cond_false]; congr 2; omega
theorem k_sMin : Ev fun n => ∀ a b : Int, c_s_l3Min ((C B).run n) a b = some (min a b, ()) := by
  refine Ev.triv.succ fun n hn _ a b => ?_
  rw [run_succ, e_s_l3Min]
  unfold p_s_l3Min
  rw [ilt_iff]
  by_cases h : a < b
  · simp only [h, decide_true, cond_true]; congr 2; omega
  · simp only [h, decide_false, cond_false]; congr 2; omega
theorem k_sPairMeet : Ev fun n => ∀ w a b c d : Int, c_s_PairMeet ((C B).run n) w a b c d = some (if pok w a b = true ∧ pok w c d = true ∧ max a c ≤ min b d then (max a c, (min b d, (true, ()))) else (0, (0, (false, ())))) := by
  refine ((k_sMax (B := B)).and ((k_sMin (B := B)).and (k_sPairOk (B := B)))).succ fun n hn ⟨hMax, hMin, hP⟩ w a b c d => ?_
  rw [run_succ, e_s_PairMeet]
  unfold p_s_PairMeet
  rw [hMax, hMin, hP, hP]
  simp only [Option.bind_some, ilt_iff]
  cases pok w a b
  · simp
  · cases pok w c d
    · simp
    · by_cases h : max a c ≤ min b d
      · simp only [Bool.not_true, cond_false, jb_inr, show ¬ min b d < max a c by omega, decide_false, h, and_self, if_true]
      · simp only [Bool.not_true, cond_false, jb_inr, show min b d < max a c by omega, decide_true, cond_true, h, and_false, if_false]
theorem k_sMeet : Ev fun n => ∀ (w : Int) (a b : Sp), c_s_SpanMeet ((C B).run n) w a.1 a.2.1 a.2.2.1 b.1 b.2.1 b.2.2.1 = some (meet w a b) := by
  refine ((k_sBoth (B := B)).and ((k_sPair (B := B)).and ((k_sPairMeet (B := B)).and (k_sOf (B := B))))).succ fun n hn ⟨hB, hP, hM, hO⟩ w a b => ?_
  rw [run_succ, e_s_SpanMeet]
  unfold p_s_SpanMeet
  rw [hB]
  simp only [Option.bind_some]
  unfold meet
  cases hb : both w a b
  · simp; rfl
  · simp only [Bool.not_true, cond_false, true_and]
    rw [hP, hP]
    simp only [Option.bind_some]
    rw [hM]
    simp only [Option.bind_some]
    unfold both spk at hb
    simp only [Bool.and_eq_true] at hb
    obtain ⟨⟨h1, h2⟩, h3, h4⟩ := hb
    rw [if_pos h3] at h1
    rw [if_pos h4] at h2
    rw [h1, h2]
    by_cases h : max a.2.1 b.2.1 ≤ min a.2.2.1 b.2.2.1
    · simp only [h, and_self, if_true, Bool.not_true, cond_false]
      rw [hO]; rfl
    · simp only [h, and_false, if_false, Bool.not_false, cond_true]; rfl

/-! the program's -/
def fmt (w : Int) : Int × (Int × (Int × (Int × (Bool × Unit)))) := if w = 32 then (23, ((-149), (127, (2139095040, (true, ()))))) else if w = 64 then (52, ((-1074), (1023, (9218868437227405312, (true, ()))))) else (0, (0, (0, (0, (false, ())))))
theorem fmt_top (w : Int) : (fmt w).2.2.2.1 = top w := by unfold fmt top; split <;> (try split) <;> rfl
theorem fmt_wd (w : Int) : (fmt w).2.2.2.2.1 = wd w := by
  unfold fmt wd
  split
  · rename_i h; simp [h]
  · split
    · rename_i h; simp [h]
    · rename_i h1 h2; simp [h1, h2]
theorem k_fmt : Ev fun n => ∀ w : Int, c_i_formatOf ((C B).run n) w = some (fmt w) := by
  refine Ev.triv.succ fun n hn _ w => ?_
  rw [run_succ, e_i_formatOf]
  unfold p_i_formatOf fmt
  by_cases h : w = 32
  · subst h; rfl
  · rw [beq_f h, cond_false, if_neg h]
    by_cases h2 : w = 64
    · subst h2; rfl
    · rw [beq_f h2, cond_false, if_neg h2]
theorem k_BitTop : Ev fun n => ∀ w : Int, c_i_BitTop ((C B).run n) w = some (top w, ()) := by
  refine (k_fmt (B := B)).succ fun n hn hF w => ?_
  rw [run_succ, e_i_BitTop]
  unfold p_i_BitTop
  rw [hF]
  simp only [Option.bind_some, fmt_top]
theorem k_BitOk : Ev fun n => ∀ w o : Int, c_i_BitOk ((C B).run n) w o = some (bok w o, ()) := by
  refine ((k_fmt (B := B)).and (k_in (B := B))).succ fun n hn ⟨hF, hI⟩ w o => ?_
  rw [run_succ, e_i_BitOk]
  unfold p_i_BitOk
  rw [hF]
  simp only [Option.bind_some, fmt_top, fmt_wd, ineg_top]
  rw [hI]
  unfold bok
  cases wd w <;> simp
theorem k_PairOk : Ev fun n => ∀ w lo hi : Int, c_i_PairOk ((C B).run n) w lo hi = some (pok w lo hi, ()) := by
  refine ((k_BitOk (B := B)).and (k_BitTop (B := B))).succ fun n hn ⟨hB, hT⟩ w lo hi => ?_
  rw [run_succ, e_i_PairOk]
  unfold p_i_PairOk
  rw [hT, hB, hB]
  simp only [Option.bind_some, ile_iff, ineg_top]
  cases h1 : bok w lo
  · simp [pok, h1]
  · cases h2 : bok w hi
    · simp [pok, h1, h2]
    · obtain ⟨a1, a2, a3⟩ := bok_iff.1 h1
      obtain ⟨b1, b2, b3⟩ := bok_iff.1 h2
      unfold pok
      rw [h1, h2]
      simp only [cond_true, Bool.true_and]
      by_cases h : lo ≤ hi
      · by_cases h3 : lo = top w
        · have e1 : (lo != top w) = false := by simp [h3]
          simp only [h, decide_true, cond_true, e1, cond_false, jb_inr]
          congr 2
          exact (decide_eq_false (by omega)).symm
        · have e1 : (lo != top w) = true := by simpa using h3
          simp only [h, decide_true, cond_true, e1, jb_inr]
          congr 2
          rw [Bool.eq_iff_iff, bne_iff_ne, decide_eq_true_iff]
          constructor
          · intro h4
            refine ⟨trivial, by omega, ?_⟩
            have h5 : hi ≠ -top w := h4
            omega
          · rintro ⟨_, _, h4⟩ h5
            omega
      · simp [h]
theorem k_SpanOk : Ev fun n => ∀ (w : Int) (s : Bool) (lo hi : Int), c_i_SpanOk ((C B).run n) w s lo hi = some (spk w (s, (lo, (hi, ()))), ()) := by
  refine ((k_fmt (B := B)).and (k_PairOk (B := B))).succ fun n hn ⟨hF, hP⟩ w s lo hi => ?_
  rw [run_succ, e_i_SpanOk]
  unfold p_i_SpanOk
  rw [hF]
  simp only [Option.bind_some, fmt_wd]
  rw [hP]
  unfold spk
  cases hw : wd w
  · have : pok w lo hi = false := by
      cases hp : pok w lo hi
      · rfl
      · have := (pok_iff.1 hp).1
        rw [hw] at this; cases this
    cases s <;> simp [this]
  · cases s
    · simp only [cond_true, cond_false, jb_inr, Bool.false_eq_true, if_false, Bool.true_and]
      congr 2
      rw [Bool.eq_iff_iff]
      simp [beqB]
    · simp only [cond_true, Option.bind_some, if_true]
      cases hp : pok w lo hi
      · simp [beqB]
      · simp
theorem k_full : Ev fun n => ∀ (w : Int) (l : List Sp), l.length ≤ 1073741824 → c_i_full ((C B).run n) w l = some (l.all fun s => s.1 && spk w s, ()) := by
  refine (k_SpanOk (B := B)).succ fun n hn hS w l hl => ?_
  rw [run_succ, e_i_full]
  unfold p_i_full
  simp only [len_eq]
  refine iter_const (fun p => ∃ i : Nat, p = (((i : Int), ((l.length : Int), (l, (w, (false, ()))))), ()) ∧ i ≤ l.length ∧ (l.take i).all (fun s => s.1 && spk w s) = true) (fun p => l.length - p.1.1.toNat)
      _ ?_ n _ (by simp only; omega) ⟨0, rfl, by omega, by simp⟩
  rintro rec _ ⟨i, rfl, hi, ha⟩ ih
  simp only [ilt_iff]
  by_cases hil : i < l.length
  · simp only [show (i : Int) < (l.length : Int) by omega, decide_true, cond_true]
    rw [ok_of (inB_true (by omega) (by omega)), Int.toNat_natCast, hS]
    simp only [Option.bind_some]
    have hx := getD_some (α := Sp) (false, (0, (0, ()))) hil
    have hmem := List.mem_of_getElem? hx
    have e1 : ∀ c : Sp, spk w (c.1, (c.2.1, (c.2.2.1, ()))) = spk w c := fun c => rfl
    rw [e1]
    generalize List.getD l i (false, (0, (0, ()))) = a at *
    have hbad : (a.1 && spk w a) = false → (l.all fun s => s.1 && spk w s) = false := fun hb => List.all_eq_false.2 ⟨_, hmem, by rw [hb]; simp⟩
    cases h1 : a.1
    · rw [hbad (by rw [h1]; rfl)]
      simp
    · cases h2 : spk w a
      · rw [hbad (by rw [h1, h2]; rfl)]
        simp
      · simp only [Bool.not_true, cond_false, jb_inr]
        rw [iadd_eq (by omega) (by omega)]
        refine ih _ ⟨i + 1, by simp, by omega, ?_⟩ (by simp only; omega)
        rw [List.take_add_one, hx, List.all_append, ha]
        simp [h1, h2]
  · have : i = l.length := by omega
    subst this
    simp only [show ¬ ((l.length : Nat) : Int) < (l.length : Int) by omega, decide_false, cond_false]
    rw [List.take_length] at ha
    rw [ha]
theorem k_some : Ev fun n => ∀ (lo hi : Int), c_i_some ((C B).run n) lo hi = some (sp lo hi) := by
  refine Ev.triv.succ fun n hn _ lo hi => ?_
  rw [run_succ, e_i_some]; rfl
theorem k_from : Ev fun n => ∀ (w lo : Int), c_i_from ((C B).run n) w lo = some (sp lo (top w)) := by
  refine ((k_some (B := B)).and (k_BitTop (B := B))).succ fun n hn ⟨hS, hT⟩ w lo => ?_
  rw [run_succ, e_i_from]
  unfold p_i_from
  rw [hT]
  simp only [Option.bind_some]
  rw [hS]; rfl
theorem full_two (w : Int) (a b : Sp) : ([a, b].all fun s => s.1 && spk w s) = both w a b := by
  simp only [List.all_cons, List.all_nil, Bool.and_true, both]
  cases a.1 <;> cases b.1 <;> cases spk w a <;> cases spk w b <;> rfl
theorem meet_pok {w : Int} {a b : Sp} (h : both w a b = true) : pok w (max a.2.1 b.2.1) (min a.2.2.1 b.2.2.1) = decide (max a.2.1 b.2.1 ≤ min a.2.2.1 b.2.2.1) := by
  unfold both spk at h
  simp only [Bool.and_eq_true] at h
  obtain ⟨⟨h1, h2⟩, h3, h4⟩ := h
  rw [if_pos h3] at h1
  rw [if_pos h4] at h2
  obtain ⟨a1, a2, a3, a4, a5, a6⟩ := pok_iff.1 h1
  obtain ⟨b1, b2, b3, b4, b5, b6⟩ := pok_iff.1 h2
  rw [Bool.eq_iff_iff, pok_iff, decide_eq_true_iff]
  constructor
  · rintro ⟨_, _, _, _, _, h⟩; exact h
  · intro h
    exact ⟨a1, by omega, by omega, by omega, by omega, h⟩
theorem k_Meet : Ev fun n => ∀ (w : Int) (a b : Sp), c_i_SpanMeet ((C B).run n) w a.1 a.2.1 a.2.2.1 b.1 b.2.1 b.2.2.1 = some (meet w a b) := by
  refine ((k_full (B := B)).and ((k_some (B := B)).and (k_SpanOk (B := B)))).succ fun n hn ⟨hF, hO, hS⟩ w a b => ?_
  rw [run_succ, e_i_SpanMeet]
  unfold p_i_SpanMeet
  have e2 : ∀ a b : Sp, [(a.1, (a.2.1, (a.2.2.1, ()))), (b.1, (b.2.1, (b.2.2.1, ())))] = [a, b] := fun a b => rfl
  rw [e2, hF _ _ (by simp), full_two]
  simp only [Option.bind_some]
  unfold meet
  cases hb : both w a b
  · simp; rfl
  · simp only [Bool.not_true, cond_false, true_and]
    rw [hO]
    simp only [Option.bind_some, sp]
    rw [hS]
    simp only [Option.bind_some, imax, imin]
    have : spk w (true, (max a.2.1 b.2.1, (min a.2.2.1 b.2.2.1, ()))) = pok w (max a.2.1 b.2.1) (min a.2.2.1 b.2.2.1) := rfl
    rw [this, meet_pok hb]
    by_cases h : max a.2.1 b.2.1 ≤ min a.2.2.1 b.2.2.1
    · simp only [h, decide_true, Bool.not_true, cond_false, if_true]
    · simp only [h, decide_false, Bool.not_false, cond_true, if_false]; rfl
end Go.Px.Seat

/- Values of floats: the reference's. -/
namespace Pm
theorem mk_lt2 {a b : Int} {q1 q2 : Nat} (h1 : q1 ≠ 0) (h2 : q2 ≠ 0) : mkRat a q1 < mkRat b q2 ↔ a * q2 < b * q1 := by
  rw [← Rat.mkRat_mul_right (n := a) (d := q1) h2, ← Rat.mkRat_mul_right (n := b) (d := q2) h1, Nat.mul_comm q2 q1, mk_lt (Nat.mul_ne_zero h1 h2)]
theorem cmpR_mk {a b : Int} {q1 q2 : Nat} (h1 : q1 ≠ 0) (h2 : q2 ≠ 0) : cmpR (mkRat a q1) (mkRat b q2) = if a * q2 < b * q1 then -1 else if b * q1 < a * q2 then 1 else 0 := by
  unfold cmpR
  simp only [mk_lt2 h1 h2, mk_lt2 h2 h1]
/-- a float's digits -/
def sz (w o : Int) : Nat := if o.natAbs / 2 ^ frw w = 0 then o.natAbs % 2 ^ frw w else o.natAbs % 2 ^ frw w + 2 ^ frw w
/-- and how far they are shifted from the least -/
def shf (w o : Int) : Nat := o.natAbs / 2 ^ frw w - 1
theorem sz_shf (w o : Int) : fN (frw w) o.natAbs = sz w o * 2 ^ shf w o := by
  unfold fN sz shf
  split
  · rename_i h
    rw [h]; simp
  · rfl
theorem frw_le (w : Int) : frw w ≤ 52 := by unfold frw; split <;> omega
theorem sz_lt (w o : Int) : sz w o < 9007199254740992 := by
  have h1 := frw_le w
  have h2 : 2 ^ frw w ≤ 2 ^ 52 := Nat.pow_le_pow_right (by decide) h1
  have h3 := Nat.mod_lt o.natAbs (show 0 < 2 ^ frw w from Nat.pow_pos (by decide))
  unfold sz
  simp only [Nat.reducePow] at h2
  split <;> omega
/-- finite floats -/
def fin (w o : Int) : Prop := wd w = true ∧ -top w < o ∧ o < top w
theorem shf_lt {w o : Int} (h : fin w o) : shf w o < 2046 := by
  obtain ⟨h1, h2, h3⟩ := h
  unfold shf
  have : o.natAbs / 2 ^ frw w < 2047 := by
    rw [Nat.div_lt_iff_lt_mul (Nat.pow_pos (by decide))]
    have hw := of_decide_eq_true h1
    rcases hw with hw | hw <;> subst hw <;> simp only [frw, top, if_true, if_false, show ¬ ((64 : Int) = 32) by omega, Nat.reducePow] at * <;> omega
  omega
theorem shf_sub {w o : Int} (h : fin w o) : shf w o ≤ lst w + 971 := by
  obtain ⟨h1, h2, h3⟩ := h
  have hw := of_decide_eq_true h1
  rcases hw with hw | hw
  · subst hw
    have : o.natAbs / 2 ^ 23 < 255 := by
      rw [Nat.div_lt_iff_lt_mul (Nat.pow_pos (by decide))]
      simp only [top, if_true] at *
      omega
    simp only [shf, frw, lst, if_true]
    omega
  · subst hw
    have : o.natAbs / 2 ^ 52 < 2047 := by
      rw [Nat.div_lt_iff_lt_mul (Nat.pow_pos (by decide))]
      simp only [top, show ¬ ((64 : Int) = 32) by omega, if_false, if_true] at *
      omega
    simp only [shf, frw, lst, show ¬ ((64 : Int) = 32) by omega, if_false]
    omega
theorem fI_sg (w o : Int) : fI w o = sg (decide (o < 0)) (sz w o * 2 ^ shf w o) := by
  unfold fI
  rw [sz_shf]
  by_cases h : o < 0
  · rw [if_pos h, decide_eq_true h]; rfl
  · rw [if_neg h, decide_eq_false h]; rfl
theorem dig_len_pow (k : Nat) : (dig (2 ^ k)).length ≤ k / 16 + 1 := by
  rw [dig_len_le, pow_base]
  exact Nat.pow_lt_pow_right (by decide) (by omega)
end Pm
namespace Go.Px.Seat
open Go Pm
set_option linter.unusedVariables false
variable {B : Run}
theorem k_sFrac : Ev fun n => ∀ w : Int, c_s_l1Frac ((C B).run n) w = some ((frw w : Int), ()) := by
  refine Ev.triv.succ fun n hn _ w => ?_
  rw [run_succ, e_s_l1Frac]
  unfold p_s_l1Frac frw
  by_cases h : w = 32
  · subst h; rfl
  · rw [beq_f h, cond_false, if_neg h]; rfl
theorem k_sLeast : Ev fun n => ∀ w : Int, c_s_l1Least ((C B).run n) w = some (-(lst w : Int), ()) := by
  refine Ev.triv.succ fun n hn _ w => ?_
  rw [run_succ, e_s_l1Least]
  unfold p_s_l1Least lst
  by_cases h : w = 32
  · subst h; rfl
  · rw [beq_f h, cond_false, if_neg h]; rfl
theorem shl_one (k : Nat) (h : k ≤ 62) : ishl .i64 1 (k : Int) = ((2 ^ k : Nat) : Int) := by
  have h62 : (2 : Nat) ^ k ≤ 2 ^ 62 := Nat.pow_le_pow_right (by decide) h
  have e : (1 : Int) * 2 ^ k = ((2 ^ k : Nat) : Int) := by simp
  simp only [Nat.reducePow] at h62
  generalize (2 ^ k : Nat) = p at *
  rw [ishl_eq (by omega) (by rw [e]; omega) (by rw [e]; omega), e]
theorem k_sPart : Ev fun n => ∀ w o : Int, fin w o → c_s_BitPartOf ((C B).run n) w o = some (decide (o < 0), ((sz w o : Int), ((-(lst w : Int) + (shf w o : Int)), (true, ())))) := by
  refine ((k_sBitOk (B := B)).and ((k_sTop' (B := B)).and ((k_sLeast (B := B)).and (k_sFrac (B := B))))).succ fun n hn ⟨hB, hT, hL, hF⟩ w o hf => ?_
  rw [run_succ, e_s_BitPartOf]
  unfold p_s_BitPartOf
  obtain ⟨h1, h2, h3⟩ := hf
  have hb : bok w o = true := bok_iff.2 ⟨h1, by omega, by omega⟩
  have htn := top_nonneg w
  rw [hB, hb, hT]
  simp only [Option.bind_some, Bool.not_true, cond_false, beq_f (show ¬ o = top w by omega), ineg_top, beq_f (show ¬ o = -top w by omega), jb_inr]
  rw [hL]
  simp only [Option.bind_some, ilt_iff]
  refine (jb_of (p := ((w, ((o.natAbs : Int), ((), ((), (false, ()))))), ((decide (o < 0), (0, (-(lst w : Int), ()))), ((false, (0, (0, ()))), ())))) ?_ _).trans ?_
  · by_cases h : o < 0
    · simp only [h, decide_true, cond_true]
      rw [ineg_eq (by omega) (by omega), show -o = (o.natAbs : Int) by omega]
    · simp only [h, decide_false, cond_false]
      rw [show o = (o.natAbs : Int) by omega]
      rfl
  simp only []
  rw [hF]
  have hfl := frw_le w
  simp only [Option.bind_some]
  rw [wrapu64 (by omega) (by omega), shl_one _ (by omega), ok_of (by simp)]
  have hU : 0 < 2 ^ frw w := Nat.pow_pos (by decide)
  have hU2 : 2 ^ frw w ≤ 2 ^ 52 := Nat.pow_le_pow_right (by decide) hfl
  simp only [Nat.reducePow] at hU2
  unfold sz shf
  generalize hUU : 2 ^ frw w = U at *
  rw [ok_of (nz (by omega)), ok_of (nz (by omega)), iquo_eq (by omega) (by omega) (by omega), irem_eq (by omega)]
  have hm : o.natAbs % U < U := Nat.mod_lt _ hU
  have hll : lst w ≤ 1074 := by unfold lst; split <;> omega
  have e1 : (o.natAbs : Int) / (U : Int) = ((o.natAbs / U : Nat) : Int) := by norm_cast
  have e2 : (o.natAbs : Int) % (U : Int) = ((o.natAbs % U : Nat) : Int) := by norm_cast
  rw [e1, e2]
  have hdl : o.natAbs / U ≤ o.natAbs := Nat.div_le_self ..
  generalize o.natAbs / U = d at *
  generalize o.natAbs % U = r at *
  by_cases hd : d = 0
  · subst hd
    simp only [show ¬ (0 : Int) < ((0 : Nat) : Int) by omega, decide_false, cond_false, jb_inr, if_true]
    rw [wrapu64 (by omega) (by omega)]
    simp
  · simp only [show (0 : Int) < (d : Int) by omega, decide_true, cond_true, jb_inr, hd, if_false]
    rw [wrapu64 (x := (r : Int)) (by omega) (by omega), wrapu64 (x := (U : Int)) (by omega) (by omega), iadd, wrapu64 (by omega) (by omega), iadd_eq (by omega) (by omega), isub_eq (by omega) (by omega)]
    have e3 : (r : Int) + (U : Int) = ((r + U : Nat) : Int) := by omega
    have e4 : -(lst w : Int) + (d : Int) - 1 = -(lst w : Int) + ((d - 1 : Nat) : Int) := by omega
    rw [e3, e4]
theorem k_sPartNo : Ev fun n => ∀ w o : Int, ¬ fin w o → c_s_BitPartOf ((C B).run n) w o = some (false, (0, (0, (false, ())))) := by
  refine ((k_sBitOk (B := B)).and (k_sTop' (B := B))).succ fun n hn ⟨hB, hT⟩ w o hf => ?_
  rw [run_succ, e_s_BitPartOf]
  unfold p_s_BitPartOf
  rw [hB, hT]
  simp only [Option.bind_some, ineg_top]
  cases hb : bok w o
  · simp
  · obtain ⟨h1, h2, h3⟩ := bok_iff.1 hb
    simp only [Bool.not_true, cond_false]
    by_cases h4 : o = top w
    · have : (o == top w) = true := by simpa using h4
      simp [this]
    · rw [beq_f h4]
      have h5 : o = -top w := by
        by_cases h5 : o = -top w
        · exact h5
        · exact absurd ⟨h1, by omega, by omega⟩ hf
      have : (o == -top w) = true := by simpa using h5
      simp [this]
theorem k_sOfF : Ev fun n => ∀ w o : Int, fin w o → ∃ p q : Nat, c_s_l8Of ((C B).run n) w o = some (decide (o < 0), (dig p, (dig q, ()))) ∧ q ≠ 0 ∧ mkRat (sg (decide (o < 0)) p) q = fv w o ∧ (dig p).length ≤ 128 ∧ (dig q).length ≤ 128 ∧ (p = 0 ↔ o = 0) := by
  refine ((k_sPart (B := B)).and ((k_sNatOf (B := B)).and ((k_sPow2 (B := B)).and (k_sMul (B := B))))).succ fun n hn ⟨hP, hO, hP2, hM⟩ w o hf => ?_
  rw [run_succ, e_s_l8Of]
  unfold p_s_l8Of
  rw [hP w o hf]
  have hs := sz_lt w o
  have hsh := shf_lt hf
  have hsh2 := shf_sub hf
  have hll : lst w ≤ 1074 := by unfold lst; split <;> omega
  have hval : fI w o = sg (decide (o < 0)) (sz w o * 2 ^ shf w o) := fI_sg w o
  have hz : sz w o = 0 ↔ o = 0 := by
    have h1 := @fI_lt w o 0
    have h2 := @fI_lt w 0 o
    have h0 : fI w 0 = 0 := by simp [fI, fN_zero]
    rw [h0, hval] at h1 h2
    have hp : 2 ^ shf w o ≠ 0 := pow2_ne _
    constructor
    · intro h
      rw [h, Nat.zero_mul, sg_zero] at h1 h2
      omega
    · intro h
      have h00 : fI w o = 0 := by rw [h, h0]
      rw [h00] at hval
      have : sz w o * 2 ^ shf w o = 0 := by
        have := congrArg Int.natAbs hval
        rw [sg_natAbs] at this
        simpa using this.symm
      rcases Nat.mul_eq_zero.1 this with h3 | h3
      · exact h3
      · exact absurd h3 hp
  simp only [Option.bind_some]
  rw [hO _ (by omega)]
  simp only [Option.bind_some, ile_iff]
  have hszl : (dig (sz w o)).length ≤ 4 := dig_len_le.2 (by omega)
  by_cases hp : lst w ≤ shf w o
  · obtain ⟨k, hk⟩ : ∃ k, shf w o = lst w + k := ⟨shf w o - lst w, by omega⟩
    have e1 : -(lst w : Int) + (shf w o : Int) = (k : Int) := by omega
    rw [e1]
    simp only [show (0 : Int) ≤ (k : Int) by omega, decide_true, cond_true]
    rw [hP2 k (by omega)]
    have hkl : (dig (2 ^ k)).length ≤ 61 := Nat.le_trans (dig_len_pow k) (by omega)
    simp only [Option.bind_some]
    rw [hM _ _ (by omega) (by omega)]
    simp only [Option.bind_some, jb_inr]
    have hone : [(1 : Int)] = dig 1 := (dig_of_lt (d := 1) (by omega) (by omega)).symm
    rw [hone]
    refine ⟨sz w o * 2 ^ k, 1, rfl, by omega, ?_, ?_, by rw [dig_of_lt (by omega) (by omega)]; simp, ?_⟩
    · rw [fv, hval, hk, Nat.pow_add, Nat.mul_left_comm]
      have h2 : sg (decide (o < 0)) (2 ^ lst w * (sz w o * 2 ^ k)) = ((2 ^ lst w : Nat) : Int) * sg (decide (o < 0)) (sz w o * 2 ^ k) := by
        cases decide (o < 0)
        · simp only [sg, Bool.false_eq_true, if_false]; rw [Int.natCast_mul]
        · simp only [sg, if_true]; rw [Int.natCast_mul, Int.mul_neg]
      rw [h2, ← Rat.mkRat_mul_left (n := sg (decide (o < 0)) (sz w o * 2 ^ k)) (d := 1) (pow2_ne (lst w)), Nat.mul_one]
    · have := len_dig_mul (sz w o) (2 ^ k); omega
    · rw [Nat.mul_eq_zero, ← hz]
      have := pow2_ne k
      constructor
      · intro h; exact h.resolve_right this
      · intro h; exact .inl h
  · obtain ⟨k, hk⟩ : ∃ k, lst w = shf w o + k := ⟨lst w - shf w o, by omega⟩
    have e1 : -(lst w : Int) + (shf w o : Int) = -(k : Int) := by omega
    rw [e1]
    simp only [show ¬ (0 : Int) ≤ -(k : Int) by omega, decide_false, cond_false]
    rw [ineg_eq (by omega) (by omega), Int.neg_neg, hP2 k (by omega)]
    simp only [Option.bind_some, jb_inr]
    refine ⟨sz w o, 2 ^ k, rfl, pow2_ne k, ?_, by omega, ?_, hz⟩
    · rw [fv, hval, hk]
      have h2 : sg (decide (o < 0)) (sz w o * 2 ^ shf w o) = sg (decide (o < 0)) (sz w o) * ((2 ^ shf w o : Nat) : Int) := by
        cases decide (o < 0)
        · simp only [sg, Bool.false_eq_true, if_false]; rw [Int.natCast_mul]
        · simp only [sg, if_true]; rw [Int.natCast_mul, Int.neg_mul]
      rw [h2, Nat.pow_add, Nat.mul_comm (2 ^ shf w o), Rat.mkRat_mul_right (pow2_ne _)]
    · exact Nat.le_trans (dig_len_pow k) (by omega)
theorem k_sCmpN : Ev fun n => ∀ (b1 b2 : Bool) (p1 q1 p2 q2 : Nat), q1 ≠ 0 → q2 ≠ 0 → (dig p1).length ≤ 134217728 → (dig q1).length ≤ 134217728 → (dig p2).length ≤ 134217728 → (dig q2).length ≤ 134217728 →
    c_s_l8Cmp ((C B).run n) b1 (dig p1) (dig q1) b2 (dig p2) (dig q2) = some (cmpR (mkRat (sg b1 p1) q1) (mkRat (sg b2 p2) q2), ()) := by
  refine ((k_sMul (B := B)).and (k_sCmp (B := B))).succ fun n hn ⟨hM, hC⟩ b1 b2 p1 q1 p2 q2 h1 h2 l1 l2 l3 l4 => ?_
  rw [run_succ, e_s_l8Cmp]
  unfold p_s_l8Cmp
  have m1 := len_dig_mul p1 q2
  have m2 := len_dig_mul p2 q1
  rw [hM _ _ (by omega) (by omega)]
  simp only [Option.bind_some]
  rw [hM _ _ (by omega) (by omega)]
  simp only [Option.bind_some, len_zero_iff, lt_len_iff]
  rw [cmpR_mk h1 h2]
  have e1 : sg b1 p1 * q2 = sg b1 (p1 * q2) := by cases b1 <;> simp [sg, Int.neg_mul]
  have e2 : sg b2 p2 * q1 = sg b2 (p2 * q1) := by cases b2 <;> simp [sg, Int.neg_mul]
  rw [e1, e2]
  generalize p1 * q2 = x at *
  generalize p2 * q1 = y at *
  have hx : (dig x).isEmpty = decide (x = 0) := by
    by_cases h : x = 0
    · subst h; simp
    · rw [decide_eq_false h]; simpa using mt dig_eq_nil.1 h
  have hy : (dig y).isEmpty = decide (y = 0) := by
    by_cases h : y = 0
    · subst h; simp
    · rw [decide_eq_false h]; simpa using mt dig_eq_nil.1 h
  rw [hx, hy]
  have hc1 := hC x y (by omega) (by omega)
  have hc2 := hC y x (by omega) (by omega)
  by_cases hx0 : x = 0
  · subst hx0
    by_cases hy0 : y = 0
    · subst hy0; cases b1 <;> cases b2 <;> simp [sg]
    · rw [dig_zero] at hc1
      cases b1 <;> cases b2 <;> simp [hy, hy0, sg, hc1, cmp3] <;> (repeat' split) <;> first | rfl | omega
  · by_cases hy0 : y = 0
    · subst hy0
      rw [dig_zero] at hc1
      cases b1 <;> cases b2 <;> simp [hx, hx0, sg, hc1, cmp3] <;> (repeat' split) <;> first | rfl | omega
    · cases b1 <;> cases b2 <;> simp [hx, hy, hx0, hy0, sg, hc1, hc2, cmp3] <;> (repeat' split) <;> first | rfl | omega
end Go.Px.Seat
