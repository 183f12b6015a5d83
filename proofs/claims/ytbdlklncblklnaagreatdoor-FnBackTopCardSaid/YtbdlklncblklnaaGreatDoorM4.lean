/- Own texts, part M4: PmL PmM PmO PmP PmQ PmR PmS PmSf. -/
import Derived.Test.YtbdlklncblklnaaGreatDoorM3
set_option linter.unusedVariables false

/- Floats and spans as numbers. No program here. -/
namespace Pm

def wd (w : Int) : Bool := decide (w = 32 ∨ w = 64)
def top (w : Int) : Int := if w = 32 then 2139095040 else if w = 64 then 9218868437227405312 else 0
def bok (w o : Int) : Bool := wd w && decide (-top w ≤ o ∧ o ≤ top w)
def pok (w lo hi : Int) : Bool := bok w lo && (bok w hi && decide (lo ≤ hi ∧ lo < top w ∧ -top w < hi))
abbrev Sp := Bool × (Int × (Int × Unit))
def sp (lo hi : Int) : Sp := (true, (lo, (hi, ())))
def spn : Sp := (false, (0, (0, ())))
def spk (w : Int) (s : Sp) : Bool := if s.1 = true then pok w s.2.1 s.2.2.1 else wd w && decide (s.2.1 = 0 ∧ s.2.2.1 = 0)
def both (w : Int) (a b : Sp) : Bool := (spk w a && spk w b) && (a.1 && b.1)
def meet (w : Int) (a b : Sp) : Sp := if both w a b = true ∧ max a.2.1 b.2.1 ≤ min a.2.2.1 b.2.2.1 then sp (max a.2.1 b.2.1) (min a.2.2.1 b.2.2.1) else spn
theorem top_nonneg (w : Int) : 0 ≤ top w ∧ top w ≤ 9218868437227405312 := by unfold top; split <;> (try split) <;> omega
theorem top_pos {w : Int} (h : wd w = true) : 2139095040 ≤ top w := by
  unfold wd at h
  have h := of_decide_eq_true h
  unfold top
  rcases h with h | h <;> simp [h]
theorem bok_iff {w o : Int} : bok w o = true ↔ wd w = true ∧ -top w ≤ o ∧ o ≤ top w := by simp [bok]
theorem pok_iff {w lo hi : Int} : pok w lo hi = true ↔ wd w = true ∧ -top w ≤ lo ∧ lo < top w ∧ -top w < hi ∧ hi ≤ top w ∧ lo ≤ hi := by
  simp only [pok, Bool.and_eq_true, bok_iff, decide_eq_true_eq]
  constructor
  · rintro ⟨⟨h1, h2, h3⟩, ⟨_, h4, h5⟩, h6, h7, h8⟩
    exact ⟨h1, h2, h7, h8, h5, h6⟩
  · rintro ⟨h1, h2, h3, h4, h5, h6⟩
    exact ⟨⟨h1, h2, by omega⟩, ⟨h1, by omega, h5⟩, h6, h3, h4⟩
theorem spk_sp {w lo hi : Int} : spk w (sp lo hi) = pok w lo hi := rfl

/-! ### Values -/
def frw (w : Int) : Nat := if w = 32 then 23 else 52
def lst (w : Int) : Nat := if w = 32 then 149 else 1074
/-- the value of a float from 0 on, in least floats -/
def fN (F m : Nat) : Nat := if m / 2 ^ F = 0 then m % 2 ^ F else (m % 2 ^ F + 2 ^ F) * 2 ^ (m / 2 ^ F - 1)
theorem fN_succ (F m : Nat) : fN F m < fN F (m + 1) := by
  have hU : 0 < 2 ^ F := Nat.pow_pos (by decide)
  unfold fN
  generalize 2 ^ F = U at *
  have h1 := Nat.div_add_mod m U
  have h2 := Nat.mod_lt m hU
  by_cases h : m % U + 1 < U
  · have e1 : (m + 1) / U = m / U := by
      conv => lhs; rw [← h1]
      rw [Nat.add_assoc, Nat.mul_add_div hU, Nat.div_eq_of_lt h, Nat.add_zero]
    have e2 : (m + 1) % U = m % U + 1 := by
      conv => lhs; rw [← h1]
      rw [Nat.add_assoc, Nat.mul_add_mod, Nat.mod_eq_of_lt h]
    rw [e1, e2]
    split
    · omega
    · exact Nat.mul_lt_mul_of_pos_right (by omega) (Nat.pow_pos (by decide))
  · have h3 : m % U + 1 = U := by omega
    have e0 : m + 1 = U * (m / U + 1) := by rw [Nat.mul_add, Nat.mul_one]; omega
    have e1 : (m + 1) / U = m / U + 1 := by rw [e0, Nat.mul_div_cancel_left _ hU]
    have e2 : (m + 1) % U = 0 := by rw [e0, Nat.mul_mod_right]
    rw [e1, e2]
    clear e0 e1 e2 h1
    generalize m / U = d at *
    rw [if_neg (show ¬ d + 1 = 0 by omega), Nat.zero_add, Nat.add_sub_cancel]
    split
    · rename_i h0
      rw [h0, Nat.pow_zero]; omega
    · rename_i h0
      obtain ⟨e, he⟩ : ∃ e, d = e + 1 := ⟨d - 1, by omega⟩
      rw [he, Nat.add_sub_cancel, Nat.pow_succ, Nat.mul_comm (2 ^ e) 2, ← Nat.mul_assoc]
      exact Nat.mul_lt_mul_of_pos_right (by omega) (Nat.pow_pos (by decide))
theorem fN_mono (F : Nat) : ∀ {a b : Nat}, a < b → fN F a < fN F b
  | a, b + 1, h => by
    rcases Nat.lt_or_ge a b with h1 | h1
    · exact Nat.lt_trans (fN_mono F h1) (fN_succ F b)
    · have : a = b := by omega
      subst this; exact fN_succ F a
theorem fN_lt {F a b : Nat} : fN F a < fN F b ↔ a < b := by
  constructor
  · intro h
    rcases Nat.lt_trichotomy a b with h1 | h1 | h1
    · exact h1
    · subst h1; omega
    · have := fN_mono F h1; omega
  · exact fN_mono F
theorem fN_zero (F : Nat) : fN F 0 = 0 := by simp [fN]
/-- the value of a float, in least floats -/
def fI (w o : Int) : Int := if o < 0 then -(fN (frw w) o.natAbs : Int) else fN (frw w) o.natAbs
theorem fI_neg (w o : Int) : fI w (-o) = -fI w o := by
  unfold fI
  rcases Int.lt_trichotomy o 0 with h | h | h
  · rw [if_neg (by omega), if_pos h, Int.natAbs_neg, Int.neg_neg]
  · subst h; simp [fN_zero]
  · rw [if_pos (by omega), if_neg (by omega), Int.natAbs_neg]
theorem fI_lt {w a b : Int} : fI w a < fI w b ↔ a < b := by
  unfold fI
  have h1 := @fN_lt (frw w) a.natAbs b.natAbs
  have h2 := @fN_lt (frw w) b.natAbs a.natAbs
  have h3 := @fN_lt (frw w) 0 b.natAbs
  have h4 := @fN_lt (frw w) 0 a.natAbs
  rw [fN_zero] at h3 h4
  split <;> split <;> omega
theorem fI_le {w a b : Int} : fI w a ≤ fI w b ↔ a ≤ b := by
  have := @fI_lt w b a
  omega
def fv (w o : Int) : Rat := mkRat (fI w o) (2 ^ lst w)
theorem pow2_ne (k : Nat) : (2 : Nat) ^ k ≠ 0 := Nat.ne_of_gt (Nat.pow_pos (by decide))
theorem mk_lt {a b : Int} {q : Nat} (h : q ≠ 0) : mkRat a q < mkRat b q ↔ a < b := by
  have hq : (0 : Rat) < (q : Rat) := Rat.natCast_pos.2 (Nat.pos_of_ne_zero h)
  rw [Rat.mkRat_eq_div, Rat.mkRat_eq_div, Rat.div_lt_iff hq, Rat.div_mul_cancel (by grind), Rat.intCast_lt_intCast]
theorem mk_le {a b : Int} {q : Nat} (h : q ≠ 0) : mkRat a q ≤ mkRat b q ↔ a ≤ b := by
  have h1 := @mk_lt b a q h
  have h2 := @Rat.not_lt (mkRat b q) (mkRat a q)
  rw [h1] at h2
  constructor
  · intro h3; have := h2.2 h3; omega
  · intro h3; exact h2.1 (by omega)
theorem fv_lt {w a b : Int} : fv w a < fv w b ↔ a < b := by rw [fv, fv, mk_lt (pow2_ne _), fI_lt]
theorem fv_le {w a b : Int} : fv w a ≤ fv w b ↔ a ≤ b := by rw [fv, fv, mk_le (pow2_ne _), fI_le]
theorem fv_neg (w o : Int) : fv w (-o) = -fv w o := by rw [fv, fv, fI_neg, Rat.neg_mkRat]
/-- is a number in a span's bounds? -/
def inn (w lo hi : Int) (f : Rat) : Bool := (decide (lo = -top w) || decide (fv w lo ≤ f)) && (decide (hi = top w) || decide (f ≤ fv w hi))
theorem inn_iff {w lo hi : Int} {f : Rat} : inn w lo hi f = true ↔ (lo = -top w ∨ fv w lo ≤ f) ∧ (hi = top w ∨ f ≤ fv w hi) := by simp [inn]

/-! ### Relations -/
def relS (w rel : Int) (a b : Sp) : Int :=
  if (spk w a && (spk w b && decide (rel = 1 ∨ rel = 2 ∨ rel = 3))) = false then 0
  else if (a.1 && b.1) = false then -1
  else
    let x := if rel = 2 then b else a
    let y := if rel = 2 then a else b
    if rel = 3 then if (meet w a b).1 = false then -1 else if a.2.1 = a.2.2.1 ∧ a.2.1 = b.2.1 ∧ a.2.2.1 = b.2.2.1 then 1 else 0
    else if x.2.2.1 ≤ y.2.1 then 1 else if y.2.2.1 < x.2.1 then -1 else 0
end Pm

/- Widths, pairs, spans: the program's and the reference's. -/
namespace Go.Px.Seat
open Go Pm
set_option linter.unusedVariables false
variable {B : Run}
theorem ineg_top (w : Int) : ineg .i64 (top w) = -top w := by
  have := top_nonneg w
  exact ineg_eq (by omega) (by omega)
theorem k_sWidth : Ev fun n => ∀ w : Int, c_s_l1Width ((C B).run n) w = some (wd w, ()) := by
  refine Ev.triv.succ fun n hn _ w => ?_
  rw [run_succ, e_s_l1Width]
  unfold p_s_l1Width
  simp only [jb_cond, jb_inr]
  by_cases h : w = 32
  · subst h; rfl
  · rw [beq_f h, cond_false, wd]
    by_cases h2 : w = 64
    · subst h2; rfl
    · rw [beq_f h2]; simp [h, h2]
theorem k_sTop' : Ev fun n => ∀ w : Int, c_s_BitTop ((C B).run n) w = some (top w, ()) := by
  refine Ev.triv.succ fun n hn _ w => ?_
  rw [run_succ, e_s_BitTop]
  unfold p_s_BitTop top
  by_cases h : w = 32
  · subst h; rfl
  · rw [beq_f h, cond_false, if_neg h]
    by_cases h2 : w = 64
    · subst h2; rfl
    · rw [beq_f h2, cond_false, if_neg h2]
theorem k_sBitOk : Ev fun n => ∀ w o : Int, c_s_BitOk ((C B).run n) w o = some (bok w o, ()) := by
  refine ((k_sWidth (B := B)).and (k_sTop' (B := B))).succ fun n hn ⟨hW, hT⟩ w o => ?_
  rw [run_succ, e_s_BitOk]
  unfold p_s_BitOk
  rw [hW, hT]
  simp only [Option.bind_some, ile_iff, ineg_top]
  unfold bok
  cases wd w
  · simp
  · by_cases h : -top w ≤ o <;> simp [h]
theorem k_sPairOk : Ev fun n => ∀ w lo hi : Int, c_s_PairOk ((C B).run n) w lo hi = some (pok w lo hi, ()) := by
  refine ((k_sBitOk (B := B)).and (k_sTop' (B := B))).succ fun n hn ⟨hB, hT⟩ w lo hi => ?_
  rw [run_succ, e_s_PairOk]
  unfold p_s_PairOk
  rw [hT, hB, hB]
  simp only [Option.bind_some, ile_iff, ilt_iff, ineg_top]
  unfold pok
  cases bok w lo
  · simp
  · cases bok w hi
    · simp
    · by_cases h : lo ≤ hi
      · by_cases h2 : lo < top w <;> simp [h, h2]
      · simp [h]
theorem k_sPair : Ev fun n => ∀ (s : Bool) (lo hi : Int), c_s_l9Pair ((C B).run n) s lo hi = some (lo, (hi, ())) := by
  refine Ev.triv.succ fun n hn _ s lo hi => ?_
  rw [run_succ, e_s_l9Pair]; rfl
theorem k_sOf : Ev fun n => ∀ (lo hi : Int), c_s_l9Of ((C B).run n) lo hi = some (sp lo hi) := by
  refine Ev.triv.succ fun n hn _ lo hi => ?_
  rw [run_succ, e_s_l9Of]; rfl
theorem k_sSpanOk : Ev fun n => ∀ (w : Int) (s : Bool) (lo hi : Int), c_s_SpanOk ((C B).run n) w s lo hi = some (spk w (s, (lo, (hi, ()))), ()) := by
  refine ((k_sWidth (B := B)).and ((k_sPair (B := B)).and (k_sPairOk (B := B)))).succ fun n hn ⟨hW, hP, hPk⟩ w s lo hi => ?_
  rw [run_succ, e_s_SpanOk]
  unfold p_s_SpanOk
  rw [hW, hP]
  simp only [Option.bind_some]
  rw [hPk]
  unfold spk
  cases s
  · simp only [Bool.not_false, cond_true, Bool.false_eq_true, if_false]
    cases wd w
    · simp
    · simp only [cond_true, Bool.true_and, jb_cond, jb_inr]
      by_cases h : lo = 0
      · subst h
        simp
        rfl
      · rw [beq_f h]; simp [h]
  · simp
theorem k_sBoth : Ev fun n => ∀ (w : Int) (a b : Sp), c_s_l9Both ((C B).run n) w a.1 a.2.1 a.2.2.1 b.1 b.2.1 b.2.2.1 = some (both w a b, ()) := by
  refine (k_sSpanOk (B := B)).succ fun n hn hS w a b => ?_
  rw [run_succ, e_s_l9Both]
  unfold p_s_l9Both
  rw [hS, hS]
  simp only [Option.bind_some]
  show _ = some (both w a b, ())
  unfold both
  have e1 : ∀ c : Sp, spk w (c.1, (c.2.1, (c.2.2.1, ()))) = spk w c := fun c => rfl
  rw [e1, e1]
  cases spk w a
  · simp
  · cases spk w b
    · simp
    · cases a.1 <;> simp
theorem k_sMax : Ev fun n => ∀ a b : Int, c_s_l3Max ((C B).run n) a b = some (max a b, ()) := by
  refine Ev.triv.succ fun n hn _ a b => ?_
  rw [run_succ, e_s_l3Max]
  unfold p_s_l3Max
  rw [ilt_iff]
  by_cases h : b < a
  · simp only [h, decide_true, cond_true]; congr 2; omega
  · simp only [h, decide_false, cond_false]; congr 2; omega
theorem k_sMin : Ev fun n => ∀ a b : Int, c_s_l3Min ((C B).run n) a b = some (min a b, ()) := by
  refine Ev.triv.succ fun n hn _ a b => ?_
  rw [run_succ, e_s_l3Min]
  unfold p_s_l3Min
  rw [ilt_iff]
  by_cases h : a < b
  · simp only [h, decide_true, cond_true]; congr 2; omega
  · simp only [h, decide_false, cond_false]; congr 2; omega
theorem k_sPairMeet : Ev fun n => ∀ w a b c d : Int, c_s_PairMeet ((C B).run n) w a b c d = some (if pok w a b = true ∧ pok w c d = true ∧ max a c ≤ min b d then (max a c, (min b d, (true, ()))) else (0, (0, (false, ())))) := by
  refine ((k_sMax (B := B)).and ((k_sMin (B := B)).and (k_sPairOk (B := B)))).succ fun n hn ⟨hMax, hMin, hP⟩ w a b c d => ?_
  rw [run_succ, e_s_PairMeet]
  unfold p_s_PairMeet
  rw [hMax, hMin, hP, hP]
  simp only [Option.bind_some, ilt_iff]
  cases pok w a b
  · simp
  · cases pok w c d
    · simp
    · by_cases h : max a c ≤ min b d
      · simp only [Bool.not_true, cond_false, jb_inr, show ¬ min b d < max a c by omega, decide_false, h, and_self, if_true]
      · simp only [Bool.not_true, cond_false, jb_inr, show min b d < max a c by omega, decide_true, cond_true, h, and_false, if_false]
theorem k_sMeet : Ev fun n => ∀ (w : Int) (a b : Sp), c_s_SpanMeet ((C B).run n) w a.1 a.2.1 a.2.2.1 b.1 b.2.1 b.2.2.1 = some (meet w a b) := by
  refine ((k_sBoth (B := B)).and ((k_sPair (B := B)).and ((k_sPairMeet (B := B)).and (k_sOf (B := B))))).succ fun n hn ⟨hB, hP, hM, hO⟩ w a b => ?_
  rw [run_succ, e_s_SpanMeet]
  unfold p_s_SpanMeet
  rw [hB]
  simp only [Option.bind_some]
  unfold meet
  cases hb : both w a b
  · simp; rfl
  · simp only [Bool.not_true, cond_false, true_and]
    rw [hP, hP]
    simp only [Option.bind_some]
    rw [hM]
    simp only [Option.bind_some]
    unfold both spk at hb
    simp only [Bool.and_eq_true] at hb
    obtain ⟨⟨h1, h2⟩, h3, h4⟩ := hb
    rw [if_pos h3] at h1
    rw [if_pos h4] at h2
    rw [h1, h2]
    by_cases h : max a.2.1 b.2.1 ≤ min a.2.2.1 b.2.2.1
    · simp only [h, and_self, if_true, Bool.not_true, cond_false]
      rw [hO]; rfl
    · simp only [h, and_false, if_false, Bool.not_false, cond_true]; rfl

/-! the program's -/
def fmt (w : Int) : Int × (Int × (Int × (Int × (Bool × Unit)))) := if w = 32 then (23, ((-149), (127, (2139095040, (true, ()))))) else if w = 64 then (52, ((-1074), (1023, (9218868437227405312, (true, ()))))) else (0, (0, (0, (0, (false, ())))))
theorem fmt_top (w : Int) : (fmt w).2.2.2.1 = top w := by unfold fmt top; split <;> (try split) <;> rfl
theorem fmt_wd (w : Int) : (fmt w).2.2.2.2.1 = wd w := by
  unfold fmt wd
  split
  · rename_i h; simp [h]
  · split
    · rename_i h; simp [h]
    · rename_i h1 h2; simp [h1, h2]
theorem k_fmt : Ev fun n => ∀ w : Int, c_i_formatOf ((C B).run n) w = some (fmt w) := by
  refine Ev.triv.succ fun n hn _ w => ?_
  rw [run_succ, e_i_formatOf]
  unfold p_i_formatOf fmt
  by_cases h : w = 32
  · subst h; rfl
  · rw [beq_f h, cond_false, if_neg h]
    by_cases h2 : w = 64
    · subst h2; rfl
    · rw [beq_f h2, cond_false, if_neg h2]
theorem k_BitTop : Ev fun n => ∀ w : Int, c_i_BitTop ((C B).run n) w = some (top w, ()) := by
  refine (k_fmt (B := B)).succ fun n hn hF w => ?_
  rw [run_succ, e_i_BitTop]
  unfold p_i_BitTop
  rw [hF]
  simp only [Option.bind_some, fmt_top]
theorem k_BitOk : Ev fun n => ∀ w o : Int, c_i_BitOk ((C B).run n) w o = some (bok w o, ()) := by
  refine ((k_fmt (B := B)).and (k_in (B := B))).succ fun n hn ⟨hF, hI⟩ w o => ?_
  rw [run_succ, e_i_BitOk]
  unfold p_i_BitOk
  rw [hF]
  simp only [Option.bind_some, fmt_top, fmt_wd, ineg_top]
  rw [hI]
  unfold bok
  cases wd w <;> simp
theorem k_PairOk : Ev fun n => ∀ w lo hi : Int, c_i_PairOk ((C B).run n) w lo hi = some (pok w lo hi, ()) := by
  refine ((k_BitOk (B := B)).and (k_BitTop (B := B))).succ fun n hn ⟨hB, hT⟩ w lo hi => ?_
  rw [run_succ, e_i_PairOk]
  unfold p_i_PairOk
  rw [hT, hB, hB]
  simp only [Option.bind_some, ile_iff, ineg_top]
  cases h1 : bok w lo
  · simp [pok, h1]
  · cases h2 : bok w hi
    · simp [pok, h1, h2]
    · obtain ⟨a1, a2, a3⟩ := bok_iff.1 h1
      obtain ⟨b1, b2, b3⟩ := bok_iff.1 h2
      unfold pok
      rw [h1, h2]
      simp only [cond_true, Bool.true_and]
      by_cases h : lo ≤ hi
      · by_cases h3 : lo = top w
        · have e1 : (lo != top w) = false := by simp [h3]
          simp only [h, decide_true, cond_true, e1, cond_false, jb_inr]
          congr 2
          exact (decide_eq_false (by omega)).symm
        · have e1 : (lo != top w) = true := by simpa using h3
          simp only [h, decide_true, cond_true, e1, jb_inr]
          congr 2
          rw [Bool.eq_iff_iff, bne_iff_ne, decide_eq_true_iff]
          constructor
          · intro h4
            refine ⟨trivial, by omega, ?_⟩
            have h5 : hi ≠ -top w := h4
            omega
          · rintro ⟨_, _, h4⟩ h5
            omega
      · simp [h]
theorem k_SpanOk : Ev fun n => ∀ (w : Int) (s : Bool) (lo hi : Int), c_i_SpanOk ((C B).run n) w s lo hi = some (spk w (s, (lo, (hi, ()))), ()) := by
  refine ((k_fmt (B := B)).and (k_PairOk (B := B))).succ fun n hn ⟨hF, hP⟩ w s lo hi => ?_
  rw [run_succ, e_i_SpanOk]
  unfold p_i_SpanOk
  rw [hF]
  simp only [Option.bind_some, fmt_wd]
  rw [hP]
  unfold spk
  cases hw : wd w
  · have : pok w lo hi = false := by
      cases hp : pok w lo hi
      · rfl
      · have := (pok_iff.1 hp).1
        rw [hw] at this; cases this
    cases s <;> simp [this]
  · cases s
    · simp only [cond_true, cond_false, jb_inr, Bool.false_eq_true, if_false, Bool.true_and]
      congr 2
      rw [Bool.eq_iff_iff]
      simp [beqB]
    · simp only [cond_true, Option.bind_some, if_true]
      cases hp : pok w lo hi
      · simp [beqB]
      · simp
theorem k_full : Ev fun n => ∀ (w : Int) (l : List Sp), l.length ≤ 1073741824 → c_i_full ((C B).run n) w l = some (l.all fun s => s.1 && spk w s, ()) := by
  refine (k_SpanOk (B := B)).succ fun n hn hS w l hl => ?_
  rw [run_succ, e_i_full]
  unfold p_i_full
  simp only [len_eq]
  refine iter_const (fun p => ∃ i : Nat, p = (((i : Int), ((l.length : Int), (l, (w, (false, ()))))), ()) ∧ i ≤ l.length ∧ (l.take i).all (fun s => s.1 && spk w s) = true) (fun p => l.length - p.1.1.toNat)
      _ ?_ n _ (by simp only; omega) ⟨0, rfl, by omega, by simp⟩
  rintro rec _ ⟨i, rfl, hi, ha⟩ ih
  simp only [ilt_iff]
  by_cases hil : i < l.length
  · simp only [show (i : Int) < (l.length : Int) by omega, decide_true, cond_true]
    rw [ok_of (inB_true (by omega) (by omega)), Int.toNat_natCast, hS]
    simp only [Option.bind_some]
    have hx := getD_some (α := Sp) (false, (0, (0, ()))) hil
    have hmem := List.mem_of_getElem? hx
    have e1 : ∀ c : Sp, spk w (c.1, (c.2.1, (c.2.2.1, ()))) = spk w c := fun c => rfl
    rw [e1]
    generalize List.getD l i (false, (0, (0, ()))) = a at *
    have hbad : (a.1 && spk w a) = false → (l.all fun s => s.1 && spk w s) = false := fun hb => List.all_eq_false.2 ⟨_, hmem, by rw [hb]; simp⟩
    cases h1 : a.1
    · rw [hbad (by rw [h1]; rfl)]
      simp
    · cases h2 : spk w a
      · rw [hbad (by rw [h1, h2]; rfl)]
        simp
      · simp only [Bool.not_true, cond_false, jb_inr]
        rw [iadd_eq (by omega) (by omega)]
        refine ih _ ⟨i + 1, by simp, by omega, ?_⟩ (by simp only; omega)
        rw [List.take_add_one, hx, List.all_append, ha]
        simp [h1, h2]
  · have : i = l.length := by omega
    subst this
    simp only [show ¬ ((l.length : Nat) : Int) < (l.length : Int) by omega, decide_false, cond_false]
    rw [List.take_length] at ha
    rw [ha]
theorem k_some : Ev fun n => ∀ (lo hi : Int), c_i_some ((C B).run n) lo hi = some (sp lo hi) := by
  refine Ev.triv.succ fun n hn _ lo hi => ?_
  rw [run_succ, e_i_some]; rfl
theorem k_from : Ev fun n => ∀ (w lo : Int), c_i_from ((C B).run n) w lo = some (sp lo (top w)) := by
  refine ((k_some (B := B)).and (k_BitTop (B := B))).succ fun n hn ⟨hS, hT⟩ w lo => ?_
  rw [run_succ, e_i_from]
  unfold p_i_from
  rw [hT]
  simp only [Option.bind_some]
  rw [hS]; rfl
theorem full_two (w : Int) (a b : Sp) : ([a, b].all fun s => s.1 && spk w s) = both w a b := by
  simp only [List.all_cons, List.all_nil, Bool.and_true, both]
  cases a.1 <;> cases b.1 <;> cases spk w a <;> cases spk w b <;> rfl
theorem meet_pok {w : Int} {a b : Sp} (h : both w a b = true) : pok w (max a.2.1 b.2.1) (min a.2.2.1 b.2.2.1) = decide (max a.2.1 b.2.1 ≤ min a.2.2.1 b.2.2.1) := by
  unfold both spk at h
  simp only [Bool.and_eq_true] at h
  obtain ⟨⟨h1, h2⟩, h3, h4⟩ := h
  rw [if_pos h3] at h1
  rw [if_pos h4] at h2
  obtain ⟨a1, a2, a3, a4, a5, a6⟩ := pok_iff.1 h1
  obtain ⟨b1, b2, b3, b4, b5, b6⟩ := pok_iff.1 h2
  rw [Bool.eq_iff_iff, pok_iff, decide_eq_true_iff]
  constructor
  · rintro ⟨_, _, _, _, _, h⟩; exact h
  · intro h
    exact ⟨a1, by omega, by omega, by omega, by omega, h⟩
theorem k_Meet : Ev fun n => ∀ (w : Int) (a b : Sp), c_i_SpanMeet ((C B).run n) w a.1 a.2.1 a.2.2.1 b.1 b.2.1 b.2.2.1 = some (meet w a b) := by
  refine ((k_full (B := B)).and ((k_some (B := B)).and (k_SpanOk (B := B)))).succ fun n hn ⟨hF, hO, hS⟩ w a b => ?_
  rw [run_succ, e_i_SpanMeet]
  unfold p_i_SpanMeet
  have e2 : ∀ a b : Sp, [(a.1, (a.2.1, (a.2.2.1, ()))), (b.1, (b.2.1, (b.2.2.1, ())))] = [a, b] := fun a b => rfl
  rw [e2, hF _ _ (by simp), full_two]
  simp only [Option.bind_some]
  unfold meet
  cases hb : both w a b
  · simp; rfl
  · simp only [Bool.not_true, cond_false, true_and]
    rw [hO]
    simp only [Option.bind_some, sp]
    rw [hS]
    simp only [Option.bind_some, imax, imin]
    have : spk w (true, (max a.2.1 b.2.1, (min a.2.2.1 b.2.2.1, ()))) = pok w (max a.2.1 b.2.1) (min a.2.2.1 b.2.2.1) := rfl
    rw [this, meet_pok hb]
    by_cases h : max a.2.1 b.2.1 ≤ min a.2.2.1 b.2.2.1
    · simp only [h, decide_true, Bool.not_true, cond_false, if_true]
    · simp only [h, decide_false, Bool.not_false, cond_true, if_false]; rfl
end Go.Px.Seat

/- Values of floats: the reference's. -/
namespace Pm
theorem mk_lt2 {a b : Int} {q1 q2 : Nat} (h1 : q1 ≠ 0) (h2 : q2 ≠ 0) : mkRat a q1 < mkRat b q2 ↔ a * q2 < b * q1 := by
  rw [← Rat.mkRat_mul_right (n := a) (d := q1) h2, ← Rat.mkRat_mul_right (n := b) (d := q2) h1, Nat.mul_comm q2 q1, mk_lt (Nat.mul_ne_zero h1 h2)]
theorem cmpR_mk {a b : Int} {q1 q2 : Nat} (h1 : q1 ≠ 0) (h2 : q2 ≠ 0) : cmpR (mkRat a q1) (mkRat b q2) = if a * q2 < b * q1 then -1 else if b * q1 < a * q2 then 1 else 0 := by
  unfold cmpR
  simp only [mk_lt2 h1 h2, mk_lt2 h2 h1]
/-- a float's digits -/
def sz (w o : Int) : Nat := if o.natAbs / 2 ^ frw w = 0 then o.natAbs % 2 ^ frw w else o.natAbs % 2 ^ frw w + 2 ^ frw w
/-- and how far they are shifted from the least -/
def shf (w o : Int) : Nat := o.natAbs / 2 ^ frw w - 1
theorem sz_shf (w o : Int) : fN (frw w) o.natAbs = sz w o * 2 ^ shf w o := by
  unfold fN sz shf
  split
  · rename_i h
    rw [h]; simp
  · rfl
theorem frw_le (w : Int) : frw w ≤ 52 := by unfold frw; split <;> omega
theorem sz_lt (w o : Int) : sz w o < 9007199254740992 := by
  have h1 := frw_le w
  have h2 : 2 ^ frw w ≤ 2 ^ 52 := Nat.pow_le_pow_right (by decide) h1
  have h3 := Nat.mod_lt o.natAbs (show 0 < 2 ^ frw w from Nat.pow_pos (by decide))
  unfold sz
  simp only [Nat.reducePow] at h2
  split <;> omega
/-- finite floats -/
def fin (w o : Int) : Prop := wd w = true ∧ -top w < o ∧ o < top w
theorem shf_lt {w o : Int} (h : fin w o) : shf w o < 2046 := by
  obtain ⟨h1, h2, h3⟩ := h
  unfold shf
  have : o.natAbs / 2 ^ frw w < 2047 := by
    rw [Nat.div_lt_iff_lt_mul (Nat.pow_pos (by decide))]
    have hw := of_decide_eq_true h1
    rcases hw with hw | hw <;> subst hw <;> simp only [frw, top, if_true, if_false, show ¬ ((64 : Int) = 32) by omega, Nat.reducePow] at * <;> omega
  omega
theorem shf_sub {w o : Int} (h : fin w o) : shf w o ≤ lst w + 971 := by
  obtain ⟨h1, h2, h3⟩ := h
  have hw := of_decide_eq_true h1
  rcases hw with hw | hw
  · subst hw
    have : o.natAbs / 2 ^ 23 < 255 := by
      rw [Nat.div_lt_iff_lt_mul (Nat.pow_pos (by decide))]
      simp only [top, if_true] at *
      omega
    simp only [shf, frw, lst, if_true]
    omega
  · subst hw
    have : o.natAbs / 2 ^ 52 < 2047 := by
      rw [Nat.div_lt_iff_lt_mul (Nat.pow_pos (by decide))]
      simp only [top, show ¬ ((64 : Int) = 32) by omega, if_false, if_true] at *
      omega
    simp only [shf, frw, lst, show ¬ ((64 : Int) = 32) by omega, if_false]
    omega
theorem fI_sg (w o : Int) : fI w o = sg (decide (o < 0)) (sz w o * 2 ^ shf w o) := by
  unfold fI
  rw [sz_shf]
  by_cases h : o < 0
  · rw [if_pos h, decide_eq_true h]; rfl
  · rw [if_neg h, decide_eq_false h]; rfl
theorem dig_len_pow (k : Nat) : (dig (2 ^ k)).length ≤ k / 16 + 1 := by
  rw [dig_len_le, pow_base]
  exact Nat.pow_lt_pow_right (by decide) (by omega)
end Pm
namespace Go.Px.Seat
open Go Pm
set_option linter.unusedVariables false
variable {B : Run}
theorem k_sFrac : Ev fun n => ∀ w : Int, c_s_l1Frac ((C B).run n) w = some ((frw w : Int), ()) := by
  refine Ev.triv.succ fun n hn _ w => ?_
  rw [run_succ, e_s_l1Frac]
  unfold p_s_l1Frac frw
  by_cases h : w = 32
  · subst h; rfl
  · rw [beq_f h, cond_false, if_neg h]; rfl
theorem k_sLeast : Ev fun n => ∀ w : Int, c_s_l1Least ((C B).run n) w = some (-(lst w : Int), ()) := by
  refine Ev.triv.succ fun n hn _ w => ?_
  rw [run_succ, e_s_l1Least]
  unfold p_s_l1Least lst
  by_cases h : w = 32
  · subst h; rfl
  · rw [beq_f h, cond_false, if_neg h]; rfl
theorem shl_one (k : Nat) (h : k ≤ 62) : ishl .i64 1 (k : Int) = ((2 ^ k : Nat) : Int) := by
  have h62 : (2 : Nat) ^ k ≤ 2 ^ 62 := Nat.pow_le_pow_right (by decide) h
  have e : (1 : Int) * 2 ^ k = ((2 ^ k : Nat) : Int) := by simp
  simp only [Nat.reducePow] at h62
  generalize (2 ^ k : Nat) = p at *
  rw [ishl_eq (by omega) (by rw [e]; omega) (by rw [e]; omega), e]
theorem k_sPart : Ev fun n => ∀ w o : Int, fin w o → c_s_BitPartOf ((C B).run n) w o = some (decide (o < 0), ((sz w o : Int), ((-(lst w : Int) + (shf w o : Int)), (true, ())))) := by
  refine ((k_sBitOk (B := B)).and ((k_sTop' (B := B)).and ((k_sLeast (B := B)).and (k_sFrac (B := B))))).succ fun n hn ⟨hB, hT, hL, hF⟩ w o hf => ?_
  rw [run_succ, e_s_BitPartOf]
  unfold p_s_BitPartOf
  obtain ⟨h1, h2, h3⟩ := hf
  have hb : bok w o = true := bok_iff.2 ⟨h1, by omega, by omega⟩
  have htn := top_nonneg w
  rw [hB, hb, hT]
  simp only [Option.bind_some, Bool.not_true, cond_false, beq_f (show ¬ o = top w by omega), ineg_top, beq_f (show ¬ o = -top w by omega), jb_inr]
  rw [hL]
  simp only [Option.bind_some, ilt_iff]
  refine (jb_of (p := ((w, ((o.natAbs : Int), ((), ((), (false, ()))))), ((decide (o < 0), (0, (-(lst w : Int), ()))), ((false, (0, (0, ()))), ())))) ?_ _).trans ?_
  · by_cases h : o < 0
    · simp only [h, decide_true, cond_true]
      rw [ineg_eq (by omega) (by omega), show -o = (o.natAbs : Int) by omega]
    · simp only [h, decide_false, cond_false]
      rw [show o = (o.natAbs : Int) by omega]
      rfl
  simp only []
  rw [hF]
  have hfl := frw_le w
  simp only [Option.bind_some]
  rw [wrapu64 (by omega) (by omega), shl_one _ (by omega), ok_of (by simp)]
  have hU : 0 < 2 ^ frw w := Nat.pow_pos (by decide)
  have hU2 : 2 ^ frw w ≤ 2 ^ 52 := Nat.pow_le_pow_right (by decide) hfl
  simp only [Nat.reducePow] at hU2
  unfold sz shf
  generalize hUU : 2 ^ frw w = U at *
  rw [ok_of (nz (by omega)), ok_of (nz (by omega)), iquo_eq (by omega) (by omega) (by omega), irem_eq (by omega)]
  have hm : o.natAbs % U < U := Nat.mod_lt _ hU
  have hll : lst w ≤ 1074 := by unfold lst; split <;> omega
  have e1 : (o.natAbs : Int) / (U : Int) = ((o.natAbs / U : Nat) : Int) := by norm_cast
  have e2 : (o.natAbs : Int) % (U : Int) = ((o.natAbs % U : Nat) : Int) := by norm_cast
  rw [e1, e2]
  have hdl : o.natAbs / U ≤ o.natAbs := Nat.div_le_self ..
  generalize o.natAbs / U = d at *
  generalize o.natAbs % U = r at *
  by_cases hd : d = 0
  · subst hd
    simp only [show ¬ (0 : Int) < ((0 : Nat) : Int) by omega, decide_false, cond_false, jb_inr, if_true]
    rw [wrapu64 (by omega) (by omega)]
    simp
  · simp only [show (0 : Int) < (d : Int) by omega, decide_true, cond_true, jb_inr, hd, if_false]
    rw [wrapu64 (x := (r : Int)) (by omega) (by omega), wrapu64 (x := (U : Int)) (by omega) (by omega), iadd, wrapu64 (by omega) (by omega), iadd_eq (by omega) (by omega), isub_eq (by omega) (by omega)]
    have e3 : (r : Int) + (U : Int) = ((r + U : Nat) : Int) := by omega
    have e4 : -(lst w : Int) + (d : Int) - 1 = -(lst w : Int) + ((d - 1 : Nat) : Int) := by omega
    rw [e3, e4]
theorem k_sOfF : Ev fun n => ∀ w o : Int, fin w o → ∃ p q : Nat, c_s_l8Of ((C B).run n) w o = some (decide (o < 0), (dig p, (dig q, ()))) ∧ q ≠ 0 ∧ mkRat (sg (decide (o < 0)) p) q = fv w o ∧ (dig p).length ≤ 128 ∧ (dig q).length ≤ 128 ∧ (p = 0 ↔ o = 0) := by
  refine ((k_sPart (B := B)).and ((k_sNatOf (B := B)).and ((k_sPow2 (B := B)).and (k_sMul (B := B))))).succ fun n hn ⟨hP, hO, hP2, hM⟩ w o hf => ?_
  rw [run_succ, e_s_l8Of]
  unfold p_s_l8Of
  rw [hP w o hf]
  have hs := sz_lt w o
  have hsh := shf_lt hf
  have hsh2 := shf_sub hf
  have hll : lst w ≤ 1074 := by unfold lst; split <;> omega
  have hval : fI w o = sg (decide (o < 0)) (sz w o * 2 ^ shf w o) := fI_sg w o
  have hz : sz w o = 0 ↔ o = 0 := by
    have h1 := @fI_lt w o 0
    have h2 := @fI_lt w 0 o
    have h0 : fI w 0 = 0 := by simp [fI, fN_zero]
    rw [h0, hval] at h1 h2
    have hp : 2 ^ shf w o ≠ 0 := pow2_ne _
    constructor
    · intro h
      rw [h, Nat.zero_mul, sg_zero] at h1 h2
      omega
    · intro h
      have h00 : fI w o = 0 := by rw [h, h0]
      rw [h00] at hval
      have : sz w o * 2 ^ shf w o = 0 := by
        have := congrArg Int.natAbs hval
        rw [sg_natAbs] at this
        simpa using this.symm
      rcases Nat.mul_eq_zero.1 this with h3 | h3
      · exact h3
      · exact absurd h3 hp
  simp only [Option.bind_some]
  rw [hO _ (by omega)]
  simp only [Option.bind_some, ile_iff]
  have hszl : (dig (sz w o)).length ≤ 4 := dig_len_le.2 (by omega)
  by_cases hp : lst w ≤ shf w o
  · obtain ⟨k, hk⟩ : ∃ k, shf w o = lst w + k := ⟨shf w o - lst w, by omega⟩
    have e1 : -(lst w : Int) + (shf w o : Int) = (k : Int) := by omega
    rw [e1]
    simp only [show (0 : Int) ≤ (k : Int) by omega, decide_true, cond_true]
    rw [hP2 k (by omega)]
    have hkl : (dig (2 ^ k)).length ≤ 61 := Nat.le_trans (dig_len_pow k) (by omega)
    simp only [Option.bind_some]
    rw [hM _ _ (by omega) (by omega)]
    simp only [Option.bind_some, jb_inr]
    have hone : [(1 : Int)] = dig 1 := (dig_of_lt (d := 1) (by omega) (by omega)).symm
    rw [hone]
    refine ⟨sz w o * 2 ^ k, 1, rfl, by omega, ?_, ?_, by rw [dig_of_lt (by omega) (by omega)]; simp, ?_⟩
    · rw [fv, hval, hk, Nat.pow_add, Nat.mul_left_comm]
      have h2 : sg (decide (o < 0)) (2 ^ lst w * (sz w o * 2 ^ k)) = ((2 ^ lst w : Nat) : Int) * sg (decide (o < 0)) (sz w o * 2 ^ k) := by
        cases decide (o < 0)
        · simp only [sg, Bool.false_eq_true, if_false]; rw [Int.natCast_mul]
        · simp only [sg, if_true]; rw [Int.natCast_mul, Int.mul_neg]
      rw [h2, ← Rat.mkRat_mul_left (n := sg (decide (o < 0)) (sz w o * 2 ^ k)) (d := 1) (pow2_ne (lst w)), Nat.mul_one]
    · have := len_dig_mul (sz w o) (2 ^ k); omega
    · rw [Nat.mul_eq_zero, ← hz]
      have := pow2_ne k
      constructor
      · intro h; exact h.resolve_right this
      · intro h; exact .inl h
  · obtain ⟨k, hk⟩ : ∃ k, lst w = shf w o + k := ⟨lst w - shf w o, by omega⟩
    have e1 : -(lst w : Int) + (shf w o : Int) = -(k : Int) := by omega
    rw [e1]
    simp only [show ¬ (0 : Int) ≤ -(k : Int) by omega, decide_false, cond_false]
    rw [ineg_eq (by omega) (by omega), Int.neg_neg, hP2 k (by omega)]
    simp only [Option.bind_some, jb_inr]
    refine ⟨sz w o, 2 ^ k, rfl, pow2_ne k, ?_, by omega, ?_, hz⟩
    · rw [fv, hval, hk]
      have h2 : sg (decide (o < 0)) (sz w o * 2 ^ shf w o) = sg (decide (o < 0)) (sz w o) * ((2 ^ shf w o : Nat) : Int) := by
        cases decide (o < 0)
        · simp only [sg, Bool.false_eq_true, if_false]; rw [Int.natCast_mul]
        · simp only [sg, if_true]; rw [Int.natCast_mul, Int.neg_mul]
      rw [h2, Nat.pow_add, Nat.mul_comm (2 ^ shf w o), Rat.mkRat_mul_right (pow2_ne _)]
    · exact Nat.le_trans (dig_len_pow k) (by omega)
theorem k_sCmpN : Ev fun n => ∀ (b1 b2 : Bool) (p1 q1 p2 q2 : Nat), q1 ≠ 0 → q2 ≠ 0 → (dig p1).length ≤ 134217728 → (dig q1).length ≤ 134217728 → (dig p2).length ≤ 134217728 → (dig q2).length ≤ 134217728 →
    c_s_l8Cmp ((C B).run n) b1 (dig p1) (dig q1) b2 (dig p2) (dig q2) = some (cmpR (mkRat (sg b1 p1) q1) (mkRat (sg b2 p2) q2), ()) := by
  refine ((k_sMul (B := B)).and (k_sCmp (B := B))).succ fun n hn ⟨hM, hC⟩ b1 b2 p1 q1 p2 q2 h1 h2 l1 l2 l3 l4 => ?_
  rw [run_succ, e_s_l8Cmp]
  unfold p_s_l8Cmp
  have m1 := len_dig_mul p1 q2
  have m2 := len_dig_mul p2 q1
  rw [hM _ _ (by omega) (by omega)]
  simp only [Option.bind_some]
  rw [hM _ _ (by omega) (by omega)]
  simp only [Option.bind_some, len_zero_iff, lt_len_iff]
  rw [cmpR_mk h1 h2]
  have e1 : sg b1 p1 * q2 = sg b1 (p1 * q2) := by cases b1 <;> simp [sg, Int.neg_mul]
  have e2 : sg b2 p2 * q1 = sg b2 (p2 * q1) := by cases b2 <;> simp [sg, Int.neg_mul]
  rw [e1, e2]
  generalize p1 * q2 = x at *
  generalize p2 * q1 = y at *
  have hx : (dig x).isEmpty = decide (x = 0) := by
    by_cases h : x = 0
    · subst h; simp
    · rw [decide_eq_false h]; simpa using mt dig_eq_nil.1 h
  have hy : (dig y).isEmpty = decide (y = 0) := by
    by_cases h : y = 0
    · subst h; simp
    · rw [decide_eq_false h]; simpa using mt dig_eq_nil.1 h
  rw [hx, hy]
  have hc1 := hC x y (by omega) (by omega)
  have hc2 := hC y x (by omega) (by omega)
  by_cases hx0 : x = 0
  · subst hx0
    by_cases hy0 : y = 0
    · subst hy0; cases b1 <;> cases b2 <;> simp [sg]
    · rw [dig_zero] at hc1
      cases b1 <;> cases b2 <;> simp [hy, hy0, sg, hc1, cmp3] <;> (repeat' split) <;> first | rfl | omega
  · by_cases hy0 : y = 0
    · subst hy0
      rw [dig_zero] at hc1
      cases b1 <;> cases b2 <;> simp [hx, hx0, sg, hc1, cmp3] <;> (repeat' split) <;> first | rfl | omega
    · cases b1 <;> cases b2 <;> simp [hx, hy, hx0, hy0, sg, hc1, hc2, cmp3] <;> (repeat' split) <;> first | rfl | omega
end Go.Px.Seat

/- Spans that hold numbers; sizes and rounding: the reference's. -/
namespace Pm
theorem fits_mk {b : Bool} {p q : Nat} (hq : q ≠ 0) (hp : p < 65536 ^ 256) (hq' : q < 65536 ^ 256) : fits (mkRat (sg b p) q) := by
  unfold fits
  rw [mk_num hq, mk_den hq, sg_natAbs]
  exact ⟨Nat.lt_of_le_of_lt (Nat.div_le_self ..) hp, Nat.lt_of_le_of_lt (Nat.div_le_self ..) hq'⟩
theorem pok_lo {w lo hi : Int} (h : pok w lo hi = true) (h' : lo ≠ -top w) : fin w lo := by
  obtain ⟨h1, h2, h3, h4, h5, h6⟩ := pok_iff.1 h
  exact ⟨h1, by omega, h3⟩
theorem pok_hi {w lo hi : Int} (h : pok w lo hi = true) (h' : hi ≠ top w) : fin w hi := by
  obtain ⟨h1, h2, h3, h4, h5, h6⟩ := pok_iff.1 h
  exact ⟨h1, h4, by omega⟩
/-- a number against a scale of twos -/
def scQ (p q : Nat) (s : Int) : Nat := if 0 ≤ s then p * 2 ^ s.toNat / q else p / (q * 2 ^ (-s).toNat)
def scR (p q : Nat) (s : Int) : Nat := if 0 ≤ s then p * 2 ^ s.toNat % q else p % (q * 2 ^ (-s).toNat)
theorem scQ_lt {p q G : Nat} {s : Int} (hq : q ≠ 0) (h : (bl p : Int) + s + 1 ≤ (G : Int) + bl q) : scQ p q s < 2 ^ G := by
  have hp := bl_lt p
  have hq1 := bl_ge hq
  have hq2 : bl q ≠ 0 := mt bl_eq_zero.1 hq
  unfold scQ
  split
  · rename_i hs
    rw [Nat.div_lt_iff_lt_mul (Nat.pos_of_ne_zero hq)]
    have h1 : 2 ^ (bl p + s.toNat) ≤ 2 ^ (G + (bl q - 1)) := Nat.pow_le_pow_right (by decide) (by omega)
    rw [Nat.pow_add, Nat.pow_add] at h1
    exact Nat.lt_of_lt_of_le (Nat.mul_lt_mul_of_pos_right hp (Nat.pow_pos (by decide))) (Nat.le_trans h1 (Nat.mul_le_mul_left _ hq1))
  · rename_i hs
    rw [Nat.div_lt_iff_lt_mul (Nat.mul_pos (Nat.pos_of_ne_zero hq) (Nat.pow_pos (by decide)))]
    have h1 : 2 ^ bl p ≤ 2 ^ (G + (bl q - 1) + (-s).toNat) := Nat.pow_le_pow_right (by decide) (by omega)
    rw [Nat.pow_add, Nat.pow_add] at h1
    refine Nat.lt_of_lt_of_le hp (Nat.le_trans h1 ?_)
    rw [Nat.mul_assoc]
    exact Nat.mul_le_mul_left _ (Nat.mul_le_mul_right _ hq1)
end Pm
namespace Go.Px.Seat
open Go Pm
set_option linter.unusedVariables false
variable {B : Run}
theorem k_sl8Frac : Ev fun n => ∀ (b : Bool) (l m : List Int), c_s_l8Frac ((C B).run n) b l m = some (b, (l, (m, ()))) := by
  refine Ev.triv.succ fun n hn _ b l m => ?_
  rw [run_succ, e_s_l8Frac]; rfl
theorem k_sPairHas : Ev fun n => ∀ (w lo hi : Int) (r : Rat), fits r → c_s_PairHas ((C B).run n) w lo hi (fb r) (ft r) (fq r) = some (pok w lo hi && inn w lo hi r, ()) := by
  refine ((k_sPairOk (B := B)).and ((k_sFracOk (B := B)).and ((k_sTop' (B := B)).and ((k_sl8Frac (B := B)).and ((k_sOfF (B := B)).and (k_sCmpN (B := B))))))).succ fun n hn ⟨hP, hF, hT, hL, hO, hC⟩ w lo hi r hr => ?_
  rw [run_succ, e_s_PairHas]
  unfold p_s_PairHas
  rw [hP, hF, fok_fr, decide_eq_true hr]
  simp only [Option.bind_some]
  cases hp : pok w lo hi
  · simp
  · simp only [Bool.not_true, cond_false, jb_inr, Bool.true_and]
    rw [hT]
    simp only [Option.bind_some, ineg_top, hL, ile_iff]
    obtain ⟨r1, r2⟩ := fits_len hr
    have hi' : (bif hi == top w then (some (.inr ((true, ()), ())) : Option ((Bool × Unit) ⊕ ((Bool × Unit) × Unit))) else
        (c_s_l8Of ((C B).run n) w hi).bind fun x => (c_s_l8Cmp ((C B).run n) (fb r) (ft r) (fq r) x.1 x.2.1 x.2.2.1).bind fun y => some (.inr ((decide (y.1 ≤ 0), ()), ()))) =
        some (.inr (((decide (hi = top w) || decide (r ≤ fv w hi)), ()), ())) := by
      by_cases h : hi = top w
      · simp [h]
      · rw [beq_f h, cond_false, decide_eq_false h, Bool.false_or]
        obtain ⟨p, q, h1, h2, h3, h4, h5, h6⟩ := hO w hi (pok_hi hp h)
        rw [h1]
        simp only [Option.bind_some]
        simp only [ft, fq] at r1 r2 ⊢
        rw [hC _ _ _ _ _ _ r.den_nz h2 (by omega) (by omega) (by omega) (by omega), mk_self, h3]
        simp only [Option.bind_some, cmpR_le]
    refine (jb_of (p := (((inn w lo hi r), ()), ())) ?_ _).trans rfl
    by_cases h : lo = -top w
    · have : (lo == -top w) = true := by simpa using h
      rw [this, cond_true]
      refine hi'.trans ?_
      rw [inn, decide_eq_true h, Bool.true_or, Bool.true_and]
    · rw [beq_f h, cond_false]
      obtain ⟨p, q, h1, h2, h3, h4, h5, h6⟩ := hO w lo (pok_lo hp h)
      rw [h1]
      simp only [Option.bind_some]
      have hc := hC (decide (lo < 0)) (fb r) p q r.num.natAbs r.den h2 r.den_nz (by omega) (by omega) (by simp only [ft] at r1; omega) (by simp only [fq] at r2; omega)
      rw [mk_self, h3] at hc
      simp only [ft, fq] at hi' ⊢
      rw [hc]
      simp only [Option.bind_some, cmpR_le]
      rw [inn, decide_eq_false h, Bool.false_or]
      by_cases h7 : fv w lo ≤ r
      · rw [decide_eq_true h7, cond_true, Bool.true_and]
        exact hi'
      · rw [decide_eq_false h7, cond_false, Bool.false_and]
theorem k_sSpanHas : Ev fun n => ∀ (w : Int) (s : Sp) (r : Rat), fits r → c_s_SpanHas ((C B).run n) w s.1 s.2.1 s.2.2.1 (fb r) (ft r) (fq r) = some (s.1 && (pok w s.2.1 s.2.2.1 && inn w s.2.1 s.2.2.1 r), ()) := by
  refine ((k_sPair (B := B)).and (k_sPairHas (B := B))).succ fun n hn ⟨hP, hH⟩ w s r hr => ?_
  rw [run_succ, e_s_SpanHas]
  unfold p_s_SpanHas
  rw [hP]
  simp only [Option.bind_some, hH w _ _ r hr]
  cases s.1 <;> rfl
theorem k_psIn : Ev fun n => ∀ (w : Int) (s : Sp) (r : Rat), fits r → c_w_psIn ((C B).run n) w s.1 s.2.1 s.2.2.1 (fb r) (ft r) (fq r) = some (s.1 && (pok w s.2.1 s.2.2.1 && inn w s.2.1 s.2.2.1 r), ()) := by
  refine (k_sSpanHas (B := B)).succ fun n hn hH w s r hr => ?_
  rw [run_succ, e_w_psIn]
  unfold p_w_psIn
  rw [hH w s r hr]; rfl
theorem k_psIs : Ev fun n => ∀ (a b : Sp), c_w_psIs ((C B).run n) a.1 a.2.1 a.2.2.1 b.1 b.2.1 b.2.2.1 = some (!a.1 || (b.1 && decide (b.2.1 ≤ a.2.1 ∧ a.2.2.1 ≤ b.2.2.1)), ()) := by
  refine Ev.triv.succ fun n hn _ a b => ?_
  rw [run_succ, e_w_psIs]
  unfold p_w_psIs
  cases a.1 <;> cases b.1 <;> simp
  by_cases h : b.2.1 ≤ a.2.1 <;> simp [h]
theorem k_sFloatFrac : Ev fun n => ∀ w o : Int, fin w o → fits (fv w o) ∧ c_s_FloatFrac ((C B).run n) w o = some (fb (fv w o), (ft (fv w o), (fq (fv w o), (true, ())))) := by
  refine ((k_sPart (B := B)).and ((k_sOfF (B := B)).and (k_sMake (B := B)))).succ fun n hn ⟨hP, hO, hM⟩ w o h => ?_
  rw [run_succ, e_s_FloatFrac]
  unfold p_s_FloatFrac
  obtain ⟨p, q, h1, h2, h3, h4, h5, h6⟩ := hO w o h
  have hf : fits (fv w o) := by
    rw [← h3]
    refine fits_mk h2 ?_ ?_
    · exact dig_len_le.1 (Nat.le_trans h4 (by omega))
    · exact dig_len_le.1 (Nat.le_trans h5 (by omega))
  refine ⟨hf, ?_⟩
  rw [hP w o h, h1]
  simp only [Option.bind_some, Bool.not_true, cond_false]
  rw [hM _ _ _ h2 (by omega) (by omega), h3, resF_fits hf]
  rfl
theorem k_sFracZero : Ev fun n => c_s_FracInt ((C B).run n) 0 = some (fb 0, (ft 0, (fq 0, ()))) := by
  refine (k_sNatOf (B := B)).succ fun n hn hO => ?_
  rw [run_succ, e_s_FracInt]
  unfold p_s_FracInt
  have := hO 0 (by decide)
  simp only [ilt_iff, show ¬ ((0 : Int) < 0) by omega, decide_false, cond_false]
  rw [wrapu64 (by omega) (by omega)]
  have h0 : ((0 : Nat) : Int) = 0 := rfl
  rw [h0] at this
  rw [this]
  simp only [Option.bind_some, jb_inr]
  have h1 : fq 0 = [1] := dig_of_lt (d := 1) (by omega) (by omega)
  have h2 : ft 0 = [] := dig_zero
  rw [h1, h2, dig_zero]; rfl
theorem k_sGap : Ev fun n => ∀ lo hi : Int, -9223372036854775808 ≤ lo → lo ≤ hi → hi < 9223372036854775808 → c_s_BitGap ((C B).run n) lo hi = some (hi - lo, ()) := by
  refine Ev.triv.succ fun n hn _ lo hi h1 h2 h3 => ?_
  rw [run_succ, e_s_BitGap]
  unfold p_s_BitGap
  simp only [ilt_iff, show ¬ hi < lo by omega, decide_false, cond_false]
  congr 2
  show IntKind.wrap .u64 (IntKind.wrap .u64 hi - IntKind.wrap .u64 lo) = hi - lo
  have hw : ∀ x, IntKind.wrap .u64 x = x % 18446744073709551616 := fun x => by unfold IntKind.wrap; rfl
  rw [hw hi, hw lo, hw]
  omega
theorem k_sScaled : Ev fun n => ∀ (b : Bool) (p q : Nat) (s : Int), q ≠ 0 → (dig p).length ≤ 1048576 → (dig q).length ≤ 1048576 → -1048576 ≤ s → s ≤ 1048576 →
    c_s_l8Scaled ((C B).run n) b (dig p) (dig q) s = some (dig (scQ p q s), (decide (scR p q s ≠ 0), ())) := by
  refine ((k_sPow2 (B := B)).and ((k_sMul (B := B)).and (k_sDiv (B := B)))).succ fun n hn ⟨hP, hM, hD⟩ b p q s hq l1 l2 s1 s2 => ?_
  rw [run_succ, e_s_l8Scaled]
  unfold p_s_l8Scaled scQ scR
  simp only [ile_iff, ilt_iff]
  have hr : ∀ x : Nat, decide ((0 : Int) < len (dig x)) = decide (x ≠ 0) := by
    intro x
    rw [len_eq]
    refine decide_eq_decide.2 ⟨fun h h' => ?_, fun h => ?_⟩
    · subst h'; simp at h
    · have := dig_len_pos h; omega
  by_cases h : 0 ≤ s
  · obtain ⟨k, rfl⟩ : ∃ k : Nat, s = (k : Int) := ⟨s.toNat, by omega⟩
    have hk := dig_len_pow k
    simp only [h, decide_true, cond_true, if_true, Int.toNat_natCast]
    rw [hP k (by omega)]
    simp only [Option.bind_some]
    rw [hM _ _ (by omega) (by omega)]
    simp only [Option.bind_some, jb_inr]
    have := len_dig_mul p (2 ^ k)
    rw [hD _ _ (by omega) (by omega) hq]
    simp only [Option.bind_some, hr]
  · obtain ⟨k, rfl⟩ : ∃ k : Nat, s = -(k : Int) := ⟨(-s).toNat, by omega⟩
    have hk := dig_len_pow k
    simp only [h, decide_false, cond_false, if_false, Int.neg_neg, Int.toNat_natCast]
    rw [ineg_eq (by omega) (by omega), Int.neg_neg, hP k (by omega)]
    simp only [Option.bind_some]
    rw [hM _ _ (by omega) (by omega)]
    simp only [Option.bind_some, jb_inr]
    have := len_dig_mul q (2 ^ k)
    rw [hD _ _ (by omega) (by omega) (Nat.mul_ne_zero hq (pow2_ne k))]
    simp only [Option.bind_some, hr]
end Go.Px.Seat

/- Sizes and rounding: the reference's. -/
namespace Go.Px.Seat
open Go Pm
set_option linter.unusedVariables false
variable {B : Run}
theorem jb_ex {P R : Type} {x : Option (R ⊕ P)} {f : P → Option R} {p : P} {Q : R → Prop} (h : x = some (.inr p)) (h' : ∃ r, f p = some r ∧ Q r) : ∃ r, jb x f = some r ∧ Q r := by
  rw [h]; exact h'
/-- where the search for a size begins -/
def sz0 (w : Int) (p q : Nat) : Int := min ((frw w : Int) + 1 - bl p + bl q) (lst w)
theorem ile_wrap_nat (k : Nat) (h : k ≤ 62) : ile 0 (IntKind.wrap .u64 (k : Int)) = true := by
  rw [wrapu64 (by omega) (by omega)]; simp
theorem top_shift (w : Int) : top w = top w / 2 ^ frw w * 2 ^ frw w := by
  unfold top frw
  split
  · simp
  · split <;> simp
theorem k_sSize : Ev fun n => ∀ (w : Int) (b : Bool) (p q : Nat), wd w = true → q ≠ 0 → (dig p).length ≤ 1024 → (dig q).length ≤ 1024 →
    ∃ r, c_s_l8Size ((C B).run n) w b (dig p) (dig q) = some r ∧ 0 ≤ r.1 ∧ r.1 < top w := by
  refine ((k_sFrac (B := B)).and ((k_sLeast (B := B)).and ((k_sBits (B := B)).and ((k_sScaled (B := B)).and ((k_sNatSmall (B := B)).and (k_sTop' (B := B))))))).succ fun n hn ⟨hF, hL, hB, hS, hN, hT⟩ w b p q hw hq l1 l2 => ?_
  rw [run_succ, e_s_l8Size]
  unfold p_s_l8Size
  have htp := top_pos hw
  have htn := top_nonneg w
  have hfl := frw_le w
  have hll : lst w ≤ 1074 := by unfold lst; split <;> omega
  have bp := bl_len p
  have bq := bl_len q
  by_cases hp : p = 0
  · subst hp
    simp only [dig_zero]
    exact ⟨_, rfl, by simp only; omega, by simp only; omega⟩
  · rw [beq_f (show ¬ len (dig p) = 0 by rw [len_eq]; have := dig_len_pos hp; omega), cond_false, hF]
    simp only [Option.bind_some]
    rw [hB _ (by omega)]
    simp only [Option.bind_some]
    rw [hB _ (by omega)]
    simp only [Option.bind_some]
    rw [hL]
    simp only [Option.bind_some]
    rw [iadd_eq (x := (frw w : Int)) (by omega) (by omega), isub_eq (by omega) (by omega), iadd_eq (by omega) (by omega), ineg_eq (by omega) (by omega), Int.neg_neg]
    refine jb_ex (p := (((), (sz0 w p q, ((frw w : Int), (w, (0, (false, ())))))), ((b, (dig p, (dig q, ()))), ()))) ?_ ?_
    · unfold sz0
      simp only [ilt_iff]
      by_cases h : (lst w : Int) < (frw w : Int) + 1 - bl p + bl q
      · rw [decide_eq_true h, cond_true, Int.min_eq_right (by omega)]
      · rw [decide_eq_false h, cond_false, Int.min_eq_left (by omega)]
    · have hs1 : sz0 w p q ≤ lst w := Int.min_le_right ..
      have hs2 : sz0 w p q ≤ (frw w : Int) + 1 - bl p + bl q := Int.min_le_left ..
      have hs3 : -16500 ≤ sz0 w p q := by unfold sz0; omega
      rw [hS b p q (sz0 w p q) hq (by omega) (by omega) (by omega) (by omega)]
      simp only [Option.bind_some]
      generalize sz0 w p q = s0 at *
      refine iter_ex (fun st => ∃ (s : Int) (re : Bool), (s = s0 ∨ s = s0 - 1) ∧ st = (((dig (scQ p q s)), ((frw w : Int), (s, ((), (re, (w, (0, (false, ())))))))), ((b, (dig p, (dig q, ()))), ()))) (fun st => (st.1.2.2.1 - s0 + 1).toNat) (fun r : Int × (Bool × Unit) => 0 ≤ r.1 ∧ r.1 < top w) ?_ n _ (by simp only; omega) ⟨s0, _, .inl rfl, rfl⟩
      rintro rec _ ⟨s, re, hs, rfl⟩ ih
      have g1 : scQ p q s < 2 ^ (frw w + 2) := scQ_lt hq (by omega)
      have g2 := bl_le.2 g1
      have g3 : 2 ^ (frw w + 2) ≤ 2 ^ 54 := Nat.pow_le_pow_right (by decide) (by omega)
      have g4 : scQ p q s < 18446744073709551616 := by simp only [Nat.reducePow] at g3; omega
      have g5 : (dig (scQ p q s)).length ≤ 4 := dig_len_le.2 (by omega)
      simp only
      rw [hB _ (by omega), iadd_eq (x := (frw w : Int)) (by omega) (by omega)]
      simp only [Option.bind_some, ilt_iff]
      by_cases h : (frw w : Int) + 1 < (bl (scQ p q s) : Int)
      · rw [decide_eq_true h, cond_true, isub_eq (by omega) (by omega)]
        have hs' : s = s0 := by
          rcases hs with hs | hs
          · exact hs
          · exfalso
            have := bl_le.2 (scQ_lt (p := p) (G := frw w + 1) (s := s) hq (by omega))
            omega
        subst hs'
        rw [hS b p q (s - 1) hq (by omega) (by omega) (by omega) (by omega)]
        simp only [Option.bind_some]
        exact ih _ ⟨s - 1, _, .inr rfl, rfl⟩ (by simp only; omega)
      · rw [decide_eq_false h, cond_false, hN _ (Nat.lt_of_lt_of_le g4 (Nat.le_of_lt (by decide))), if_pos g4]
        simp only [Option.bind_some, ile_iff]
        have hU : 0 < 2 ^ frw w := Nat.pow_pos (by decide)
        have hU2 : 2 ^ frw w ≤ 2 ^ 52 := Nat.pow_le_pow_right (by decide) hfl
        simp only [Nat.reducePow] at hU2 g3
        rw [wrap64 (x := ((scQ p q s : Nat) : Int)) (by omega) (by omega)]
        have hts := top_shift w
        have hcast : ((2 : Int) ^ frw w) = ((2 ^ frw w : Nat) : Int) := by simp
        rw [hcast] at hts
        have htq : 0 ≤ top w / ((2 ^ frw w : Nat) : Int) := Int.ediv_nonneg (by omega) (by omega)
        by_cases h2 : (bl (scQ p q s) : Int) ≤ (frw w : Int)
        · rw [decide_eq_true h2, cond_true]
          refine ⟨_, rfl, by simp only; omega, ?_⟩
          have h3 := bl_le.1 (show bl (scQ p q s) ≤ frw w by omega)
          simp only
          have : 2 ^ frw w ≤ top w := by
            unfold top frw
            rcases of_decide_eq_true hw with h | h <;> subst h <;> simp
          rw [hcast] at this
          omega
        · rw [decide_eq_false h2, cond_false, hL]
          simp only [Option.bind_some]
          rw [hT]
          simp only [Option.bind_some]
          rw [← ile_iff, ile_wrap_nat _ (by omega), wrapu64 (x := ((frw w : Nat) : Int)) (by omega) (by omega), ok_true, ishr_eq (by omega), hcast]
          have e1 : isub .i64 (top w / ((2 ^ frw w : Nat) : Int)) 1 = top w / ((2 ^ frw w : Nat) : Int) - 1 := by
            have := Int.ediv_le_self (2 ^ frw w : Nat) htn.1
            rw [isub_eq (by omega) (by omega)]
          have e2 : iadd .i64 (isub .i64 (ineg .i64 s) (-(lst w : Int))) 1 = lst w - s + 1 := by
            rw [ineg_eq (by omega) (by omega), isub_eq (by omega) (by omega), iadd_eq (by omega) (by omega)]
            omega
          rw [e1, e2]
          by_cases h4 : top w / ((2 ^ frw w : Nat) : Int) - 1 < lst w - s + 1
          · rw [decide_eq_true h4, cond_true]
            refine ⟨_, rfl, ?_, ?_⟩ <;> rw [isub_eq (by omega) (by omega)] <;> omega
          · rw [decide_eq_false h4, cond_false, ok_true]
            rw [ok_true, shl_one _ (by omega)]
            have q1 : scQ p q s < 2 ^ (frw w + 1) := bl_le.1 (by omega)
            have q2 : ¬ scQ p q s < 2 ^ frw w := fun hh => h2 (by have := bl_le.2 hh; omega)
            rw [Nat.pow_succ] at q1
            generalize hEE : (lst w : Int) - s + 1 = e at *
            have he1 : 1 ≤ e := by omega
            have he2 : e ≤ top w / ((2 ^ frw w : Nat) : Int) - 1 := by omega
            have m1 : 1 * ((2 ^ frw w : Nat) : Int) ≤ e * ((2 ^ frw w : Nat) : Int) := Int.mul_le_mul_of_nonneg_right he1 (by omega)
            have m2 : e * ((2 ^ frw w : Nat) : Int) ≤ (top w / ((2 ^ frw w : Nat) : Int) - 1) * ((2 ^ frw w : Nat) : Int) := Int.mul_le_mul_of_nonneg_right he2 (by omega)
            rw [Int.sub_mul, ← hts] at m2
            have e3 : ishl .i64 e ((frw w : Nat) : Int) = e * ((2 ^ frw w : Nat) : Int) := by
              rw [ishl_eq (by omega) (by rw [hcast]; omega) (by rw [hcast]; omega), hcast]
            rw [e3]
            clear hcast e3 he1 he2 hts htq e1 e2 ih
            generalize e * ((2 ^ frw w : Nat) : Int) = X at *
            generalize scQ p q s = Q at *
            generalize (2 ^ frw w : Nat) = U at *
            rw [iadd_eq (by omega) (by omega), isub_eq (by omega) (by omega)]
            exact ⟨_, rfl, by simp only; omega, by simp only; omega⟩
theorem k_sRound : Ev fun n => ∀ (w : Int) (b up : Bool) (p q : Nat), wd w = true → q ≠ 0 → (dig p).length ≤ 1024 → (dig q).length ≤ 1024 →
    ∃ m, c_s_l8Round ((C B).run n) w b (dig p) (dig q) up = some (m, ()) ∧ (b = false → up = false → 0 ≤ m ∧ m < top w) := by
  refine (k_sSize (B := B)).succ fun n hn hS w b up p q hw hq l1 l2 => ?_
  rw [run_succ, e_s_l8Round]
  unfold p_s_l8Round
  obtain ⟨⟨m, re, _⟩, h1, h2, h3⟩ := hS w b p q hw hq l1 l2
  rw [h1]
  simp only [Option.bind_some]
  cases b
  · cases re <;> cases up
    · exact ⟨_, rfl, fun _ _ => ⟨h2, h3⟩⟩
    · exact ⟨_, rfl, fun _ h => by simp at h⟩
    · exact ⟨_, rfl, fun _ _ => ⟨h2, h3⟩⟩
    · exact ⟨_, rfl, fun _ h => by simp at h⟩
  · cases re <;> cases up <;> exact ⟨_, rfl, fun h => by simp at h⟩
theorem k_sOneOf : Ev fun n => ∀ w : Int, wd w = true → ∃ m, c_s_l9One ((C B).run n) w = some (m, ()) ∧ 0 ≤ m ∧ m < top w := by
  refine (k_sRound (B := B)).succ fun n hn hR w hw => ?_
  rw [run_succ, e_s_l9One]
  unfold p_s_l9One
  have hone : [(1 : Int)] = dig 1 := (dig_of_lt (d := 1) (by omega) (by omega)).symm
  obtain ⟨m, h1, h2⟩ := hR w false false 1 1 hw (by omega) (by rw [← hone]; simp) (by rw [← hone]; simp)
  rw [hone, h1]
  exact ⟨m, rfl, h2 rfl rfl⟩
end Go.Px.Seat

/- The draws: what a reader of bytes gives. -/
namespace Go.Px.Seat
open Go Pm
set_option linter.unusedVariables false
variable {B : Run}
theorem ixor_nonneg {x y : Int} (hx : 0 ≤ x) (hx' : x < 9223372036854775808) (hy : 0 ≤ y) (hy' : y < 9223372036854775808) : 0 ≤ ixor .i64 x y := by
  have e1 : (BitVec.ofInt 64 x).toNat = x.toNat := by
    simp [BitVec.toNat_ofInt]; omega
  have e2 : (BitVec.ofInt 64 y).toNat = y.toNat := by
    simp [BitVec.toNat_ofInt]; omega
  show 0 ≤ IntKind.i64.wrap (((BitVec.ofInt 64 x ^^^ BitVec.ofInt 64 y).toNat : Nat) : Int)
  have : (BitVec.ofInt 64 x ^^^ BitVec.ofInt 64 y).toNat < 2 ^ 63 := by
    rw [BitVec.toNat_xor, e1, e2]
    exact Nat.xor_lt_two_pow (by omega) (by omega)
  rw [wrap64 (by omega) (by omega)]
  omega
/-- what a reader has to be -/
def rdr (b : List Int) : Prop := (∀ x ∈ b, 0 ≤ x ∧ x < 256) ∧ b.length ≤ 2000
theorem rdr_at {b : List Int} (h : rdr b) (i : Nat) : 0 ≤ List.getD b i 0 ∧ List.getD b i 0 < 256 := by
  rw [List.getD_eq_getElem?_getD]
  cases h1 : b[i]? with
  | none => simp
  | some x => exact h.1 x (List.mem_of_getElem? h1)
theorem k_pick : Ev fun n => ∀ (b : List Int) (p k : Int), rdr b → 0 ≤ p → p < 1099511627776 → 1 ≤ k → k ≤ 4294967296 →
    ∃ v, c_s_l31Rd_pick ((C B).run n) b p k = some (v, (b, (p + 1, ()))) ∧ 0 ≤ v ∧ v < k := by
  refine Ev.triv.succ fun n hn _ b p k hb h1 h2 h3 h4 => ?_
  rw [run_succ, e_s_l31Rd_pick]
  unfold p_s_l31Rd_pick
  have hl := hb.2
  rw [ilt_iff, decide_eq_false (show ¬ k < 1 by omega), cond_false, jb_inr, iadd_eq (by omega) (by omega)]
  simp only
  rw [isub_eq (by omega) (by omega), show p + 1 - 1 = p by omega]
  by_cases h0 : b = []
  · subst h0
    exact ⟨0, rfl, by omega, by omega⟩
  · have hpos : 0 < b.length := List.length_pos_iff.2 h0
    rw [len_eq, beq_f (show ¬ (b.length : Int) = 0 by omega), cond_false, ilt_iff]
    by_cases h5 : p < (b.length : Int)
    · rw [decide_eq_true h5, cond_true, ok_of (inB_true h1 h5), ok_ne (by omega)]
      have h6 := rdr_at hb p.toNat
      rw [wrap64 (by omega) (by omega), irem_eq h6.1]
      exact ⟨_, rfl, Int.emod_nonneg _ (by omega), Int.emod_lt_of_pos _ (by omega)⟩
    · rw [decide_eq_false h5, cond_false]
      have e0 : (!false) = true := rfl
      have i1 := Int.emod_nonneg p (show (b.length : Int) ≠ 0 by omega)
      have i2 := Int.emod_lt_of_pos p (show (0 : Int) < (b.length : Int) by omega)
      have e1 : iadd .i64 (imul .i64 p 7) 3 = p * 7 + 3 := by rw [imul_eq (by omega) (by omega), iadd_eq (by omega) (by omega)]
      have i3 := Int.emod_nonneg (p * 7 + 3) (show (b.length : Int) ≠ 0 by omega)
      have i4 := Int.emod_lt_of_pos (p * 7 + 3) (show (0 : Int) < (b.length : Int) by omega)
      have hd0 : 0 ≤ p / (b.length : Int) := Int.ediv_nonneg h1 (by omega)
      have hd1 : p / (b.length : Int) ≤ p := Int.ediv_le_self _ h1
      rw [e1, irem_eq h1, irem_eq (show 0 ≤ p * 7 + 3 by omega), e0, ok_true, ok_of (inB_true i1 i2), ok_true, ok_of (inB_true i3 i4), ok_true, ok_ne (by omega), iquo_eq h1 (by omega) (by omega)]
      have g1 := rdr_at hb (p % (b.length : Int)).toNat
      have g2 := rdr_at hb ((p * 7 + 3) % (b.length : Int)).toNat
      generalize List.getD b (p % (b.length : Int)).toNat 0 = x1 at *
      generalize List.getD b ((p * 7 + 3) % (b.length : Int)).toNat 0 = x2 at *
      generalize p / (b.length : Int) = d at *
      have e2 : iadd .i64 (iadd .i64 (iadd .i64 (imul .i64 (IntKind.wrap .i64 x1) 131) (imul .i64 (IntKind.wrap .i64 x2) 1117)) (imul .i64 p 29)) (imul .i64 d 53) = x1 * 131 + x2 * 1117 + p * 29 + d * 53 := by
        rw [wrap64 (x := x1) (by omega) (by omega), wrap64 (x := x2) (by omega) (by omega), imul_eq (x := x1) (by omega) (by omega), imul_eq (x := x2) (by omega) (by omega), imul_eq (x := p) (by omega) (by omega), imul_eq (x := d) (by omega) (by omega), iadd_eq (x := x1 * 131) (by omega) (by omega), iadd_eq (x := x1 * 131 + x2 * 1117) (by omega) (by omega), iadd_eq (by omega) (by omega)]
      rw [e2]
      generalize hX : x1 * 131 + x2 * 1117 + p * 29 + d * 53 = X
      have hX0 : 0 ≤ X := by omega
      have hX1 : X < 9223372036854775808 := by omega
      rw [iquo_eq hX0 hX1 (by omega)]
      have hx := ixor_nonneg hX0 hX1 (show 0 ≤ X / 64 by omega) (show X / 64 < 9223372036854775808 by omega)
      rw [irem_eq hx]
      exact ⟨_, rfl, Int.emod_nonneg _ (by omega), Int.emod_lt_of_pos _ (by omega)⟩
theorem k_real : Ev fun n => ∀ (b : List Int) (p : Int), rdr b → 0 ≤ p → p < 1099511627776 → ∃ w, c_s_l31Rd_real ((C B).run n) b p = some (w, (b, (p + 1, ()))) ∧ wd w = true := by
  refine (k_pick (B := B)).succ fun n hn hP b p hb h1 h2 => ?_
  rw [run_succ, e_s_l31Rd_real]
  unfold p_s_l31Rd_real
  obtain ⟨v, h3, h4, h5⟩ := hP b p 2 hb h1 h2 (by omega) (by omega)
  rw [h3]
  simp only [Option.bind_some]
  rw [ok_of (inB_true h4 (by simpa [len_eq] using h5))]
  refine ⟨_, rfl, ?_⟩
  have : v = 0 ∨ v = 1 := by omega
  rcases this with h | h <;> subst h <;> rfl
theorem iter_goal {P R : Type} {F : (P → Option R) → P → Option R} {n : Nat} {p : P} (G : Option R → Prop) (I : P → Prop) (m : P → Nat) (Q : R → Prop)
    (step : ∀ rec p, I p → (∀ q, I q → m q < m p → ∃ r, rec q = some r ∧ Q r) → ∃ r, F rec p = some r ∧ Q r) (hm : m p < n) (hI : I p) (hQ : ∀ r, Q r → G (some r)) : G (iter F n p) := by
  obtain ⟨r, h1, h2⟩ := iter_ex I m Q step n p hm hI
  rw [h1]; exact hQ r h2
theorem k_big : Ev fun n => ∀ (b : List Int) (p : Int), rdr b → 0 ≤ p → p < 549755813888 → ∃ v, c_s_l31Rd_big ((C B).run n) b p = some (v, (b, (p + 8, ()))) := by
  refine (k_pick (B := B)).succ fun n hn hP b p hb h1 h2 => ?_
  rw [run_succ, e_s_l31Rd_big]
  unfold p_s_l31Rd_big
  refine iter_goal (fun o => ∃ v, o = some (v, (b, (p + 8, ())))) (fun st => ∃ (i : Nat) (v : Int), i ≤ 8 ∧ st = (((i : Int), (v, ((), (0, ())))), ((b, (p + i, ())), ()))) (fun st => (8 - st.1.1).toNat) (fun r => ∃ v, r = (v, (b, (p + 8, ())))) ?_ (by simp only; omega) ⟨0, 0, by omega, by simp⟩ ?_
  · rintro rec _ ⟨i, v, hi, rfl⟩ ih
    simp only [ilt_iff]
    by_cases h : (i : Int) < 8
    · obtain ⟨k, h3, h4, h5⟩ := hP b (p + i) 256 hb (by omega) (by omega) (by omega) (by omega)
      rw [decide_eq_true h, cond_true, h3]
      simp only [Option.bind_some]
      rw [iadd_eq (by omega) (by omega)]
      exact ih _ ⟨i + 1, _, by omega, by congr 2; rw [show p + (i : Int) + 1 = p + ((i + 1 : Nat) : Int) by omega]⟩ (by simp only; omega)
    · rw [decide_eq_false h, cond_false]
      have : i = 8 := by omega
      subst this
      exact ⟨_, rfl, v, rfl⟩
  · rintro r ⟨v, rfl⟩
    exact ⟨v, rfl⟩
theorem k_nice : Ev fun n => ∀ (b : List Int) (p w : Int), rdr b → 0 ≤ p → p < 549755813888 → wd w = true → ∃ v, c_s_l31Rd_nice ((C B).run n) b p w = some (v, (b, (p + 3, ()))) := by
  refine ((k_pick (B := B)).and ((k_sMax (B := B)).and ((k_sNatOf (B := B)).and ((k_sFracOf (B := B)).and ((k_sl8Frac (B := B)).and (k_sRound (B := B))))))).succ fun n hn ⟨hP, hM, hO, hF, hL, hR⟩ b p w hb h1 h2 hw => ?_
  rw [run_succ, e_s_l31Rd_nice]
  unfold p_s_l31Rd_nice
  obtain ⟨v, g1, g2, g3⟩ := hP b p 9 hb h1 (by omega) (by omega) (by omega)
  rw [g1]
  simp only [Option.bind_some]
  rw [hM, isub_eq (by omega) (by omega), ineg_eq (by omega) (by omega)]
  simp only [Option.bind_some]
  have hm : max (v - 3) (-(v - 3)) = (((v - 3).natAbs : Nat) : Int) := by omega
  rw [hm, wrapu64 (by omega) (by omega), hO _ (by omega)]
  simp only [Option.bind_some]
  obtain ⟨v2, g4, g5, g6⟩ := hP b (p + 1) 6 hb (by omega) (by omega) (by omega) (by omega)
  rw [g4]
  simp only [Option.bind_some]
  rw [ok_of (inB_true g5 (by simpa [len_eq] using g6))]
  have hq : ∃ q : Nat, q ≠ 0 ∧ q < 65536 ∧ [List.getD [1, 1, 2, 4, 3, 10] (Int.toNat v2) (0 : Int)] = dig q := by
    have : v2 = 0 ∨ v2 = 1 ∨ v2 = 2 ∨ v2 = 3 ∨ v2 = 4 ∨ v2 = 5 := by omega
    rcases this with h | h | h | h | h | h <;> subst h
    · exact ⟨1, by omega, by omega, (dig_of_lt (d := 1) (by omega) (by omega)).symm⟩
    · exact ⟨1, by omega, by omega, (dig_of_lt (d := 1) (by omega) (by omega)).symm⟩
    · exact ⟨2, by omega, by omega, (dig_of_lt (d := 2) (by omega) (by omega)).symm⟩
    · exact ⟨4, by omega, by omega, (dig_of_lt (d := 4) (by omega) (by omega)).symm⟩
    · exact ⟨3, by omega, by omega, (dig_of_lt (d := 3) (by omega) (by omega)).symm⟩
    · exact ⟨10, by omega, by omega, (dig_of_lt (d := 10) (by omega) (by omega)).symm⟩
  obtain ⟨q, q1, q2, q3⟩ := hq
  have big : ∀ x : Nat, x < 65536 → x < 65536 ^ 256 := fun x hx => Nat.lt_of_lt_of_le hx (by decide)
  have h256 : (v - 3).natAbs < 65536 ^ 256 := big _ (by omega)
  have hfit := fits_mk (b := ilt (v - 3) 0) (p := (v - 3).natAbs) (q := q) q1 h256 (big _ q2)
  rw [q3, hF _ _ _ q1 h256 (big _ q2), resF_fits hfit]
  simp only [Option.bind_some]
  obtain ⟨v3, g7, g8, g9⟩ := hP b (p + 1 + 1) 2 hb (by omega) (by omega) (by omega) (by omega)
  rw [g7, hL]
  simp only [Option.bind_some, show p + 1 + 1 + 1 = p + 3 by omega]
  obtain ⟨f1, f2⟩ := fits_len hfit
  generalize mkRat (sg (ilt (v - 3) 0) (v - 3).natAbs) q = r at *
  simp only [ft, fq] at f1 f2 ⊢
  obtain ⟨m1, t1, _⟩ := hR w (fb r) true r.num.natAbs r.den hw r.den_nz (by omega) (by omega)
  obtain ⟨m2, t2, _⟩ := hR w (fb r) false r.num.natAbs r.den hw r.den_nz (by omega) (by omega)
  rw [t1, t2]
  simp only [Option.bind_some]
  cases v3 == 0
  · exact ⟨m2, rfl⟩
  · exact ⟨m1, rfl⟩
theorem jb_goal {P R : Type} {x : Option (R ⊕ P)} {f : P → Option R} (G : Option R → Prop) (Q : P → Prop) (h : ∃ p, x = some (.inr p) ∧ Q p) (h' : ∀ p, Q p → G (f p)) : G (jb x f) := by
  obtain ⟨p, h1, h2⟩ := h
  rw [h1]; exact h' p h2
theorem k_ord : Ev fun n => ∀ (b : List Int) (p w : Int), rdr b → 0 ≤ p → p < 274877906944 → wd w = true → ∃ v p', c_s_l31Rd_ord ((C B).run n) b p w = some (v, (b, (p', ()))) ∧ p ≤ p' ∧ p' ≤ p + 32 := by
  refine ((k_pick (B := B)).and ((k_big (B := B)).and (k_sTop' (B := B)))).succ fun n hn ⟨hP, hBig, hT⟩ b p w hb h1 h2 hw => ?_
  rw [run_succ, e_s_l31Rd_ord]
  unfold p_s_l31Rd_ord
  have htp := top_pos hw
  have htn := top_nonneg w
  rw [hT]
  simp only [Option.bind_some]
  refine jb_goal (fun o => ∃ v p', o = some (v, (b, (p', ()))) ∧ p ≤ p' ∧ p' ≤ p + 32) (fun st => ∃ n6 p1 : Int, st = (((), (top w, (n6, (0, ())))), ((b, (p1, ())), ())) ∧ p ≤ p1 ∧ p1 ≤ p + 16) ?_ ?_
  · obtain ⟨v, a1, a2, a3⟩ := hP b p 10 hb (by omega) (by omega) (by omega) (by omega)
    obtain ⟨v6, b1, b2, b3⟩ := hP b (p + 1) 6 hb (by omega) (by omega) (by omega) (by omega)
    obtain ⟨vk, c1, c2, c3⟩ := hP b (p + 1) 2048 hb (by omega) (by omega) (by omega) (by omega)
    obtain ⟨v4, d1, d2, d3⟩ := hP b (p + 1 + 1) 4 hb (by omega) (by omega) (by omega) (by omega)
    obtain ⟨vl, e1, e2, e3⟩ := hP b (p + 1 + 1 + 1) 256 hb (by omega) (by omega) (by omega) (by omega)
    obtain ⟨vm, f1, f2, f3⟩ := hP b (p + 1 + 1 + 1 + 1) 4 hb (by omega) (by omega) (by omega) (by omega)
    obtain ⟨vn, g1, g2, g3⟩ := hP b (p + 1) 1048576 hb (by omega) (by omega) (by omega) (by omega)
    obtain ⟨vb, i1⟩ := hBig b (p + 1) hb (by omega) (by omega)
    rw [a1]
    simp only [Option.bind_some, b1]
    by_cases h0 : v = 0
    · subst h0
      exact ⟨_, rfl, v6, _, rfl, by omega, by omega⟩
    rw [beq_f h0, cond_false]
    by_cases h3 : v = 1
    · subst h3
      exact ⟨_, rfl, _, _, rfl, by omega, by omega⟩
    rw [beq_f h3, cond_false]
    by_cases h4 : v = 2
    · subst h4
      simp only [show ((2 : Int) == 2) = true from rfl, cond_true, jb_inr, Option.bind_some, c1, d1, e1, f1]
      cases w == 32
      · exact ⟨_, rfl, _, p + 1 + 1 + 1, rfl, by omega, by omega⟩
      · exact ⟨_, rfl, _, p + 1 + 1 + 1 + 1 + 1, rfl, by omega, by omega⟩
    rw [beq_f h4, cond_false]
    by_cases h5 : v = 3
    · subst h5
      simp only [jb_inr, show ((3 : Int) == 3) = true from rfl, cond_true, Option.bind_some, c1, d1, e1, f1]
      cases w == 32
      · exact ⟨_, rfl, _, p + 1 + 1 + 1, rfl, by omega, by omega⟩
      · exact ⟨_, rfl, _, p + 1 + 1 + 1 + 1 + 1, rfl, by omega, by omega⟩
    rw [beq_f h5]
    simp only [jb_inr, cond_false, Option.bind_some, g1, i1]
    cases v == 4
    · simp only [cond_false, ilt_iff]
      rw [decide_eq_true (show 0 < top w by omega), cond_true, iadd_eq (by omega) (by omega), ok_ne (by omega)]
      exact ⟨_, rfl, _, _, rfl, by omega, by omega⟩
    · exact ⟨_, rfl, _, _, rfl, by omega, by omega⟩
  · rintro _ ⟨n6, p1, rfl, q1, q2⟩
    simp only
    refine jb_goal (fun o => ∃ v p', o = some (v, (b, (p', ()))) ∧ p ≤ p' ∧ p' ≤ p + 32) (fun st => ∃ n6 p1 : Int, st = (((), (n6, (0, ()))), ((b, (p1, ())), ())) ∧ p ≤ p1 ∧ p1 ≤ p + 18) ?_ ?_
    · obtain ⟨v, a1, a2, a3⟩ := hP b p1 40 hb (by omega) (by omega) (by omega) (by omega)
      obtain ⟨v6, b1, b2, b3⟩ := hP b (p1 + 1) 3 hb (by omega) (by omega) (by omega) (by omega)
      rw [a1]
      simp only [Option.bind_some, b1]
      cases v == 0
      · simp only [cond_false]
        cases ilt (top w) n6
        · exact ⟨_, rfl, _, _, rfl, by omega, by omega⟩
        · exact ⟨_, rfl, _, _, rfl, by omega, by omega⟩
      · exact ⟨_, rfl, _, _, rfl, by omega, by omega⟩
    · rintro _ ⟨n6, p1, rfl, q1, q2⟩
      simp only
      obtain ⟨v, a1, a2, a3⟩ := hP b p1 2 hb (by omega) (by omega) (by omega) (by omega)
      rw [a1]
      simp only [Option.bind_some]
      cases v == 0
      · exact ⟨_, _, rfl, by omega, by omega⟩
      · exact ⟨_, _, rfl, by omega, by omega⟩
theorem k_bound : Ev fun n => ∀ (b : List Int) (p w : Int), rdr b → 0 ≤ p → p < 137438953472 → wd w = true → ∃ v p', c_s_l31Rd_bound ((C B).run n) b p w = some (v, (b, (p', ()))) ∧ p ≤ p' ∧ p' ≤ p + 64 := by
  refine ((k_pick (B := B)).and ((k_nice (B := B)).and ((k_ord (B := B)).and (k_sTop' (B := B))))).succ fun n hn ⟨hP, hN, hO, hT⟩ b p w hb h1 h2 hw => ?_
  rw [run_succ, e_s_l31Rd_bound]
  unfold p_s_l31Rd_bound
  obtain ⟨v, a1, a2, a3⟩ := hP b p 5 hb (by omega) (by omega) (by omega) (by omega)
  obtain ⟨v2, b1⟩ := hN b (p + 1) w hb (by omega) (by omega) hw
  obtain ⟨v3, c1, c2, c3⟩ := hP b (p + 1) 4 hb (by omega) (by omega) (by omega) (by omega)
  obtain ⟨v4, d1, d2, d3⟩ := hP b (p + 1 + 1) 3 hb (by omega) (by omega) (by omega) (by omega)
  obtain ⟨v5, p5, e1, e2, e3⟩ := hO b (p + 1 + 1) w hb (by omega) (by omega) hw
  rw [a1]
  simp only [Option.bind_some, b1, c1, hT, d1, e1]
  cases ilt 1 v
  · cases v3 == 0
    · exact ⟨_, _, rfl, by omega, by omega⟩
    · simp only [cond_true, cond_false]
      rw [ok_of (inB_true d2 (by simpa [len_eq] using d3))]
      exact ⟨_, _, rfl, by omega, by omega⟩
  · exact ⟨_, _, rfl, by omega, by omega⟩
theorem k_fine : Ev fun n => ∀ (b : List Int) (p w : Int), rdr b → 0 ≤ p → p < 68719476736 → wd w = true → ∃ lo hi p', c_s_l31Rd_fine ((C B).run n) b p w = some (true, (lo, (hi, (b, (p', ()))))) ∧ p ≤ p' ∧ p' ≤ p + 200 ∧ pok w lo hi = true := by
  refine ((k_pick (B := B)).and ((k_bound (B := B)).and ((k_sPairOk (B := B)).and ((k_sOneOf (B := B)).and (k_sOf (B := B)))))).succ fun n hn ⟨hP, hB, hPk, hOne, hOf⟩ b p w hb h1 h2 hw => ?_
  rw [run_succ, e_s_l31Rd_fine]
  unfold p_s_l31Rd_fine
  obtain ⟨v, p1, a1, a2, a3⟩ := hB b p w hb h1 (by omega) hw
  rw [a1]
  simp only [Option.bind_some]
  obtain ⟨v2, p2, b1, b2, b3⟩ := hB b p1 w hb (by omega) (by omega) hw
  rw [b1]
  simp only [Option.bind_some]
  refine jb_goal (fun o => ∃ lo hi p', o = some (true, (lo, (hi, (b, (p', ()))))) ∧ p ≤ p' ∧ p' ≤ p + 200 ∧ pok w lo hi = true) (fun st => ∃ x y p' : Int, st = ((x, (y, (w, ((), ((), ()))))), ((false, (0, (0, ()))), ((b, (p', ())), ()))) ∧ p ≤ p' ∧ p' ≤ p + 200) ?_ ?_
  · obtain ⟨v3, c1, c2, c3⟩ := hP b p2 8 hb (by omega) (by omega) (by omega) (by omega)
    obtain ⟨v4, d1, d2, d3⟩ := hP b (p2 + 1) 3 hb (by omega) (by omega) (by omega) (by omega)
    rw [c1]
    simp only [Option.bind_some, d1]
    cases v3 == 0
    · cases v3 == 1
      · exact ⟨_, rfl, _, _, _, rfl, by omega, by omega⟩
      · exact ⟨_, rfl, _, _, _, rfl, by omega, by omega⟩
    · exact ⟨_, rfl, _, _, _, rfl, by omega, by omega⟩
  · rintro _ ⟨x, y, p', rfl, e1, e2⟩
    simp only
    refine jb_goal (fun o => ∃ lo hi p', o = some (true, (lo, (hi, (b, (p', ()))))) ∧ p ≤ p' ∧ p' ≤ p + 200 ∧ pok w lo hi = true) (fun st => ∃ x y : Int, st = ((w, (x, (y, ((), ((), ()))))), ((false, (0, (0, ()))), ((b, (p', ())), ())))) ?_ ?_
    · cases ilt y x
      · exact ⟨_, rfl, _, _, rfl⟩
      · exact ⟨_, rfl, _, _, rfl⟩
    · rintro _ ⟨x, y, rfl⟩
      simp only
      rw [hPk]
      simp only [Option.bind_some]
      cases hk : pok w x y
      · obtain ⟨m, f1, f2, f3⟩ := hOne w hw
        rw [f1]
        simp only [Option.bind_some, hOf, Bool.not_false, cond_true]
        exact ⟨0, m, p', rfl, e1, e2, pok_iff.2 ⟨hw, by omega, by omega, by omega, by omega, by omega⟩⟩
      · rw [hOf]
        exact ⟨x, y, p', rfl, e1, e2, hk⟩
end Go.Px.Seat

/- A number drawn inside a span. -/
namespace Pm
theorem fits_mkI {a : Int} {q : Nat} (hq : q ≠ 0) (hp : a.natAbs < 65536 ^ 256) (hq' : q < 65536 ^ 256) : fits (mkRat a q) := by
  have : a = sg (decide (a < 0)) a.natAbs := by
    by_cases h : a < 0
    · rw [decide_eq_true h]; simp only [sg, if_true]; omega
    · rw [decide_eq_false h]; simp only [sg, Bool.false_eq_true, if_false]; omega
  rw [this]
  exact fits_mk hq hp hq'
theorem pow_lt2 {a b : Nat} (h : a < b) : 2 ^ a < 2 ^ b := Nat.pow_lt_pow_right (by decide) h
theorem pow_le2 {a b : Nat} (h : a ≤ b) : 2 ^ a ≤ 2 ^ b := Nat.pow_le_pow_right (by decide) h
theorem pow_prod {A B x y : Nat} (hx : x ≤ 2 ^ A) (hy : y ≤ 2 ^ B) : x * y ≤ 2 ^ (A + B) := by
  have := Nat.mul_le_mul hx hy
  rwa [← Nat.pow_add] at this
theorem lt_pow_of {x A C : Nat} (h : x ≤ 2 ^ A) (hA : A < C) : x < 2 ^ C := Nat.lt_of_le_of_lt h (pow_lt2 hA)
theorem ten_le : 10 ≤ 2 ^ 4 := by decide
theorem two_lt {k : Nat} (h : k < 4096) : 2 ^ k < 65536 ^ 256 := by
  exact Nat.lt_of_lt_of_eq (pow_lt2 (b := 16 * 256) (by omega)) (pow_base 256).symm
theorem lt_two_of {x A : Nat} (h : x ≤ 2 ^ A) (hA : A < 4096) : x < 65536 ^ 256 := Nat.lt_of_le_of_lt h (two_lt hA)
/-- no finite float has more bits, in least floats -/
def bigE : Nat := 2100
theorem fI_lt2 {w o : Int} (h : fin w o) : (fI w o).natAbs < 2 ^ bigE := by
  rw [fI_sg, sg_natAbs]
  have h1 := sz_lt w o
  have h2 := shf_lt h
  have h3 := pow_le2 (Nat.le_of_lt h2)
  have h4 : sz w o < 2 ^ 53 := h1
  have h5 := pow_prod (Nat.le_of_lt h4) h3
  exact lt_pow_of h5 (by decide)
theorem fv_zero (w : Int) : fv w 0 = 0 := by
  rw [fv]
  have : fI w 0 = 0 := by simp [fI, fN_zero]
  rw [this, Rat.zero_mkRat]
theorem mk_same {a b : Int} {q : Nat} (h : q ≠ 0) : mkRat a q + mkRat b q = mkRat (a + b) q := by
  rw [Rat.mkRat_add_mkRat a b h h, ← Int.add_mul, Rat.mkRat_mul_right h]
theorem B7 {A x : Nat} (h : x ≤ 2 ^ A) : x * 128 ≤ 2 ^ (A + 7) := pow_prod h (by decide)
/-- the numbers on the way from one end to the other -/
theorem part_way {w a b : Int} {k : Nat} (ha : fin w a) (hb : fin w b) (hab : a ≤ b) (hk : k ≤ 9) :
    fits (fv w b - fv w a) ∧ fits (mkRat (k : Int) 10) ∧ fits ((fv w b - fv w a) * mkRat (k : Int) 10) ∧ fits (fv w a + (fv w b - fv w a) * mkRat (k : Int) 10) ∧
      fv w a ≤ fv w a + (fv w b - fv w a) * mkRat (k : Int) 10 ∧ fv w a + (fv w b - fv w a) * mkRat (k : Int) 10 ≤ fv w b := by
  have hA := fI_lt2 ha
  have hB := fI_lt2 hb
  have hq := pow2_ne (lst w)
  have hll : lst w ≤ 1074 := by unfold lst; split <;> omega
  have hq1 := pow_le2 hll
  have hq2 : 2 ^ lst w * 10 < 65536 ^ 256 := by
    have h1 := pow_prod hq1 ten_le
    exact lt_two_of h1 (by decide)
  have hX : 2 ^ bigE * 128 < 65536 ^ 256 := lt_two_of (B7 (Nat.le_refl _)) (by decide)
  generalize (2 : Nat) ^ bigE = X at *
  have hS : ∀ (a : Int) (q : Nat), q ≠ 0 → a.natAbs < X * 128 → q ≤ 2 ^ lst w * 10 → fits (mkRat a q) := fun a q h1 h2 h3 => fits_mkI h1 (Nat.lt_trans h2 hX) (Nat.lt_of_le_of_lt h3 hq2)
  have hAB : fI w a ≤ fI w b := fI_le.2 hab
  have hd : fv w b - fv w a = mkRat (fI w b - fI w a) (2 ^ lst w) := by
    rw [Rat.sub_eq_add_neg, fv, fv, Rat.neg_mkRat, mk_same hq, Int.sub_eq_add_neg]
  have he : (fv w b - fv w a) * mkRat (k : Int) 10 = mkRat ((fI w b - fI w a) * k) (2 ^ lst w * 10) := by
    rw [hd, Rat.mkRat_mul_mkRat]
  have hz : fv w a + (fv w b - fv w a) * mkRat (k : Int) 10 = mkRat (fI w a * 10 + (fI w b - fI w a) * k) (2 ^ lst w * 10) := by
    rw [he, fv, ← Rat.mkRat_mul_right (n := fI w a) (d := 2 ^ lst w) (show (10 : Nat) ≠ 0 by omega), mk_same (by omega)]
    rfl
  have hb9 : fv w b = mkRat (fI w b * 10) (2 ^ lst w * 10) := by
    rw [fv, ← Rat.mkRat_mul_right (n := fI w b) (d := 2 ^ lst w) (show (10 : Nat) ≠ 0 by omega)]; rfl
  have ha9 : fv w a = mkRat (fI w a * 10) (2 ^ lst w * 10) := by
    rw [fv, ← Rat.mkRat_mul_right (n := fI w a) (d := 2 ^ lst w) (show (10 : Nat) ≠ 0 by omega)]; rfl
  have hp0 : 0 ≤ (fI w b - fI w a) * (k : Int) := Int.mul_nonneg (by omega) (by omega)
  have hp1 : (fI w b - fI w a) * (k : Int) ≤ (fI w b - fI w a) * 9 := Int.mul_le_mul_of_nonneg_left (by omega) (by omega)
  refine ⟨?_, ?_, ?_, ?_, ?_, ?_⟩
  · rw [hd]; exact hS _ _ hq (by omega) (by omega)
  · exact hS _ _ (by omega) (by omega) (by omega)
  · rw [he]; exact hS _ _ (by omega) (by omega) (by omega)
  · rw [hz]; exact hS _ _ (by omega) (by omega) (by omega)
  · rw [hz, ha9, mk_le (by omega)]; omega
  · rw [hz, hb9, mk_le (by omega)]; omega
end Pm
namespace Go.Px.Seat
open Go Pm
set_option linter.unusedVariables false
variable {B : Run}
theorem iquo_neg {x : Int} (h : 0 ≤ x) (h' : x < 9223372036854775808) : iquo .i64 (-x) 2 = -(x / 2) := by
  rw [iquo, Int.neg_tdiv, Int.tdiv_eq_ediv_of_nonneg h, wrap64 (by omega) (by omega)]
/-- how a draw inside a span ends -/
def inO (b : List Int) (p : Int) (w x y : Int) (o : Option (Bool × (List Int × (List Int × (List Int × (Int × Unit)))))) : Prop :=
  ∃ r p', o = some (fb r, (ft r, (fq r, (b, (p', ()))))) ∧ fits r ∧ fv w x ≤ r ∧ r ≤ fv w y ∧ p ≤ p' ∧ p' ≤ p + 50
theorem inO_inn {b : List Int} {p w lo hi : Int} {o : Option (Bool × (List Int × (List Int × (List Int × (Int × Unit)))))} (h : ∃ x y, fin w x ∧ fin w y ∧ x ≤ y ∧ (lo = -top w ∨ x = lo) ∧ (hi = top w ∨ y = hi) ∧ inO b p w x y o) :
    ∃ r p', o = some (fb r, (ft r, (fq r, (b, (p', ()))))) ∧ fits r ∧ inn w lo hi r = true ∧ p ≤ p' ∧ p' ≤ p + 50 := by
  obtain ⟨x, y, f1, f2, f3, f4, f5, r, p', e1, e2, e3, e4, e5, e6⟩ := h
  refine ⟨r, p', e1, e2, inn_iff.2 ⟨?_, ?_⟩, e5, e6⟩
  · rcases f4 with h | h
    · exact .inl h
    · rw [← h]; exact .inr e3
  · rcases f5 with h | h
    · exact .inl h
    · rw [← h]; exact .inr e4
theorem k_inside : Ev fun n => ∀ (b : List Int) (p w lo hi : Int) (s : Bool), rdr b → 0 ≤ p → p < 68719476736 → pok w lo hi = true →
    ∃ r p', c_s_l31Rd_inside ((C B).run n) b p w s lo hi = some (fb r, (ft r, (fq r, (b, (p', ()))))) ∧ fits r ∧ inn w lo hi r = true ∧ p ≤ p' ∧ p' ≤ p + 50 := by
  refine ((k_sTop' (B := B)).and ((k_sMin (B := B)).and ((k_sMax (B := B)).and ((k_sFloatFrac (B := B)).and ((k_pick (B := B)).and ((k_sFracZero (B := B)).and ((k_sGap (B := B)).and ((k_sFracSub (B := B)).and ((k_sFracOf (B := B)).and ((k_sFracMul (B := B)).and (k_sFracAdd (B := B)))))))))))).succ
    fun n hn ⟨hT, hMin, hMax, hFF, hP, hZ, hG, hSub, hOf, hMul, hAdd⟩ b p w lo hi s hb h1 h2 hp => ?_
  rw [run_succ, e_s_l31Rd_inside]
  unfold p_s_l31Rd_inside
  obtain ⟨hw, p1, p2, p3, p4, p5⟩ := pok_iff.1 hp
  have htp := top_pos hw
  have htn := top_nonneg w
  rw [hT]
  simp only [Option.bind_some, ineg_top]
  rw [iquo_neg htn.1 (by omega)]
  refine inO_inn (w := w) (lo := lo) (hi := hi) (p := p) (b := b) ?_
  refine jb_goal (fun o => ∃ x y, fin w x ∧ fin w y ∧ x ≤ y ∧ (lo = -top w ∨ x = lo) ∧ (hi = top w ∨ y = hi) ∧ inO b p w x y o)
    (fun st => ∃ x, fin w x ∧ x ≤ hi ∧ (lo = -top w ∨ x = lo) ∧ st = ((hi, (top w, (x, (w, ((), ((), ())))))), ((b, (p, ())), ((false, ((), ((), ()))), ())))) ?_ ?_
  · by_cases h : lo = -top w
    · have hx : (lo == -top w) = true := by simpa using h
      rw [hx, cond_true, hMin]
      simp only [Option.bind_some]
      rw [beq_f (show ¬ min (-(top w / 2)) hi = -top w by omega), cond_false]
      exact ⟨_, rfl, min (-(top w / 2)) hi, ⟨hw, by omega, by omega⟩, by omega, .inl h, rfl⟩
    · rw [beq_f h, cond_false]
      exact ⟨_, rfl, lo, pok_lo hp h, p5, .inr rfl, rfl⟩
  · rintro _ ⟨x, hx, hxh, hxl, rfl⟩
    simp only
    refine jb_goal (fun o => ∃ x y, fin w x ∧ fin w y ∧ x ≤ y ∧ (lo = -top w ∨ x = lo) ∧ (hi = top w ∨ y = hi) ∧ inO b p w x y o)
      (fun st => ∃ y, fin w y ∧ x ≤ y ∧ (hi = top w ∨ y = hi) ∧ st = ((w, (x, (y, ((), ((), ()))))), ((b, (p, ())), ((false, ((), ((), ()))), ())))) ?_ ?_
    · obtain ⟨_, x1, x2⟩ := hx
      rw [iquo_eq htn.1 (by omega) (by omega)]
      by_cases h : hi = top w
      · have hx : (hi == top w) = true := by simpa using h
        rw [hx, cond_true, hMax]
        simp only [Option.bind_some]
        rw [beq_f (show ¬ max (top w / 2) x = top w by omega), cond_false]
        exact ⟨_, rfl, max (top w / 2) x, ⟨hw, by omega, by omega⟩, by omega, .inl h, rfl⟩
      · rw [beq_f h, cond_false]
        exact ⟨_, rfl, hi, pok_hi hp h, hxh, .inr rfl, rfl⟩
    · rintro _ ⟨y, hy, hxy, hyl, rfl⟩
      refine ⟨x, y, hx, hy, hxy, hxl, hyl, ?_⟩
      simp only
      obtain ⟨a1, a2⟩ := hFF w x hx
      obtain ⟨c1, c2⟩ := hFF w y hy
      have hxyv : fv w x ≤ fv w y := fv_le.2 hxy
      rw [a2, c2]
      simp only [Option.bind_some]
      obtain ⟨k, d1, d2, d3⟩ := hP b p 8 hb h1 (by omega) (by omega) (by omega)
      rw [d1]
      simp only [Option.bind_some]
      by_cases k0 : k = 0
      · subst k0
        exact ⟨fv w x, _, rfl, a1, Rat.le_refl, hxyv, by omega, by omega⟩
      rw [beq_f k0, cond_false]
      by_cases k1 : k = 1
      · subst k1
        exact ⟨fv w y, _, rfl, c1, hxyv, Rat.le_refl, by omega, by omega⟩
      rw [beq_f k1, cond_false]
      refine jb_goal (inO b p w x y) (fun st => ∃ t : Bool, (t = true → x ≤ 0 ∧ 0 ≤ y) ∧ st = ((t, ((), (k, (w, (x, (y, ((), ((), ((), ()))))))))), ((false, ((), ((), ()))), ((b, (p + 1, ())), ((fb (fv w y), (ft (fv w y), (fq (fv w y), ()))), ((fb (fv w x), (ft (fv w x), (fq (fv w x), ()))), ())))))) ?_ ?_
      · cases k == 2
        · exact ⟨_, rfl, false, by simp, rfl⟩
        · simp only [cond_true, ile_iff]
          by_cases h3 : x ≤ 0
          · rw [decide_eq_true h3, cond_true]
            exact ⟨_, rfl, decide (0 ≤ y), fun h => ⟨h3, of_decide_eq_true h⟩, rfl⟩
          · rw [decide_eq_false h3, cond_false]
            exact ⟨_, rfl, false, by simp, rfl⟩
      · rintro _ ⟨t, ht, rfl⟩
        simp only
        cases t
        · simp only [cond_false]
          obtain ⟨_, x1, x2⟩ := hx
          obtain ⟨_, y1, y2⟩ := hy
          obtain ⟨k2, e1, e2, e3⟩ := hP b (p + 1) 9 hb (by omega) (by omega) (by omega) (by omega)
          by_cases h5 : k < 5
          · rw [ilt_iff, decide_eq_true h5, cond_true, hG x y (by omega) hxy (by omega)]
            simp only [Option.bind_some]
            rw [e1]
            simp only [Option.bind_some]
            rw [iadd_eq (x := 2) (by omega) (by omega), wrapu64 (x := 2 + k2) (by omega) (by omega), ok_ne (by omega), iquou_eq (by omega) (by omega) (by omega)]
            have g1 : 0 ≤ (y - x) / (2 + k2) := Int.ediv_nonneg (by omega) (by omega)
            have g2 : (y - x) / (2 + k2) ≤ y - x := Int.ediv_le_self _ (by omega)
            have g3 : (y - x) / (2 + k2) ≤ 9223372036854775807 := by
              have h1 : (y - x) / (2 + k2) * 2 ≤ (y - x) / (2 + k2) * (2 + k2) := Int.mul_le_mul_of_nonneg_left (by omega) g1
              have h2 := Int.ediv_mul_le (y - x) (show (2 + k2) ≠ 0 by omega)
              omega
            generalize (y - x) / (2 + k2) = g at *
            rw [wrap64 (x := g) (by omega) (by omega), iadd_eq (by omega) (by omega)]
            have hf : fin w (x + g) := ⟨hw, by omega, by omega⟩
            obtain ⟨j1, j2⟩ := hFF w (x + g) hf
            rw [j2]
            exact ⟨fv w (x + g), _, rfl, j1, fv_le.2 (by omega), fv_le.2 (by omega), by omega, by omega⟩
          · rw [ilt_iff, decide_eq_false h5, cond_false, jb_inr]
            simp only
            have hk9 : ∃ j : Nat, j ≤ 9 ∧ j ≠ 0 ∧ k2 + 1 = (j : Int) := ⟨(k2 + 1).toNat, by omega, by omega, by omega⟩
            obtain ⟨j, j1, j0, j2⟩ := hk9
            obtain ⟨q1, q2, q3, q4, q5, q6⟩ := part_way ⟨hw, x1, x2⟩ ⟨hw, y1, y2⟩ hxy j1
            rw [hSub _ _ c1 a1, resF_fits q1]
            simp only [Option.bind_some]
            rw [e1]
            simp only [Option.bind_some]
            have big : ∀ x : Nat, x < 65536 → x < 65536 ^ 256 := fun x hx => Nat.lt_of_lt_of_le hx (by decide)
            have hd10 : [(10 : Int)] = dig 10 := (dig_of_lt (d := 10) (by omega) (by omega)).symm
            have hdj : [(j : Int)] = dig j := (dig_of_lt (by omega) j0).symm
            have hsg : sg false j = (j : Int) := by simp [sg]
            rw [iadd_eq (x := 1) (by omega) (by omega), show 1 + k2 = (j : Int) by omega, hdj, hd10, hOf false j 10 (by omega) (big _ (by omega)) (big _ (by omega)), hsg, resF_fits q2]
            simp only [Option.bind_some]
            rw [hMul _ _ q1 q2, resF_fits q3]
            simp only [Option.bind_some]
            rw [hAdd _ _ a1 q3, resF_fits q4]
            simp only [Option.bind_some, cond_true, jb_inr]
            exact ⟨_, _, rfl, q4, q5, q6, by omega, by omega⟩
        · obtain ⟨t1, t2⟩ := ht rfl
          simp only [cond_true]
          rw [hZ]
          simp only [Option.bind_some]
          have z0 := fv_zero w
          exact ⟨0, _, rfl, by decide, by rw [← z0]; exact fv_le.2 t1, by rw [← z0]; exact fv_le.2 t2, by omega, by omega⟩
end Go.Px.Seat

/- Draws: a span and a number in it. -/
namespace Go.Px.Seat
open Go Pm
set_option linter.unusedVariables false
variable {B : Run}
def byt (l : List Int) : Prop := ∀ x ∈ l, 0 ≤ x ∧ x < 256
theorem k_open : Ev fun n => ∀ l : List Int, byt l → l.length ≤ 1099511627776 → ∃ b, c_s_l31Open ((C B).run n) l = some (b, (0, ())) ∧ rdr b := by
  refine Ev.triv.succ fun n hn _ l hb hl => ?_
  rw [run_succ, e_s_l31Open]
  unfold p_s_l31Open
  rw [ilt_iff, len_eq]
  by_cases h : (2000 : Int) < (l.length : Int)
  · rw [decide_eq_true h, cond_true, ok_of (sliceOk_true (by omega) (by omega) (by omega))]
    refine ⟨l.take 2000, rfl, fun x hx => hb x (List.mem_of_mem_take hx), by simp; omega⟩
  · rw [decide_eq_false h, cond_false]
    exact ⟨l, rfl, hb, by omega⟩
theorem k_Fine : Ev fun n => ∀ l : List Int, byt l → l.length ≤ 1099511627776 → ∃ w lo hi r, c_s_Fine ((C B).run n) l = some (w, (true, (lo, (hi, (fb r, (ft r, (fq r, ()))))))) ∧ wd w = true ∧ pok w lo hi = true ∧ fits r ∧ inn w lo hi r = true := by
  refine ((k_open (B := B)).and ((k_real (B := B)).and ((k_fine (B := B)).and (k_inside (B := B))))).succ fun n hn ⟨hO, hR, hF, hI⟩ l hb hl => ?_
  rw [run_succ, e_s_Fine]
  unfold p_s_Fine
  obtain ⟨b, a1, a2⟩ := hO l hb hl
  obtain ⟨w, b1, b2⟩ := hR b 0 a2 (by omega) (by omega)
  obtain ⟨lo, hi, p, c1, c2, c3, c4⟩ := hF b (0 + 1) w a2 (by omega) (by omega) b2
  obtain ⟨r, p', d1, d2, d3, _, _⟩ := hI b p w lo hi true a2 (by omega) (by omega) c4
  rw [a1]
  simp only [Option.bind_some]
  rw [b1]
  simp only [Option.bind_some]
  rw [c1]
  simp only [Option.bind_some]
  rw [d1]
  exact ⟨w, lo, hi, r, rfl, b2, c4, d2, d3⟩
theorem k_FineOf : Ev fun n => ∀ (w : Int) (l : List Int), wd w = true → byt l → l.length ≤ 1099511627776 → ∃ lo hi r, c_s_FineOf ((C B).run n) w l = some (true, (lo, (hi, (fb r, (ft r, (fq r, ())))))) ∧ pok w lo hi = true ∧ fits r ∧ inn w lo hi r = true := by
  refine ((k_open (B := B)).and ((k_fine (B := B)).and (k_inside (B := B)))).succ fun n hn ⟨hO, hF, hI⟩ w l hw hb hl => ?_
  rw [run_succ, e_s_FineOf]
  unfold p_s_FineOf
  obtain ⟨b, a1, a2⟩ := hO l hb hl
  obtain ⟨lo, hi, p, c1, c2, c3, c4⟩ := hF b 0 w a2 (by omega) (by omega) hw
  obtain ⟨r, p', d1, d2, d3, _, _⟩ := hI b p w lo hi true a2 (by omega) (by omega) c4
  rw [a1]
  simp only [Option.bind_some]
  rw [c1]
  simp only [Option.bind_some]
  rw [d1]
  exact ⟨lo, hi, r, rfl, c4, d2, d3⟩
end Go.Px.Seat
