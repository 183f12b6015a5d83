/- Own texts, part M5: PmSf PmV PmW PmX PnA PnB PmY PmYa PmYb PmYc PmYd. -/
import Derived.Test.YtbdlklncblklnaaGreatDoorM4
import Derived.KernelRfl
import Derived.Test.YtbdlklncblklnaaGreatDoorM3
set_option linter.unusedVariables false

/- Draws: a span and a number in it. -/
namespace Go.Px.Seat
open Go Pm
set_option linter.unusedVariables false
variable {B : Run}
def byt (l : List Int) : Prop := ∀ x ∈ l, 0 ≤ x ∧ x < 256
theorem k_open : Ev fun n => ∀ l : List Int, byt l → l.length ≤ 1099511627776 → ∃ b, c_s_l31Open ((C B).run n) l = some (b, (0, ())) ∧ rdr b := by
  refine Ev.triv.succ fun n hn _ l hb hl => ?_
  rw [run_succ, e_s_l31Open]
  unfold p_s_l31Open
  rw [ilt_iff, len_eq]
  by_cases h : (2000 : Int) < (l.length : Int)
  · rw [decide_eq_true h, cond_true, ok_of (sliceOk_true (by omega) (by omega) (by omega))]
    refine ⟨l.take 2000, rfl, fun x hx => hb x (List.mem_of_mem_take hx), by simp; omega⟩
  · rw [decide_eq_false h, cond_false]
    exact ⟨l, rfl, hb, by omega⟩
theorem k_Fine : Ev fun n => ∀ l : List Int, byt l → l.length ≤ 1099511627776 → ∃ w lo hi r, c_s_Fine ((C B).run n) l = some (w, (true, (lo, (hi, (fb r, (ft r, (fq r, ()))))))) ∧ wd w = true ∧ pok w lo hi = true ∧ fits r ∧ inn w lo hi r = true := by
  refine ((k_open (B := B)).and ((k_real (B := B)).and ((k_fine (B := B)).and (k_inside (B := B))))).succ fun n hn ⟨hO, hR, hF, hI⟩ l hb hl => ?_
  rw [run_succ, e_s_Fine]
  unfold p_s_Fine
  obtain ⟨b, a1, a2⟩ := hO l hb hl
  obtain ⟨w, b1, b2⟩ := hR b 0 a2 (by omega) (by omega)
  obtain ⟨lo, hi, p, c1, c2, c3, c4⟩ := hF b (0 + 1) w a2 (by omega) (by omega) b2
  obtain ⟨r, p', d1, d2, d3, _, _⟩ := hI b p w lo hi true a2 (by omega) (by omega) c4
  rw [a1]
  simp only [Option.bind_some]
  rw [b1]
  simp only [Option.bind_some]
  rw [c1]
  simp only [Option.bind_some]
  rw [d1]
  exact ⟨w, lo, hi, r, rfl, b2, c4, d2, d3⟩
theorem k_FineOf : Ev fun n => ∀ (w : Int) (l : List Int), wd w = true → byt l → l.length ≤ 1099511627776 → ∃ lo hi r, c_s_FineOf ((C B).run n) w l = some (true, (lo, (hi, (fb r, (ft r, (fq r, ())))))) ∧ pok w lo hi = true ∧ fits r ∧ inn w lo hi r = true := by
  refine ((k_open (B := B)).and ((k_fine (B := B)).and (k_inside (B := B)))).succ fun n hn ⟨hO, hF, hI⟩ w l hw hb hl => ?_
  rw [run_succ, e_s_FineOf]
  unfold p_s_FineOf
  obtain ⟨b, a1, a2⟩ := hO l hb hl
  obtain ⟨lo, hi, p, c1, c2, c3, c4⟩ := hF b 0 w a2 (by omega) (by omega) hw
  obtain ⟨r, p', d1, d2, d3, _, _⟩ := hI b p w lo hi true a2 (by omega) (by omega) c4
  rw [a1]
  simp only [Option.bind_some]
  rw [c1]
  simp only [Option.bind_some]
  rw [d1]
  exact ⟨lo, hi, r, rfl, c4, d2, d3⟩
end Go.Px.Seat

/- The float below a number: what it is, and how it is found. No program here. -/
namespace Pm
open Go.Px.Seat
theorem mk_le2 {a b : Int} {q1 q2 : Nat} (h1 : q1 ≠ 0) (h2 : q2 ≠ 0) : mkRat a q1 ≤ mkRat b q2 ↔ a * q2 ≤ b * q1 := by
  rw [← Rat.not_lt, mk_lt2 h2 h1]
  omega
theorem mk_eq2 {a b : Int} {q1 q2 : Nat} (h1 : q1 ≠ 0) (h2 : q2 ≠ 0) : mkRat a q1 = mkRat b q2 ↔ a * q2 = b * q1 := by
  constructor
  · intro h
    have e1 := (mk_le2 h1 h2).1 (by rw [h]; exact Rat.le_refl)
    have e2 := (mk_le2 h2 h1).1 (by rw [h]; exact Rat.le_refl)
    omega
  · intro h
    exact Rat.le_antisymm ((mk_le2 h1 h2).2 (by omega)) ((mk_le2 h2 h1).2 (by omega))
/-- m is the greatest float from 0 on that is not above r; ex: it is r -/
def IsTr (w : Int) (r : Rat) (m : Int) (ex : Bool) : Prop := 0 ≤ m ∧ m < top w ∧ fv w m ≤ r ∧ (m = top w - 1 ∨ r < fv w (m + 1)) ∧ (ex = true ↔ fv w m = r)
theorem IsTr.unique {w : Int} {r : Rat} {m m' : Int} {ex ex' : Bool} (h : IsTr w r m ex) (h' : IsTr w r m' ex') : m = m' ∧ ex = ex' := by
  have half : ∀ {m m' : Int} {ex ex' : Bool}, IsTr w r m ex → IsTr w r m' ex' → m ≤ m' := by
    intro m m' ex ex' h h'
    obtain ⟨a1, a2, a3, a4, a5⟩ := h
    obtain ⟨b1, b2, b3, b4, b5⟩ := h'
    rcases b4 with b4 | b4
    · omega
    · have h1 : ¬ fv w (m' + 1) ≤ fv w m := fun h => Rat.not_le.2 b4 (Rat.le_trans h a3)
      rw [fv_le] at h1
      omega
  have e : m = m' := by
    have := half h h'
    have := half h' h
    omega
  subst e
  refine ⟨rfl, ?_⟩
  have h1 := h.2.2.2.2
  have h2 := h'.2.2.2.2
  cases ex <;> cases ex' <;> simp_all
theorem fN_at {F e Q : Nat} (h1 : Q < 2 ^ (F + 1)) (h2 : e = 0 ∨ 2 ^ F ≤ Q) : fN F (e * 2 ^ F + Q) = Q * 2 ^ e := by
  have hU : 0 < 2 ^ F := Nat.pow_pos (by decide)
  rw [Nat.pow_succ] at h1
  unfold fN
  generalize 2 ^ F = U at *
  by_cases h : Q < U
  · have he : e = 0 := by omega
    subst he
    rw [Nat.zero_mul, Nat.zero_add, Nat.div_eq_of_lt h, if_pos rfl, Nat.mod_eq_of_lt h, Nat.pow_zero, Nat.mul_one]
  · obtain ⟨t, rfl⟩ : ∃ t, Q = U + t := ⟨Q - U, by omega⟩
    have e0 : e * U + (U + t) = U * (e + 1) + t := by rw [Nat.mul_add, Nat.mul_one, Nat.mul_comm e]; omega
    have e1 : (U * (e + 1) + t) / U = e + 1 := by rw [Nat.mul_add_div hU, Nat.div_eq_of_lt (by omega), Nat.add_zero]
    have e2 : (U * (e + 1) + t) % U = t := by rw [Nat.mul_add_mod, Nat.mod_eq_of_lt (by omega)]
    rw [e0, e1, e2, if_neg (by omega), Nat.add_sub_cancel, Nat.add_comm t]
theorem fN_at' {F e Q : Nat} (h1 : Q < 2 ^ (F + 1)) (h2 : e = 0 ∨ 2 ^ F ≤ Q) : fN F (e * 2 ^ F + Q + 1) = (Q + 1) * 2 ^ e := by
  have hp : 2 ^ (F + 1) = 2 ^ F * 2 := Nat.pow_succ ..
  have hU : 0 < 2 ^ F := Nat.pow_pos (by decide)
  by_cases h : Q + 1 < 2 ^ (F + 1)
  · rw [Nat.add_assoc]
    exact fN_at h (h2.imp id fun h => by omega)
  · have e1 : Q + 1 = 2 ^ F * 2 := by omega
    have e2 : e * 2 ^ F + Q + 1 = (e + 1) * 2 ^ F + 2 ^ F := by rw [Nat.add_assoc, e1, Nat.add_mul]; omega
    rw [e2, fN_at (Q := 2 ^ F) (by omega) (.inr (Nat.le_refl _)), e1, Nat.pow_succ, Nat.mul_assoc, Nat.mul_comm 2 (2 ^ e)]
/-- a number against its digits at a scale -/
theorem scale {p q L : Nat} {s : Int} (hq : q ≠ 0) (hs : s ≤ (L : Int)) : scQ p q s * 2 ^ ((L : Int) - s).toNat * q ≤ p * 2 ^ L ∧ p * 2 ^ L < (scQ p q s + 1) * 2 ^ ((L : Int) - s).toNat * q ∧
    (scR p q s = 0 ↔ scQ p q s * 2 ^ ((L : Int) - s).toNat * q = p * 2 ^ L) := by
  have core : ∀ (x d E : Nat), d ≠ 0 → E ≠ 0 → x / d * d * E ≤ x * E ∧ x * E < (x / d + 1) * d * E ∧ (x % d = 0 ↔ x / d * d * E = x * E) := by
    intro x d E hd hE
    have h1 := Nat.div_add_mod x d
    have h2 := Nat.mod_lt x (Nat.pos_of_ne_zero hd)
    rw [Nat.mul_comm d] at h1
    refine ⟨Nat.mul_le_mul_right _ (by omega), Nat.mul_lt_mul_of_pos_right (by rw [Nat.add_mul]; omega) (Nat.pos_of_ne_zero hE), ?_⟩
    constructor
    · intro h
      rw [h, Nat.add_zero] at h1
      rw [h1]
    · intro h
      have := Nat.eq_of_mul_eq_mul_right (Nat.pos_of_ne_zero hE) h
      omega
  unfold scQ scR
  by_cases h : 0 ≤ s
  · obtain ⟨k, rfl⟩ : ∃ k : Nat, s = (k : Int) := ⟨s.toNat, by omega⟩
    obtain ⟨e, he⟩ : ∃ e, L = k + e := ⟨L - k, by omega⟩
    have e1 : ((L : Int) - (k : Int)).toNat = e := by omega
    rw [if_pos h, if_pos h, e1, Int.toNat_natCast, he, Nat.pow_add]
    obtain ⟨c1, c2, c3⟩ := core (p * 2 ^ k) q (2 ^ e) hq (pow2_ne e)
    have r1 : ∀ z : Nat, z * 2 ^ e * q = z * q * 2 ^ e := fun z => by rw [Nat.mul_assoc, Nat.mul_comm (2 ^ e), ← Nat.mul_assoc]
    rw [r1, r1, ← Nat.mul_assoc p]
    exact ⟨c1, c2, c3⟩
  · obtain ⟨k, rfl⟩ : ∃ k : Nat, s = -(k : Int) := ⟨(-s).toNat, by omega⟩
    have e1 : ((L : Int) - -(k : Int)).toNat = k + L := by omega
    have e2 : (- -(k : Int)).toNat = k := by omega
    rw [if_neg h, if_neg h, e1, e2, Nat.pow_add]
    obtain ⟨c1, c2, c3⟩ := core p (q * 2 ^ k) (2 ^ L) (Nat.mul_ne_zero hq (pow2_ne k)) (pow2_ne L)
    have r1 : ∀ z : Nat, z * (2 ^ k * 2 ^ L) * q = z * (q * 2 ^ k) * 2 ^ L := fun z => by ac_rfl
    rw [r1, r1]
    exact ⟨c1, c2, c3⟩
theorem fI_nat (w : Int) (m : Nat) : fI w (m : Int) = fN (frw w) m := by
  unfold fI
  rw [if_neg (by omega), Int.natAbs_natCast]
/-- how it is found -/
theorem size_law {w s : Int} {p q : Nat} (hq : q ≠ 0) (hs : s ≤ (lst w : Int)) (h1 : scQ p q s < 2 ^ (frw w + 1)) (h2 : s = (lst w : Int) ∨ 2 ^ frw w ≤ scQ p q s) :
    let m : Nat := ((lst w : Int) - s).toNat * 2 ^ frw w + scQ p q s
    fv w (m : Int) ≤ mkRat p q ∧ mkRat p q < fv w ((m : Int) + 1) ∧ (scR p q s = 0 ↔ fv w (m : Int) = mkRat p q) := by
  intro m
  obtain ⟨c1, c2, c3⟩ := scale (p := p) hq hs
  have hL := pow2_ne (lst w)
  have h2' : ((lst w : Int) - s).toNat = 0 ∨ 2 ^ frw w ≤ scQ p q s := h2.imp (fun h => by omega) id
  have f1 : fI w (m : Int) = ((scQ p q s * 2 ^ ((lst w : Int) - s).toNat : Nat) : Int) := by rw [fI_nat]; exact congrArg _ (fN_at h1 h2')
  have f2 : fI w ((m : Int) + 1) = (((scQ p q s + 1) * 2 ^ ((lst w : Int) - s).toNat : Nat) : Int) := by
    have : ((m : Int) + 1) = ((m + 1 : Nat) : Int) := by omega
    rw [this, fI_nat]; exact congrArg _ (fN_at' h1 h2')
  rw [fv, fv, f1, f2, mk_le2 hL hq, mk_lt2 hq hL, mk_eq2 hL hq, ← Int.natCast_mul, ← Int.natCast_mul, ← Int.natCast_mul, Int.ofNat_le, Int.ofNat_lt, c3]
  refine ⟨c1, c2, ?_⟩
  constructor
  · intro h; rw [h]
  · intro h; exact Int.ofNat.inj h
end Pm

/- The reference's floats next to a number. -/
namespace Pm
open Go.Px.Seat
theorem scQ_half (p q : Nat) (s : Int) : scQ p q (s - 1) = scQ p q s / 2 := by
  unfold scQ
  by_cases h : 1 ≤ s
  · obtain ⟨k, rfl⟩ : ∃ k : Nat, s = (k : Int) + 1 := ⟨(s - 1).toNat, by omega⟩
    rw [if_pos (by omega), if_pos (by omega), show ((k : Int) + 1 - 1).toNat = k by omega, show ((k : Int) + 1).toNat = k + 1 by omega, Nat.pow_succ, ← Nat.mul_assoc, Nat.div_div_eq_div_mul, Nat.mul_div_mul_right _ _ (by decide)]
  · obtain ⟨k, rfl⟩ : ∃ k : Nat, s = -(k : Int) := ⟨(-s).toNat, by omega⟩
    have h1 : (-(-(k : Int) - 1)).toNat = k + 1 := by omega
    have h2 : (- -(k : Int)).toNat = k := by omega
    rw [if_neg (by omega), h1, Nat.pow_succ, ← Nat.mul_assoc, ← Nat.div_div_eq_div_mul]
    by_cases hk : k = 0
    · subst hk
      rw [if_pos (by omega)]
      simp
    · rw [if_neg (by omega), h2]
theorem scQ_ge {p q G : Nat} {s : Int} (hp : p ≠ 0) (hq : q ≠ 0) (h : (G : Int) + bl q + 1 ≤ (bl p : Int) + s) : 2 ^ G ≤ scQ p q s := by
  have h1 := bl_ge hp
  have h2 := bl_lt q
  have hb : bl p ≠ 0 := mt bl_eq_zero.1 hp
  unfold scQ
  split
  · rename_i hs
    rw [Nat.le_div_iff_mul_le (Nat.pos_of_ne_zero hq)]
    have h3 : 2 ^ (G + bl q) ≤ 2 ^ (bl p - 1 + s.toNat) := Nat.pow_le_pow_right (by decide) (by omega)
    rw [Nat.pow_add, Nat.pow_add] at h3
    exact Nat.le_trans (Nat.mul_le_mul_left _ (Nat.le_of_lt h2)) (Nat.le_trans h3 (Nat.mul_le_mul_right _ h1))
  · rename_i hs
    rw [Nat.le_div_iff_mul_le (Nat.mul_pos (Nat.pos_of_ne_zero hq) (Nat.pow_pos (by decide)))]
    have h3 : 2 ^ (G + bl q + (-s).toNat) ≤ 2 ^ (bl p - 1) := Nat.pow_le_pow_right (by decide) (by omega)
    rw [Nat.pow_add, Nat.pow_add, Nat.mul_assoc] at h3
    exact Nat.le_trans (Nat.mul_le_mul_left _ (Nat.mul_le_mul_right _ (Nat.le_of_lt h2))) (Nat.le_trans h3 h1)
/-- what is found: in range -/
theorem tr_in {w s : Int} {p q : Nat} (hq : q ≠ 0) (hs : s ≤ (lst w : Int)) (h1 : scQ p q s < 2 ^ (frw w + 1)) (h2 : s = (lst w : Int) ∨ 2 ^ frw w ≤ scQ p q s)
    (h3 : ((((lst w : Int) - s).toNat * 2 ^ frw w + scQ p q s : Nat) : Int) < top w) : IsTr w (mkRat p q) (((lst w : Int) - s).toNat * 2 ^ frw w + scQ p q s : Nat) (!(decide (scR p q s ≠ 0))) := by
  obtain ⟨c1, c2, c3⟩ := size_law hq hs h1 h2
  refine ⟨by omega, h3, c1, .inr c2, ?_⟩
  rw [← c3]
  simp
/-- what is found: too great -/
theorem tr_out {w s : Int} {p q : Nat} (hw : wd w = true) (hq : q ≠ 0) (hs : s ≤ (lst w : Int)) (h1 : scQ p q s < 2 ^ (frw w + 1)) (h2 : s = (lst w : Int) ∨ 2 ^ frw w ≤ scQ p q s)
    (h3 : top w ≤ ((((lst w : Int) - s).toNat * 2 ^ frw w + scQ p q s : Nat) : Int)) : IsTr w (mkRat p q) (top w - 1) false := by
  obtain ⟨c1, c2, c3⟩ := size_law hq hs h1 h2
  have htp := top_pos hw
  have h4 : fv w (top w) ≤ mkRat p q := Rat.le_trans (fv_le.2 h3) c1
  have h5 : fv w (top w - 1) < fv w (top w) := fv_lt.2 (by omega)
  refine ⟨by omega, by omega, Rat.le_trans (Rat.le_of_lt h5) h4, .inl rfl, ?_⟩
  constructor
  · intro h; cases h
  · intro h
    rw [← h] at h4
    exact absurd h4 (Rat.not_le.2 h5)
theorem tr_zero {w : Int} {q : Nat} (hw : wd w = true) : IsTr w (mkRat (0 : Nat) q) 0 true := by
  have htp := top_pos hw
  have h0 : mkRat ((0 : Nat) : Int) q = 0 := Rat.zero_mkRat q
  rw [h0]
  refine ⟨by omega, by omega, by rw [fv_zero]; exact Rat.le_refl, .inr ?_, by rw [fv_zero]; simp⟩
  rw [← fv_zero w]
  exact fv_lt.2 (by omega)
end Pm
namespace Go.Px.Seat
open Go Pm
set_option linter.unusedVariables false
variable {B : Run}
end Go.Px.Seat

/- Rounding: the reference's. Seat ZD. -/
namespace Pm
open Go.Px.Seat
/-- n is the greatest float that is not above r, or the one below all -/
def IsDn (w : Int) (r : Rat) (n : Int) : Prop := -top w ≤ n ∧ n < top w ∧ (n = -top w ∨ fv w n ≤ r) ∧ (n = top w - 1 ∨ r < fv w (n + 1))
theorem IsDn.mono {w : Int} {r s : Rat} {n m : Int} (h : IsDn w r n) (h' : IsDn w s m) (hrs : r ≤ s) : n ≤ m := by
  obtain ⟨a1, a2, a3, a4⟩ := h
  obtain ⟨b1, b2, b3, b4⟩ := h'
  by_cases hnm : n ≤ m
  · exact hnm
  · exfalso
    have h1 := b4.resolve_left (by omega)
    have h2 := a3.resolve_left (by omega)
    have h3 : fv w (m + 1) ≤ fv w n := fv_le.2 (by omega)
    exact Rat.not_le.2 h1 (Rat.le_trans h3 (Rat.le_trans h2 hrs))
theorem IsDn.unique {w : Int} {r : Rat} {n m : Int} (h : IsDn w r n) (h' : IsDn w r m) : n = m := by
  have := h.mono h' Rat.le_refl
  have := h'.mono h Rat.le_refl
  omega
theorem dn_pos {w : Int} {r : Rat} {m : Int} {ex : Bool} (hw : wd w = true) (h : IsTr w r m ex) : IsDn w r m := by
  obtain ⟨a1, a2, a3, a4, a5⟩ := h
  have := top_pos hw
  exact ⟨by omega, a2, .inr a3, a4⟩
theorem dn_neg {w : Int} {r : Rat} {m : Int} {ex : Bool} (hw : wd w = true) (h : IsTr w (-r) m ex) : IsDn w r (-(m + if ex = true then 0 else 1)) := by
  obtain ⟨a1, a2, a3, a4, a5⟩ := h
  have htp := top_pos hw
  cases ex
  · simp only [Bool.false_eq_true, if_false]
    have hne : fv w m ≠ -r := fun h => by simpa using a5.2 h
    refine ⟨by omega, by omega, ?_, .inr ?_⟩
    · rcases a4 with h | h
      · exact .inl (by omega)
      · right
        rw [fv_neg]
        grind
    · rw [show -(m + 1) + 1 = -m by omega, fv_neg]
      grind
  · simp only [if_true, Int.add_zero]
    have he := a5.1 rfl
    refine ⟨by omega, by omega, .inr ?_, .inr ?_⟩
    · rw [fv_neg, he]
      grind
    · have h1 : fv w (-m) < fv w (-m + 1) := fv_lt.2 (by omega)
      rw [fv_neg, he] at h1
      grind
theorem mk_negate (p q : Nat) : mkRat (sg true p) q = -mkRat (sg false p) q := by
  rw [Rat.neg_mkRat]; rfl
end Pm
namespace Go.Px.Seat
open Go Pm
set_option linter.unusedVariables false
variable {B : Run}
end Go.Px.Seat

/- Numbers and two infinite ones: their order, sums, products, quotients, powers. -/
namespace Pm
inductive Lm where
  | neg | num (r : Rat) | pos
namespace Lm
def le : Lm → Lm → Prop
  | .neg, _ => True
  | .num _, .neg => False
  | .num r, .num s => r ≤ s
  | .num _, .pos => True
  | .pos, .pos => True
  | .pos, _ => False
instance : LE Lm := ⟨Lm.le⟩
@[simp] theorem neg_le (a : Lm) : Lm.neg ≤ a := trivial
@[simp] theorem le_pos (a : Lm) : a ≤ Lm.pos := by cases a <;> trivial
@[simp] theorem num_le (r s : Rat) : Lm.num r ≤ Lm.num s ↔ r ≤ s := Iff.rfl
@[simp] theorem num_le_neg (r : Rat) : ¬ Lm.num r ≤ Lm.neg := fun h => h
@[simp] theorem pos_le_num (r : Rat) : ¬ Lm.pos ≤ Lm.num r := fun h => h
@[simp] theorem pos_le_neg : ¬ Lm.pos ≤ Lm.neg := fun h => h
theorem rfl' (a : Lm) : a ≤ a := by cases a <;> simp
theorem trans {a b c : Lm} (h : a ≤ b) (h' : b ≤ c) : a ≤ c := by
  cases a <;> cases b <;> cases c <;> simp_all
  exact Rat.le_trans h h'
theorem total (a b : Lm) : a ≤ b ∨ b ≤ a := by
  cases a <;> cases b <;> simp
  exact Rat.le_total
theorem of_not_le {a b : Lm} (h : ¬ a ≤ b) : b ≤ a := (total a b).resolve_left h
def opp : Lm → Lm
  | .neg => .pos | .pos => .neg | .num r => .num (-r)
@[simp] theorem opp_neg : opp .neg = .pos := rfl
@[simp] theorem opp_pos : opp .pos = .neg := rfl
@[simp] theorem opp_num (r : Rat) : opp (.num r) = .num (-r) := rfl
@[simp] theorem opp_opp (a : Lm) : a.opp.opp = a := by cases a <;> simp [Rat.neg_neg]
theorem opp_le {a b : Lm} : a.opp ≤ b.opp ↔ b ≤ a := by
  cases a <;> cases b <;> simp
/-- what is infinite of a sign -/
def inf (n : Int) : Lm := if n < 0 then .neg else if n = 0 then .num 0 else .pos
def sgn : Lm → Int
  | .neg => -1 | .pos => 1 | .num r => if r < 0 then -1 else if r = 0 then 0 else 1
def add : Lm → Lm → Lm
  | .neg, _ => .neg
  | .pos, _ => .pos
  | .num _, .neg => .neg
  | .num _, .pos => .pos
  | .num r, .num s => .num (r + s)
def mul : Lm → Lm → Lm
  | .num r, .num s => .num (r * s)
  | a, b => inf (a.sgn * b.sgn)
/-- by what is above 0 -/
def div : Lm → Lm → Lm
  | _, .pos => .num 0
  | _, .neg => .num 0
  | .num r, .num s => .num (r / s)
  | a, _ => a
theorem sgn_opp (a : Lm) : a.opp.sgn = -a.sgn := by
  cases a with
  | neg => rfl
  | pos => rfl
  | num r =>
    simp only [opp, sgn]
    by_cases h : r < 0
    · rw [if_pos h, if_neg (by grind), if_neg (by grind)]; rfl
    · by_cases h0 : r = 0
      · subst h0; rfl
      · rw [if_neg h, if_neg h0, if_pos (by grind)]
theorem inf_opp (n : Int) : inf (-n) = (inf n).opp := by
  unfold inf
  by_cases h : n < 0
  · rw [if_neg (by omega), if_neg (by omega), if_pos h]; rfl
  · by_cases h0 : n = 0
    · subst h0; simp
    · rw [if_pos (by omega), if_neg h, if_neg h0]; rfl
theorem mul_comm (a b : Lm) : mul a b = mul b a := by
  cases a <;> cases b <;> simp only [mul] <;> first | rw [Rat.mul_comm] | rw [Int.mul_comm]
theorem opp_mul (a b : Lm) : mul a.opp b = (mul a b).opp := by
  have key : ∀ n m : Int, inf (-n * m) = (inf (n * m)).opp := fun n m => by rw [Int.neg_mul, inf_opp]
  cases a with
  | neg => cases b <;> simp only [mul, opp] <;> exact key (-1) _
  | pos => cases b <;> simp only [mul, opp] <;> exact key 1 _
  | num r =>
    cases b with
    | neg =>
      show inf ((Lm.num (-r)).sgn * (-1)) = _
      have := sgn_opp (.num r)
      simp only [opp] at this
      rw [this]
      exact key _ _
    | pos =>
      show inf ((Lm.num (-r)).sgn * 1) = _
      have := sgn_opp (.num r)
      simp only [opp] at this
      rw [this]
      exact key _ _
    | num s =>
      simp only [mul, opp]
      congr 1
      grind
@[simp] theorem inf_neg : inf (-1) = .neg := rfl
@[simp] theorem inf_zero : inf 0 = .num 0 := rfl
@[simp] theorem inf_one : inf 1 = .pos := rfl
theorem sgn_cases (r : Rat) : (r < 0 ∧ (Lm.num r).sgn = -1) ∨ (r = 0 ∧ (Lm.num r).sgn = 0) ∨ (0 < r ∧ (Lm.num r).sgn = 1) := by
  simp only [sgn]
  by_cases h : r < 0
  · exact .inl ⟨h, if_pos h⟩
  · by_cases h0 : r = 0
    · exact .inr (.inl ⟨h0, by rw [if_neg h, if_pos h0]⟩)
    · exact .inr (.inr ⟨by grind, by rw [if_neg h, if_neg h0]⟩)
theorem rat_mul_le {a b c : Rat} (ha : 0 ≤ a) (h : b ≤ c) : a * b ≤ a * c := Rat.mul_le_mul_of_nonneg_left h ha
/-- a product by what is from 0 on -/
theorem mul_mono {a b c : Lm} (ha : Lm.num 0 ≤ a) (h : b ≤ c) : mul a b ≤ mul a c := by
  cases a with
  | neg => simp at ha
  | num r =>
    simp at ha
    cases b with
    | neg =>
      cases c with
      | neg => exact rfl' _
      | num s =>
        show inf ((Lm.num r).sgn * (-1)) ≤ Lm.num (r * s)
        rcases sgn_cases r with ⟨h1, h2⟩ | ⟨h1, h2⟩ | ⟨h1, h2⟩ <;> rw [h2]
        · exact absurd h1 (by grind)
        · subst h1; simp [Rat.zero_mul]
        · simp
      | pos =>
        show inf ((Lm.num r).sgn * (-1)) ≤ inf ((Lm.num r).sgn * 1)
        rcases sgn_cases r with ⟨h1, h2⟩ | ⟨h1, h2⟩ | ⟨h1, h2⟩ <;> rw [h2] <;> simp
        · exact absurd h1 (by grind)
    | num s =>
      cases c with
      | neg => simp at h
      | num t => simp at h; exact rat_mul_le ha h
      | pos =>
        show Lm.num (r * s) ≤ inf ((Lm.num r).sgn * 1)
        rcases sgn_cases r with ⟨h1, h2⟩ | ⟨h1, h2⟩ | ⟨h1, h2⟩ <;> rw [h2]
        · exact absurd h1 (by grind)
        · subst h1; simp [Rat.zero_mul]
        · simp
    | pos =>
      cases c with
      | neg => simp at h
      | num t => simp at h
      | pos => exact rfl' _
  | pos =>
    have e : ∀ x : Lm, mul .pos x = inf x.sgn := fun x => by cases x <;> simp [mul, sgn]
    rw [e, e]
    have hm : b.sgn ≤ c.sgn := by
      cases b with
      | neg => cases c with
        | neg => simp
        | pos => simp [sgn]
        | num s => show (-1 : Int) ≤ (Lm.num s).sgn; rcases sgn_cases s with ⟨h1, h2⟩ | ⟨h1, h2⟩ | ⟨h1, h2⟩ <;> rw [h2] <;> decide
      | pos => cases c <;> simp_all
      | num s => cases c with
        | neg => simp at h
        | pos =>
          rcases sgn_cases s with ⟨h1, h2⟩ | ⟨h1, h2⟩ | ⟨h1, h2⟩ <;> rw [h2] <;> simp [sgn]
        | num t =>
          simp at h
          rcases sgn_cases s with ⟨h1, h2⟩ | ⟨h1, h2⟩ | ⟨h1, h2⟩ <;> rcases sgn_cases t with ⟨h3, h4⟩ | ⟨h3, h4⟩ | ⟨h3, h4⟩ <;> rw [h2, h4] <;> first | decide | (exfalso; grind)
    generalize b.sgn = n at hm
    generalize c.sgn = m at hm
    unfold inf
    by_cases h1 : n < 0
    · rw [if_pos h1]; simp
    · rw [if_neg h1, if_neg (show ¬ m < 0 by omega)]
      by_cases h2 : n = 0
      · rw [if_pos h2]
        by_cases h3 : m = 0
        · rw [if_pos h3]; simp
        · rw [if_neg h3]; simp
      · rw [if_neg h2, if_neg (show ¬ m = 0 by omega)]; simp
theorem mul_anti {a b c : Lm} (ha : a ≤ Lm.num 0) (h : b ≤ c) : mul a c ≤ mul a b := by
  have h0 : Lm.num 0 ≤ a.opp := by
    have := opp_le.2 ha
    simpa using this
  have := mul_mono h0 h
  rw [opp_mul, opp_mul] at this
  exact opp_le.1 this
/-- a product with what lies between two: one of the ends makes it no greater, one no less -/
theorem mul_between (a : Lm) {l h b : Lm} (h1 : l ≤ b) (h2 : b ≤ h) : (mul a l ≤ mul a b ∨ mul a h ≤ mul a b) ∧ (mul a b ≤ mul a l ∨ mul a b ≤ mul a h) := by
  rcases total (.num 0) a with ha | ha
  · exact ⟨.inl (mul_mono ha h1), .inr (mul_mono ha h2)⟩
  · exact ⟨.inr (mul_anti ha h2), .inl (mul_anti ha h1)⟩
theorem mul_box {a b al ah bl bh : Lm} (h1 : al ≤ a) (h2 : a ≤ ah) (h3 : bl ≤ b) (h4 : b ≤ bh) :
    (mul al bl ≤ mul a b ∨ mul al bh ≤ mul a b ∨ mul ah bl ≤ mul a b ∨ mul ah bh ≤ mul a b) ∧
    (mul a b ≤ mul al bl ∨ mul a b ≤ mul al bh ∨ mul a b ≤ mul ah bl ∨ mul a b ≤ mul ah bh) := by
  have p := mul_between a h3 h4
  have q1 := mul_between bl h1 h2
  have q2 := mul_between bh h1 h2
  rw [mul_comm bl, mul_comm bl, mul_comm bl] at q1
  rw [mul_comm bh, mul_comm bh, mul_comm bh] at q2
  refine ⟨?_, ?_⟩
  · rcases p.1 with p | p
    · rcases q1.1 with q | q
      · exact .inl (trans q p)
      · exact .inr (.inr (.inl (trans q p)))
    · rcases q2.1 with q | q
      · exact .inr (.inl (trans q p))
      · exact .inr (.inr (.inr (trans q p)))
  · rcases p.2 with p | p
    · rcases q1.2 with q | q
      · exact .inl (trans p q)
      · exact .inr (.inr (.inl (trans p q)))
    · rcases q2.2 with q | q
      · exact .inr (.inl (trans p q))
      · exact .inr (.inr (.inr (trans p q)))
end Lm
end Pm

/- The float next to a number, down and up. Seat ZD. -/
namespace Pm
open Go.Px.Seat
/-- what a float stands for -/
def lim (w o : Int) : Lm := if o = top w then .pos else if o = -top w then .neg else .num (fv w o)
def rng (w o : Int) : Prop := -top w ≤ o ∧ o ≤ top w
def DnL (w : Int) : Lm → Int → Prop
  | .neg, d => d = -top w
  | .pos, d => d = top w
  | .num r, d => IsDn w r d
theorem isDn_ex {w : Int} (hw : wd w = true) (r : Rat) : ∃ d, IsDn w r d := by
  have ht := top_pos hw
  have key : ∀ k : Nat, (k : Int) < 2 * top w → ∃ d, -top w ≤ d ∧ d ≤ -top w + k ∧ (d = -top w ∨ fv w d ≤ r) ∧ (d = -top w + k ∨ r < fv w (d + 1)) := by
    intro k
    induction k with
    | zero => intro _; exact ⟨-top w, by omega, by omega, .inl rfl, .inl (by omega)⟩
    | succ k ih =>
      intro hk
      obtain ⟨d, h1, h2, h3, h4⟩ := ih (by omega)
      rcases h4 with h4 | h4
      · by_cases h : fv w (d + 1) ≤ r
        · exact ⟨d + 1, by omega, by omega, .inr h, .inl (by omega)⟩
        · exact ⟨d, h1, by omega, h3, .inr (Rat.not_le.1 h)⟩
      · exact ⟨d, h1, by omega, h3, .inr h4⟩
  obtain ⟨d, h1, h2, h3, h4⟩ := key (2 * top w - 1).toNat (by omega)
  exact ⟨d, h1, by omega, h3, h4.elim (fun h => .inl (by omega)) .inr⟩
theorem DnL.unique {w : Int} {a : Lm} {d e : Int} (h : DnL w a d) (h' : DnL w a e) : d = e := by
  cases a with
  | neg => exact h.trans h'.symm
  | pos => exact h.trans h'.symm
  | num r => exact IsDn.unique h h'
open Classical in
noncomputable def dn (w : Int) (a : Lm) : Int := if h : ∃ d, DnL w a d then choose h else 0
noncomputable def up (w : Int) (a : Lm) : Int := -dn w a.opp
theorem dn_of {w : Int} {a : Lm} {d : Int} (h : DnL w a d) : dn w a = d := by
  unfold dn
  rw [dif_pos ⟨d, h⟩]
  exact DnL.unique (Classical.choose_spec (⟨d, h⟩ : ∃ d, DnL w a d)) h
theorem dn_spec {w : Int} (hw : wd w = true) (a : Lm) : DnL w a (dn w a) := by
  have : ∃ d, DnL w a d := by
    cases a with
    | neg => exact ⟨_, rfl⟩
    | pos => exact ⟨_, rfl⟩
    | num r => exact isDn_ex hw r
  obtain ⟨d, h⟩ := this
  rw [dn_of h]; exact h
theorem dn_num {w : Int} {r : Rat} {d : Int} (h : IsDn w r d) : dn w (.num r) = d := dn_of h
theorem up_num {w : Int} {r : Rat} {u : Int} (h : IsDn w (-r) (-u)) : up w (.num r) = u := by
  unfold up
  rw [Lm.opp_num, dn_num h]
  omega
@[simp] theorem dn_neg' (w : Int) : dn w .neg = -top w := dn_of rfl
@[simp] theorem dn_pos' (w : Int) : dn w .pos = top w := dn_of rfl
@[simp] theorem up_neg' (w : Int) : up w .neg = -top w := by simp [up]
@[simp] theorem up_pos' (w : Int) : up w .pos = top w := by simp [up]
theorem dn_rng {w : Int} (hw : wd w = true) (a : Lm) : rng w (dn w a) := by
  have ht := top_pos hw
  have h := dn_spec hw a
  unfold rng
  cases a with
  | neg => simp; omega
  | pos => simp; omega
  | num r => obtain ⟨h1, h2, _⟩ := h; omega
theorem dn_lt {w : Int} (hw : wd w = true) {a : Lm} (ha : a ≠ .pos) : dn w a < top w := by
  have ht := top_pos hw
  have h := dn_spec hw a
  cases a with
  | neg => simp; omega
  | pos => exact absurd rfl ha
  | num r => exact h.2.1
theorem lim_num {w o : Int} (h : fin w o) : lim w o = .num (fv w o) := by
  obtain ⟨_, h1, h2⟩ := h
  unfold lim
  rw [if_neg (by omega), if_neg (by omega)]
theorem lim_top (w : Int) : lim w (top w) = .pos := if_pos rfl
theorem lim_bot {w : Int} (hw : wd w = true) : lim w (-top w) = .neg := by
  have ht := top_pos hw
  unfold lim
  rw [if_neg (by omega), if_pos rfl]
theorem lim_cases {w o : Int} (hw : wd w = true) (h : rng w o) : (o = -top w ∧ lim w o = .neg) ∨ (o = top w ∧ lim w o = .pos) ∨ (fin w o ∧ lim w o = .num (fv w o)) := by
  obtain ⟨h1, h2⟩ := h
  by_cases e1 : o = -top w
  · subst e1; exact .inl ⟨rfl, lim_bot hw⟩
  · by_cases e2 : o = top w
    · subst e2; exact .inr (.inl ⟨rfl, lim_top w⟩)
    · have hf : fin w o := ⟨hw, by omega, by omega⟩
      exact .inr (.inr ⟨hf, lim_num hf⟩)
theorem lim_le {w a b : Int} (hw : wd w = true) (ha : rng w a) (hb : rng w b) : lim w a ≤ lim w b ↔ a ≤ b := by
  have ht := top_pos hw
  obtain ⟨a1, a2⟩ := ha
  obtain ⟨b1, b2⟩ := hb
  rcases lim_cases hw ⟨a1, a2⟩ with ⟨h, e⟩ | ⟨h, e⟩ | ⟨h, e⟩ <;> rcases lim_cases hw ⟨b1, b2⟩ with ⟨h', e'⟩ | ⟨h', e'⟩ | ⟨h', e'⟩ <;> rw [e, e'] <;> simp
  all_goals first | omega | (have := h'.2; omega) | (have := h.2; omega) | exact fv_le
theorem lim_opp {w o : Int} (hw : wd w = true) (h : rng w o) : lim w (-o) = (lim w o).opp := by
  have ht := top_pos hw
  rcases lim_cases hw h with ⟨h, e⟩ | ⟨h, e⟩ | ⟨h, e⟩ <;> rw [e]
  · subst h; rw [Int.neg_neg, lim_top]; rfl
  · subst h; rw [lim_bot hw]; rfl
  · rw [lim_num ⟨hw, by have := h.2.2; omega, by have := h.2.1; omega⟩, fv_neg]; rfl
/-- what dn is -/
theorem le_dn {w o : Int} {a : Lm} (hw : wd w = true) (ho : rng w o) : o ≤ dn w a ↔ lim w o ≤ a := by
  have ht := top_pos hw
  obtain ⟨o1, o2⟩ := ho
  have h := dn_spec hw a
  cases a with
  | neg =>
    simp only [dn_neg']
    rcases lim_cases hw ⟨o1, o2⟩ with ⟨h, e⟩ | ⟨h, e⟩ | ⟨h, e⟩ <;> rw [e] <;> simp
    all_goals first | omega | (have := h.2; omega)
  | pos => simp; omega
  | num r =>
    obtain ⟨d1, d2, d3, d4⟩ := (h : IsDn w r (dn w (.num r)))
    generalize dn w (.num r) = d at d1 d2 d3 d4
    rcases lim_cases hw ⟨o1, o2⟩ with ⟨h, e⟩ | ⟨h, e⟩ | ⟨h, e⟩ <;> rw [e] <;> simp
    rotate_left 2
    · constructor
      · intro hod
        rcases d3 with d3 | d3
        · have := h.2.1; omega
        · exact Rat.le_trans (fv_le.2 hod) d3
      · intro hr
        rcases d4 with d4 | d4
        · have := h.2.2; omega
        · by_cases hh : o ≤ d
          · exact hh
          · exact absurd (Rat.le_trans (fv_le.2 (show d + 1 ≤ o by omega)) hr) (Rat.not_le.2 d4)
    all_goals omega
theorem up_le {w o : Int} {a : Lm} (hw : wd w = true) (ho : rng w o) : up w a ≤ o ↔ a ≤ lim w o := by
  have h := le_dn (a := a.opp) hw (show rng w (-o) by unfold rng at *; omega)
  rw [lim_opp hw ho, Lm.opp_le] at h
  rw [← h]
  unfold up
  omega
theorem up_rng {w : Int} (hw : wd w = true) (a : Lm) : rng w (up w a) := by
  have := dn_rng hw a.opp
  unfold rng up at *
  omega
theorem up_gt {w : Int} (hw : wd w = true) {a : Lm} (ha : a ≠ .neg) : -top w < up w a := by
  have := dn_lt (a := a.opp) hw (by cases a <;> simp_all)
  unfold up; omega
theorem lim_dn {w : Int} (hw : wd w = true) (a : Lm) : lim w (dn w a) ≤ a := (le_dn hw (dn_rng hw a)).1 (Int.le_refl _)
theorem lim_up {w : Int} (hw : wd w = true) (a : Lm) : a ≤ lim w (up w a) := (up_le hw (up_rng hw a)).1 (Int.le_refl _)
theorem dn_le_up {w : Int} (hw : wd w = true) {a b : Lm} (h : a ≤ b) : dn w a ≤ up w b :=
  (lim_le hw (dn_rng hw a) (up_rng hw b)).1 (Lm.trans (lim_dn hw a) (Lm.trans h (lim_up hw b)))
theorem fv_zero' {w : Int} : fv w 0 = 0 := by
  have : fI w 0 = 0 := by simp [fI, fN_zero]
  rw [fv, this, Rat.zero_mkRat]
theorem lim_zero {w : Int} (hw : wd w = true) : lim w 0 = .num 0 := by
  have ht := top_pos hw
  rw [lim_num ⟨hw, by omega, by omega⟩, fv_zero']
theorem pok_rng {w lo hi : Int} (h : pok w lo hi = true) : wd w = true ∧ rng w lo ∧ rng w hi ∧ lo ≤ hi ∧ lo < top w ∧ -top w < hi := by
  obtain ⟨h1, h2, h3, h4, h5, h6⟩ := pok_iff.1 h
  unfold rng
  exact ⟨h1, ⟨h2, by omega⟩, ⟨by omega, h5⟩, h6, h3, h4⟩
theorem pok_of {w lo hi : Int} (hw : wd w = true) (h1 : rng w lo) (h2 : rng w hi) (h3 : lo ≤ hi) (h4 : lo < top w) (h5 : -top w < hi) : pok w lo hi = true := by
  unfold rng at h1 h2
  exact pok_iff.2 ⟨hw, h1.1, h4, h5, h2.2, h3⟩
theorem lo_ne {w lo hi : Int} (h : pok w lo hi = true) : lim w lo ≠ .pos ∧ lim w hi ≠ .neg := by
  obtain ⟨hw, h1, h2, h3, h4, h5⟩ := pok_rng h
  constructor
  · rcases lim_cases hw h1 with ⟨h, e⟩ | ⟨h, e⟩ | ⟨h, e⟩ <;> rw [e] <;> simp
    omega
  · rcases lim_cases hw h2 with ⟨h, e⟩ | ⟨h, e⟩ | ⟨h, e⟩ <;> rw [e] <;> simp
    omega
theorem inn_lim {w lo hi : Int} {f : Rat} (h : pok w lo hi = true) : inn w lo hi f = true ↔ lim w lo ≤ .num f ∧ .num f ≤ lim w hi := by
  obtain ⟨hw, h1, h2, h3, h4, h5⟩ := pok_rng h
  have ht := top_pos hw
  rw [inn_iff]
  have a1 : (lo = -top w ∨ fv w lo ≤ f) ↔ lim w lo ≤ .num f := by
    rcases lim_cases hw h1 with ⟨h, e⟩ | ⟨h, e⟩ | ⟨h, e⟩ <;> rw [e] <;> simp
    · exact .inl h
    · omega
    · have : lo ≠ -top w := by have := h.2.1; omega
      simp [this]
  have a2 : (hi = top w ∨ f ≤ fv w hi) ↔ .num f ≤ lim w hi := by
    rcases lim_cases hw h2 with ⟨h, e⟩ | ⟨h, e⟩ | ⟨h, e⟩ <;> rw [e] <;> simp
    · omega
    · exact .inl h
    · have : hi ≠ top w := by have := h.2.2; omega
      simp [this]
  rw [a1, a2]
end Pm

/- Numbers: the program's functions, part 4: of a word, bits, sum. Seat ZD. -/
namespace Go.Px.Seat
open Go Pm
set_option linter.unusedVariables false
variable {B : Run}
theorem iandu_base {x : Int} (h : 0 ≤ x) (h' : x < 18446744073709551616) : iand .u64 x 65535 = x % 65536 := by
  have e1 : (BitVec.ofInt 64 x).toNat = x.toNat := by
    simp [BitVec.toNat_ofInt]; omega
  have e2 : (BitVec.ofInt 64 65535).toNat = 2 ^ 16 - 1 := by decide
  have e3 : (BitVec.ofInt 64 x &&& BitVec.ofInt 64 65535).toNat = x.toNat % 2 ^ 16 := by
    rw [BitVec.toNat_and, e1, e2, Nat.and_two_pow_sub_one_eq_mod]
  show IntKind.u64.wrap (((BitVec.ofInt 64 x &&& BitVec.ofInt 64 65535).toNat : Nat) : Int) = _
  rw [e3, wrapu64 (by omega) (by omega)]
  omega
theorem k_natOf : Ev fun n => ∀ x : Nat, x < 18446744073709551616 → c_i_natOf ((C B).run n) (x : Int) = some (dig x, ()) := by
  refine Ev.triv.succ fun n hn _ x hx => ?_
  have hlen : (dig x).length ≤ 4 := dig_len_le.2 (by omega)
  rw [run_succ, e_i_natOf]
  unfold p_i_natOf
  refine iter_const (fun p => ∃ i : Nat, p = ((((x / 65536 ^ i : Nat) : Int), ((), ((), ()))), ((dig x).take i, ())) ∧ i ≤ (dig x).length) (fun p => 5 - p.2.1.length) _ ?_ n _ (by simp only; omega) ⟨0, by simp, by omega⟩
  rintro rec _ ⟨i, rfl, hi⟩ ih
  simp only [ilt_iff]
  by_cases h : x / 65536 ^ i = 0
  · rw [h]
    simp only [show ¬ (0 : Int) < ((0 : Nat) : Int) by omega, decide_false, cond_false]
    have : (dig x).length ≤ i := by
      rw [dig_len_le]
      exact (Nat.div_eq_zero_iff_lt (Nat.pow_pos (by decide))).1 h
    rw [List.take_of_length_le this]
  · have hpos : (0 : Int) < ((x / 65536 ^ i : Nat) : Int) := Int.natCast_pos.2 (Nat.pos_of_ne_zero h)
    simp only [hpos, decide_true, cond_true]
    have hil : i < (dig x).length := by
      rcases Nat.lt_or_ge i (dig x).length with h1 | h1
      · exact h1
      · exact absurd (Nat.div_eq_of_lt (dig_len_le.1 h1)) h
    have hb : x / 65536 ^ i ≤ x := Nat.div_le_self ..
    have e1 : IntKind.wrap .i64 (iand .u64 ((x / 65536 ^ i : Nat) : Int) 65535) = ((x / 65536 ^ i % 65536 : Nat) : Int) := by
      rw [iandu_base (by omega) (by omega), wrap64 (by omega) (by omega)]; omega
    have e2 : ishr .u64 ((x / 65536 ^ i : Nat) : Int) 16 = ((x / 65536 ^ (i + 1) : Nat) : Int) := by
      have h16 : ((16 : Nat) : Int) = 16 := rfl
      rw [← h16, ishru_eq (by omega), Nat.pow_succ, ← Nat.div_div_eq_div_mul]
      have : (2 : Int) ^ 16 = 65536 := by decide
      rw [this]; omega
    rw [e1, e2, ← take_dig_succ hil]
    rw [ok_of (aok_true (by simp only [List.length_take]; omega))]
    refine ih _ ⟨i + 1, rfl, by omega⟩ ?_
    simp only [List.length_take]; omega
theorem k_natBits : Ev fun n => ∀ x : Nat, (dig x).length ≤ 1099511627776 → c_i_natBits ((C B).run n) (dig x) = some ((bl x : Int), ()) := by
  refine (k_Len (B := B)).succ fun n hn hL x hx => ?_
  rw [run_succ, e_i_natBits]
  unfold p_i_natBits
  rw [len_eq]
  by_cases h0 : x = 0
  · subst h0; simp
  · have hp := dig_len_pos h0
    rw [beq_f (by omega), cond_false, isub_eq (by omega) (by omega), ok_of (inB_true (by omega) (by omega))]
    rw [show (((dig x).length : Int) - 1).toNat = (dig x).length - 1 by omega, getD_at, dig_at, wrapu64 (by omega) (by omega), hL _ (by omega)]
    simp only [Option.bind_some]
    have := bl_dig h0
    have hb : bl (x / 65536 ^ ((dig x).length - 1) % 65536) ≤ 16 := bl_le.2 (by omega)
    rw [imul_eq (by omega) (by omega), iadd_eq (by omega) (by omega)]
    congr 2
    omega
theorem at_copied (xs ys : List Int) (j : Nat) (h : ys.length ≤ xs.length) : at_ (copied xs ys) j = if j < ys.length then at_ ys j else at_ xs j := by
  unfold copied
  rw [List.take_of_length_le h]
  simp only [at_, List.getD_eq_getElem?_getD]
  split
  · rename_i hj
    rw [List.getElem?_append_left hj]
  · rename_i hj
    rw [List.getElem?_append_right (by omega), List.getElem?_drop, show ys.length + (j - ys.length) = j by omega]
theorem copied_len' (xs ys : List Int) : (copied xs ys).length = xs.length := by
  unfold copied
  rw [List.length_append, List.length_take, List.length_drop]
  omega
theorem at_replicate (N j : Nat) : at_ (List.replicate N 0) j = 0 := by
  simp only [at_, List.getD_eq_getElem?_getD, List.getElem?_replicate]
  split <;> rfl
theorem val_copied (N : Nat) (ys : List Int) (h : ys.length ≤ N) : val (copied (List.replicate N 0) ys) = val ys := by
  unfold copied
  rw [List.take_of_length_le (by simpa using h), List.drop_replicate, val_append, val_replicate_zero]
  omega
end Go.Px.Seat

/- Numbers: the program's functions, part 5: sum. Seat ZD. -/
namespace Go.Px.Seat
open Go Pm
set_option linter.unusedVariables false
variable {B : Run}
theorem val_top {o : List Int} {N : Nat} (h : o.length = N + 1) : val o = val (o.take N) + at_ o N * ((65536 ^ N : Nat) : Int) := by
  have := val_take_succ o N (by omega)
  rw [List.take_of_length_le (by omega)] at this
  exact this
theorem k_natAdd : Ev fun n => ∀ x y : Nat, (dig x).length ≤ 1073741824 → (dig y).length ≤ 1073741824 → c_i_natAdd ((C B).run n) (dig x) (dig y) = some (dig (x + y), ()) := by
  refine (k_trim (B := B)).succ fun n hn hTrim x y hx hy => ?_
  rw [run_succ, e_i_natAdd]
  unfold p_i_natAdd
  simp only [len_eq]
  have hm : imax ((dig x).length : Int) ((dig y).length : Int) = ((max (dig x).length (dig y).length : Nat) : Int) := by
    unfold imax; omega
  rw [hm]
  obtain ⟨M, hM⟩ : ∃ M, M = max (dig x).length (dig y).length := ⟨_, rfl⟩
  have hMx : (dig x).length ≤ M := by omega
  have hMy : (dig y).length ≤ M := by omega
  rw [← hM, iadd_eq (by omega) (by omega), ok_of (mkOk_true (by omega) (by omega) (by omega)), show ((M : Int) + 1).toNat = M + 1 by omega]
  have hl0 : (copied (List.replicate (M + 1) 0) (dig x)).length = M + 1 := by rw [copied_len', List.length_replicate]
  have hv0 : val (copied (List.replicate (M + 1) 0) (dig x)) = x := by rw [val_copied _ _ (by omega), val_dig]
  have ha0 : ∀ j, at_ (copied (List.replicate (M + 1) 0) (dig x)) j = at_ (dig x) j := fun j => by
    rw [at_copied _ _ _ (by rw [List.length_replicate]; omega), at_replicate]
    split
    · rfl
    · rw [at_out (by omega)]
  refine iter_const (fun p => ∃ (i : Nat) (o : List Int), p = (((i : Int), (((dig y).length : Int), (dig y, ((), ((), ()))))), (o, ())) ∧ i ≤ (dig y).length ∧ o.length = M + 1 ∧ val o = ((x + y % 65536 ^ i : Nat) : Int) ∧
      (∀ j, 0 ≤ at_ o j ∧ at_ o j ≤ 131070) ∧ (∀ j, i ≤ j → at_ o j < 65536) ∧ at_ o M = 0) (fun p => (dig y).length - p.1.1.toNat) _ ?_ n _ (by simp only; omega)
      ⟨0, _, rfl, by omega, hl0, by rw [hv0]; simp [Nat.mod_one], fun j => ?_, fun j _ => ?_, ?_⟩
  rotate_left
  · rw [ha0]; have := at_range (dig_Dg x) j; omega
  · rw [ha0]; exact (at_range (dig_Dg x) j).2
  · rw [ha0, at_out (by omega)]
  rintro rec _ ⟨i, o, rfl, hi, hlo, hvo, hro, hso, hto⟩ ih
  simp only [ilt_iff, len_eq]
  by_cases h : i < (dig y).length
  · rw [decide_eq_true (show (i : Int) < ((dig y).length : Int) by omega), cond_true, ok_of (inB_true (by omega) (by omega)), ok_of (inB_true (by omega) (by omega)), ok_of (inB_true (by omega) (by omega)), Int.toNat_natCast, getD_at, getD_at, dig_at]
    have hai := hso i (Nat.le_refl _)
    have hai0 := (hro i).1
    rw [iadd_eq (x := (i : Int)) (by omega) (by omega), iadd_eq (by omega) (by omega)]
    have hil : i < o.length := by omega
    refine ih _ ⟨i + 1, _, rfl, by omega, by rw [List.length_set]; exact hlo, ?_, fun j => ?_, fun j hj => ?_, ?_⟩ (by simp only; omega)
    · rw [val_set _ _ _ hil, hvo, mod_succ]
      rw [show at_ o i + ((y / 65536 ^ i % 65536 : Nat) : Int) - at_ o i = ((y / 65536 ^ i % 65536 : Nat) : Int) by omega, ← Int.natCast_mul, ← Int.natCast_add, Nat.add_assoc]
    · rw [at_set _ _ _ _ hil]
      split
      · omega
      · exact hro j
    · rw [at_set _ _ _ _ hil, if_neg (by omega)]
      exact hso j (by omega)
    · rw [at_set _ _ _ _ hil, if_neg (by omega)]
      exact hto
  · have hie : i = (dig y).length := by omega
    subst hie
    rw [decide_eq_false (by omega), cond_false, hlo]
    rw [isub_eq (by omega) (by omega), show ((M + 1 : Nat) : Int) - 1 = (M : Int) by omega]
    rw [Nat.mod_eq_of_lt (dig_lt_pow y)] at hvo
    refine iter_const (fun p => ∃ (i : Nat) (o : List Int), p = (((i : Int), ((M : Int), ((), ((), ())))), (o, ())) ∧ i ≤ M ∧ o.length = M + 1 ∧ val o = ((x + y : Nat) : Int) ∧
      (∀ j, 0 ≤ at_ o j ∧ at_ o j ≤ 131072) ∧ (∀ j, j < i → at_ o j < 65536) ∧ (∀ j, i < j → at_ o j ≤ 131070) ∧ (i < M → at_ o M = 0) ∧ at_ o M ≤ 2) (fun p => M - p.1.1.toNat) _ ?_ n _ (by simp only; omega)
      ⟨0, o, rfl, by omega, hlo, hvo, fun j => ⟨(hro j).1, by have := (hro j).2; omega⟩, fun j hj => absurd hj (Nat.not_lt_zero _), fun j _ => (hro j).2, fun _ => hto, by omega⟩
    rintro rec _ ⟨i, o, rfl, hi, hlo, hvo, hro, hlow, hhigh, htop, htop2⟩ ih
    simp only [ilt_iff, len_eq]
    by_cases h : i < M
    · rw [decide_eq_true (show (i : Int) < (M : Int) by omega), cond_true, iadd_eq (by omega) (by omega), ok_of (inB_true (by omega) (by omega)), ok_of (inB_true (by omega) (by omega)), ok_of (inB_true (by omega) (by omega))]
      rw [List.length_set, ok_of (inB_true (by omega) (by omega)), ok_of (inB_true (by omega) (by omega)), show ((i : Int) + 1).toNat = i + 1 by omega, Int.toNat_natCast, getD_at, getD_at, getD_at]
      have ai := hro i
      have ai1 := hro (i + 1)
      have h16 : ishr .i64 (at_ o i) 16 = at_ o i / 65536 := ishr_eq (k := 16) (by omega)
      have hil : i < o.length := by omega
      have hil1 : i + 1 < o.length := by omega
      have hq : at_ o i / 65536 ≤ 2 := by omega
      have hq0 : 0 ≤ at_ o i / 65536 := by omega
      have hhi := hhigh (i + 1) (by omega)
      rw [h16, iadd_eq (by omega) (by omega), at_set _ _ _ _ hil1, if_neg (by omega), iand_base (by omega) (by omega)]
      have hl2 : (o.set (i + 1) (at_ o (i + 1) + at_ o i / 65536)).length = M + 1 := by rw [List.length_set]; exact hlo
      have hat : ∀ j, at_ ((o.set (i + 1) (at_ o (i + 1) + at_ o i / 65536)).set i (at_ o i % 65536)) j = if i = j then at_ o i % 65536 else if i + 1 = j then at_ o (i + 1) + at_ o i / 65536 else at_ o j := fun j => by
        rw [at_set _ _ _ _ (by omega), at_set _ _ _ _ hil1]
      refine ih _ ⟨i + 1, _, by rfl, by omega, by rw [List.length_set]; exact hl2, ?_, fun j => ?_, fun j hj => ?_, fun j hj => ?_, fun hiM => ?_, ?_⟩ (by simp only; omega)
      · rw [val_set _ _ _ (by omega), val_set _ _ _ hil1, hvo, at_set _ _ _ _ hil1, if_neg (by omega)]
        have e := Int.emod_add_mul_ediv (at_ o i) 65536
        generalize at_ o i / 65536 = q at *
        generalize at_ o i % 65536 = r at *
        have : ((65536 ^ (i + 1) : Nat) : Int) = 65536 * ((65536 ^ i : Nat) : Int) := by rw [Nat.pow_succ, Int.natCast_mul, Int.mul_comm]; rfl
        rw [this, show at_ o (i + 1) + q - at_ o (i + 1) = q by omega, show r - at_ o i = -(65536 * q) by omega, Int.neg_mul, Int.mul_assoc, Int.mul_left_comm q]
        omega
      · rw [hat]
        split
        · have := Int.emod_lt_of_pos (at_ o i) (show (0 : Int) < 65536 by omega)
          have := Int.emod_nonneg (at_ o i) (show (65536 : Int) ≠ 0 by omega)
          omega
        · split
          · omega
          · exact hro j
      · rw [hat]
        split
        · exact Int.emod_lt_of_pos _ (by omega)
        · rw [if_neg (by omega)]
          exact hlow j (by omega)
      · rw [hat, if_neg (by omega), if_neg (by omega)]
        exact hhigh j (by omega)
      · rw [hat, if_neg (by omega), if_neg (by omega)]
        exact htop h
      · rw [hat, if_neg (by omega)]
        split
        · rename_i hj
          subst hj
          rw [htop h]
          omega
        · exact htop2
    · have hie : i = M := by omega
      subst hie
      rw [decide_eq_false (by omega), cond_false, hTrim _ (by omega)]
      simp only [Option.bind_some]
      have hDg : Dg o := fun d hd => by
        obtain ⟨j, hj, rfl⟩ := List.getElem_of_mem hd
        have e : o[j] = at_ o j := by simp [at_, List.getD_eq_getElem?_getD, hj]
        rw [e]
        refine ⟨(hro j).1, ?_⟩
        by_cases hji : j < i
        · exact hlow j hji
        · have : j = i := by omega
          subst this
          omega
      rw [strip_dig hDg, hvo, Int.toNat_natCast]
end Go.Px.Seat

/- Numbers: the program's functions, part 6: difference; fractions. Seat ZD. -/
namespace Go.Px.Seat
open Go Pm
set_option linter.unusedVariables false
variable {B : Run}
theorem val_low {o : List Int} : ∀ (i : Nat), i ≤ o.length → (∀ j, j < i → 0 ≤ at_ o j ∧ at_ o j < 65536) → 0 ≤ val (o.take i) ∧ val (o.take i) < ((65536 ^ i : Nat) : Int)
  | 0, _, _ => by simp [val]
  | i + 1, h, hr => by
    obtain ⟨h1, h2⟩ := val_low i (by omega) fun j hj => hr j (by omega)
    have h3 := hr i (by omega)
    rw [val_take_succ o i (by omega), Nat.pow_succ, Int.natCast_mul]
    generalize ((65536 ^ i : Nat) : Int) = p at *
    have m1 : 0 ≤ at_ o i * p := Int.mul_nonneg h3.1 (by omega)
    have m2 : at_ o i * p ≤ 65535 * p := Int.mul_le_mul_of_nonneg_right (by omega) (by omega)
    omega
theorem neg_top {a v p z : Int} (h : a ≤ -1) (h1 : v < p) (h2 : 0 ≤ z) (h3 : v + a * p = z) (hp : 0 ≤ p := by omega) : False := by
  have : a * p ≤ (-1) * p := Int.mul_le_mul_of_nonneg_right h hp
  omega
theorem k_natSub : Ev fun n => ∀ x y : Nat, y ≤ x → x ≠ 0 → (dig x).length ≤ 1073741824 → c_i_natSub ((C B0).run n) (dig x) (dig y) = some (dig (x - y), ()) := by
  refine ((k_trim (B := B0)).and k_Clone).succ fun n hn ⟨hTrim, hClone⟩ x y hyx hx0 hx => ?_
  have hly : (dig y).length ≤ (dig x).length := dig_len_mono hyx
  rw [run_succ, e_i_natSub]
  unfold p_i_natSub
  rw [hClone _ (mt dig_eq_nil.1 hx0) (by omega)]
  simp only [Option.bind_some, len_eq]
  obtain ⟨M, hM⟩ : ∃ M, M = (dig x).length := ⟨_, rfl⟩
  refine iter_const (fun p => ∃ (i : Nat) (o : List Int), p = (((i : Int), (((dig y).length : Int), (dig y, ((), ((), ()))))), (o, ())) ∧ i ≤ (dig y).length ∧ o.length = M ∧ val o = (x : Int) - ((y % 65536 ^ i : Nat) : Int) ∧
      (∀ j, -65535 ≤ at_ o j ∧ at_ o j < 65536) ∧ (∀ j, i ≤ j → 0 ≤ at_ o j)) (fun p => (dig y).length - p.1.1.toNat) _ ?_ n _ (by simp only; omega)
      ⟨0, _, rfl, by omega, hM.symm, by rw [val_dig]; simp [Nat.mod_one], fun j => by have := at_range (dig_Dg x) j; omega, fun j _ => (at_range (dig_Dg x) j).1⟩
  rintro rec _ ⟨i, o, rfl, hi, hlo, hvo, hro, hso⟩ ih
  simp only [ilt_iff, len_eq]
  by_cases h : i < (dig y).length
  · rw [decide_eq_true (show (i : Int) < ((dig y).length : Int) by omega), cond_true, ok_of (inB_true (by omega) (by omega)), ok_of (inB_true (by omega) (by omega)), ok_of (inB_true (by omega) (by omega)), Int.toNat_natCast, getD_at, getD_at, dig_at]
    have hai := hso i (Nat.le_refl _)
    have hai0 := hro i
    rw [iadd_eq (x := (i : Int)) (by omega) (by omega), isub_eq (by omega) (by omega)]
    have hil : i < o.length := by omega
    refine ih _ ⟨i + 1, _, rfl, by omega, by rw [List.length_set]; exact hlo, ?_, fun j => ?_, fun j hj => ?_⟩ (by simp only; omega)
    · rw [val_set _ _ _ hil, hvo, mod_succ]
      rw [show at_ o i - ((y / 65536 ^ i % 65536 : Nat) : Int) - at_ o i = -((y / 65536 ^ i % 65536 : Nat) : Int) by omega, Int.neg_mul, ← Int.natCast_mul, Int.natCast_add]
      omega
    · rw [at_set _ _ _ _ hil]
      split
      · omega
      · exact hro j
    · rw [at_set _ _ _ _ hil, if_neg (by omega)]
      exact hso j (by omega)
  · have hie : i = (dig y).length := by omega
    subst hie
    rw [decide_eq_false (by omega), cond_false, hlo]
    rw [Nat.mod_eq_of_lt (dig_lt_pow y)] at hvo
    have hvo' : val o = ((x - y : Nat) : Int) := by omega
    refine iter_const (fun p => ∃ (i : Nat) (o : List Int), p = (((i : Int), ((M : Int), ((), ((), ())))), (o, ())) ∧ i ≤ M ∧ o.length = M ∧ val o = ((x - y : Nat) : Int) ∧
      (∀ j, -65536 ≤ at_ o j ∧ at_ o j < 65536) ∧ (∀ j, j < i → 0 ≤ at_ o j) ∧ (∀ j, i < j → -65535 ≤ at_ o j)) (fun p => M - p.1.1.toNat) _ ?_ n _ (by simp only; omega)
      ⟨0, o, rfl, by omega, hlo, hvo', fun j => by have := hro j; omega, fun j hj => absurd hj (Nat.not_lt_zero _), fun j _ => (hro j).1⟩
    rintro rec _ ⟨i, o, rfl, hi, hlo, hvo, hro, hlow, hhigh⟩ ih
    simp only [ilt_iff, len_eq]
    by_cases h : i < M
    · rw [decide_eq_true (show (i : Int) < (M : Int) by omega), cond_true]
      have hil : i < o.length := by omega
      have ai := hro i
      simp only [jb_ok, jb_cond, jb_inr]
      rw [ok_of (inB_true (by omega) (by omega)), Int.toNat_natCast, getD_at]
      by_cases hneg : at_ o i < 0
      · have hil1 : i + 1 < o.length := by
          rcases Nat.lt_or_ge (i + 1) o.length with h1 | h1
          · exact h1
          · exfalso
            have e1 : o.length = i + 1 := by omega
            have e2 := val_top e1
            have e3 := (val_low (o := o) i (by omega) fun j hj => ⟨hlow j hj, (hro j).2⟩).2
            rw [e2] at hvo
            exact neg_top (by omega) e3 (by omega) hvo (Int.natCast_nonneg _)
        have ai1 := hro (i + 1)
        have ahi := hhigh (i + 1) (by omega)
        rw [decide_eq_true hneg, cond_true, ok_of (inB_true (by omega) (by omega)), ok_of (inB_true (by omega) (by omega)), iadd_eq (x := (i : Int)) (by omega) (by omega), List.length_set, ok_of (inB_true (by omega) (by omega)), ok_of (inB_true (by omega) (by omega)), show ((i : Int) + 1).toNat = i + 1 by omega]
        simp only [getD_at]
        rw [iadd_eq (x := at_ o i) (by omega) (by omega), at_set _ _ _ _ hil, if_neg (by omega), isub_eq (by omega) (by omega)]
        have hat : ∀ j, at_ ((o.set i (at_ o i + 65536)).set (i + 1) (at_ o (i + 1) - 1)) j = if i + 1 = j then at_ o (i + 1) - 1 else if i = j then at_ o i + 65536 else at_ o j := fun j => by
          rw [at_set _ _ _ _ (by rw [List.length_set]; exact hil1), at_set _ _ _ _ hil]
        refine ih _ ⟨i + 1, _, rfl, by omega, by rw [List.length_set, List.length_set]; exact hlo, ?_, fun j => ?_, fun j hj => ?_, fun j hj => ?_⟩ (by simp only; omega)
        · rw [val_set _ _ _ (by rw [List.length_set]; exact hil1), val_set _ _ _ hil, hvo, at_set _ _ _ _ hil, if_neg (by omega)]
          have : ((65536 ^ (i + 1) : Nat) : Int) = 65536 * ((65536 ^ i : Nat) : Int) := by rw [Nat.pow_succ, Int.natCast_mul, Int.mul_comm]; rfl
          rw [this, show at_ o i + 65536 - at_ o i = 65536 by omega, show at_ o (i + 1) - 1 - at_ o (i + 1) = -1 by omega]
          omega
        · rw [hat]
          split
          · omega
          · split
            · omega
            · exact hro j
        · rw [hat, if_neg (by omega)]
          split
          · omega
          · exact hlow j (by omega)
        · rw [hat, if_neg (by omega), if_neg (by omega)]
          exact hhigh j (by omega)
      · rw [decide_eq_false hneg, cond_false, iadd_eq (by omega) (by omega)]
        refine ih _ ⟨i + 1, _, rfl, by omega, hlo, hvo, hro, fun j hj => ?_, fun j hj => hhigh j (by omega)⟩ (by simp only; omega)
        by_cases hj' : j = i
        · subst hj'; omega
        · exact hlow j (by omega)
    · have hie : i = M := by omega
      subst hie
      rw [decide_eq_false (by omega), cond_false, hTrim _ (by omega)]
      simp only [Option.bind_some]
      have hDg : Dg o := fun d hd => by
        obtain ⟨j, hj, rfl⟩ := List.getElem_of_mem hd
        have e : o[j] = at_ o j := by simp [at_, List.getD_eq_getElem?_getD, hj]
        rw [e]
        exact ⟨hlow j (by omega), (hro j).2⟩
      rw [strip_dig hDg, hvo, Int.toNat_natCast]
end Go.Px.Seat

/- Fractions: the program's functions. Seat ZD. -/
namespace Go.Px.Seat
open Go Pm
set_option linter.unusedVariables false
variable {B : Run}
/-- a fraction as it is handed over -/
def outF (r : Rat) : Bool × (List Int × (List Int × Unit)) := (fb r, (ft r, (fq r, ())))
theorem one_dig : [(1 : Int)] = dig 1 := (dig_of_lt (d := 1) (by omega) (by omega)).symm
theorem mk_fb {b : Bool} {p q : Nat} (hq : q ≠ 0) : fb (mkRat (sg b p) q) = (b && decide (p ≠ 0)) := by
  by_cases hp : p = 0
  · subst hp
    rw [sg_zero, Rat.zero_mkRat]
    cases b <;> rfl
  · rw [mk_rb hp hq]
    simp [hp]
theorem k_lowest : Ev fun n => ∀ (b : Bool) (p q : Nat), q ≠ 0 → (dig p).length ≤ 134217728 → (dig q).length ≤ 134217728 → c_i_lowest ((C B0).run n) b (dig p) (dig q) = some (outF (mkRat (sg b p) q)) := by
  refine (k_natGcd.and ((k_natCmp (B := B0)).and k_natDiv)).succ fun n hn ⟨hG, hC, hD⟩ b p q hq hp1 hq1 => ?_
  rw [run_succ, e_i_lowest]
  unfold p_i_lowest
  rw [hG _ _ (by omega) (by omega)]
  simp only [Option.bind_some]
  have hg0 : Nat.gcd p q ≠ 0 := fun h => hq (Nat.eq_zero_of_gcd_eq_zero_right h)
  have hgl : (dig (Nat.gcd p q)).length ≤ (dig q).length := dig_len_mono (Nat.gcd_le_right p (Nat.pos_of_ne_zero hq))
  rw [one_dig, hC _ _ (by omega) (by rw [← one_dig]; simp)]
  simp only [Option.bind_some]
  refine (jb_of (p := ((b, (dig (p / Nat.gcd p q), (dig (q / Nat.gcd p q), ((), ())))), ((false, ((), ((), ()))), ()))) ?_ _).trans ?_
  · by_cases h1 : Nat.gcd p q = 1
    · rw [h1, Nat.div_one, Nat.div_one]
      simp [cmp3]
    · have : cmp3 (Nat.gcd p q) 1 ≠ 0 := by
        unfold cmp3
        split
        · omega
        · split
          · omega
          · omega
      rw [show (cmp3 (Nat.gcd p q) 1 != 0) = true by simpa using this, cond_true, hD _ _ (by omega) (by omega) hg0]
      simp only [Option.bind_some]
      rw [hD _ _ (by omega) (by omega) hg0]
      simp only [Option.bind_some]
  · simp only
    have hlt : ilt 0 (len (dig (p / Nat.gcd p q))) = decide (p ≠ 0) := by
      rw [len_eq, ilt_iff]
      refine decide_eq_decide.2 ⟨fun h h' => ?_, fun h => ?_⟩
      · subst h'; simp at h
      · have := dig_len_pos (div_gcd_ne (q := q) h)
        omega
    rw [hlt]
    unfold outF
    rw [mk_fb hq, mk_rt hq, mk_rd hq]
    cases b <;> rfl
theorem k_whole : Ev fun n => ∀ (b : Bool) (p : Nat), c_i_whole ((C B).run n) b (dig p) = some (outF (mkRat (sg b p) 1)) := by
  refine Ev.triv.succ fun n hn _ b p => ?_
  rw [run_succ, e_i_whole]
  unfold p_i_whole
  have hlt : ilt 0 (len (dig p)) = decide (p ≠ 0) := by
    rw [len_eq, ilt_iff]
    refine decide_eq_decide.2 ⟨fun h h' => ?_, fun h => ?_⟩
    · subst h'; simp at h
    · have := dig_len_pos h
      omega
  rw [hlt]
  unfold outF
  rw [mk_fb (by omega), mk_rt (by omega), mk_rd (by omega), Nat.gcd_one_right, Nat.div_one, ← one_dig]
  cases b <;> rfl
/-- how long a fraction's parts are -/
def short (k : Nat) (r : Rat) : Prop := (ft r).length ≤ k ∧ (fq r).length ≤ k
theorem fits_short {r : Rat} (h : fits r) : short 256 r := fits_len h
theorem cmp3_nonneg (x y : Nat) : ile 0 (cmp3 x y) = decide (y ≤ x) := by
  unfold cmp3
  rw [ile_iff]
  refine decide_eq_decide.2 ?_
  split
  · constructor <;> intro h <;> omega
  · split
    · constructor <;> intro h <;> omega
    · constructor <;> intro h <;> omega
theorem k_Fadd : Ev fun n => ∀ r s : Rat, short 33554432 r → short 33554432 s → c_i_Frac_add ((C B0).run n) (fb r) (ft r) (fq r) (fb s) (ft s) (fq s) = some (outF (r + s)) := by
  refine ((k_natMul (B := B0)).and ((k_natAdd (B := B0)).and (k_natSub.and ((k_natCmp (B := B0)).and k_lowest)))).succ fun n hn ⟨hM, hA, hS, hC, hL⟩ r s hr hs => ?_
  rw [run_succ, e_i_Frac_add]
  unfold p_i_Frac_add
  obtain ⟨r1, r2⟩ := hr
  obtain ⟨s1, s2⟩ := hs
  simp only [ft, fq] at r1 r2 s1 s2 ⊢
  have l1 := len_dig_mul r.num.natAbs s.den
  have l2 := len_dig_mul s.num.natAbs r.den
  have l3 := len_dig_mul r.den s.den
  rw [hM _ _ (by omega) (by omega)]
  simp only [Option.bind_some]
  rw [hM _ _ (by omega) (by omega)]
  simp only [Option.bind_some]
  rw [hM _ _ (by omega) (by omega)]
  simp only [Option.bind_some, beqB_eq]
  have hq : r.den * s.den ≠ 0 := Nat.mul_ne_zero r.den_nz s.den_nz
  have hval : r + s = mkRat (sg (fb r) (r.num.natAbs * s.den) + sg (fb s) (s.num.natAbs * r.den)) (r.den * s.den) := by
    have e1 : sg (fb r) (r.num.natAbs * s.den) = r.num * s.den := by
      have := sg_mul (fb r) false r.num.natAbs s.den
      rw [Bool.bne_false, sg_num] at this
      rw [this]; rfl
    have e2 : sg (fb s) (s.num.natAbs * r.den) = s.num * r.den := by
      have := sg_mul (fb s) false s.num.natAbs r.den
      rw [Bool.bne_false, sg_num] at this
      rw [this]; rfl
    rw [e1, e2, mk_add r.den_nz s.den_nz, Rat.mkRat_self, Rat.mkRat_self]
  rw [hval]
  have nz : ∀ (a b : Rat), fb a = true → a.num.natAbs * b.den ≠ 0 := fun a b h h0 => by
    have h1 : a.num < 0 := of_decide_eq_true h
    rcases Nat.mul_eq_zero.1 h0 with h2 | h2
    · omega
    · exact b.den_nz h2
  have hcz := nz r s
  have hdz := nz s r
  clear nz hval
  generalize r.num.natAbs * s.den = x at *
  generalize s.num.natAbs * r.den = y at *
  generalize r.den * s.den = q at *
  generalize fb r = c at *
  generalize fb s = d at *
  by_cases hcd : c = d
  · subst hcd
    have la := len_dig_add x y
    rw [show (c == c) = true by simp, cond_true, hA _ _ (by omega) (by omega)]
    simp only [Option.bind_some]
    rw [hL _ _ _ hq (by omega) (by omega)]
    have : sg c (x + y) = sg c x + sg c y := by cases c <;> simp [sg] <;> omega
    rw [this]
    rfl
  · have hbd : (c == d) = false := by simpa using hcd
    rw [hbd, cond_false, hC _ _ (by omega) (by omega)]
    simp only [Option.bind_some, cmp3_nonneg]
    by_cases hxy : y ≤ x
    · rw [decide_eq_true hxy, cond_true]
      by_cases hx0 : x = 0
      · exfalso
        have hy0 : y = 0 := by omega
        cases c <;> cases d <;> simp_all
      · rw [hS _ _ hxy hx0 (by omega)]
        simp only [Option.bind_some]
        have := dig_len_mono (Nat.sub_le x y)
        rw [hL _ _ _ hq (by omega) (by omega)]
        have : sg c (x - y) = sg c x + sg d y := by cases c <;> cases d <;> simp [sg] at hcd ⊢ <;> omega
        rw [this]
        rfl
    · rw [decide_eq_false hxy, cond_false, hS _ _ (by omega) (by omega) (by omega)]
      simp only [Option.bind_some]
      have := dig_len_mono (Nat.sub_le y x)
      rw [hL _ _ _ hq (by omega) (by omega)]
      have : sg d (y - x) = sg c x + sg d y := by cases c <;> cases d <;> simp [sg] at hcd ⊢ <;> omega
      rw [this]
      rfl
theorem k_Fmul : Ev fun n => ∀ r s : Rat, short 33554432 r → short 33554432 s → c_i_Frac_mul ((C B0).run n) (fb r) (ft r) (fq r) (fb s) (ft s) (fq s) = some (outF (r * s)) := by
  refine ((k_natMul (B := B0)).and k_lowest).succ fun n hn ⟨hM, hL⟩ r s hr hs => ?_
  rw [run_succ, e_i_Frac_mul]
  unfold p_i_Frac_mul
  obtain ⟨r1, r2⟩ := hr
  obtain ⟨s1, s2⟩ := hs
  simp only [ft, fq] at r1 r2 s1 s2 ⊢
  have l1 := len_dig_mul r.num.natAbs s.num.natAbs
  have l3 := len_dig_mul r.den s.den
  rw [hM _ _ (by omega) (by omega)]
  simp only [Option.bind_some]
  rw [hM _ _ (by omega) (by omega)]
  simp only [Option.bind_some, beqB_eq]
  have e : (!(fb r == fb s)) = (fb r != fb s) := rfl
  rw [e, hL _ _ _ (Nat.mul_ne_zero r.den_nz s.den_nz) (by omega) (by omega), sg_mul, ← Rat.mkRat_mul_mkRat, mk_self, mk_self]
  rfl
end Go.Px.Seat

/- Values of floats: the program's. Seat ZD. -/
namespace Pm
open Go.Px.Seat
theorem fv_big {w o : Int} {k : Nat} (h : shf w o = lst w + k) : fv w o = mkRat (sg (decide (o < 0)) (sz w o * 2 ^ k)) 1 := by
  rw [fv, fI_sg, h, Nat.pow_add, Nat.mul_left_comm]
  have h2 : sg (decide (o < 0)) (2 ^ lst w * (sz w o * 2 ^ k)) = ((2 ^ lst w : Nat) : Int) * sg (decide (o < 0)) (sz w o * 2 ^ k) := by
    cases decide (o < 0)
    · simp only [sg, Bool.false_eq_true, if_false]; rw [Int.natCast_mul]
    · simp only [sg, if_true]; rw [Int.natCast_mul, Int.mul_neg]
  rw [h2, ← Rat.mkRat_mul_left (n := sg (decide (o < 0)) (sz w o * 2 ^ k)) (d := 1) (pow2_ne (lst w)), Nat.mul_one]
theorem fv_small {w o : Int} {k : Nat} (h : lst w = shf w o + k) : fv w o = mkRat (sg (decide (o < 0)) (sz w o)) (2 ^ k) := by
  rw [fv, fI_sg, h]
  have h2 : sg (decide (o < 0)) (sz w o * 2 ^ shf w o) = sg (decide (o < 0)) (sz w o) * ((2 ^ shf w o : Nat) : Int) := by
    cases decide (o < 0)
    · simp only [sg, Bool.false_eq_true, if_false]; rw [Int.natCast_mul]
    · simp only [sg, if_true]; rw [Int.natCast_mul, Int.neg_mul]
  rw [h2, Nat.pow_add, Nat.mul_comm (2 ^ shf w o), Rat.mkRat_mul_right (pow2_ne _)]
end Pm
namespace Go.Px.Seat
open Go Pm
set_option linter.unusedVariables false
variable {B : Run}
theorem fmt_of {w : Int} (h : wd w = true) : fmt w = ((frw w : Int), (-(lst w : Int), ((fmt w).2.2.1, (top w, (true, ()))))) := by
  rcases of_decide_eq_true h with h | h <;> subst h <;> rfl
theorem k_size : Ev fun n => ∀ o : Int, -9223372036854775808 < o → o < 9223372036854775808 → c_i_size ((C B).run n) o = some ((o.natAbs : Int), ()) := by
  refine Ev.triv.succ fun n hn _ o h1 h2 => ?_
  rw [run_succ, e_i_size]
  unfold p_i_size
  rw [ineg_eq h1 h2]
  congr 2
  unfold imax
  omega
theorem k_Part : Ev fun n => ∀ w o : Int, fin w o → c_i_BitPartOf ((C B).run n) w o = some (decide (o < 0), ((sz w o : Int), ((-(lst w : Int) + (shf w o : Int)), (true, ())))) := by
  refine ((k_fmt (B := B)).and ((k_BitOk (B := B)).and (k_size (B := B)))).succ fun n hn ⟨hF, hB, hS⟩ w o hf => ?_
  rw [run_succ, e_i_BitPartOf]
  unfold p_i_BitPartOf
  obtain ⟨h1, h2, h3⟩ := hf
  have htn := top_nonneg w
  have hb : bok w o = true := bok_iff.2 ⟨h1, by omega, by omega⟩
  have hfl := frw_le w
  have hll : lst w ≤ 1074 := by unfold lst; split <;> omega
  rw [hF, fmt_of h1]
  simp only [Option.bind_some]
  rw [hB, hb, hS o (by omega) (by omega)]
  simp only [Option.bind_some, Bool.not_true, cond_false, jb_inr, beq_f (show ¬ (o.natAbs : Int) = top w by omega), ile_iff, ilt_iff]
  have hle : decide (0 ≤ (frw w : Int)) = true := by simp
  rw [hS o (by omega) (by omega)]
  simp only [Option.bind_some, hle, ok_true]
  have hU : 0 < 2 ^ frw w := Nat.pow_pos (by decide)
  have hU2 : 2 ^ frw w ≤ 2 ^ 52 := Nat.pow_le_pow_right (by decide) hfl
  have hcast : ((2 : Int) ^ frw w) = ((2 ^ frw w : Nat) : Int) := by simp
  have e1 : ishr .i64 (o.natAbs : Int) (frw w : Int) = ((o.natAbs / 2 ^ frw w : Nat) : Int) := by
    rw [ishr_eq (by omega), hcast]; norm_cast
  have e2 : iand .i64 (o.natAbs : Int) (isub .i64 (ishl .i64 1 (frw w : Int)) 1) = ((o.natAbs % 2 ^ frw w : Nat) : Int) := by
    have h5 : isub .i64 (ishl .i64 1 (frw w : Int)) 1 = (2 : Int) ^ frw w - 1 := by
      rw [shl_one _ (by omega), hcast]
      simp only [Nat.reducePow] at hU2
      exact isub_eq (by omega) (by omega)
    rw [h5, iand_mask (by omega) (by omega) (by omega), hcast]; norm_cast
  have hm : o.natAbs % 2 ^ frw w < 2 ^ frw w := Nat.mod_lt _ hU
  have e3 : ior .i64 ((o.natAbs % 2 ^ frw w : Nat) : Int) (ishl .i64 1 (frw w : Int)) = ((o.natAbs % 2 ^ frw w + 2 ^ frw w : Nat) : Int) := by
    rw [shl_one _ (by omega)]
    simp only [Nat.reducePow] at hU2
    have h6 := Nat.two_pow_add_eq_or_of_lt hm 1
    rw [Nat.mul_one] at h6
    rw [ior_eq (by omega) (by omega), Nat.or_comm, ← h6, Nat.add_comm]
  rw [e1, e2, e3]
  unfold sz shf
  have hdl : o.natAbs / 2 ^ frw w ≤ o.natAbs := Nat.div_le_self ..
  simp only [Nat.reducePow] at hU2
  generalize 2 ^ frw w = U at *
  generalize o.natAbs / U = d at *
  generalize o.natAbs % U = r at *
  by_cases hd : d = 0
  · subst hd
    simp only [show (((0 : Nat) : Int) == 0) = true from rfl, cond_true, if_true]
    rw [wrapu64 (by omega) (by omega)]
    simp
  · rw [beq_f (by omega), cond_false, if_neg hd, wrapu64 (by omega) (by omega), iadd_eq (by omega) (by omega), isub_eq (by omega) (by omega)]
    congr 4
    omega
theorem k_value : Ev fun n => ∀ w o : Int, fin w o → c_i_value ((C B0).run n) w o = some (outF (fv w o)) := by
  refine ((k_Part (B := B0)).and ((k_natOf (B := B0)).and ((k_natShl (B := B0)).and ((k_whole (B := B0)).and k_lowest)))).succ fun n hn ⟨hP, hO, hS, hW, hL⟩ w o hf => ?_
  rw [run_succ, e_i_value]
  unfold p_i_value
  have hs := sz_lt w o
  have hsh := shf_lt hf
  have hll : lst w ≤ 1074 := by unfold lst; split <;> omega
  rw [hP w o hf]
  simp only [Option.bind_some]
  rw [hO _ (by omega)]
  simp only [Option.bind_some, ile_iff]
  have hszl : (dig (sz w o)).length ≤ 4 := dig_len_le.2 (by omega)
  by_cases hp : lst w ≤ shf w o
  · obtain ⟨k, hk⟩ : ∃ k, shf w o = lst w + k := ⟨shf w o - lst w, by omega⟩
    have e1 : -(lst w : Int) + (shf w o : Int) = (k : Int) := by omega
    rw [e1, decide_eq_true (show (0 : Int) ≤ (k : Int) by omega), cond_true, hS _ _ (by omega) (by omega)]
    simp only [Option.bind_some]
    rw [hW, fv_big hk]
    rfl
  · obtain ⟨k, hk⟩ : ∃ k, lst w = shf w o + k := ⟨lst w - shf w o, by omega⟩
    have e1 : -(lst w : Int) + (shf w o : Int) = -(k : Int) := by omega
    rw [e1, decide_eq_false (show ¬ (0 : Int) ≤ -(k : Int) by omega), cond_false, ineg_eq (by omega) (by omega), Int.neg_neg, one_dig, hS _ _ (by rw [← one_dig]; simp) (by omega)]
    simp only [Option.bind_some, Nat.one_mul]
    have hkl := dig_len_pow k
    rw [hL _ _ _ (pow2_ne k) (by omega) (by omega), fv_small hk]
    rfl
end Go.Px.Seat
