/- Own texts, part M5: PmV PmW PmX PnA PnB PmY PmYa PmYb PmYc PmYd PmZ PmZa PmZb PmZc PmZd PmZe. -/
import Derived.Test.YtbdlklncblklnaaGreatDoorM4
import Derived.KernelRfl
import Derived.Test.YtbdlklncblklnaaGreatDoorM3
set_option linter.unusedVariables false

/- The float below a number: what it is, and how it is found. No program here. -/
namespace Pm
open Go.Px.Seat
theorem mk_le2 {a b : Int} {q1 q2 : Nat} (h1 : q1 ≠ 0) (h2 : q2 ≠ 0) : mkRat a q1 ≤ mkRat b q2 ↔ a * q2 ≤ b * q1 := by
  rw [← Rat.not_lt, mk_lt2 h2 h1]
  omega
theorem mk_eq2 {a b : Int} {q1 q2 : Nat} (h1 : q1 ≠ 0) (h2 : q2 ≠ 0) : mkRat a q1 = mkRat b q2 ↔ a * q2 = b * q1 := by
  constructor
  · intro h
    have e1 := (mk_le2 h1 h2).1 (by rw [h]; exact Rat.le_refl)
    have e2 := (mk_le2 h2 h1).1 (by rw [h]; exact Rat.le_refl)
    omega
  · intro h
    exact Rat.le_antisymm ((mk_le2 h1 h2).2 (by omega)) ((mk_le2 h2 h1).2 (by omega))
/-- m is the greatest float from 0 on that is not above r; ex: it is r -/
def IsTr (w : Int) (r : Rat) (m : Int) (ex : Bool) : Prop := 0 ≤ m ∧ m < top w ∧ fv w m ≤ r ∧ (m = top w - 1 ∨ r < fv w (m + 1)) ∧ (ex = true ↔ fv w m = r)
theorem IsTr.unique {w : Int} {r : Rat} {m m' : Int} {ex ex' : Bool} (h : IsTr w r m ex) (h' : IsTr w r m' ex') : m = m' ∧ ex = ex' := by
  have half : ∀ {m m' : Int} {ex ex' : Bool}, IsTr w r m ex → IsTr w r m' ex' → m ≤ m' := by
    intro m m' ex ex' h h'
    obtain ⟨a1, a2, a3, a4, a5⟩ := h
    obtain ⟨b1, b2, b3, b4, b5⟩ := h'
    rcases b4 with b4 | b4
    · omega
    · have h1 : ¬ fv w (m' + 1) ≤ fv w m := fun h => Rat.not_le.2 b4 (Rat.le_trans h a3)
      rw [fv_le] at h1
      omega
  have e : m = m' := by
    have := half h h'
    have := half h' h
    omega
  subst e
  refine ⟨rfl, ?_⟩
  have h1 := h.2.2.2.2
  have h2 := h'.2.2.2.2
  cases ex <;> cases ex' <;> simp_all
theorem fN_at {F e Q : Nat} (h1 : Q < 2 ^ (F + 1)) (h2 : e = 0 ∨ 2 ^ F ≤ Q) : fN F (e * 2 ^ F + Q) = Q * 2 ^ e := by
  have hU : 0 < 2 ^ F := Nat.pow_pos (by decide)
  rw [Nat.pow_succ] at h1
  unfold fN
  generalize 2 ^ F = U at *
  by_cases h : Q < U
  · have he : e = 0 := by omega
    subst he
    rw [Nat.zero_mul, Nat.zero_add, Nat.div_eq_of_lt h, if_pos rfl, Nat.mod_eq_of_lt h, Nat.pow_zero, Nat.mul_one]
  · obtain ⟨t, rfl⟩ : ∃ t, Q = U + t := ⟨Q - U, by omega⟩
    have e0 : e * U + (U + t) = U * (e + 1) + t := by rw [Nat.mul_add, Nat.mul_one, Nat.mul_comm e]; omega
    have e1 : (U * (e + 1) + t) / U = e + 1 := by rw [Nat.mul_add_div hU, Nat.div_eq_of_lt (by omega), Nat.add_zero]
    have e2 : (U * (e + 1) + t) % U = t := by rw [Nat.mul_add_mod, Nat.mod_eq_of_lt (by omega)]
    rw [e0, e1, e2, if_neg (by omega), Nat.add_sub_cancel, Nat.add_comm t]
theorem fN_at' {F e Q : Nat} (h1 : Q < 2 ^ (F + 1)) (h2 : e = 0 ∨ 2 ^ F ≤ Q) : fN F (e * 2 ^ F + Q + 1) = (Q + 1) * 2 ^ e := by
  have hp : 2 ^ (F + 1) = 2 ^ F * 2 := Nat.pow_succ ..
  have hU : 0 < 2 ^ F := Nat.pow_pos (by decide)
  by_cases h : Q + 1 < 2 ^ (F + 1)
  · rw [Nat.add_assoc]
    exact fN_at h (h2.imp id fun h => by omega)
  · have e1 : Q + 1 = 2 ^ F * 2 := by omega
    have e2 : e * 2 ^ F + Q + 1 = (e + 1) * 2 ^ F + 2 ^ F := by rw [Nat.add_assoc, e1, Nat.add_mul]; omega
    rw [e2, fN_at (Q := 2 ^ F) (by omega) (.inr (Nat.le_refl _)), e1, Nat.pow_succ, Nat.mul_assoc, Nat.mul_comm 2 (2 ^ e)]
/-- a number against its digits at a scale -/
theorem scale {p q L : Nat} {s : Int} (hq : q ≠ 0) (hs : s ≤ (L : Int)) : scQ p q s * 2 ^ ((L : Int) - s).toNat * q ≤ p * 2 ^ L ∧ p * 2 ^ L < (scQ p q s + 1) * 2 ^ ((L : Int) - s).toNat * q ∧
    (scR p q s = 0 ↔ scQ p q s * 2 ^ ((L : Int) - s).toNat * q = p * 2 ^ L) := by
  have core : ∀ (x d E : Nat), d ≠ 0 → E ≠ 0 → x / d * d * E ≤ x * E ∧ x * E < (x / d + 1) * d * E ∧ (x % d = 0 ↔ x / d * d * E = x * E) := by
    intro x d E hd hE
    have h1 := Nat.div_add_mod x d
    have h2 := Nat.mod_lt x (Nat.pos_of_ne_zero hd)
    rw [Nat.mul_comm d] at h1
    refine ⟨Nat.mul_le_mul_right _ (by omega), Nat.mul_lt_mul_of_pos_right (by rw [Nat.add_mul]; omega) (Nat.pos_of_ne_zero hE), ?_⟩
    constructor
    · intro h
      rw [h, Nat.add_zero] at h1
      rw [h1]
    · intro h
      have := Nat.eq_of_mul_eq_mul_right (Nat.pos_of_ne_zero hE) h
      omega
  unfold scQ scR
  by_cases h : 0 ≤ s
  · obtain ⟨k, rfl⟩ : ∃ k : Nat, s = (k : Int) := ⟨s.toNat, by omega⟩
    obtain ⟨e, he⟩ : ∃ e, L = k + e := ⟨L - k, by omega⟩
    have e1 : ((L : Int) - (k : Int)).toNat = e := by omega
    rw [if_pos h, if_pos h, e1, Int.toNat_natCast, he, Nat.pow_add]
    obtain ⟨c1, c2, c3⟩ := core (p * 2 ^ k) q (2 ^ e) hq (pow2_ne e)
    have r1 : ∀ z : Nat, z * 2 ^ e * q = z * q * 2 ^ e := fun z => by rw [Nat.mul_assoc, Nat.mul_comm (2 ^ e), ← Nat.mul_assoc]
    rw [r1, r1, ← Nat.mul_assoc p]
    exact ⟨c1, c2, c3⟩
  · obtain ⟨k, rfl⟩ : ∃ k : Nat, s = -(k : Int) := ⟨(-s).toNat, by omega⟩
    have e1 : ((L : Int) - -(k : Int)).toNat = k + L := by omega
    have e2 : (- -(k : Int)).toNat = k := by omega
    rw [if_neg h, if_neg h, e1, e2, Nat.pow_add]
    obtain ⟨c1, c2, c3⟩ := core p (q * 2 ^ k) (2 ^ L) (Nat.mul_ne_zero hq (pow2_ne k)) (pow2_ne L)
    have r1 : ∀ z : Nat, z * (2 ^ k * 2 ^ L) * q = z * (q * 2 ^ k) * 2 ^ L := fun z => by ac_rfl
    rw [r1, r1]
    exact ⟨c1, c2, c3⟩
theorem fI_nat (w : Int) (m : Nat) : fI w (m : Int) = fN (frw w) m := by
  unfold fI
  rw [if_neg (by omega), Int.natAbs_natCast]
/-- how it is found -/
theorem size_law {w s : Int} {p q : Nat} (hq : q ≠ 0) (hs : s ≤ (lst w : Int)) (h1 : scQ p q s < 2 ^ (frw w + 1)) (h2 : s = (lst w : Int) ∨ 2 ^ frw w ≤ scQ p q s) :
    let m : Nat := ((lst w : Int) - s).toNat * 2 ^ frw w + scQ p q s
    fv w (m : Int) ≤ mkRat p q ∧ mkRat p q < fv w ((m : Int) + 1) ∧ (scR p q s = 0 ↔ fv w (m : Int) = mkRat p q) := by
  intro m
  obtain ⟨c1, c2, c3⟩ := scale (p := p) hq hs
  have hL := pow2_ne (lst w)
  have h2' : ((lst w : Int) - s).toNat = 0 ∨ 2 ^ frw w ≤ scQ p q s := h2.imp (fun h => by omega) id
  have f1 : fI w (m : Int) = ((scQ p q s * 2 ^ ((lst w : Int) - s).toNat : Nat) : Int) := by rw [fI_nat]; exact congrArg _ (fN_at h1 h2')
  have f2 : fI w ((m : Int) + 1) = (((scQ p q s + 1) * 2 ^ ((lst w : Int) - s).toNat : Nat) : Int) := by
    have : ((m : Int) + 1) = ((m + 1 : Nat) : Int) := by omega
    rw [this, fI_nat]; exact congrArg _ (fN_at' h1 h2')
  rw [fv, fv, f1, f2, mk_le2 hL hq, mk_lt2 hq hL, mk_eq2 hL hq, ← Int.natCast_mul, ← Int.natCast_mul, ← Int.natCast_mul, Int.ofNat_le, Int.ofNat_lt, c3]
  refine ⟨c1, c2, ?_⟩
  constructor
  · intro h; rw [h]
  · intro h; exact Int.ofNat.inj h
end Pm

/- The reference's floats next to a number. -/
namespace Pm
open Go.Px.Seat
theorem scQ_half (p q : Nat) (s : Int) : scQ p q (s - 1) = scQ p q s / 2 := by
  unfold scQ
  by_cases h : 1 ≤ s
  · obtain ⟨k, rfl⟩ : ∃ k : Nat, s = (k : Int) + 1 := ⟨(s - 1).toNat, by omega⟩
    rw [if_pos (by omega), if_pos (by omega), show ((k : Int) + 1 - 1).toNat = k by omega, show ((k : Int) + 1).toNat = k + 1 by omega, Nat.pow_succ, ← Nat.mul_assoc, Nat.div_div_eq_div_mul, Nat.mul_div_mul_right _ _ (by decide)]
  · obtain ⟨k, rfl⟩ : ∃ k : Nat, s = -(k : Int) := ⟨(-s).toNat, by omega⟩
    have h1 : (-(-(k : Int) - 1)).toNat = k + 1 := by omega
    have h2 : (- -(k : Int)).toNat = k := by omega
    rw [if_neg (by omega), h1, Nat.pow_succ, ← Nat.mul_assoc, ← Nat.div_div_eq_div_mul]
    by_cases hk : k = 0
    · subst hk
      rw [if_pos (by omega)]
      simp
    · rw [if_neg (by omega), h2]
theorem scQ_ge {p q G : Nat} {s : Int} (hp : p ≠ 0) (hq : q ≠ 0) (h : (G : Int) + bl q + 1 ≤ (bl p : Int) + s) : 2 ^ G ≤ scQ p q s := by
  have h1 := bl_ge hp
  have h2 := bl_lt q
  have hb : bl p ≠ 0 := mt bl_eq_zero.1 hp
  unfold scQ
  split
  · rename_i hs
    rw [Nat.le_div_iff_mul_le (Nat.pos_of_ne_zero hq)]
    have h3 : 2 ^ (G + bl q) ≤ 2 ^ (bl p - 1 + s.toNat) := Nat.pow_le_pow_right (by decide) (by omega)
    rw [Nat.pow_add, Nat.pow_add] at h3
    exact Nat.le_trans (Nat.mul_le_mul_left _ (Nat.le_of_lt h2)) (Nat.le_trans h3 (Nat.mul_le_mul_right _ h1))
  · rename_i hs
    rw [Nat.le_div_iff_mul_le (Nat.mul_pos (Nat.pos_of_ne_zero hq) (Nat.pow_pos (by decide)))]
    have h3 : 2 ^ (G + bl q + (-s).toNat) ≤ 2 ^ (bl p - 1) := Nat.pow_le_pow_right (by decide) (by omega)
    rw [Nat.pow_add, Nat.pow_add, Nat.mul_assoc] at h3
    exact Nat.le_trans (Nat.mul_le_mul_left _ (Nat.mul_le_mul_right _ (Nat.le_of_lt h2))) (Nat.le_trans h3 h1)
/-- what is found: in range -/
theorem tr_in {w s : Int} {p q : Nat} (hq : q ≠ 0) (hs : s ≤ (lst w : Int)) (h1 : scQ p q s < 2 ^ (frw w + 1)) (h2 : s = (lst w : Int) ∨ 2 ^ frw w ≤ scQ p q s)
    (h3 : ((((lst w : Int) - s).toNat * 2 ^ frw w + scQ p q s : Nat) : Int) < top w) : IsTr w (mkRat p q) (((lst w : Int) - s).toNat * 2 ^ frw w + scQ p q s : Nat) (!(decide (scR p q s ≠ 0))) := by
  obtain ⟨c1, c2, c3⟩ := size_law hq hs h1 h2
  refine ⟨by omega, h3, c1, .inr c2, ?_⟩
  rw [← c3]
  simp
/-- what is found: too great -/
theorem tr_out {w s : Int} {p q : Nat} (hw : wd w = true) (hq : q ≠ 0) (hs : s ≤ (lst w : Int)) (h1 : scQ p q s < 2 ^ (frw w + 1)) (h2 : s = (lst w : Int) ∨ 2 ^ frw w ≤ scQ p q s)
    (h3 : top w ≤ ((((lst w : Int) - s).toNat * 2 ^ frw w + scQ p q s : Nat) : Int)) : IsTr w (mkRat p q) (top w - 1) false := by
  obtain ⟨c1, c2, c3⟩ := size_law hq hs h1 h2
  have htp := top_pos hw
  have h4 : fv w (top w) ≤ mkRat p q := Rat.le_trans (fv_le.2 h3) c1
  have h5 : fv w (top w - 1) < fv w (top w) := fv_lt.2 (by omega)
  refine ⟨by omega, by omega, Rat.le_trans (Rat.le_of_lt h5) h4, .inl rfl, ?_⟩
  constructor
  · intro h; cases h
  · intro h
    rw [← h] at h4
    exact absurd h4 (Rat.not_le.2 h5)
theorem tr_zero {w : Int} {q : Nat} (hw : wd w = true) : IsTr w (mkRat (0 : Nat) q) 0 true := by
  have htp := top_pos hw
  have h0 : mkRat ((0 : Nat) : Int) q = 0 := Rat.zero_mkRat q
  rw [h0]
  refine ⟨by omega, by omega, by rw [fv_zero]; exact Rat.le_refl, .inr ?_, by rw [fv_zero]; simp⟩
  rw [← fv_zero w]
  exact fv_lt.2 (by omega)
end Pm
namespace Go.Px.Seat
open Go Pm
set_option linter.unusedVariables false
variable {B : Run}
theorem k_sSizeX : Ev fun n => ∀ (w : Int) (b : Bool) (p q : Nat), wd w = true → q ≠ 0 → (dig p).length ≤ 1024 → (dig q).length ≤ 1024 →
    ∃ m re, c_s_l8Size ((C B).run n) w b (dig p) (dig q) = some (m, (re, ())) ∧ IsTr w (mkRat p q) m (!re) := by
  refine ((k_sFrac (B := B)).and ((k_sLeast (B := B)).and ((k_sBits (B := B)).and ((k_sScaled (B := B)).and ((k_sNatSmall (B := B)).and (k_sTop' (B := B))))))).succ fun n hn ⟨hF, hL, hB, hS, hN, hT⟩ w b p q hw hq l1 l2 => ?_
  rw [run_succ, e_s_l8Size]
  unfold p_s_l8Size
  have htp := top_pos hw
  have htn := top_nonneg w
  have hfl := frw_le w
  have hll : lst w ≤ 1074 := by unfold lst; split <;> omega
  have bp := bl_len p
  have bq := bl_len q
  by_cases hp : p = 0
  · subst hp
    simp only [dig_zero]
    exact ⟨_, _, rfl, tr_zero hw⟩
  · rw [beq_f (show ¬ len (dig p) = 0 by rw [len_eq]; have := dig_len_pos hp; omega), cond_false, hF]
    simp only [Option.bind_some]
    rw [hB _ (by omega)]
    simp only [Option.bind_some]
    rw [hB _ (by omega)]
    simp only [Option.bind_some]
    rw [hL]
    simp only [Option.bind_some]
    rw [iadd_eq (x := (frw w : Int)) (by omega) (by omega), isub_eq (by omega) (by omega), iadd_eq (by omega) (by omega), ineg_eq (by omega) (by omega), Int.neg_neg]
    refine jb_goal (fun o => ∃ m re, o = some (m, (re, ())) ∧ IsTr w (mkRat p q) m (!re)) (fun st => st = (((), (sz0 w p q, ((frw w : Int), (w, (0, (false, ())))))), ((b, (dig p, (dig q, ()))), ()))) ⟨_, ?_, rfl⟩ ?_
    · unfold sz0
      simp only [ilt_iff]
      by_cases h : (lst w : Int) < (frw w : Int) + 1 - bl p + bl q
      · rw [decide_eq_true h, cond_true, Int.min_eq_right (by omega)]
      · rw [decide_eq_false h, cond_false, Int.min_eq_left (by omega)]
    · rintro _ rfl
      simp only
      have hs1 : sz0 w p q ≤ lst w := Int.min_le_right ..
      have hs2 : sz0 w p q ≤ (frw w : Int) + 1 - bl p + bl q := Int.min_le_left ..
      have hs3 : -16500 ≤ sz0 w p q := by unfold sz0; omega
      have hs4 : sz0 w p q = lst w ∨ 2 ^ frw w ≤ scQ p q (sz0 w p q) := by
        by_cases h : sz0 w p q = lst w
        · exact .inl h
        · exact .inr (scQ_ge hp hq (by unfold sz0 at h ⊢; omega))
      rw [hS b p q (sz0 w p q) hq (by omega) (by omega) (by omega) (by omega)]
      simp only [Option.bind_some]
      generalize sz0 w p q = s0 at *
      refine iter_goal (fun o => ∃ m re, o = some (m, (re, ())) ∧ IsTr w (mkRat p q) m (!re)) (fun st => ∃ (s : Int), (s = s0 ∨ s = s0 - 1) ∧ (s = lst w ∨ 2 ^ frw w ≤ scQ p q s) ∧ st = (((dig (scQ p q s)), ((frw w : Int), (s, ((), (decide (scR p q s ≠ 0), (w, (0, (false, ())))))))), ((b, (dig p, (dig q, ()))), ())))
        (fun st => (st.1.2.2.1 - s0 + 1).toNat) (fun r : Int × (Bool × Unit) => ∃ m re, r = (m, (re, ())) ∧ IsTr w (mkRat p q) m (!re)) ?_ (by simp only; omega) ⟨s0, .inl rfl, hs4, rfl⟩ ?_
      rotate_left
      · rintro r ⟨m, re, rfl, h⟩
        exact ⟨m, re, rfl, h⟩
      rintro rec _ ⟨s, hs, hsg, rfl⟩ ih
      have hsl : s ≤ lst w := by omega
      have g1 : scQ p q s < 2 ^ (frw w + 2) := scQ_lt hq (by omega)
      have g2 := bl_le.2 g1
      have g3 : 2 ^ (frw w + 2) ≤ 2 ^ 54 := Nat.pow_le_pow_right (by decide) (by omega)
      have g4 : scQ p q s < 18446744073709551616 := by simp only [Nat.reducePow] at g3; omega
      have g5 : (dig (scQ p q s)).length ≤ 4 := dig_len_le.2 (by omega)
      simp only
      rw [hB _ (by omega), iadd_eq (x := (frw w : Int)) (by omega) (by omega)]
      simp only [Option.bind_some, ilt_iff]
      by_cases h : (frw w : Int) + 1 < (bl (scQ p q s) : Int)
      · rw [decide_eq_true h, cond_true, isub_eq (by omega) (by omega)]
        have hs' : s = s0 := by
          rcases hs with hs | hs
          · exact hs
          · exfalso
            have := bl_le.2 (scQ_lt (p := p) (G := frw w + 1) (s := s) hq (by omega))
            omega
        subst hs'
        rw [hS b p q (s - 1) hq (by omega) (by omega) (by omega) (by omega)]
        simp only [Option.bind_some]
        refine ih _ ⟨s - 1, .inr rfl, .inr ?_, rfl⟩ (by simp only; omega)
        rw [scQ_half]
        have h8 : ¬ scQ p q s < 2 ^ (frw w + 1) := fun hh => by have := bl_le.2 hh; omega
        rw [Nat.pow_succ] at h8
        omega
      · rw [decide_eq_false h, cond_false, hN _ (Nat.lt_of_lt_of_le g4 (Nat.le_of_lt (by decide))), if_pos g4]
        simp only [Option.bind_some, ile_iff]
        have q1 : scQ p q s < 2 ^ (frw w + 1) := bl_le.1 (by omega)
        have hU : 0 < 2 ^ frw w := Nat.pow_pos (by decide)
        have hU2 : 2 ^ frw w ≤ 2 ^ 52 := Nat.pow_le_pow_right (by decide) hfl
        simp only [Nat.reducePow] at hU2 g3
        rw [wrap64 (x := ((scQ p q s : Nat) : Int)) (by omega) (by omega)]
        have hts := top_shift w
        have hcast : ((2 : Int) ^ frw w) = ((2 ^ frw w : Nat) : Int) := by simp
        rw [hcast] at hts
        have htq : 0 ≤ top w / ((2 ^ frw w : Nat) : Int) := Int.ediv_nonneg (by omega) (by omega)
        by_cases h2 : (bl (scQ p q s) : Int) ≤ (frw w : Int)
        · rw [decide_eq_true h2, cond_true]
          have h3 := bl_le.1 (show bl (scQ p q s) ≤ frw w by omega)
          have hse : s = lst w := hsg.resolve_right (by omega)
          have htw : ((2 ^ frw w : Nat) : Int) ≤ top w := by
            rw [← hcast]
            unfold top frw
            rcases of_decide_eq_true hw with h | h <;> subst h <;> simp
          have hm : (((lst w : Int) - s).toNat * 2 ^ frw w + scQ p q s : Nat) = scQ p q s := by
            rw [hse, Int.sub_self]; simp
          refine ⟨_, rfl, _, _, rfl, ?_⟩
          have := tr_in hq hsl q1 hsg (by rw [hm]; omega)
          rw [hm] at this
          exact this
        · rw [decide_eq_false h2, cond_false, hL]
          simp only [Option.bind_some]
          rw [hT]
          simp only [Option.bind_some]
          have q2 : ¬ scQ p q s < 2 ^ frw w := fun hh => h2 (by have := bl_le.2 hh; omega)
          rw [← ile_iff, ile_wrap_nat _ (by omega), wrapu64 (x := ((frw w : Nat) : Int)) (by omega) (by omega), ok_true, ishr_eq (by omega), hcast]
          have e1 : isub .i64 (top w / ((2 ^ frw w : Nat) : Int)) 1 = top w / ((2 ^ frw w : Nat) : Int) - 1 := by
            have := Int.ediv_le_self (2 ^ frw w : Nat) htn.1
            rw [isub_eq (by omega) (by omega)]
          have e2 : iadd .i64 (isub .i64 (ineg .i64 s) (-(lst w : Int))) 1 = lst w - s + 1 := by
            rw [ineg_eq (by omega) (by omega), isub_eq (by omega) (by omega), iadd_eq (by omega) (by omega)]
            omega
          rw [e1, e2]
          obtain ⟨E, hE⟩ : ∃ E : Nat, (lst w : Int) - s = (E : Int) := ⟨((lst w : Int) - s).toNat, by omega⟩
          have hEt : ((lst w : Int) - s).toNat = E := by omega
          have mE : ((((lst w : Int) - s).toNat * 2 ^ frw w + scQ p q s : Nat) : Int) = (E : Int) * ((2 ^ frw w : Nat) : Int) + (scQ p q s : Int) := by
            rw [hEt, Int.natCast_add, Int.natCast_mul]
          rw [hE]
          by_cases h4 : top w / ((2 ^ frw w : Nat) : Int) - 1 < (E : Int) + 1
          · rw [decide_eq_true h4, cond_true]
            refine ⟨_, rfl, _, _, rfl, ?_⟩
            rw [isub_eq (by omega) (by omega)]
            refine tr_out hw hq hsl q1 hsg ?_
            rw [mE]
            have m1 : (top w / ((2 ^ frw w : Nat) : Int)) * ((2 ^ frw w : Nat) : Int) ≤ ((E : Int) + 1) * ((2 ^ frw w : Nat) : Int) := Int.mul_le_mul_of_nonneg_right (by omega) (by omega)
            rw [← hts, Int.add_mul, Int.one_mul] at m1
            omega
          · rw [decide_eq_false h4, cond_false, ok_true]
            rw [ok_true, shl_one _ (by omega)]
            have he1 : 1 ≤ (E : Int) + 1 := by omega
            have he2 : (E : Int) + 1 ≤ top w / ((2 ^ frw w : Nat) : Int) - 1 := by omega
            have m1 : 1 * ((2 ^ frw w : Nat) : Int) ≤ ((E : Int) + 1) * ((2 ^ frw w : Nat) : Int) := Int.mul_le_mul_of_nonneg_right he1 (by omega)
            have m2 : ((E : Int) + 1) * ((2 ^ frw w : Nat) : Int) ≤ (top w / ((2 ^ frw w : Nat) : Int) - 1) * ((2 ^ frw w : Nat) : Int) := Int.mul_le_mul_of_nonneg_right he2 (by omega)
            rw [Int.sub_mul, ← hts] at m2
            have e3 : ishl .i64 ((E : Int) + 1) ((frw w : Nat) : Int) = ((E : Int) + 1) * ((2 ^ frw w : Nat) : Int) := by
              rw [ishl_eq (by omega) (by rw [hcast]; omega) (by rw [hcast]; omega), hcast]
            have q1' := q1
            rw [Nat.pow_succ] at q1'
            have e4 : ((E : Int) + 1) * ((2 ^ frw w : Nat) : Int) = (E : Int) * ((2 ^ frw w : Nat) : Int) + ((2 ^ frw w : Nat) : Int) := by rw [Int.add_mul, Int.one_mul]
            rw [e3]
            rw [e4] at m1 m2 ⊢
            rw [iadd_eq (by omega) (by omega), isub_eq (by omega) (by omega)]
            refine ⟨_, rfl, _, _, rfl, ?_⟩
            have := tr_in hq hsl q1 hsg (by rw [mE]; omega)
            rw [mE] at this
            rwa [show (E : Int) * ((2 ^ frw w : Nat) : Int) + ((2 ^ frw w : Nat) : Int) + (scQ p q s : Int) - ((2 ^ frw w : Nat) : Int) = (E : Int) * ((2 ^ frw w : Nat) : Int) + (scQ p q s : Int) by omega]
end Go.Px.Seat

/- Rounding: the reference's. Seat ZD. -/
namespace Pm
open Go.Px.Seat
/-- n is the greatest float that is not above r, or the one below all -/
def IsDn (w : Int) (r : Rat) (n : Int) : Prop := -top w ≤ n ∧ n < top w ∧ (n = -top w ∨ fv w n ≤ r) ∧ (n = top w - 1 ∨ r < fv w (n + 1))
theorem IsDn.mono {w : Int} {r s : Rat} {n m : Int} (h : IsDn w r n) (h' : IsDn w s m) (hrs : r ≤ s) : n ≤ m := by
  obtain ⟨a1, a2, a3, a4⟩ := h
  obtain ⟨b1, b2, b3, b4⟩ := h'
  by_cases hnm : n ≤ m
  · exact hnm
  · exfalso
    have h1 := b4.resolve_left (by omega)
    have h2 := a3.resolve_left (by omega)
    have h3 : fv w (m + 1) ≤ fv w n := fv_le.2 (by omega)
    exact Rat.not_le.2 h1 (Rat.le_trans h3 (Rat.le_trans h2 hrs))
theorem IsDn.unique {w : Int} {r : Rat} {n m : Int} (h : IsDn w r n) (h' : IsDn w r m) : n = m := by
  have := h.mono h' Rat.le_refl
  have := h'.mono h Rat.le_refl
  omega
theorem dn_pos {w : Int} {r : Rat} {m : Int} {ex : Bool} (hw : wd w = true) (h : IsTr w r m ex) : IsDn w r m := by
  obtain ⟨a1, a2, a3, a4, a5⟩ := h
  have := top_pos hw
  exact ⟨by omega, a2, .inr a3, a4⟩
theorem dn_neg {w : Int} {r : Rat} {m : Int} {ex : Bool} (hw : wd w = true) (h : IsTr w (-r) m ex) : IsDn w r (-(m + if ex = true then 0 else 1)) := by
  obtain ⟨a1, a2, a3, a4, a5⟩ := h
  have htp := top_pos hw
  cases ex
  · simp only [Bool.false_eq_true, if_false]
    have hne : fv w m ≠ -r := fun h => by simpa using a5.2 h
    refine ⟨by omega, by omega, ?_, .inr ?_⟩
    · rcases a4 with h | h
      · exact .inl (by omega)
      · right
        rw [fv_neg]
        grind
    · rw [show -(m + 1) + 1 = -m by omega, fv_neg]
      grind
  · simp only [if_true, Int.add_zero]
    have he := a5.1 rfl
    refine ⟨by omega, by omega, .inr ?_, .inr ?_⟩
    · rw [fv_neg, he]
      grind
    · have h1 : fv w (-m) < fv w (-m + 1) := fv_lt.2 (by omega)
      rw [fv_neg, he] at h1
      grind
theorem mk_negate (p q : Nat) : mkRat (sg true p) q = -mkRat (sg false p) q := by
  rw [Rat.neg_mkRat]; rfl
end Pm
namespace Go.Px.Seat
open Go Pm
set_option linter.unusedVariables false
variable {B : Run}
theorem k_sRoundX : Ev fun n => ∀ (w : Int) (b up : Bool) (p q : Nat), wd w = true → q ≠ 0 → (dig p).length ≤ 1024 → (dig q).length ≤ 1024 →
    ∃ m, c_s_l8Round ((C B).run n) w b (dig p) (dig q) up = some (m, ()) ∧ (if up = true then IsDn w (-mkRat (sg b p) q) (-m) else IsDn w (mkRat (sg b p) q) m) := by
  refine (k_sSizeX (B := B)).succ fun n hn hS w b up p q hw hq l1 l2 => ?_
  rw [run_succ, e_s_l8Round]
  unfold p_s_l8Round
  obtain ⟨m, re, h1, h2⟩ := hS w b p q hw hq l1 l2
  rw [h1]
  simp only [Option.bind_some]
  have htn := top_nonneg w
  have hm := h2.1
  have hm2 := h2.2.1
  have hsg : mkRat (sg false p) q = mkRat (p : Int) q := rfl
  have hd := dn_pos hw h2
  have hn' := dn_neg (r := -mkRat (p : Int) q) hw (by rw [Rat.neg_neg]; exact h2)
  have e1 : iadd .i64 m 1 = m + 1 := iadd_eq (by omega) (by omega)
  have e2 : ineg .i64 m = -m := ineg_eq (by omega) (by omega)
  have e3 : ineg .i64 (m + 1) = -(m + 1) := ineg_eq (by omega) (by omega)
  cases b
  · rw [hsg]
    cases re <;> cases up <;> simp only [cond_true, cond_false, jb_inr, e1]
    · exact ⟨_, rfl, by simpa using hd⟩
    · exact ⟨_, rfl, by simpa using hn'⟩
    · exact ⟨_, rfl, by simpa using hd⟩
    · exact ⟨_, rfl, by simpa using hn'⟩
  · rw [mk_negate, hsg, Rat.neg_neg]
    cases re <;> cases up <;> simp only [cond_true, cond_false, jb_inr, e1, e2, e3, Bool.not_true, Bool.not_false]
    · exact ⟨_, rfl, by simpa using hn'⟩
    · exact ⟨_, rfl, by simpa using hd⟩
    · exact ⟨_, rfl, by simpa using hn'⟩
    · exact ⟨_, rfl, by simpa using hd⟩
end Go.Px.Seat

/- Numbers and two infinite ones: their order, sums, products, quotients, powers. -/
namespace Pm
inductive Lm where
  | neg | num (r : Rat) | pos
namespace Lm
def le : Lm → Lm → Prop
  | .neg, _ => True
  | .num _, .neg => False
  | .num r, .num s => r ≤ s
  | .num _, .pos => True
  | .pos, .pos => True
  | .pos, _ => False
instance : LE Lm := ⟨Lm.le⟩
@[simp] theorem neg_le (a : Lm) : Lm.neg ≤ a := trivial
@[simp] theorem le_pos (a : Lm) : a ≤ Lm.pos := by cases a <;> trivial
@[simp] theorem num_le (r s : Rat) : Lm.num r ≤ Lm.num s ↔ r ≤ s := Iff.rfl
@[simp] theorem num_le_neg (r : Rat) : ¬ Lm.num r ≤ Lm.neg := fun h => h
@[simp] theorem pos_le_num (r : Rat) : ¬ Lm.pos ≤ Lm.num r := fun h => h
@[simp] theorem pos_le_neg : ¬ Lm.pos ≤ Lm.neg := fun h => h
theorem rfl' (a : Lm) : a ≤ a := by cases a <;> simp
theorem trans {a b c : Lm} (h : a ≤ b) (h' : b ≤ c) : a ≤ c := by
  cases a <;> cases b <;> cases c <;> simp_all
  exact Rat.le_trans h h'
theorem total (a b : Lm) : a ≤ b ∨ b ≤ a := by
  cases a <;> cases b <;> simp
  exact Rat.le_total
theorem of_not_le {a b : Lm} (h : ¬ a ≤ b) : b ≤ a := (total a b).resolve_left h
def opp : Lm → Lm
  | .neg => .pos | .pos => .neg | .num r => .num (-r)
@[simp] theorem opp_neg : opp .neg = .pos := rfl
@[simp] theorem opp_pos : opp .pos = .neg := rfl
@[simp] theorem opp_num (r : Rat) : opp (.num r) = .num (-r) := rfl
@[simp] theorem opp_opp (a : Lm) : a.opp.opp = a := by cases a <;> simp [Rat.neg_neg]
theorem opp_le {a b : Lm} : a.opp ≤ b.opp ↔ b ≤ a := by
  cases a <;> cases b <;> simp
/-- what is infinite of a sign -/
def inf (n : Int) : Lm := if n < 0 then .neg else if n = 0 then .num 0 else .pos
def sgn : Lm → Int
  | .neg => -1 | .pos => 1 | .num r => if r < 0 then -1 else if r = 0 then 0 else 1
def add : Lm → Lm → Lm
  | .neg, _ => .neg
  | .pos, _ => .pos
  | .num _, .neg => .neg
  | .num _, .pos => .pos
  | .num r, .num s => .num (r + s)
def mul : Lm → Lm → Lm
  | .num r, .num s => .num (r * s)
  | a, b => inf (a.sgn * b.sgn)
/-- by what is above 0 -/
def div : Lm → Lm → Lm
  | _, .pos => .num 0
  | _, .neg => .num 0
  | .num r, .num s => .num (r / s)
  | a, _ => a
theorem sgn_opp (a : Lm) : a.opp.sgn = -a.sgn := by
  cases a with
  | neg => rfl
  | pos => rfl
  | num r =>
    simp only [opp, sgn]
    by_cases h : r < 0
    · rw [if_pos h, if_neg (by grind), if_neg (by grind)]; rfl
    · by_cases h0 : r = 0
      · subst h0; rfl
      · rw [if_neg h, if_neg h0, if_pos (by grind)]
theorem inf_opp (n : Int) : inf (-n) = (inf n).opp := by
  unfold inf
  by_cases h : n < 0
  · rw [if_neg (by omega), if_neg (by omega), if_pos h]; rfl
  · by_cases h0 : n = 0
    · subst h0; simp
    · rw [if_pos (by omega), if_neg h, if_neg h0]; rfl
theorem mul_comm (a b : Lm) : mul a b = mul b a := by
  cases a <;> cases b <;> simp only [mul] <;> first | rw [Rat.mul_comm] | rw [Int.mul_comm]
theorem opp_mul (a b : Lm) : mul a.opp b = (mul a b).opp := by
  have key : ∀ n m : Int, inf (-n * m) = (inf (n * m)).opp := fun n m => by rw [Int.neg_mul, inf_opp]
  cases a with
  | neg => cases b <;> simp only [mul, opp] <;> exact key (-1) _
  | pos => cases b <;> simp only [mul, opp] <;> exact key 1 _
  | num r =>
    cases b with
    | neg =>
      show inf ((Lm.num (-r)).sgn * (-1)) = _
      have := sgn_opp (.num r)
      simp only [opp] at this
      rw [this]
      exact key _ _
    | pos =>
      show inf ((Lm.num (-r)).sgn * 1) = _
      have := sgn_opp (.num r)
      simp only [opp] at this
      rw [this]
      exact key _ _
    | num s =>
      simp only [mul, opp]
      congr 1
      grind
@[simp] theorem inf_neg : inf (-1) = .neg := rfl
@[simp] theorem inf_zero : inf 0 = .num 0 := rfl
@[simp] theorem inf_one : inf 1 = .pos := rfl
theorem sgn_cases (r : Rat) : (r < 0 ∧ (Lm.num r).sgn = -1) ∨ (r = 0 ∧ (Lm.num r).sgn = 0) ∨ (0 < r ∧ (Lm.num r).sgn = 1) := by
  simp only [sgn]
  by_cases h : r < 0
  · exact .inl ⟨h, if_pos h⟩
  · by_cases h0 : r = 0
    · exact .inr (.inl ⟨h0, by rw [if_neg h, if_pos h0]⟩)
    · exact .inr (.inr ⟨by grind, by rw [if_neg h, if_neg h0]⟩)
theorem rat_mul_le {a b c : Rat} (ha : 0 ≤ a) (h : b ≤ c) : a * b ≤ a * c := Rat.mul_le_mul_of_nonneg_left h ha
/-- a product by what is from 0 on -/
theorem mul_mono {a b c : Lm} (ha : Lm.num 0 ≤ a) (h : b ≤ c) : mul a b ≤ mul a c := by
  cases a with
  | neg => simp at ha
  | num r =>
    simp at ha
    cases b with
    | neg =>
      cases c with
      | neg => exact rfl' _
      | num s =>
        show inf ((Lm.num r).sgn * (-1)) ≤ Lm.num (r * s)
        rcases sgn_cases r with ⟨h1, h2⟩ | ⟨h1, h2⟩ | ⟨h1, h2⟩ <;> rw [h2]
        · exact absurd h1 (by grind)
        · subst h1; simp [Rat.zero_mul]
        · simp
      | pos =>
        show inf ((Lm.num r).sgn * (-1)) ≤ inf ((Lm.num r).sgn * 1)
        rcases sgn_cases r with ⟨h1, h2⟩ | ⟨h1, h2⟩ | ⟨h1, h2⟩ <;> rw [h2] <;> simp
        · exact absurd h1 (by grind)
    | num s =>
      cases c with
      | neg => simp at h
      | num t => simp at h; exact rat_mul_le ha h
      | pos =>
        show Lm.num (r * s) ≤ inf ((Lm.num r).sgn * 1)
        rcases sgn_cases r with ⟨h1, h2⟩ | ⟨h1, h2⟩ | ⟨h1, h2⟩ <;> rw [h2]
        · exact absurd h1 (by grind)
        · subst h1; simp [Rat.zero_mul]
        · simp
    | pos =>
      cases c with
      | neg => simp at h
      | num t => simp at h
      | pos => exact rfl' _
  | pos =>
    have e : ∀ x : Lm, mul .pos x = inf x.sgn := fun x => by cases x <;> simp [mul, sgn]
    rw [e, e]
    have hm : b.sgn ≤ c.sgn := by
      cases b with
      | neg => cases c with
        | neg => simp
        | pos => simp [sgn]
        | num s => show (-1 : Int) ≤ (Lm.num s).sgn; rcases sgn_cases s with ⟨h1, h2⟩ | ⟨h1, h2⟩ | ⟨h1, h2⟩ <;> rw [h2] <;> decide
      | pos => cases c <;> simp_all
      | num s => cases c with
        | neg => simp at h
        | pos =>
          rcases sgn_cases s with ⟨h1, h2⟩ | ⟨h1, h2⟩ | ⟨h1, h2⟩ <;> rw [h2] <;> simp [sgn]
        | num t =>
          simp at h
          rcases sgn_cases s with ⟨h1, h2⟩ | ⟨h1, h2⟩ | ⟨h1, h2⟩ <;> rcases sgn_cases t with ⟨h3, h4⟩ | ⟨h3, h4⟩ | ⟨h3, h4⟩ <;> rw [h2, h4] <;> first | decide | (exfalso; grind)
    generalize b.sgn = n at hm
    generalize c.sgn = m at hm
    unfold inf
    by_cases h1 : n < 0
    · rw [if_pos h1]; simp
    · rw [if_neg h1, if_neg (show ¬ m < 0 by omega)]
      by_cases h2 : n = 0
      · rw [if_pos h2]
        by_cases h3 : m = 0
        · rw [if_pos h3]; simp
        · rw [if_neg h3]; simp
      · rw [if_neg h2, if_neg (show ¬ m = 0 by omega)]; simp
theorem mul_anti {a b c : Lm} (ha : a ≤ Lm.num 0) (h : b ≤ c) : mul a c ≤ mul a b := by
  have h0 : Lm.num 0 ≤ a.opp := by
    have := opp_le.2 ha
    simpa using this
  have := mul_mono h0 h
  rw [opp_mul, opp_mul] at this
  exact opp_le.1 this
/-- a product with what lies between two: one of the ends makes it no greater, one no less -/
theorem mul_between (a : Lm) {l h b : Lm} (h1 : l ≤ b) (h2 : b ≤ h) : (mul a l ≤ mul a b ∨ mul a h ≤ mul a b) ∧ (mul a b ≤ mul a l ∨ mul a b ≤ mul a h) := by
  rcases total (.num 0) a with ha | ha
  · exact ⟨.inl (mul_mono ha h1), .inr (mul_mono ha h2)⟩
  · exact ⟨.inr (mul_anti ha h2), .inl (mul_anti ha h1)⟩
theorem mul_box {a b al ah bl bh : Lm} (h1 : al ≤ a) (h2 : a ≤ ah) (h3 : bl ≤ b) (h4 : b ≤ bh) :
    (mul al bl ≤ mul a b ∨ mul al bh ≤ mul a b ∨ mul ah bl ≤ mul a b ∨ mul ah bh ≤ mul a b) ∧
    (mul a b ≤ mul al bl ∨ mul a b ≤ mul al bh ∨ mul a b ≤ mul ah bl ∨ mul a b ≤ mul ah bh) := by
  have p := mul_between a h3 h4
  have q1 := mul_between bl h1 h2
  have q2 := mul_between bh h1 h2
  rw [mul_comm bl, mul_comm bl, mul_comm bl] at q1
  rw [mul_comm bh, mul_comm bh, mul_comm bh] at q2
  refine ⟨?_, ?_⟩
  · rcases p.1 with p | p
    · rcases q1.1 with q | q
      · exact .inl (trans q p)
      · exact .inr (.inr (.inl (trans q p)))
    · rcases q2.1 with q | q
      · exact .inr (.inl (trans q p))
      · exact .inr (.inr (.inr (trans q p)))
  · rcases p.2 with p | p
    · rcases q1.2 with q | q
      · exact .inl (trans p q)
      · exact .inr (.inr (.inl (trans p q)))
    · rcases q2.2 with q | q
      · exact .inr (.inl (trans p q))
      · exact .inr (.inr (.inr (trans p q)))
end Lm
end Pm

/- The float next to a number, down and up. Seat ZD. -/
namespace Pm
open Go.Px.Seat
/-- what a float stands for -/
def lim (w o : Int) : Lm := if o = top w then .pos else if o = -top w then .neg else .num (fv w o)
def rng (w o : Int) : Prop := -top w ≤ o ∧ o ≤ top w
def DnL (w : Int) : Lm → Int → Prop
  | .neg, d => d = -top w
  | .pos, d => d = top w
  | .num r, d => IsDn w r d
theorem isDn_ex {w : Int} (hw : wd w = true) (r : Rat) : ∃ d, IsDn w r d := by
  have ht := top_pos hw
  have key : ∀ k : Nat, (k : Int) < 2 * top w → ∃ d, -top w ≤ d ∧ d ≤ -top w + k ∧ (d = -top w ∨ fv w d ≤ r) ∧ (d = -top w + k ∨ r < fv w (d + 1)) := by
    intro k
    induction k with
    | zero => intro _; exact ⟨-top w, by omega, by omega, .inl rfl, .inl (by omega)⟩
    | succ k ih =>
      intro hk
      obtain ⟨d, h1, h2, h3, h4⟩ := ih (by omega)
      rcases h4 with h4 | h4
      · by_cases h : fv w (d + 1) ≤ r
        · exact ⟨d + 1, by omega, by omega, .inr h, .inl (by omega)⟩
        · exact ⟨d, h1, by omega, h3, .inr (Rat.not_le.1 h)⟩
      · exact ⟨d, h1, by omega, h3, .inr h4⟩
  obtain ⟨d, h1, h2, h3, h4⟩ := key (2 * top w - 1).toNat (by omega)
  exact ⟨d, h1, by omega, h3, h4.elim (fun h => .inl (by omega)) .inr⟩
theorem DnL.unique {w : Int} {a : Lm} {d e : Int} (h : DnL w a d) (h' : DnL w a e) : d = e := by
  cases a with
  | neg => exact h.trans h'.symm
  | pos => exact h.trans h'.symm
  | num r => exact IsDn.unique h h'
open Classical in
noncomputable def dn (w : Int) (a : Lm) : Int := if h : ∃ d, DnL w a d then choose h else 0
noncomputable def up (w : Int) (a : Lm) : Int := -dn w a.opp
theorem dn_of {w : Int} {a : Lm} {d : Int} (h : DnL w a d) : dn w a = d := by
  unfold dn
  rw [dif_pos ⟨d, h⟩]
  exact DnL.unique (Classical.choose_spec (⟨d, h⟩ : ∃ d, DnL w a d)) h
theorem dn_spec {w : Int} (hw : wd w = true) (a : Lm) : DnL w a (dn w a) := by
  have : ∃ d, DnL w a d := by
    cases a with
    | neg => exact ⟨_, rfl⟩
    | pos => exact ⟨_, rfl⟩
    | num r => exact isDn_ex hw r
  obtain ⟨d, h⟩ := this
  rw [dn_of h]; exact h
theorem dn_num {w : Int} {r : Rat} {d : Int} (h : IsDn w r d) : dn w (.num r) = d := dn_of h
theorem up_num {w : Int} {r : Rat} {u : Int} (h : IsDn w (-r) (-u)) : up w (.num r) = u := by
  unfold up
  rw [Lm.opp_num, dn_num h]
  omega
@[simp] theorem dn_neg' (w : Int) : dn w .neg = -top w := dn_of rfl
@[simp] theorem dn_pos' (w : Int) : dn w .pos = top w := dn_of rfl
@[simp] theorem up_neg' (w : Int) : up w .neg = -top w := by simp [up]
@[simp] theorem up_pos' (w : Int) : up w .pos = top w := by simp [up]
theorem dn_rng {w : Int} (hw : wd w = true) (a : Lm) : rng w (dn w a) := by
  have ht := top_pos hw
  have h := dn_spec hw a
  unfold rng
  cases a with
  | neg => simp; omega
  | pos => simp; omega
  | num r => obtain ⟨h1, h2, _⟩ := h; omega
theorem dn_lt {w : Int} (hw : wd w = true) {a : Lm} (ha : a ≠ .pos) : dn w a < top w := by
  have ht := top_pos hw
  have h := dn_spec hw a
  cases a with
  | neg => simp; omega
  | pos => exact absurd rfl ha
  | num r => exact h.2.1
theorem lim_num {w o : Int} (h : fin w o) : lim w o = .num (fv w o) := by
  obtain ⟨_, h1, h2⟩ := h
  unfold lim
  rw [if_neg (by omega), if_neg (by omega)]
theorem lim_top (w : Int) : lim w (top w) = .pos := if_pos rfl
theorem lim_bot {w : Int} (hw : wd w = true) : lim w (-top w) = .neg := by
  have ht := top_pos hw
  unfold lim
  rw [if_neg (by omega), if_pos rfl]
theorem lim_cases {w o : Int} (hw : wd w = true) (h : rng w o) : (o = -top w ∧ lim w o = .neg) ∨ (o = top w ∧ lim w o = .pos) ∨ (fin w o ∧ lim w o = .num (fv w o)) := by
  obtain ⟨h1, h2⟩ := h
  by_cases e1 : o = -top w
  · subst e1; exact .inl ⟨rfl, lim_bot hw⟩
  · by_cases e2 : o = top w
    · subst e2; exact .inr (.inl ⟨rfl, lim_top w⟩)
    · have hf : fin w o := ⟨hw, by omega, by omega⟩
      exact .inr (.inr ⟨hf, lim_num hf⟩)
theorem lim_le {w a b : Int} (hw : wd w = true) (ha : rng w a) (hb : rng w b) : lim w a ≤ lim w b ↔ a ≤ b := by
  have ht := top_pos hw
  obtain ⟨a1, a2⟩ := ha
  obtain ⟨b1, b2⟩ := hb
  rcases lim_cases hw ⟨a1, a2⟩ with ⟨h, e⟩ | ⟨h, e⟩ | ⟨h, e⟩ <;> rcases lim_cases hw ⟨b1, b2⟩ with ⟨h', e'⟩ | ⟨h', e'⟩ | ⟨h', e'⟩ <;> rw [e, e'] <;> simp
  all_goals first | omega | (have := h'.2; omega) | (have := h.2; omega) | exact fv_le
theorem lim_opp {w o : Int} (hw : wd w = true) (h : rng w o) : lim w (-o) = (lim w o).opp := by
  have ht := top_pos hw
  rcases lim_cases hw h with ⟨h, e⟩ | ⟨h, e⟩ | ⟨h, e⟩ <;> rw [e]
  · subst h; rw [Int.neg_neg, lim_top]; rfl
  · subst h; rw [lim_bot hw]; rfl
  · rw [lim_num ⟨hw, by have := h.2.2; omega, by have := h.2.1; omega⟩, fv_neg]; rfl
/-- what dn is -/
theorem le_dn {w o : Int} {a : Lm} (hw : wd w = true) (ho : rng w o) : o ≤ dn w a ↔ lim w o ≤ a := by
  have ht := top_pos hw
  obtain ⟨o1, o2⟩ := ho
  have h := dn_spec hw a
  cases a with
  | neg =>
    simp only [dn_neg']
    rcases lim_cases hw ⟨o1, o2⟩ with ⟨h, e⟩ | ⟨h, e⟩ | ⟨h, e⟩ <;> rw [e] <;> simp
    all_goals first | omega | (have := h.2; omega)
  | pos => simp; omega
  | num r =>
    obtain ⟨d1, d2, d3, d4⟩ := (h : IsDn w r (dn w (.num r)))
    generalize dn w (.num r) = d at d1 d2 d3 d4
    rcases lim_cases hw ⟨o1, o2⟩ with ⟨h, e⟩ | ⟨h, e⟩ | ⟨h, e⟩ <;> rw [e] <;> simp
    rotate_left 2
    · constructor
      · intro hod
        rcases d3 with d3 | d3
        · have := h.2.1; omega
        · exact Rat.le_trans (fv_le.2 hod) d3
      · intro hr
        rcases d4 with d4 | d4
        · have := h.2.2; omega
        · by_cases hh : o ≤ d
          · exact hh
          · exact absurd (Rat.le_trans (fv_le.2 (show d + 1 ≤ o by omega)) hr) (Rat.not_le.2 d4)
    all_goals omega
theorem up_le {w o : Int} {a : Lm} (hw : wd w = true) (ho : rng w o) : up w a ≤ o ↔ a ≤ lim w o := by
  have h := le_dn (a := a.opp) hw (show rng w (-o) by unfold rng at *; omega)
  rw [lim_opp hw ho, Lm.opp_le] at h
  rw [← h]
  unfold up
  omega
theorem up_rng {w : Int} (hw : wd w = true) (a : Lm) : rng w (up w a) := by
  have := dn_rng hw a.opp
  unfold rng up at *
  omega
theorem up_gt {w : Int} (hw : wd w = true) {a : Lm} (ha : a ≠ .neg) : -top w < up w a := by
  have := dn_lt (a := a.opp) hw (by cases a <;> simp_all)
  unfold up; omega
theorem lim_dn {w : Int} (hw : wd w = true) (a : Lm) : lim w (dn w a) ≤ a := (le_dn hw (dn_rng hw a)).1 (Int.le_refl _)
theorem lim_up {w : Int} (hw : wd w = true) (a : Lm) : a ≤ lim w (up w a) := (up_le hw (up_rng hw a)).1 (Int.le_refl _)
theorem dn_le_up {w : Int} (hw : wd w = true) {a b : Lm} (h : a ≤ b) : dn w a ≤ up w b :=
  (lim_le hw (dn_rng hw a) (up_rng hw b)).1 (Lm.trans (lim_dn hw a) (Lm.trans h (lim_up hw b)))
theorem dn_lim {w o : Int} (hw : wd w = true) (ho : rng w o) : dn w (lim w o) = o := by
  have h1 := (le_dn (a := lim w o) hw ho).2 (Lm.rfl' _)
  have h2 := (lim_le hw (dn_rng hw (lim w o)) ho).1 (lim_dn hw _)
  omega
theorem up_lim {w o : Int} (hw : wd w = true) (ho : rng w o) : up w (lim w o) = o := by
  have h1 := (up_le (a := lim w o) hw ho).2 (Lm.rfl' _)
  have h2 := (lim_le hw ho (up_rng hw (lim w o))).1 (lim_up hw _)
  omega
theorem up_opp (w : Int) (a : Lm) : up w a.opp = -dn w a := by unfold up; rw [Lm.opp_opp]
theorem dn_opp (w : Int) (a : Lm) : dn w a.opp = -up w a := by unfold up; omega
theorem fv_zero' {w : Int} : fv w 0 = 0 := by
  have : fI w 0 = 0 := by simp [fI, fN_zero]
  rw [fv, this, Rat.zero_mkRat]
theorem lim_zero {w : Int} (hw : wd w = true) : lim w 0 = .num 0 := by
  have ht := top_pos hw
  rw [lim_num ⟨hw, by omega, by omega⟩, fv_zero']
theorem pok_rng {w lo hi : Int} (h : pok w lo hi = true) : wd w = true ∧ rng w lo ∧ rng w hi ∧ lo ≤ hi ∧ lo < top w ∧ -top w < hi := by
  obtain ⟨h1, h2, h3, h4, h5, h6⟩ := pok_iff.1 h
  unfold rng
  exact ⟨h1, ⟨h2, by omega⟩, ⟨by omega, h5⟩, h6, h3, h4⟩
theorem pok_of {w lo hi : Int} (hw : wd w = true) (h1 : rng w lo) (h2 : rng w hi) (h3 : lo ≤ hi) (h4 : lo < top w) (h5 : -top w < hi) : pok w lo hi = true := by
  unfold rng at h1 h2
  exact pok_iff.2 ⟨hw, h1.1, h4, h5, h2.2, h3⟩
theorem lo_ne {w lo hi : Int} (h : pok w lo hi = true) : lim w lo ≠ .pos ∧ lim w hi ≠ .neg := by
  obtain ⟨hw, h1, h2, h3, h4, h5⟩ := pok_rng h
  constructor
  · rcases lim_cases hw h1 with ⟨h, e⟩ | ⟨h, e⟩ | ⟨h, e⟩ <;> rw [e] <;> simp
    omega
  · rcases lim_cases hw h2 with ⟨h, e⟩ | ⟨h, e⟩ | ⟨h, e⟩ <;> rw [e] <;> simp
    omega
theorem inn_lim {w lo hi : Int} {f : Rat} (h : pok w lo hi = true) : inn w lo hi f = true ↔ lim w lo ≤ .num f ∧ .num f ≤ lim w hi := by
  obtain ⟨hw, h1, h2, h3, h4, h5⟩ := pok_rng h
  have ht := top_pos hw
  rw [inn_iff]
  have a1 : (lo = -top w ∨ fv w lo ≤ f) ↔ lim w lo ≤ .num f := by
    rcases lim_cases hw h1 with ⟨h, e⟩ | ⟨h, e⟩ | ⟨h, e⟩ <;> rw [e] <;> simp
    · exact .inl h
    · omega
    · have : lo ≠ -top w := by have := h.2.1; omega
      simp [this]
  have a2 : (hi = top w ∨ f ≤ fv w hi) ↔ .num f ≤ lim w hi := by
    rcases lim_cases hw h2 with ⟨h, e⟩ | ⟨h, e⟩ | ⟨h, e⟩ <;> rw [e] <;> simp
    · omega
    · exact .inl h
    · have : hi ≠ top w := by have := h.2.2; omega
      simp [this]
  rw [a1, a2]
end Pm

/- Numbers: the program's functions, part 4: of a word, bits, sum. Seat ZD. -/
namespace Go.Px.Seat
open Go Pm
set_option linter.unusedVariables false
variable {B : Run}
theorem iandu_base {x : Int} (h : 0 ≤ x) (h' : x < 18446744073709551616) : iand .u64 x 65535 = x % 65536 := by
  have e1 : (BitVec.ofInt 64 x).toNat = x.toNat := by
    simp [BitVec.toNat_ofInt]; omega
  have e2 : (BitVec.ofInt 64 65535).toNat = 2 ^ 16 - 1 := by decide
  have e3 : (BitVec.ofInt 64 x &&& BitVec.ofInt 64 65535).toNat = x.toNat % 2 ^ 16 := by
    rw [BitVec.toNat_and, e1, e2, Nat.and_two_pow_sub_one_eq_mod]
  show IntKind.u64.wrap (((BitVec.ofInt 64 x &&& BitVec.ofInt 64 65535).toNat : Nat) : Int) = _
  rw [e3, wrapu64 (by omega) (by omega)]
  omega
theorem k_natOf : Ev fun n => ∀ x : Nat, x < 18446744073709551616 → c_i_natOf ((C B).run n) (x : Int) = some (dig x, ()) := by
  refine Ev.triv.succ fun n hn _ x hx => ?_
  have hlen : (dig x).length ≤ 4 := dig_len_le.2 (by omega)
  rw [run_succ, e_i_natOf]
  unfold p_i_natOf
  refine iter_const (fun p => ∃ i : Nat, p = ((((x / 65536 ^ i : Nat) : Int), ((), ((), ()))), ((dig x).take i, ())) ∧ i ≤ (dig x).length) (fun p => 5 - p.2.1.length) _ ?_ n _ (by simp only; omega) ⟨0, by simp, by omega⟩
  rintro rec _ ⟨i, rfl, hi⟩ ih
  simp only [ilt_iff]
  by_cases h : x / 65536 ^ i = 0
  · rw [h]
    simp only [show ¬ (0 : Int) < ((0 : Nat) : Int) by omega, decide_false, cond_false]
    have : (dig x).length ≤ i := by
      rw [dig_len_le]
      exact (Nat.div_eq_zero_iff_lt (Nat.pow_pos (by decide))).1 h
    rw [List.take_of_length_le this]
  · have hpos : (0 : Int) < ((x / 65536 ^ i : Nat) : Int) := Int.natCast_pos.2 (Nat.pos_of_ne_zero h)
    simp only [hpos, decide_true, cond_true]
    have hil : i < (dig x).length := by
      rcases Nat.lt_or_ge i (dig x).length with h1 | h1
      · exact h1
      · exact absurd (Nat.div_eq_of_lt (dig_len_le.1 h1)) h
    have hb : x / 65536 ^ i ≤ x := Nat.div_le_self ..
    have e1 : IntKind.wrap .i64 (iand .u64 ((x / 65536 ^ i : Nat) : Int) 65535) = ((x / 65536 ^ i % 65536 : Nat) : Int) := by
      rw [iandu_base (by omega) (by omega), wrap64 (by omega) (by omega)]; omega
    have e2 : ishr .u64 ((x / 65536 ^ i : Nat) : Int) 16 = ((x / 65536 ^ (i + 1) : Nat) : Int) := by
      have h16 : ((16 : Nat) : Int) = 16 := rfl
      rw [← h16, ishru_eq (by omega), Nat.pow_succ, ← Nat.div_div_eq_div_mul]
      have : (2 : Int) ^ 16 = 65536 := by decide
      rw [this]; omega
    rw [e1, e2, ← take_dig_succ hil]
    rw [ok_of (aok_true (by simp only [List.length_take]; omega))]
    refine ih _ ⟨i + 1, rfl, by omega⟩ ?_
    simp only [List.length_take]; omega
theorem k_natBits : Ev fun n => ∀ x : Nat, (dig x).length ≤ 1099511627776 → c_i_natBits ((C B).run n) (dig x) = some ((bl x : Int), ()) := by
  refine (k_Len (B := B)).succ fun n hn hL x hx => ?_
  rw [run_succ, e_i_natBits]
  unfold p_i_natBits
  rw [len_eq]
  by_cases h0 : x = 0
  · subst h0; simp
  · have hp := dig_len_pos h0
    rw [beq_f (by omega), cond_false, isub_eq (by omega) (by omega), ok_of (inB_true (by omega) (by omega))]
    rw [show (((dig x).length : Int) - 1).toNat = (dig x).length - 1 by omega, getD_at, dig_at, wrapu64 (by omega) (by omega), hL _ (by omega)]
    simp only [Option.bind_some]
    have := bl_dig h0
    have hb : bl (x / 65536 ^ ((dig x).length - 1) % 65536) ≤ 16 := bl_le.2 (by omega)
    rw [imul_eq (by omega) (by omega), iadd_eq (by omega) (by omega)]
    congr 2
    omega
end Go.Px.Seat

/- Numbers: the program's functions, part 5: sum. Seat ZD. -/
namespace Go.Px.Seat
open Go Pm
set_option linter.unusedVariables false
variable {B : Run}
end Go.Px.Seat

/- Numbers: the program's functions, part 6: difference; fractions. Seat ZD. -/
namespace Go.Px.Seat
open Go Pm
set_option linter.unusedVariables false
variable {B : Run}
end Go.Px.Seat

/- Fractions: the program's functions. Seat ZD. -/
namespace Go.Px.Seat
open Go Pm
set_option linter.unusedVariables false
variable {B : Run}
/-- a fraction as it is handed over -/
def outF (r : Rat) : Bool × (List Int × (List Int × Unit)) := (fb r, (ft r, (fq r, ())))
theorem one_dig : [(1 : Int)] = dig 1 := (dig_of_lt (d := 1) (by omega) (by omega)).symm
theorem mk_fb {b : Bool} {p q : Nat} (hq : q ≠ 0) : fb (mkRat (sg b p) q) = (b && decide (p ≠ 0)) := by
  by_cases hp : p = 0
  · subst hp
    rw [sg_zero, Rat.zero_mkRat]
    cases b <;> rfl
  · rw [mk_rb hp hq]
    simp [hp]
theorem k_lowest : Ev fun n => ∀ (b : Bool) (p q : Nat), q ≠ 0 → (dig p).length ≤ 134217728 → (dig q).length ≤ 134217728 → c_i_lowest ((C B0).run n) b (dig p) (dig q) = some (outF (mkRat (sg b p) q)) := by
  refine (k_natGcd.and ((k_natCmp (B := B0)).and k_natDiv)).succ fun n hn ⟨hG, hC, hD⟩ b p q hq hp1 hq1 => ?_
  rw [run_succ, e_i_lowest]
  unfold p_i_lowest
  rw [hG _ _ (by omega) (by omega)]
  simp only [Option.bind_some]
  have hg0 : Nat.gcd p q ≠ 0 := fun h => hq (Nat.eq_zero_of_gcd_eq_zero_right h)
  have hgl : (dig (Nat.gcd p q)).length ≤ (dig q).length := dig_len_mono (Nat.gcd_le_right p (Nat.pos_of_ne_zero hq))
  rw [one_dig, hC _ _ (by omega) (by rw [← one_dig]; simp)]
  simp only [Option.bind_some]
  refine (jb_of (p := ((b, (dig (p / Nat.gcd p q), (dig (q / Nat.gcd p q), ((), ())))), ((false, ((), ((), ()))), ()))) ?_ _).trans ?_
  · by_cases h1 : Nat.gcd p q = 1
    · rw [h1, Nat.div_one, Nat.div_one]
      simp [cmp3]
    · have : cmp3 (Nat.gcd p q) 1 ≠ 0 := by
        unfold cmp3
        split
        · omega
        · split
          · omega
          · omega
      rw [show (cmp3 (Nat.gcd p q) 1 != 0) = true by simpa using this, cond_true, hD _ _ (by omega) (by omega) hg0]
      simp only [Option.bind_some]
      rw [hD _ _ (by omega) (by omega) hg0]
      simp only [Option.bind_some]
  · simp only
    have hlt : ilt 0 (len (dig (p / Nat.gcd p q))) = decide (p ≠ 0) := by
      rw [len_eq, ilt_iff]
      refine decide_eq_decide.2 ⟨fun h h' => ?_, fun h => ?_⟩
      · subst h'; simp at h
      · have := dig_len_pos (div_gcd_ne (q := q) h)
        omega
    rw [hlt]
    unfold outF
    rw [mk_fb hq, mk_rt hq, mk_rd hq]
    cases b <;> rfl
theorem k_whole : Ev fun n => ∀ (b : Bool) (p : Nat), c_i_whole ((C B).run n) b (dig p) = some (outF (mkRat (sg b p) 1)) := by
  refine Ev.triv.succ fun n hn _ b p => ?_
  rw [run_succ, e_i_whole]
  unfold p_i_whole
  have hlt : ilt 0 (len (dig p)) = decide (p ≠ 0) := by
    rw [len_eq, ilt_iff]
    refine decide_eq_decide.2 ⟨fun h h' => ?_, fun h => ?_⟩
    · subst h'; simp at h
    · have := dig_len_pos h
      omega
  rw [hlt]
  unfold outF
  rw [mk_fb (by omega), mk_rt (by omega), mk_rd (by omega), Nat.gcd_one_right, Nat.div_one, ← one_dig]
  cases b <;> rfl
/-- how long a fraction's parts are -/
def short (k : Nat) (r : Rat) : Prop := (ft r).length ≤ k ∧ (fq r).length ≤ k
theorem fits_short {r : Rat} (h : fits r) : short 256 r := fits_len h
theorem k_Fmul : Ev fun n => ∀ r s : Rat, short 33554432 r → short 33554432 s → c_i_Frac_mul ((C B0).run n) (fb r) (ft r) (fq r) (fb s) (ft s) (fq s) = some (outF (r * s)) := by
  refine ((k_natMul (B := B0)).and k_lowest).succ fun n hn ⟨hM, hL⟩ r s hr hs => ?_
  rw [run_succ, e_i_Frac_mul]
  unfold p_i_Frac_mul
  obtain ⟨r1, r2⟩ := hr
  obtain ⟨s1, s2⟩ := hs
  simp only [ft, fq] at r1 r2 s1 s2 ⊢
  have l1 := len_dig_mul r.num.natAbs s.num.natAbs
  have l3 := len_dig_mul r.den s.den
  rw [hM _ _ (by omega) (by omega)]
  simp only [Option.bind_some]
  rw [hM _ _ (by omega) (by omega)]
  simp only [Option.bind_some, beqB_eq]
  have e : (!(fb r == fb s)) = (fb r != fb s) := rfl
  rw [e, hL _ _ _ (Nat.mul_ne_zero r.den_nz s.den_nz) (by omega) (by omega), sg_mul, ← Rat.mkRat_mul_mkRat, mk_self, mk_self]
  rfl
end Go.Px.Seat

/- Values of floats: the program's. Seat ZD. -/
namespace Pm
open Go.Px.Seat
theorem fv_big {w o : Int} {k : Nat} (h : shf w o = lst w + k) : fv w o = mkRat (sg (decide (o < 0)) (sz w o * 2 ^ k)) 1 := by
  rw [fv, fI_sg, h, Nat.pow_add, Nat.mul_left_comm]
  have h2 : sg (decide (o < 0)) (2 ^ lst w * (sz w o * 2 ^ k)) = ((2 ^ lst w : Nat) : Int) * sg (decide (o < 0)) (sz w o * 2 ^ k) := by
    cases decide (o < 0)
    · simp only [sg, Bool.false_eq_true, if_false]; rw [Int.natCast_mul]
    · simp only [sg, if_true]; rw [Int.natCast_mul, Int.mul_neg]
  rw [h2, ← Rat.mkRat_mul_left (n := sg (decide (o < 0)) (sz w o * 2 ^ k)) (d := 1) (pow2_ne (lst w)), Nat.mul_one]
theorem fv_small {w o : Int} {k : Nat} (h : lst w = shf w o + k) : fv w o = mkRat (sg (decide (o < 0)) (sz w o)) (2 ^ k) := by
  rw [fv, fI_sg, h]
  have h2 : sg (decide (o < 0)) (sz w o * 2 ^ shf w o) = sg (decide (o < 0)) (sz w o) * ((2 ^ shf w o : Nat) : Int) := by
    cases decide (o < 0)
    · simp only [sg, Bool.false_eq_true, if_false]; rw [Int.natCast_mul]
    · simp only [sg, if_true]; rw [Int.natCast_mul, Int.neg_mul]
  rw [h2, Nat.pow_add, Nat.mul_comm (2 ^ shf w o), Rat.mkRat_mul_right (pow2_ne _)]
end Pm
namespace Go.Px.Seat
open Go Pm
set_option linter.unusedVariables false
variable {B : Run}
theorem fmt_of {w : Int} (h : wd w = true) : fmt w = ((frw w : Int), (-(lst w : Int), ((fmt w).2.2.1, (top w, (true, ()))))) := by
  rcases of_decide_eq_true h with h | h <;> subst h <;> rfl
theorem k_size : Ev fun n => ∀ o : Int, -9223372036854775808 < o → o < 9223372036854775808 → c_i_size ((C B).run n) o = some ((o.natAbs : Int), ()) := by
  refine Ev.triv.succ fun n hn _ o h1 h2 => ?_
  rw [run_succ, e_i_size]
  unfold p_i_size
  rw [ineg_eq h1 h2]
  congr 2
  unfold imax
  omega
theorem k_Part : Ev fun n => ∀ w o : Int, fin w o → c_i_BitPartOf ((C B).run n) w o = some (decide (o < 0), ((sz w o : Int), ((-(lst w : Int) + (shf w o : Int)), (true, ())))) := by
  refine ((k_fmt (B := B)).and ((k_BitOk (B := B)).and (k_size (B := B)))).succ fun n hn ⟨hF, hB, hS⟩ w o hf => ?_
  rw [run_succ, e_i_BitPartOf]
  unfold p_i_BitPartOf
  obtain ⟨h1, h2, h3⟩ := hf
  have htn := top_nonneg w
  have hb : bok w o = true := bok_iff.2 ⟨h1, by omega, by omega⟩
  have hfl := frw_le w
  have hll : lst w ≤ 1074 := by unfold lst; split <;> omega
  rw [hF, fmt_of h1]
  simp only [Option.bind_some]
  rw [hB, hb, hS o (by omega) (by omega)]
  simp only [Option.bind_some, Bool.not_true, cond_false, jb_inr, beq_f (show ¬ (o.natAbs : Int) = top w by omega), ile_iff, ilt_iff]
  have hle : decide (0 ≤ (frw w : Int)) = true := by simp
  rw [hS o (by omega) (by omega)]
  simp only [Option.bind_some, hle, ok_true]
  have hU : 0 < 2 ^ frw w := Nat.pow_pos (by decide)
  have hU2 : 2 ^ frw w ≤ 2 ^ 52 := Nat.pow_le_pow_right (by decide) hfl
  have hcast : ((2 : Int) ^ frw w) = ((2 ^ frw w : Nat) : Int) := by simp
  have e1 : ishr .i64 (o.natAbs : Int) (frw w : Int) = ((o.natAbs / 2 ^ frw w : Nat) : Int) := by
    rw [ishr_eq (by omega), hcast]; norm_cast
  have e2 : iand .i64 (o.natAbs : Int) (isub .i64 (ishl .i64 1 (frw w : Int)) 1) = ((o.natAbs % 2 ^ frw w : Nat) : Int) := by
    have h5 : isub .i64 (ishl .i64 1 (frw w : Int)) 1 = (2 : Int) ^ frw w - 1 := by
      rw [shl_one _ (by omega), hcast]
      simp only [Nat.reducePow] at hU2
      exact isub_eq (by omega) (by omega)
    rw [h5, iand_mask (by omega) (by omega) (by omega), hcast]; norm_cast
  have hm : o.natAbs % 2 ^ frw w < 2 ^ frw w := Nat.mod_lt _ hU
  have e3 : ior .i64 ((o.natAbs % 2 ^ frw w : Nat) : Int) (ishl .i64 1 (frw w : Int)) = ((o.natAbs % 2 ^ frw w + 2 ^ frw w : Nat) : Int) := by
    rw [shl_one _ (by omega)]
    simp only [Nat.reducePow] at hU2
    have h6 := Nat.two_pow_add_eq_or_of_lt hm 1
    rw [Nat.mul_one] at h6
    rw [ior_eq (by omega) (by omega), Nat.or_comm, ← h6, Nat.add_comm]
  rw [e1, e2, e3]
  unfold sz shf
  have hdl : o.natAbs / 2 ^ frw w ≤ o.natAbs := Nat.div_le_self ..
  simp only [Nat.reducePow] at hU2
  generalize 2 ^ frw w = U at *
  generalize o.natAbs / U = d at *
  generalize o.natAbs % U = r at *
  by_cases hd : d = 0
  · subst hd
    simp only [show (((0 : Nat) : Int) == 0) = true from rfl, cond_true, if_true]
    rw [wrapu64 (by omega) (by omega)]
    simp
  · rw [beq_f (by omega), cond_false, if_neg hd, wrapu64 (by omega) (by omega), iadd_eq (by omega) (by omega), isub_eq (by omega) (by omega)]
    congr 4
    omega
theorem k_value : Ev fun n => ∀ w o : Int, fin w o → c_i_value ((C B0).run n) w o = some (outF (fv w o)) := by
  refine ((k_Part (B := B0)).and ((k_natOf (B := B0)).and ((k_natShl (B := B0)).and ((k_whole (B := B0)).and k_lowest)))).succ fun n hn ⟨hP, hO, hS, hW, hL⟩ w o hf => ?_
  rw [run_succ, e_i_value]
  unfold p_i_value
  have hs := sz_lt w o
  have hsh := shf_lt hf
  have hll : lst w ≤ 1074 := by unfold lst; split <;> omega
  rw [hP w o hf]
  simp only [Option.bind_some]
  rw [hO _ (by omega)]
  simp only [Option.bind_some, ile_iff]
  have hszl : (dig (sz w o)).length ≤ 4 := dig_len_le.2 (by omega)
  by_cases hp : lst w ≤ shf w o
  · obtain ⟨k, hk⟩ : ∃ k, shf w o = lst w + k := ⟨shf w o - lst w, by omega⟩
    have e1 : -(lst w : Int) + (shf w o : Int) = (k : Int) := by omega
    rw [e1, decide_eq_true (show (0 : Int) ≤ (k : Int) by omega), cond_true, hS _ _ (by omega) (by omega)]
    simp only [Option.bind_some]
    rw [hW, fv_big hk]
    rfl
  · obtain ⟨k, hk⟩ : ∃ k, lst w = shf w o + k := ⟨lst w - shf w o, by omega⟩
    have e1 : -(lst w : Int) + (shf w o : Int) = -(k : Int) := by omega
    rw [e1, decide_eq_false (show ¬ (0 : Int) ≤ -(k : Int) by omega), cond_false, ineg_eq (by omega) (by omega), Int.neg_neg, one_dig, hS _ _ (by rw [← one_dig]; simp) (by omega)]
    simp only [Option.bind_some, Nat.one_mul]
    have hkl := dig_len_pow k
    rw [hL _ _ _ (pow2_ne k) (by omega) (by omega), fv_small hk]
    rfl
end Go.Px.Seat

/- A float made of its parts: the program's. Seat ZD. -/
namespace Pm
open Go.Px.Seat
theorem ctz_dvd : ∀ (f x : Nat), x ≠ 0 → x < 2 ^ f → 2 ^ ctz f x ∣ x ∧ ctz f x < f
  | 0, x, h, h' => by simp at h'; omega
  | f + 1, x, h, h' => by
    unfold ctz
    by_cases h1 : x % 2 = 1
    · rw [if_pos h1]
      exact ⟨Nat.one_dvd _, by omega⟩
    · rw [if_neg h1]
      rw [Nat.pow_succ] at h'
      obtain ⟨h2, h3⟩ := ctz_dvd f (x / 2) (by omega) (by omega)
      refine ⟨?_, by omega⟩
      rw [Nat.pow_succ]
      obtain ⟨c, hc⟩ := h2
      refine ⟨c, ?_⟩
      rw [Nat.mul_assoc, Nat.mul_comm 2 c, ← Nat.mul_assoc, ← hc]
      omega
theorem bias_of {w : Int} (h : wd w = true) : ∃ b : Nat, (fmt w).2.2.1 = (b : Int) ∧ lst w + 1 = b + frw w ∧ top w = ((2 * b + 1 : Nat) : Int) * ((2 ^ frw w : Nat) : Int) ∧ b ≤ 1023 ∧ 1 ≤ b ∧ 1 ≤ frw w := by
  rcases of_decide_eq_true h with h | h <;> subst h
  · exact ⟨127, rfl, rfl, rfl, by omega, by omega, by decide⟩
  · exact ⟨1023, rfl, rfl, rfl, by omega, by omega, by decide⟩
end Pm
namespace Go.Px.Seat
open Go Pm
set_option linter.unusedVariables false
variable {B : Run}
theorem ishlu_eq {x k : Nat} (hk : k ≤ 64) (h : x * 2 ^ k < 18446744073709551616) : ishl .u64 (x : Int) (k : Int) = ((x * 2 ^ k : Nat) : Int) := by
  have : min ((k : Int)).toNat (IntKind.bits .u64) = k := by simp [IntKind.bits]; omega
  rw [ishl, this]
  have e : (x : Int) * 2 ^ k = ((x * 2 ^ k : Nat) : Int) := by simp
  rw [e, wrapu64 (by omega) (by omega)]
theorem k_Make : Ev fun n => ∀ (w pw : Int) (Q : Nat), wd w = true → Q < 2 ^ (frw w + 1) → -(lst w : Int) ≤ pw → (pw = -(lst w : Int) ∨ 2 ^ frw w ≤ Q) → pw ≤ 1000000 →
    c_i_BitMake ((C B0).run n) w false (Q : Int) pw = some (if (((pw + lst w).toNat * 2 ^ frw w + Q : Nat) : Int) < top w then ((((pw + lst w).toNat * 2 ^ frw w + Q : Nat) : Int), (true, ())) else (0, (false, ()))) := by
  refine ((k_fmt (B := B0)).and ((k_in (B := B0)).and (k_tz.and (k_Len64 (B := B0))))).succ fun n hn ⟨hF, hI, hZ, hL⟩ w pw Q hw hQ hp1 hp2 hp3 => ?_
  rw [run_succ, e_i_BitMake]
  unfold p_i_BitMake
  have hfl := frw_le w
  have hll : lst w ≤ 1074 := by unfold lst; split <;> omega
  have htp := top_pos hw
  have htn := top_nonneg w
  obtain ⟨b, hb1, hb2, hb3, hb4, hb5, hb6⟩ := bias_of hw
  have hU : 0 < 2 ^ frw w := Nat.pow_pos (by decide)
  have hU2 : 2 ^ frw w ≤ 2 ^ 52 := Nat.pow_le_pow_right (by decide) hfl
  have hQ' := hQ
  rw [Nat.pow_succ] at hQ'
  rw [hF, fmt_of hw, hb1]
  simp only [Option.bind_some, Bool.not_true, cond_false]
  rw [hI]
  simp only [Option.bind_some, jb_inr]
  obtain ⟨e, he⟩ : ∃ e : Nat, pw + lst w = (e : Int) := ⟨(pw + lst w).toNat, by omega⟩
  have het : (pw + lst w).toNat = e := by omega
  rw [het]
  have hm0 : ((e * 2 ^ frw w + Q : Nat) : Int) = (e : Int) * ((2 ^ frw w : Nat) : Int) + (Q : Int) := by rw [Int.natCast_add, Int.natCast_mul]
  by_cases hr : -2000 ≤ pw ∧ pw ≤ 2000
  · rw [decide_eq_true hr, Bool.not_true, cond_false]
    by_cases hQ0 : Q = 0
    · subst hQ0
      have hpe : pw = -(lst w : Int) := hp2.resolve_right (by omega)
      have he0 : e = 0 := by omega
      subst he0
      rw [if_pos (by simp; omega)]
      simp
    · rw [beq_f (by omega), cond_false, hZ _ (by simp only [Nat.reducePow] at hU2; omega)]
      simp only [Option.bind_some]
      obtain ⟨hz1, hz2⟩ := ctz_dvd 64 Q hQ0 (by simp only [Nat.reducePow] at hU2; omega)
      generalize ctz 64 Q = z at *
      obtain ⟨od, hod⟩ := hz1
      have hz0 : 0 < 2 ^ z := Nat.pow_pos (by decide)
      have hdiv : Q / 2 ^ z = od := by rw [hod, Nat.mul_div_cancel_left _ hz0]
      have hod0 : od ≠ 0 := fun h => hQ0 (by rw [hod, h, Nat.mul_zero])
      have hbl : bl Q = z + bl od := by
        have := bl_shift Q z (by rw [hdiv]; exact hod0)
        rwa [hdiv] at this
      have hodQ : od ≤ Q := by rw [hod]; exact Nat.le_mul_of_pos_left _ hz0
      have hblQ : bl Q ≤ frw w + 1 := bl_le.2 hQ
      have hsh : ishr .u64 (Q : Int) (z : Int) = (od : Int) := by
        rw [ishru_eq (by omega)]
        have : ((2 : Int) ^ z) = ((2 ^ z : Nat) : Int) := by simp
        rw [this, ← Int.natCast_ediv, hdiv]
      have hblod : bl od ≠ 0 := mt bl_eq_zero.1 hod0
      have hQ64 : Q < 9223372036854775808 := by simp only [Nat.reducePow] at hU2; omega
      rw [show ile 0 (z : Int) = true by simp, ok_true, hsh, hL _ (by omega)]
      simp only [Option.bind_some, ilt_iff]
      have x1 : iadd .i64 (frw w : Int) 1 = (frw w : Int) + 1 := iadd_eq (by omega) (by omega)
      have x2 : iadd .i64 pw (z : Int) = pw + z := iadd_eq (by omega) (by omega)
      have x3 : iadd .i64 (pw + z) (bl od : Int) = pw + z + bl od := iadd_eq (by omega) (by omega)
      have x4 : isub .i64 (pw + z + bl od) 1 = pw + z + bl od - 1 := isub_eq (by omega) (by omega)
      rw [x1, x2, x3, x4, decide_eq_false (show ¬ (frw w : Int) + 1 < (bl od : Int) by omega), cond_false, decide_eq_false (show ¬ pw + (z : Int) < -(lst w : Int) by omega), cond_false, jb_inr]
      simp only
      by_cases hov : (b : Int) < pw + z + bl od - 1
      · rw [decide_eq_true hov, cond_true, if_neg]
        have hge : 2 ^ frw w ≤ Q := by
          rcases hp2 with h | h
          · exfalso; omega
          · exact h
        rw [hm0, hb3]
        have h3 : ((2 * b : Nat) : Int) * ((2 ^ frw w : Nat) : Int) ≤ (e : Int) * ((2 ^ frw w : Nat) : Int) := Int.mul_le_mul_of_nonneg_right (by omega) (by omega)
        have h4 : ((2 * b + 1 : Nat) : Int) * ((2 ^ frw w : Nat) : Int) = ((2 * b : Nat) : Int) * ((2 ^ frw w : Nat) : Int) + ((2 ^ frw w : Nat) : Int) := by rw [Int.natCast_add, Int.add_mul]; simp
        omega
      · rw [decide_eq_false hov, cond_false]
        have hmul : od * 2 ^ z = Q := by rw [Nat.mul_comm]; exact hod.symm
        have hshl : ishl .u64 (od : Int) (z : Int) = (Q : Int) := by
          rw [ishlu_eq (by omega) (by omega), hmul]
        have x5 : iadd .i64 (pw + z + bl od - 1) (b : Int) = pw + z + bl od - 1 + b := iadd_eq (by omega) (by omega)
        have x6 : isub .i64 ((frw w : Int) + 1) (bl od : Int) = (frw w : Int) + 1 - bl od := isub_eq (by omega) (by omega)
        have x7 : isub .i64 (pw + z) (-(lst w : Int)) = pw + z + lst w := by rw [isub_eq (by omega) (by omega)]; omega
        rw [x5, x1, x6, x7]
        by_cases hge : 2 ^ frw w ≤ Q
        · have hbe : bl Q = frw w + 1 := by
            have h5 : ¬ bl Q ≤ frw w := fun h => by have := bl_le.1 h; omega
            omega
          have hfld : pw + z + bl od - 1 + b = ((e + 1 : Nat) : Int) := by omega
          have hzz : (frw w : Int) + 1 - bl od = (z : Int) := by omega
          rw [hfld, hzz, hshl, wrap64 (by omega) (by omega)]
          have he2 : e + 1 ≤ 2 * b := by omega
          have h3 : (e + 1) * 2 ^ frw w ≤ 2 * b * 2 ^ frw w := Nat.mul_le_mul_right _ he2
          have h6 : 2 * b * 2 ^ frw w + 2 ^ frw w = (2 * b + 1) * 2 ^ frw w := by rw [Nat.add_mul, Nat.one_mul]
          have h7 : ((2 * b + 1) * 2 ^ frw w : Nat) = (top w).toNat := by rw [hb3, ← Int.natCast_mul]; rfl
          have h8 : (e + 1) * 2 ^ frw w = e * 2 ^ frw w + 2 ^ frw w := by rw [Nat.add_mul, Nat.one_mul]
          have hmr : Q % 2 ^ frw w = Q - 2 ^ frw w := by
            rw [Nat.mod_eq_sub_mod hge, Nat.mod_eq_of_lt (by omega)]
          have hcast : ((2 : Int) ^ frw w) = ((2 ^ frw w : Nat) : Int) := by simp
          have y1 : ishl .i64 ((e + 1 : Nat) : Int) (frw w : Int) = (((e + 1) * 2 ^ frw w : Nat) : Int) := by
            have h9 : ((e + 1 : Nat) : Int) * 2 ^ frw w = (((e + 1) * 2 ^ frw w : Nat) : Int) := by rw [hcast, Int.natCast_mul]
            rw [ishl_eq (by omega) (by rw [h9]; omega) (by rw [h9]; omega), h9]
          have y2 : iand .i64 (Q : Int) (isub .i64 (ishl .i64 1 (frw w : Int)) 1) = ((Q - 2 ^ frw w : Nat) : Int) := by
            have h9 : isub .i64 (ishl .i64 1 (frw w : Int)) 1 = (2 : Int) ^ frw w - 1 := by
              rw [shl_one _ (by omega), hcast]
              simp only [Nat.reducePow] at hU2
              exact isub_eq (by omega) (by omega)
            rw [h9, iand_mask (by omega) (by omega) (by omega), hcast, ← Int.natCast_emod, hmr]
          have y3 : ior .i64 (((e + 1) * 2 ^ frw w : Nat) : Int) ((Q - 2 ^ frw w : Nat) : Int) = ((e * 2 ^ frw w + Q : Nat) : Int) := by
            rw [ior_eq (by omega) (by omega)]
            have h9 := Nat.two_pow_add_eq_or_of_lt (show Q - 2 ^ frw w < 2 ^ frw w by omega) (e + 1)
            rw [Nat.mul_comm] at h9
            rw [← h9]
            omega
          rw [show ile 1 ((e + 1 : Nat) : Int) = true by simp; omega, cond_true, show ile 0 (frw w : Int) = true by simp, show ile 0 (z : Int) = true by simp, y1, y2, y3]
          simp only [ok_true, jb_inr, cond_false]
          rw [if_pos (by omega)]
        · have hpe : pw = -(lst w : Int) := hp2.resolve_right hge
          have he0 : e = 0 := by omega
          subst he0
          have hbe : bl Q ≤ frw w := bl_le.2 (by omega)
          rw [show ile 1 (pw + z + bl od - 1 + b) = false by simp; omega, cond_false]
          rw [show pw + z + lst w = (z : Int) by omega, show ile 0 (z : Int) = true by simp, ok_true, hshl, wrap64 (by omega) (by omega)]
          simp only [jb_inr, cond_false]
          rw [Nat.zero_mul, Nat.zero_add, if_pos]
          rw [hb3]
          have h3 : ((1 : Nat) : Int) * ((2 ^ frw w : Nat) : Int) ≤ ((2 * b + 1 : Nat) : Int) * ((2 ^ frw w : Nat) : Int) := Int.mul_le_mul_of_nonneg_right (by omega) (by omega)
          omega
  · rw [decide_eq_false hr, Bool.not_false, cond_true, if_neg]
    rw [hm0, hb3]
    have h3 : ((2 * b + 1 : Nat) : Int) * ((2 ^ frw w : Nat) : Int) ≤ (e : Int) * ((2 ^ frw w : Nat) : Int) := Int.mul_le_mul_of_nonneg_right (by omega) (by omega)
    omega
end Go.Px.Seat

/- The float below a number: the program's. Seat ZD. -/
namespace Pm
open Go.Px.Seat
theorem scR_half {p q : Nat} (hq : q ≠ 0) (s : Int) : scR p q (s - 1) = 0 ↔ scR p q s = 0 ∧ scQ p q s % 2 = 0 := by
  unfold scQ scR
  by_cases h : 1 ≤ s
  · obtain ⟨k, rfl⟩ : ∃ k : Nat, s = (k : Int) + 1 := ⟨(s - 1).toNat, by omega⟩
    rw [if_pos (by omega), if_pos (by omega), if_pos (by omega), show ((k : Int) + 1 - 1).toNat = k by omega, show ((k : Int) + 1).toNat = k + 1 by omega, Nat.pow_succ, ← Nat.mul_assoc]
    generalize p * 2 ^ k = x
    constructor
    · intro h1
      obtain ⟨c, rfl⟩ := Nat.dvd_of_mod_eq_zero h1
      have e : q * c * 2 = q * (c * 2) := Nat.mul_assoc ..
      rw [e, Nat.mul_mod_right, Nat.mul_div_cancel_left _ (Nat.pos_of_ne_zero hq)]
      exact ⟨rfl, by omega⟩
    · rintro ⟨h1, h2⟩
      obtain ⟨d, hd⟩ := Nat.dvd_of_mod_eq_zero h1
      rw [hd, Nat.mul_div_cancel_left _ (Nat.pos_of_ne_zero hq)] at h2
      obtain ⟨c, rfl⟩ : ∃ c, d = c * 2 := ⟨d / 2, by omega⟩
      rw [← Nat.mul_assoc] at hd
      have : x = q * c := by omega
      rw [this, Nat.mul_mod_right]
  · obtain ⟨k, rfl⟩ : ∃ k : Nat, s = -(k : Int) := ⟨(-s).toNat, by omega⟩
    have h1 : (-(-(k : Int) - 1)).toNat = k + 1 := by omega
    have h2 : (- -(k : Int)).toNat = k := by omega
    have key : p % (q * 2 ^ k * 2) = 0 ↔ p % (q * 2 ^ k) = 0 ∧ p / (q * 2 ^ k) % 2 = 0 := by
      have hD : 0 < q * 2 ^ k := Nat.mul_pos (Nat.pos_of_ne_zero hq) (Nat.pow_pos (by decide))
      rw [Nat.mod_mul]
      generalize q * 2 ^ k = D at *
      constructor
      · intro h
        refine ⟨by omega, ?_⟩
        have : D * (p / D % 2) = 0 := by omega
        rcases Nat.mul_eq_zero.1 this with h3 | h3
        · omega
        · exact h3
      · rintro ⟨h3, h4⟩
        rw [h3, h4]; simp
    rw [if_neg (by omega), h1, Nat.pow_succ, ← Nat.mul_assoc, key]
    by_cases hk : k = 0
    · subst hk
      rw [if_pos (by omega), if_pos (by omega)]
      simp
    · rw [if_neg (by omega), if_neg (by omega), h2]
theorem scQ_neg (p q : Nat) (pw : Int) : scQ p q (-pw) = if pw < 0 then p * 2 ^ (-pw).toNat / q else p / (q * 2 ^ pw.toNat) := by
  unfold scQ
  by_cases h : pw < 0
  · rw [if_pos h, if_pos (by omega)]
  · rw [if_neg h]
    by_cases h0 : pw = 0
    · subst h0; simp
    · rw [if_neg (by omega), Int.neg_neg]
theorem scR_neg (p q : Nat) (pw : Int) : scR p q (-pw) = if pw < 0 then p * 2 ^ (-pw).toNat % q else p % (q * 2 ^ pw.toNat) := by
  unfold scR
  by_cases h : pw < 0
  · rw [if_pos h, if_pos (by omega)]
  · rw [if_neg h]
    by_cases h0 : pw = 0
    · subst h0; simp
    · rw [if_neg (by omega), Int.neg_neg]
end Pm
namespace Go.Px.Seat
open Go Pm
set_option linter.unusedVariables false
variable {B : Run}
theorem len_zero_dig (x : Nat) : (len (dig x) == 0) = decide (x = 0) := by
  rw [len_zero_iff]
  by_cases h : x = 0
  · subst h; simp
  · rw [decide_eq_false h]; simpa using mt dig_eq_nil.1 h
theorem tr_make {w s : Int} {p q : Nat} (hw : wd w = true) (hq : q ≠ 0) (hs : s ≤ (lst w : Int)) (h1 : scQ p q s < 2 ^ (frw w + 1)) (h2 : s = (lst w : Int) ∨ 2 ^ frw w ≤ scQ p q s) (ex : Bool) (he : ex = decide (scR p q s = 0)) :
    let m : Nat := ((-s + lst w).toNat * 2 ^ frw w + scQ p q s)
    IsTr w (mkRat p q) (if (m : Int) < top w then (m : Int) else top w - 1) (if (m : Int) < top w then ex else false) := by
  intro m
  have hm : m = ((lst w : Int) - s).toNat * 2 ^ frw w + scQ p q s := by
    show (-s + lst w).toNat * 2 ^ frw w + scQ p q s = _
    rw [show -s + (lst w : Int) = (lst w : Int) - s by omega]
  by_cases h : (m : Int) < top w
  · rw [if_pos h, if_pos h, he]
    have := tr_in hq hs h1 h2 (by rw [← hm]; exact h)
    rw [← hm] at this
    simpa using this
  · rw [if_neg h, if_neg h]
    exact tr_out hw hq hs h1 h2 (by rw [← hm]; omega)
end Go.Px.Seat

/- The float below a number: the program's, found. Seat ZD. -/
namespace Go.Px.Seat
open Go Pm
set_option linter.unusedVariables false
variable {B : Run}
theorem ioru_eq {x y : Nat} (hx : x < 18446744073709551616) (hy : y < 18446744073709551616) : ior .u64 (x : Int) (y : Int) = ((x ||| y : Nat) : Int) := by
  have e1 : ∀ z : Nat, z < 18446744073709551616 → (BitVec.ofInt 64 (z : Int)).toNat = z := fun z hz => by
    simp; omega
  have h3 : x ||| y < 2 ^ 64 := Nat.or_lt_two_pow (by omega) (by omega)
  show IntKind.u64.wrap (((BitVec.ofInt 64 (x : Int) ||| BitVec.ofInt 64 (y : Int)).toNat : Nat) : Int) = _
  rw [BitVec.toNat_or, e1 x hx, e1 y hy]
  exact wrapu64 (by omega) (by omega)
theorem k_truncated : Ev fun n => ∀ (w : Int) (b : Bool) (p q : Nat), wd w = true → q ≠ 0 → (dig p).length ≤ 1024 → (dig q).length ≤ 1024 →
    ∃ m ex, c_i_truncated ((C B0).run n) w b (dig p) (dig q) = some (m, (ex, ())) ∧ IsTr w (mkRat p q) m ex := by
  refine ((k_fmt (B := B0)).and ((k_natBits (B := B0)).and ((k_natShl (B := B0)).and (k_natDiv.and (k_natShr.and k_Make))))).succ fun n hn ⟨hF, hB, hSl, hD, hSr, hMk⟩ w b p q hw hq l1 l2 => ?_
  rw [run_succ, e_i_truncated]
  unfold p_i_truncated
  have htp := top_pos hw
  have htn := top_nonneg w
  have hfl := frw_le w
  have hll : lst w ≤ 1074 := by unfold lst; split <;> omega
  have bp := bl_len p
  have bq := bl_len q
  rw [hF, fmt_of hw]
  simp only [Option.bind_some, len_zero_dig]
  by_cases hp : p = 0
  · subst hp
    exact ⟨0, true, rfl, tr_zero hw⟩
  rw [decide_eq_false hp, cond_false, hB _ (by omega)]
  simp only [Option.bind_some]
  rw [hB _ (by omega)]
  simp only [Option.bind_some]
  have x1 : iadd .i64 (frw w : Int) 1 = (frw w : Int) + 1 := iadd_eq (by omega) (by omega)
  have x2 : isub .i64 (bl p : Int) (bl q : Int) = (bl p : Int) - bl q := isub_eq (by omega) (by omega)
  have x3 : isub .i64 ((bl p : Int) - bl q) ((frw w : Int) + 1) = (bl p : Int) - bl q - (frw w + 1) := isub_eq (by omega) (by omega)
  rw [x1, x2, x3]
  obtain ⟨pw, hpw⟩ : ∃ pw : Int, pw = imax (-(lst w : Int)) ((bl p : Int) - bl q - (frw w + 1)) := ⟨_, rfl⟩
  have hpw' : pw = -(sz0 w p q) := by
    rw [hpw]; unfold imax sz0; omega
  rw [← hpw]
  have hs1 : sz0 w p q ≤ lst w := Int.min_le_right ..
  have hs2 : sz0 w p q ≤ (frw w : Int) + 1 - bl p + bl q := Int.min_le_left ..
  have hs3 : -16500 ≤ sz0 w p q := by unfold sz0; omega
  have hs4 : sz0 w p q = lst w ∨ 2 ^ frw w ≤ scQ p q (sz0 w p q) := by
    by_cases h : sz0 w p q = lst w
    · exact .inl h
    · exact .inr (scQ_ge hp hq (by unfold sz0 at h ⊢; omega))
  have hQ := scQ_neg p q pw
  have hR := scR_neg p q pw
  have hsn : -pw = sz0 w p q := by omega
  rw [hsn] at hQ hR
  generalize sz0 w p q = s0 at *
  refine jb_goal (fun o => ∃ m ex, o = some (m, (ex, ())) ∧ IsTr w (mkRat p q) m ex) (fun st => ∃ t u : Nat, u ≠ 0 ∧ (dig t).length ≤ 4096 ∧ (dig u).length ≤ 4096 ∧ t / u = scQ p q s0 ∧ t % u = scR p q s0 ∧
      st = ((dig t, (dig u, ((frw w : Int) + 1, (pw, (w, ((), (0, (false, ())))))))), (((frw w : Int), (-(lst w : Int), ((fmt w).2.2.1, (top w, ())))), ()))) ?_ ?_
  · rw [ilt_iff]
    by_cases h : pw < 0
    · obtain ⟨k, hk⟩ : ∃ k : Nat, pw = -(k : Int) := ⟨(-pw).toNat, by omega⟩
      have hkl := dig_len_pow k
      have := len_dig_mul p (2 ^ k)
      rw [decide_eq_true h, cond_true, ineg_eq (by omega) (by omega), hk, Int.neg_neg, hSl _ _ (by omega) (by omega)]
      rw [if_pos h, show s0.toNat = k by omega] at hQ hR
      exact ⟨_, rfl, p * 2 ^ k, q, hq, by omega, by omega, hQ.symm, hR.symm, rfl⟩
    · obtain ⟨k, hk⟩ : ∃ k : Nat, pw = (k : Int) := ⟨pw.toNat, by omega⟩
      have hkl := dig_len_pow k
      have := len_dig_mul q (2 ^ k)
      rw [decide_eq_false h, cond_false, hk, hSl _ _ (by omega) (by omega)]
      rw [if_neg h, hk, Int.toNat_natCast] at hQ hR
      exact ⟨_, rfl, p, q * 2 ^ k, Nat.mul_ne_zero hq (pow2_ne k), by omega, by omega, hQ.symm, hR.symm, rfl⟩
  rintro _ ⟨t, u, hu, ht1, hu1, htu, htr, rfl⟩
  simp only
  rw [hD _ _ (by omega) (by omega) hu, htu, htr]
  simp only [Option.bind_some]
  have g1 : scQ p q s0 < 2 ^ (frw w + 2) := scQ_lt hq (by omega)
  have g3 : 2 ^ (frw w + 2) ≤ 2 ^ 54 := Nat.pow_le_pow_right (by decide) (by omega)
  simp only [Nat.reducePow] at g3
  have g5 : (dig (scQ p q s0)).length ≤ 4 := dig_len_le.2 (by omega)
  refine jb_goal (fun o => ∃ m ex, o = some (m, (ex, ())) ∧ IsTr w (mkRat p q) m ex) (fun st => ∃ s : Int, s ≤ lst w ∧ -16600 ≤ s ∧ scQ p q s < 2 ^ (frw w + 1) ∧ (s = lst w ∨ 2 ^ frw w ≤ scQ p q s) ∧
      st = ((dig (scQ p q s), (w, (-s, ((), (decide (scR p q s = 0), (0, (false, ()))))))), (((frw w : Int), (-(lst w : Int), ((fmt w).2.2.1, (top w, ())))), ()))) ?_ ?_
  · rw [hB _ (by omega)]
    simp only [Option.bind_some, ilt_iff, len_zero_dig]
    by_cases h : (frw w : Int) + 1 < (bl (scQ p q s0) : Int)
    · have h8 : ¬ scQ p q s0 < 2 ^ (frw w + 1) := fun hh => by have := bl_le.2 hh; omega
      have hQ0 : scQ p q s0 ≠ 0 := fun h0 => h8 (by rw [h0]; exact Nat.pow_pos (by decide))
      have hlen := dig_len_pos hQ0
      rw [decide_eq_true h, cond_true]
      refine ⟨_, ?_, s0 - 1, by omega, by omega, scQ_lt hq (by omega), .inr ?_, rfl⟩
      rotate_left
      · rw [scQ_half]
        rw [Nat.pow_succ] at h8
        omega
      refine (jb_of (p := ((dig (scQ p q s0), (pw, (w, ((), (decide (scR p q (s0 - 1) = 0), (0, (false, ()))))))), (((frw w : Int), (-(lst w : Int), ((fmt w).2.2.1, (top w, ())))), ()))) ?_ _).trans ?_
      · have hhalf := scR_half (p := p) hq s0
        by_cases hr0 : scR p q s0 = 0
        · rw [decide_eq_true hr0, cond_true, ok_of (inB_true (by omega) (by rw [len_eq]; omega))]
          have e1 : List.getD (dig (scQ p q s0)) (Int.toNat 0) 0 = ((scQ p q s0 % 65536 : Nat) : Int) := by
            show at_ _ 0 = _
            rw [dig_at]; simp
          have e2 : iand .i64 ((scQ p q s0 % 65536 : Nat) : Int) 1 = ((scQ p q s0 % 65536 : Nat) : Int) % 2 := iand_mask (k := 1) (by omega) (by omega) (by omega)
          rw [e1, e2]
          have e3 : ((((scQ p q s0 % 65536 : Nat) : Int) % 2 == 0) : Bool) = decide (scR p q (s0 - 1) = 0) := by
            rw [show ((((scQ p q s0 % 65536 : Nat) : Int) % 2 == 0) : Bool) = decide (((scQ p q s0 % 65536 : Nat) : Int) % 2 = 0) from rfl]
            refine decide_eq_decide.2 ?_
            rw [hhalf]
            constructor
            · intro h; exact ⟨hr0, by omega⟩
            · intro h; have := h.2; omega
          rw [e3]
        · rw [decide_eq_false hr0, cond_false, decide_eq_false (fun h => hr0 (hhalf.1 h).1)]
      · simp only
        have hshr := hSr (scQ p q s0) 1 (by omega) (by omega) (by omega)
        have e1 : (-((1 : Nat) : Int)) = -1 := rfl
        rw [e1, Nat.pow_one, ← scQ_half] at hshr
        rw [hshr]
        simp only [Option.bind_some]
        rw [iadd_eq (by omega) (by omega), show pw + 1 = -(s0 - 1) by omega]
    · rw [decide_eq_false h, cond_false]
      exact ⟨_, rfl, s0, hs1, by omega, bl_le.1 (by omega), hs4, by rw [hpw']⟩
  rintro _ ⟨s, k1, k2, k3, k4, rfl⟩
  simp only
  have hU2 : 2 ^ (frw w + 1) ≤ 2 ^ 53 := Nat.pow_le_pow_right (by decide) (by omega)
  simp only [Nat.reducePow] at hU2
  have hlen : (dig (scQ p q s)).length ≤ 4 := dig_len_le.2 (by omega)
  have hmk := hMk w (-s) (scQ p q s) hw k3 (by omega) (k4.imp (fun h => by omega) id) (by omega)
  have hfin := tr_make hw hq k1 k3 k4 (decide (scR p q s = 0)) rfl
  generalize scQ p q s = Q at *
  generalize decide (scR p q s = 0) = ex at *
  refine iter_goal (fun o => ∃ m ex, o = some (m, (ex, ())) ∧ IsTr w (mkRat p q) m ex) (fun st => ∃ i : Nat, i ≤ (dig Q).length ∧ st = (((i : Int), (((dig Q).length : Int), (dig Q, (((Q % 65536 ^ i : Nat) : Int), (w, (-s, ((), (ex, (0, (false, ())))))))))), (((frw w : Int), (-(lst w : Int), ((fmt w).2.2.1, (top w, ())))), ())))
    (fun st => (dig Q).length - st.1.1.toNat) (fun r : Int × (Bool × Unit) => ∃ m ex, r = (m, (ex, ())) ∧ IsTr w (mkRat p q) m ex) ?_ (by simp only; omega) ⟨0, by omega, by rw [Nat.pow_zero, Nat.mod_one]; rfl⟩ ?_
  rotate_left
  · rintro r ⟨m, re, rfl, h⟩
    exact ⟨m, re, rfl, h⟩
  rintro rec _ ⟨i, hi, rfl⟩ ih
  simp only [ilt_iff, len_eq]
  by_cases h : i < (dig Q).length
  · have hp16 : (65536 : Nat) ^ i = 2 ^ (16 * i) := pow_base i
    have hi3 : i ≤ 3 := by omega
    have hd : Q / 65536 ^ i % 65536 < 65536 := Nat.mod_lt _ (by decide)
    have hp48 : (65536 : Nat) ^ i ≤ 65536 ^ 3 := Nat.pow_le_pow_right (by decide) hi3
    rw [decide_eq_true (show (i : Int) < ((dig Q).length : Int) by omega), cond_true, ok_of (inB_true (by omega) (by omega)), imul_eq (by omega) (by omega), show ile 0 (16 * (i : Int)) = true by simp; omega, ok_true, Int.toNat_natCast, getD_at, dig_at, wrapu64 (by omega) (by omega)]
    have e0 : (16 * (i : Int)) = ((16 * i : Nat) : Int) := by omega
    have hm48 : Q / 65536 ^ i % 65536 * 65536 ^ i ≤ 65535 * 65536 ^ 3 := Nat.mul_le_mul (by omega) hp48
    rw [e0, ishlu_eq (by omega) (by rw [← hp16]; omega), ← hp16, ioru_eq (by have := Nat.mod_le Q (65536 ^ i); omega) (by omega), iadd_eq (by omega) (by omega)]
    refine ih _ ⟨i + 1, by omega, ?_⟩ (by simp only; omega)
    have h9 := Nat.two_pow_add_eq_or_of_lt (show Q % 65536 ^ i < 2 ^ (16 * i) by rw [← hp16]; exact Nat.mod_lt _ (Nat.pow_pos (by decide))) (Q / 65536 ^ i % 65536)
    rw [← hp16, Nat.mul_comm] at h9
    rw [Nat.or_comm, ← h9, mod_succ, Nat.add_comm (Q % 65536 ^ i)]
    rfl
  · have hie : i = (dig Q).length := by omega
    subst hie
    rw [decide_eq_false (by omega), cond_false, Nat.mod_eq_of_lt (dig_lt_pow Q), hmk]
    simp only [Option.bind_some]
    by_cases hm : (((-s + lst w).toNat * 2 ^ frw w + Q : Nat) : Int) < top w
    · simp only [if_pos hm] at hfin
      rw [if_pos hm]
      exact ⟨_, rfl, _, _, rfl, hfin⟩
    · simp only [if_neg hm] at hfin
      rw [if_neg hm]
      simp only [Bool.not_false, cond_true]
      rw [isub_eq (by omega) (by omega)]
      exact ⟨_, rfl, _, _, rfl, hfin⟩
end Go.Px.Seat

/- Floats next to a number, limits: the program's. Seat ZD. -/
namespace Go.Px.Seat
open Go Pm
set_option linter.unusedVariables false
variable {B : Run}
theorem k_around : Ev fun n => ∀ (w : Int) (r : Rat), wd w = true → short 1024 r → ∃ d u, c_i_around ((C B0).run n) w (fb r) (ft r) (fq r) = some (d, (u, ())) ∧ IsDn w r d ∧ IsDn w (-r) (-u) := by
  refine k_truncated.succ fun n hn hT w r hw hr => ?_
  rw [run_succ, e_i_around]
  unfold p_i_around
  obtain ⟨r1, r2⟩ := hr
  simp only [ft, fq] at r1 r2 ⊢
  obtain ⟨m, ex, h1, h2⟩ := hT w (fb r) r.num.natAbs r.den hw r.den_nz (by omega) (by omega)
  rw [h1]
  simp only [Option.bind_some]
  have htn := top_nonneg w
  have hm := h2.1
  have hm2 := h2.2.1
  have e1 : iadd .i64 m 1 = m + 1 := iadd_eq (by omega) (by omega)
  have e2 : ineg .i64 m = -m := ineg_eq (by omega) (by omega)
  have e3 : ineg .i64 (m + 1) = -(m + 1) := ineg_eq (by omega) (by omega)
  have hd := dn_pos hw h2
  have hn' := dn_neg (r := -mkRat (r.num.natAbs : Int) r.den) hw (by rw [Rat.neg_neg]; exact h2)
  have hself := mk_self r
  cases hb : fb r
  · rw [hb] at hself
    have hr' : mkRat (r.num.natAbs : Int) r.den = r := hself
    rw [hr'] at hd hn'
    cases ex <;> simp only [Bool.not_true, Bool.not_false, cond_true, cond_false, jb_inr, e1]
    · exact ⟨_, _, rfl, hd, by simpa using hn'⟩
    · exact ⟨_, _, rfl, hd, by simpa using hn'⟩
  · rw [hb, mk_negate] at hself
    have hr' : -mkRat (r.num.natAbs : Int) r.den = r := hself
    have hr2 := congrArg Neg.neg hr'
    rw [Rat.neg_neg] at hr2
    rw [hr2] at hd
    rw [hr'] at hn'
    cases ex <;> simp only [Bool.not_true, Bool.not_false, cond_true, cond_false, jb_inr, e1, e2, e3]
    · exact ⟨_, _, rfl, by simpa using hn', by simpa using hd⟩
    · exact ⟨_, _, rfl, by simpa using hn', by simpa using hd⟩
theorem k_limitOf : Ev fun n => ∀ w o : Int, fin w o → c_i_limitOf ((C B0).run n) w o = some (0, outF (fv w o)) := by
  refine ((k_BitTop (B := B0)).and k_value).succ fun n hn ⟨hT, hV⟩ w o hf => ?_
  rw [run_succ, e_i_limitOf]
  unfold p_i_limitOf
  have htn := top_nonneg w
  obtain ⟨h1, h2, h3⟩ := hf
  rw [hT]
  simp only [Option.bind_some, ineg_top]
  rw [beq_f (by omega), cond_false, beq_f (by omega), cond_false, hV w o ⟨h1, h2, h3⟩]
  rfl
theorem k_floats : Ev fun n => ∀ (w : Int) (r : Rat), wd w = true → short 1024 r → ∃ d u, c_i_limit_floats ((C B0).run n) 0 (fb r) (ft r) (fq r) w = some (d, (u, ())) ∧ IsDn w r d ∧ IsDn w (-r) (-u) := by
  refine k_around.succ fun n hn hA w r hw hr => ?_
  rw [run_succ, e_i_limit_floats]
  unfold p_i_limit_floats
  obtain ⟨d, u, h1, h2, h3⟩ := hA w r hw hr
  rw [show ((0 : Int) != 0) = false from rfl, cond_false, h1]
  exact ⟨d, u, rfl, h2, h3⟩
end Go.Px.Seat

/- Sums of spans: the program's. Seat ZD. -/
namespace Pm
open Go.Px.Seat
theorem lst_le (w : Int) : lst w ≤ 1074 := by unfold lst; split <;> omega
theorem fits_fv {w o : Int} (h : fin w o) : fits (fv w o) := by
  have hl := lst_le w
  have h1 : (fI w o).natAbs < 65536 ^ 256 := Nat.lt_of_lt_of_le (fI_lt2 h) (Nat.le_of_lt (two_lt (by decide)))
  exact fits_mkI (pow2_ne _) h1 (two_lt (by omega))
theorem mk_short {a : Int} {q k : Nat} (hq : q ≠ 0) (h1 : (dig a.natAbs).length ≤ k) (h2 : (dig q).length ≤ k) : short k (mkRat a q) := by
  have e : a = sg (decide (a < 0)) a.natAbs := by
    by_cases h : a < 0
    · rw [decide_eq_true h]; simp only [sg, if_true]; omega
    · rw [decide_eq_false h]; simp only [sg, Bool.false_eq_true, if_false]; omega
  unfold short
  rw [e, mk_rt hq, mk_rd hq]
  exact ⟨Nat.le_trans (dig_len_mono (Nat.div_le_self ..)) h1, Nat.le_trans (dig_len_mono (Nat.div_le_self ..)) h2⟩
end Pm
namespace Go.Px.Seat
open Go Pm
set_option linter.unusedVariables false
variable {B : Run}
theorem short_mono {k l : Nat} {r : Rat} (h : short k r) (hk : k ≤ l) : short l r := ⟨Nat.le_trans h.1 hk, Nat.le_trans h.2 hk⟩
end Go.Px.Seat

/- Differences and products of spans: the program's. Seat ZD. -/
namespace Pm
open Go.Px.Seat
theorem pok_neg {w a b : Int} (h : pok w a b = true) : pok w (-b) (-a) = true := by
  obtain ⟨h1, h2, h3, h4, h5, h6⟩ := pok_iff.1 h
  exact pok_iff.2 ⟨h1, by omega, by omega, by omega, by omega, by omega⟩
theorem short_mulf {w x y : Int} (hx : fin w x) (hy : fin w y) : short 1024 (fv w x * fv w y) := by
  rw [fv, fv, Rat.mkRat_mul_mkRat]
  have l1 : (dig (fI w x).natAbs).length ≤ 256 := dig_len_le.2 (Nat.lt_of_lt_of_le (fI_lt2 hx) (Nat.le_of_lt (two_lt (by decide))))
  have l2 : (dig (fI w y).natAbs).length ≤ 256 := dig_len_le.2 (Nat.lt_of_lt_of_le (fI_lt2 hy) (Nat.le_of_lt (two_lt (by decide))))
  have l3 : (dig (2 ^ lst w)).length ≤ 256 := by
    have := lst_le w
    exact Nat.le_trans (dig_len_pow _) (by omega)
  have m1 := len_dig_mul (fI w x).natAbs (fI w y).natAbs
  have m2 := len_dig_mul (2 ^ lst w) (2 ^ lst w)
  refine mk_short (Nat.mul_ne_zero (pow2_ne _) (pow2_ne _)) ?_ (by omega)
  rw [Int.natAbs_mul]
  omega
end Pm
namespace Go.Px.Seat
open Go Pm
set_option linter.unusedVariables false
variable {B : Run}
end Go.Px.Seat
