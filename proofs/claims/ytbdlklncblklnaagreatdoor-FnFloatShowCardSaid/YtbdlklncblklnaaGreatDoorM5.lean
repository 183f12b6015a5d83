/- Own texts, part M5: PmYa PmYb PmYc PmV PmW PmX PmYd PmZ PmZa PmZb PmZc PmZd PqD PqE PqF PqG PnA PnB PmZe PnC PnD PnE PnF PnG PnH PnI PnM PnN PnK PnO PnQ PmZf PmZg PmZh PnJ PmZi. -/
import Derived.Test.YtbdlklncblklnaaGreatDoorM4
import Derived.Test.YtbdlklncblklnaaGreatDoorM3
import Derived.KernelRfl
set_option linter.unusedVariables false

/- Numbers: the program's functions, part 5: sum. Seat ZD. -/
namespace Go.Px.Seat
open Go Pm
set_option linter.unusedVariables false
variable {B : Run}
theorem k_natAdd : Ev fun n => ∀ x y : Nat, (dig x).length ≤ 1073741824 → (dig y).length ≤ 1073741824 → c_i_natAdd ((C B).run n) (dig x) (dig y) = some (dig (x + y), ()) := by
  refine (k_trim (B := B)).succ fun n hn hTrim x y hx hy => ?_
  rw [run_succ, e_i_natAdd]
  unfold p_i_natAdd
  simp only [len_eq]
  have hm : imax ((dig x).length : Int) ((dig y).length : Int) = ((max (dig x).length (dig y).length : Nat) : Int) := by
    unfold imax; omega
  rw [hm]
  obtain ⟨M, hM⟩ : ∃ M, M = max (dig x).length (dig y).length := ⟨_, rfl⟩
  have hMx : (dig x).length ≤ M := by omega
  have hMy : (dig y).length ≤ M := by omega
  rw [← hM, iadd_eq (by omega) (by omega), ok_of (mkOk_true (by omega) (by omega) (by omega)), show ((M : Int) + 1).toNat = M + 1 by omega]
  have hl0 : (copied (List.replicate (M + 1) 0) (dig x)).length = M + 1 := by rw [copied_len', List.length_replicate]
  have hv0 : val (copied (List.replicate (M + 1) 0) (dig x)) = x := by rw [val_copied _ _ (by omega), val_dig]
  have ha0 : ∀ j, at_ (copied (List.replicate (M + 1) 0) (dig x)) j = at_ (dig x) j := fun j => by
    rw [at_copied _ _ _ (by rw [List.length_replicate]; omega), at_replicate]
    split
    · rfl
    · rw [at_out (by omega)]
  refine iter_const (fun p => ∃ (i : Nat) (o : List Int), p = (((i : Int), (((dig y).length : Int), (dig y, ((), ((), ()))))), (o, ())) ∧ i ≤ (dig y).length ∧ o.length = M + 1 ∧ val o = ((x + y % 65536 ^ i : Nat) : Int) ∧
      (∀ j, 0 ≤ at_ o j ∧ at_ o j ≤ 131070) ∧ (∀ j, i ≤ j → at_ o j < 65536) ∧ at_ o M = 0) (fun p => (dig y).length - p.1.1.toNat) _ ?_ n _ (by simp only; omega)
      ⟨0, _, rfl, by omega, hl0, by rw [hv0]; simp [Nat.mod_one], fun j => ?_, fun j _ => ?_, ?_⟩
  rotate_left
  · rw [ha0]; have := at_range (dig_Dg x) j; omega
  · rw [ha0]; exact (at_range (dig_Dg x) j).2
  · rw [ha0, at_out (by omega)]
  rintro rec _ ⟨i, o, rfl, hi, hlo, hvo, hro, hso, hto⟩ ih
  simp only [ilt_iff, len_eq]
  by_cases h : i < (dig y).length
  · rw [decide_eq_true (show (i : Int) < ((dig y).length : Int) by omega), cond_true, ok_of (inB_true (by omega) (by omega)), ok_of (inB_true (by omega) (by omega)), ok_of (inB_true (by omega) (by omega)), Int.toNat_natCast, getD_at, getD_at, dig_at]
    have hai := hso i (Nat.le_refl _)
    have hai0 := (hro i).1
    rw [iadd_eq (x := (i : Int)) (by omega) (by omega), iadd_eq (by omega) (by omega)]
    have hil : i < o.length := by omega
    refine ih _ ⟨i + 1, _, rfl, by omega, by rw [List.length_set]; exact hlo, ?_, fun j => ?_, fun j hj => ?_, ?_⟩ (by simp only; omega)
    · rw [val_set _ _ _ hil, hvo, mod_succ]
      rw [show at_ o i + ((y / 65536 ^ i % 65536 : Nat) : Int) - at_ o i = ((y / 65536 ^ i % 65536 : Nat) : Int) by omega, ← Int.natCast_mul, ← Int.natCast_add, Nat.add_assoc]
    · rw [at_set _ _ _ _ hil]
      split
      · omega
      · exact hro j
    · rw [at_set _ _ _ _ hil, if_neg (by omega)]
      exact hso j (by omega)
    · rw [at_set _ _ _ _ hil, if_neg (by omega)]
      exact hto
  · have hie : i = (dig y).length := by omega
    subst hie
    rw [decide_eq_false (by omega), cond_false, hlo]
    rw [isub_eq (by omega) (by omega), show ((M + 1 : Nat) : Int) - 1 = (M : Int) by omega]
    rw [Nat.mod_eq_of_lt (dig_lt_pow y)] at hvo
    refine iter_const (fun p => ∃ (i : Nat) (o : List Int), p = (((i : Int), ((M : Int), ((), ((), ())))), (o, ())) ∧ i ≤ M ∧ o.length = M + 1 ∧ val o = ((x + y : Nat) : Int) ∧
      (∀ j, 0 ≤ at_ o j ∧ at_ o j ≤ 131072) ∧ (∀ j, j < i → at_ o j < 65536) ∧ (∀ j, i < j → at_ o j ≤ 131070) ∧ (i < M → at_ o M = 0) ∧ at_ o M ≤ 2) (fun p => M - p.1.1.toNat) _ ?_ n _ (by simp only; omega)
      ⟨0, o, rfl, by omega, hlo, hvo, fun j => ⟨(hro j).1, by have := (hro j).2; omega⟩, fun j hj => absurd hj (Nat.not_lt_zero _), fun j _ => (hro j).2, fun _ => hto, by omega⟩
    rintro rec _ ⟨i, o, rfl, hi, hlo, hvo, hro, hlow, hhigh, htop, htop2⟩ ih
    simp only [ilt_iff, len_eq]
    by_cases h : i < M
    · rw [decide_eq_true (show (i : Int) < (M : Int) by omega), cond_true, iadd_eq (by omega) (by omega), ok_of (inB_true (by omega) (by omega)), ok_of (inB_true (by omega) (by omega)), ok_of (inB_true (by omega) (by omega))]
      rw [List.length_set, ok_of (inB_true (by omega) (by omega)), ok_of (inB_true (by omega) (by omega)), show ((i : Int) + 1).toNat = i + 1 by omega, Int.toNat_natCast, getD_at, getD_at, getD_at]
      have ai := hro i
      have ai1 := hro (i + 1)
      have h16 : ishr .i64 (at_ o i) 16 = at_ o i / 65536 := ishr_eq (k := 16) (by omega)
      have hil : i < o.length := by omega
      have hil1 : i + 1 < o.length := by omega
      have hq : at_ o i / 65536 ≤ 2 := by omega
      have hq0 : 0 ≤ at_ o i / 65536 := by omega
      have hhi := hhigh (i + 1) (by omega)
      rw [h16, iadd_eq (by omega) (by omega), at_set _ _ _ _ hil1, if_neg (by omega), iand_base (by omega) (by omega)]
      have hl2 : (o.set (i + 1) (at_ o (i + 1) + at_ o i / 65536)).length = M + 1 := by rw [List.length_set]; exact hlo
      have hat : ∀ j, at_ ((o.set (i + 1) (at_ o (i + 1) + at_ o i / 65536)).set i (at_ o i % 65536)) j = if i = j then at_ o i % 65536 else if i + 1 = j then at_ o (i + 1) + at_ o i / 65536 else at_ o j := fun j => by
        rw [at_set _ _ _ _ (by omega), at_set _ _ _ _ hil1]
      refine ih _ ⟨i + 1, _, by rfl, by omega, by rw [List.length_set]; exact hl2, ?_, fun j => ?_, fun j hj => ?_, fun j hj => ?_, fun hiM => ?_, ?_⟩ (by simp only; omega)
      · rw [val_set _ _ _ (by omega), val_set _ _ _ hil1, hvo, at_set _ _ _ _ hil1, if_neg (by omega)]
        have e := Int.emod_add_mul_ediv (at_ o i) 65536
        generalize at_ o i / 65536 = q at *
        generalize at_ o i % 65536 = r at *
        have : ((65536 ^ (i + 1) : Nat) : Int) = 65536 * ((65536 ^ i : Nat) : Int) := by rw [Nat.pow_succ, Int.natCast_mul, Int.mul_comm]; rfl
        rw [this, show at_ o (i + 1) + q - at_ o (i + 1) = q by omega, show r - at_ o i = -(65536 * q) by omega, Int.neg_mul, Int.mul_assoc, Int.mul_left_comm q]
        omega
      · rw [hat]
        split
        · have := Int.emod_lt_of_pos (at_ o i) (show (0 : Int) < 65536 by omega)
          have := Int.emod_nonneg (at_ o i) (show (65536 : Int) ≠ 0 by omega)
          omega
        · split
          · omega
          · exact hro j
      · rw [hat]
        split
        · exact Int.emod_lt_of_pos _ (by omega)
        · rw [if_neg (by omega)]
          exact hlow j (by omega)
      · rw [hat, if_neg (by omega), if_neg (by omega)]
        exact hhigh j (by omega)
      · rw [hat, if_neg (by omega), if_neg (by omega)]
        exact htop h
      · rw [hat, if_neg (by omega)]
        split
        · rename_i hj
          subst hj
          rw [htop h]
          omega
        · exact htop2
    · have hie : i = M := by omega
      subst hie
      rw [decide_eq_false (by omega), cond_false, hTrim _ (by omega)]
      simp only [Option.bind_some]
      have hDg : Dg o := fun d hd => by
        obtain ⟨j, hj, rfl⟩ := List.getElem_of_mem hd
        have e : o[j] = at_ o j := by simp [at_, List.getD_eq_getElem?_getD, hj]
        rw [e]
        refine ⟨(hro j).1, ?_⟩
        by_cases hji : j < i
        · exact hlow j hji
        · have : j = i := by omega
          subst this
          omega
      rw [strip_dig hDg, hvo, Int.toNat_natCast]
end Go.Px.Seat

/- Numbers: the program's functions, part 6: difference; fractions. Seat ZD. -/
namespace Go.Px.Seat
open Go Pm
set_option linter.unusedVariables false
variable {B : Run}
end Go.Px.Seat

/- Fractions: the program's functions. Seat ZD. -/
namespace Go.Px.Seat
open Go Pm
set_option linter.unusedVariables false
variable {B : Run}
/-- a fraction as it is handed over -/
def outF (r : Rat) : Bool × (List Int × (List Int × Unit)) := (fb r, (ft r, (fq r, ())))
theorem one_dig : [(1 : Int)] = dig 1 := (dig_of_lt (d := 1) (by omega) (by omega)).symm
theorem mk_fb {b : Bool} {p q : Nat} (hq : q ≠ 0) : fb (mkRat (sg b p) q) = (b && decide (p ≠ 0)) := by
  by_cases hp : p = 0
  · subst hp
    rw [sg_zero, Rat.zero_mkRat]
    cases b <;> rfl
  · rw [mk_rb hp hq]
    simp [hp]
theorem k_lowest : Ev fun n => ∀ (b : Bool) (p q : Nat), q ≠ 0 → (dig p).length ≤ 134217728 → (dig q).length ≤ 134217728 → c_i_lowest ((C B0).run n) b (dig p) (dig q) = some (outF (mkRat (sg b p) q)) := by
  refine (k_natGcd.and ((k_natCmp (B := B0)).and k_natDiv)).succ fun n hn ⟨hG, hC, hD⟩ b p q hq hp1 hq1 => ?_
  rw [run_succ, e_i_lowest]
  unfold p_i_lowest
  rw [hG _ _ (by omega) (by omega)]
  simp only [Option.bind_some]
  have hg0 : Nat.gcd p q ≠ 0 := fun h => hq (Nat.eq_zero_of_gcd_eq_zero_right h)
  have hgl : (dig (Nat.gcd p q)).length ≤ (dig q).length := dig_len_mono (Nat.gcd_le_right p (Nat.pos_of_ne_zero hq))
  rw [one_dig, hC _ _ (by omega) (by rw [← one_dig]; simp)]
  simp only [Option.bind_some]
  refine (jb_of (p := ((b, (dig (p / Nat.gcd p q), (dig (q / Nat.gcd p q), ((), ())))), ((false, ((), ((), ()))), ()))) ?_ _).trans ?_
  · by_cases h1 : Nat.gcd p q = 1
    · rw [h1, Nat.div_one, Nat.div_one]
      simp [cmp3]
    · have : cmp3 (Nat.gcd p q) 1 ≠ 0 := by
        unfold cmp3
        split
        · omega
        · split
          · omega
          · omega
      rw [show (cmp3 (Nat.gcd p q) 1 != 0) = true by simpa using this, cond_true, hD _ _ (by omega) (by omega) hg0]
      simp only [Option.bind_some]
      rw [hD _ _ (by omega) (by omega) hg0]
      simp only [Option.bind_some]
  · simp only
    have hlt : ilt 0 (len (dig (p / Nat.gcd p q))) = decide (p ≠ 0) := by
      rw [len_eq, ilt_iff]
      refine decide_eq_decide.2 ⟨fun h h' => ?_, fun h => ?_⟩
      · subst h'; simp at h
      · have := dig_len_pos (div_gcd_ne (q := q) h)
        omega
    rw [hlt]
    unfold outF
    rw [mk_fb hq, mk_rt hq, mk_rd hq]
    cases b <;> rfl
theorem k_whole : Ev fun n => ∀ (b : Bool) (p : Nat), c_i_whole ((C B).run n) b (dig p) = some (outF (mkRat (sg b p) 1)) := by
  refine Ev.triv.succ fun n hn _ b p => ?_
  rw [run_succ, e_i_whole]
  unfold p_i_whole
  have hlt : ilt 0 (len (dig p)) = decide (p ≠ 0) := by
    rw [len_eq, ilt_iff]
    refine decide_eq_decide.2 ⟨fun h h' => ?_, fun h => ?_⟩
    · subst h'; simp at h
    · have := dig_len_pos h
      omega
  rw [hlt]
  unfold outF
  rw [mk_fb (by omega), mk_rt (by omega), mk_rd (by omega), Nat.gcd_one_right, Nat.div_one, ← one_dig]
  cases b <;> rfl
/-- how long a fraction's parts are -/
def short (k : Nat) (r : Rat) : Prop := (ft r).length ≤ k ∧ (fq r).length ≤ k
end Go.Px.Seat

/- The float below a number: what it is, and how it is found. No program here. -/
namespace Pm
open Go.Px.Seat
/-- m is the greatest float from 0 on that is not above r; ex: it is r -/
def IsTr (w : Int) (r : Rat) (m : Int) (ex : Bool) : Prop := 0 ≤ m ∧ m < top w ∧ fv w m ≤ r ∧ (m = top w - 1 ∨ r < fv w (m + 1)) ∧ (ex = true ↔ fv w m = r)
theorem IsTr.unique {w : Int} {r : Rat} {m m' : Int} {ex ex' : Bool} (h : IsTr w r m ex) (h' : IsTr w r m' ex') : m = m' ∧ ex = ex' := by
  have half : ∀ {m m' : Int} {ex ex' : Bool}, IsTr w r m ex → IsTr w r m' ex' → m ≤ m' := by
    intro m m' ex ex' h h'
    obtain ⟨a1, a2, a3, a4, a5⟩ := h
    obtain ⟨b1, b2, b3, b4, b5⟩ := h'
    rcases b4 with b4 | b4
    · omega
    · have h1 : ¬ fv w (m' + 1) ≤ fv w m := fun h => Rat.not_le.2 b4 (Rat.le_trans h a3)
      rw [fv_le] at h1
      omega
  have e : m = m' := by
    have := half h h'
    have := half h' h
    omega
  subst e
  refine ⟨rfl, ?_⟩
  have h1 := h.2.2.2.2
  have h2 := h'.2.2.2.2
  cases ex <;> cases ex' <;> simp_all
end Pm

/- The reference's floats next to a number. -/
namespace Pm
open Go.Px.Seat
end Pm
namespace Go.Px.Seat
open Go Pm
set_option linter.unusedVariables false
variable {B : Run}
end Go.Px.Seat

/- Rounding: the reference's. Seat ZD. -/
namespace Pm
open Go.Px.Seat
/-- n is the greatest float that is not above r, or the one below all -/
def IsDn (w : Int) (r : Rat) (n : Int) : Prop := -top w ≤ n ∧ n < top w ∧ (n = -top w ∨ fv w n ≤ r) ∧ (n = top w - 1 ∨ r < fv w (n + 1))
theorem IsDn.mono {w : Int} {r s : Rat} {n m : Int} (h : IsDn w r n) (h' : IsDn w s m) (hrs : r ≤ s) : n ≤ m := by
  obtain ⟨a1, a2, a3, a4⟩ := h
  obtain ⟨b1, b2, b3, b4⟩ := h'
  by_cases hnm : n ≤ m
  · exact hnm
  · exfalso
    have h1 := b4.resolve_left (by omega)
    have h2 := a3.resolve_left (by omega)
    have h3 : fv w (m + 1) ≤ fv w n := fv_le.2 (by omega)
    exact Rat.not_le.2 h1 (Rat.le_trans h3 (Rat.le_trans h2 hrs))
theorem IsDn.unique {w : Int} {r : Rat} {n m : Int} (h : IsDn w r n) (h' : IsDn w r m) : n = m := by
  have := h.mono h' Rat.le_refl
  have := h'.mono h Rat.le_refl
  omega
end Pm
namespace Go.Px.Seat
open Go Pm
set_option linter.unusedVariables false
variable {B : Run}
end Go.Px.Seat

/- Values of floats: the program's. Seat ZD. -/
namespace Pm
open Go.Px.Seat
theorem fv_big {w o : Int} {k : Nat} (h : shf w o = lst w + k) : fv w o = mkRat (sg (decide (o < 0)) (sz w o * 2 ^ k)) 1 := by
  rw [fv, fI_sg, h, Nat.pow_add, Nat.mul_left_comm]
  have h2 : sg (decide (o < 0)) (2 ^ lst w * (sz w o * 2 ^ k)) = ((2 ^ lst w : Nat) : Int) * sg (decide (o < 0)) (sz w o * 2 ^ k) := by
    cases decide (o < 0)
    · simp only [sg, Bool.false_eq_true, if_false]; rw [Int.natCast_mul]
    · simp only [sg, if_true]; rw [Int.natCast_mul, Int.mul_neg]
  rw [h2, ← Rat.mkRat_mul_left (n := sg (decide (o < 0)) (sz w o * 2 ^ k)) (d := 1) (pow2_ne (lst w)), Nat.mul_one]
theorem fv_small {w o : Int} {k : Nat} (h : lst w = shf w o + k) : fv w o = mkRat (sg (decide (o < 0)) (sz w o)) (2 ^ k) := by
  rw [fv, fI_sg, h]
  have h2 : sg (decide (o < 0)) (sz w o * 2 ^ shf w o) = sg (decide (o < 0)) (sz w o) * ((2 ^ shf w o : Nat) : Int) := by
    cases decide (o < 0)
    · simp only [sg, Bool.false_eq_true, if_false]; rw [Int.natCast_mul]
    · simp only [sg, if_true]; rw [Int.natCast_mul, Int.neg_mul]
  rw [h2, Nat.pow_add, Nat.mul_comm (2 ^ shf w o), Rat.mkRat_mul_right (pow2_ne _)]
end Pm
namespace Go.Px.Seat
open Go Pm
set_option linter.unusedVariables false
variable {B : Run}
theorem fmt_of {w : Int} (h : wd w = true) : fmt w = ((frw w : Int), (-(lst w : Int), ((fmt w).2.2.1, (top w, (true, ()))))) := by
  rcases of_decide_eq_true h with h | h <;> subst h <;> rfl
theorem k_size : Ev fun n => ∀ o : Int, -9223372036854775808 < o → o < 9223372036854775808 → c_i_size ((C B).run n) o = some ((o.natAbs : Int), ()) := by
  refine Ev.triv.succ fun n hn _ o h1 h2 => ?_
  rw [run_succ, e_i_size]
  unfold p_i_size
  rw [ineg_eq h1 h2]
  congr 2
  unfold imax
  omega
theorem k_Part : Ev fun n => ∀ w o : Int, fin w o → c_i_BitPartOf ((C B).run n) w o = some (decide (o < 0), ((sz w o : Int), ((-(lst w : Int) + (shf w o : Int)), (true, ())))) := by
  refine ((k_fmt (B := B)).and ((k_BitOk (B := B)).and (k_size (B := B)))).succ fun n hn ⟨hF, hB, hS⟩ w o hf => ?_
  rw [run_succ, e_i_BitPartOf]
  unfold p_i_BitPartOf
  obtain ⟨h1, h2, h3⟩ := hf
  have htn := top_nonneg w
  have hb : bok w o = true := bok_iff.2 ⟨h1, by omega, by omega⟩
  have hfl := frw_le w
  have hll : lst w ≤ 1074 := by unfold lst; split <;> omega
  rw [hF, fmt_of h1]
  simp only [Option.bind_some]
  rw [hB, hb, hS o (by omega) (by omega)]
  simp only [Option.bind_some, Bool.not_true, cond_false, jb_inr, beq_f (show ¬ (o.natAbs : Int) = top w by omega), ile_iff, ilt_iff]
  have hle : decide (0 ≤ (frw w : Int)) = true := by simp
  rw [hS o (by omega) (by omega)]
  simp only [Option.bind_some, hle, ok_true]
  have hU : 0 < 2 ^ frw w := Nat.pow_pos (by decide)
  have hU2 : 2 ^ frw w ≤ 2 ^ 52 := Nat.pow_le_pow_right (by decide) hfl
  have hcast : ((2 : Int) ^ frw w) = ((2 ^ frw w : Nat) : Int) := by simp
  have e1 : ishr .i64 (o.natAbs : Int) (frw w : Int) = ((o.natAbs / 2 ^ frw w : Nat) : Int) := by
    rw [ishr_eq (by omega), hcast]; norm_cast
  have e2 : iand .i64 (o.natAbs : Int) (isub .i64 (ishl .i64 1 (frw w : Int)) 1) = ((o.natAbs % 2 ^ frw w : Nat) : Int) := by
    have h5 : isub .i64 (ishl .i64 1 (frw w : Int)) 1 = (2 : Int) ^ frw w - 1 := by
      rw [shl_one _ (by omega), hcast]
      simp only [Nat.reducePow] at hU2
      exact isub_eq (by omega) (by omega)
    rw [h5, iand_mask (by omega) (by omega) (by omega), hcast]; norm_cast
  have hm : o.natAbs % 2 ^ frw w < 2 ^ frw w := Nat.mod_lt _ hU
  have e3 : ior .i64 ((o.natAbs % 2 ^ frw w : Nat) : Int) (ishl .i64 1 (frw w : Int)) = ((o.natAbs % 2 ^ frw w + 2 ^ frw w : Nat) : Int) := by
    rw [shl_one _ (by omega)]
    simp only [Nat.reducePow] at hU2
    have h6 := Nat.two_pow_add_eq_or_of_lt hm 1
    rw [Nat.mul_one] at h6
    rw [ior_eq (by omega) (by omega), Nat.or_comm, ← h6, Nat.add_comm]
  rw [e1, e2, e3]
  unfold sz shf
  have hdl : o.natAbs / 2 ^ frw w ≤ o.natAbs := Nat.div_le_self ..
  simp only [Nat.reducePow] at hU2
  generalize 2 ^ frw w = U at *
  generalize o.natAbs / U = d at *
  generalize o.natAbs % U = r at *
  by_cases hd : d = 0
  · subst hd
    simp only [show (((0 : Nat) : Int) == 0) = true from rfl, cond_true, if_true]
    rw [wrapu64 (by omega) (by omega)]
    simp
  · rw [beq_f (by omega), cond_false, if_neg hd, wrapu64 (by omega) (by omega), iadd_eq (by omega) (by omega), isub_eq (by omega) (by omega)]
    congr 4
    omega
theorem k_value : Ev fun n => ∀ w o : Int, fin w o → c_i_value ((C B0).run n) w o = some (outF (fv w o)) := by
  refine ((k_Part (B := B0)).and ((k_natOf (B := B0)).and ((k_natShl (B := B0)).and ((k_whole (B := B0)).and k_lowest)))).succ fun n hn ⟨hP, hO, hS, hW, hL⟩ w o hf => ?_
  rw [run_succ, e_i_value]
  unfold p_i_value
  have hs := sz_lt w o
  have hsh := shf_lt hf
  have hll : lst w ≤ 1074 := by unfold lst; split <;> omega
  rw [hP w o hf]
  simp only [Option.bind_some]
  rw [hO _ (by omega)]
  simp only [Option.bind_some, ile_iff]
  have hszl : (dig (sz w o)).length ≤ 4 := dig_len_le.2 (by omega)
  by_cases hp : lst w ≤ shf w o
  · obtain ⟨k, hk⟩ : ∃ k, shf w o = lst w + k := ⟨shf w o - lst w, by omega⟩
    have e1 : -(lst w : Int) + (shf w o : Int) = (k : Int) := by omega
    rw [e1, decide_eq_true (show (0 : Int) ≤ (k : Int) by omega), cond_true, hS _ _ (by omega) (by omega)]
    simp only [Option.bind_some]
    rw [hW, fv_big hk]
    rfl
  · obtain ⟨k, hk⟩ : ∃ k, lst w = shf w o + k := ⟨lst w - shf w o, by omega⟩
    have e1 : -(lst w : Int) + (shf w o : Int) = -(k : Int) := by omega
    rw [e1, decide_eq_false (show ¬ (0 : Int) ≤ -(k : Int) by omega), cond_false, ineg_eq (by omega) (by omega), Int.neg_neg, one_dig, hS _ _ (by rw [← one_dig]; simp) (by omega)]
    simp only [Option.bind_some, Nat.one_mul]
    have hkl := dig_len_pow k
    rw [hL _ _ _ (pow2_ne k) (by omega) (by omega), fv_small hk]
    rfl
end Go.Px.Seat

/- A float made of its parts: the program's. Seat ZD. -/
namespace Pm
open Go.Px.Seat
end Pm
namespace Go.Px.Seat
open Go Pm
set_option linter.unusedVariables false
variable {B : Run}
end Go.Px.Seat

/- The float below a number: the program's. Seat ZD. -/
namespace Pm
open Go.Px.Seat
end Pm
namespace Go.Px.Seat
open Go Pm
set_option linter.unusedVariables false
variable {B : Run}
end Go.Px.Seat

/- The float below a number: the program's, found. Seat ZD. -/
namespace Go.Px.Seat
open Go Pm
set_option linter.unusedVariables false
variable {B : Run}
end Go.Px.Seat

/- Floats next to a number, limits: the program's. Seat ZD. -/
namespace Go.Px.Seat
open Go Pm
set_option linter.unusedVariables false
variable {B : Run}
end Go.Px.Seat

/- Sums of spans: the program's. Seat ZD. -/
namespace Pm
open Go.Px.Seat
theorem lst_le (w : Int) : lst w ≤ 1074 := by unfold lst; split <;> omega
theorem fits_fv {w o : Int} (h : fin w o) : fits (fv w o) := by
  have hl := lst_le w
  have h1 : (fI w o).natAbs < 65536 ^ 256 := Nat.lt_of_lt_of_le (fI_lt2 h) (Nat.le_of_lt (two_lt (by decide)))
  exact fits_mkI (pow2_ne _) h1 (two_lt (by omega))
end Pm
namespace Go.Px.Seat
open Go Pm
set_option linter.unusedVariables false
variable {B : Run}
end Go.Px.Seat

/- Numbers shown with nine digits: the program; both show alike. -/
namespace Pm
open Go.Px.Seat
theorem LG_ex {p q : Nat} : ∀ (n : Nat) (a : Int), G p q a → ¬ G p q (a + n) → ∃ k, LG p q k ∧ a ≤ k ∧ k < a + n
  | 0, a, h, h' => absurd (by simpa using h) h'
  | n + 1, a, h, h' => by
    by_cases h1 : G p q (a + 1)
    · obtain ⟨k, hk, h2, h3⟩ := LG_ex n (a + 1) h1 (by rw [show a + 1 + (n : Int) = a + ((n + 1 : Nat) : Int) by omega]; exact h')
      exact ⟨k, hk, by omega, by omega⟩
    · exact ⟨a, ⟨h, h1⟩, Int.le_refl _, by omega⟩
theorem two_ten (k : Nat) : 2 ^ (3 * k) ≤ 10 ^ k := by rw [Nat.pow_mul]; exact Nat.pow_le_pow_left (by decide) k
theorem two_ten' {a b : Nat} (h : a ≤ 3 * b) : 2 ^ a ≤ 10 ^ b := Nat.le_trans (Nat.pow_le_pow_right (by decide) h) (two_ten b)
theorem fv_nat {w o : Int} (ho : ¬ o < 0) : fv w o = mkRat ((sz w o * 2 ^ shf w o : Nat) : Int) (2 ^ lst w) := by
  rw [fv, fI_sg, decide_eq_false ho]; rfl
theorem ratio_of {p q p' q' : Nat} (hq : q ≠ 0) (hq' : q' ≠ 0) (h : mkRat (p : Int) q = mkRat (p' : Int) q') : p * q' = p' * q := by
  have := (Rat.mkRat_eq_iff hq hq').1 h
  exact_mod_cast this
theorem G_fv {w o : Int} {p q : Nat} (hf : fin w o) (ho : ¬ o < 0) (hp : p ≠ 0) (hq : q ≠ 0) (h : mkRat (p : Int) q = fv w o) : G p q (-400) ∧ ¬ G p q 401 := by
  rw [fv_nat ho] at h
  have hr := ratio_of hq (pow2_ne _) h
  have hs := sz_lt w o
  have hsh := shf_sub hf
  have hll : lst w ≤ 1074 := by unfold lst; split <;> omega
  rw [G_ratio hq (pow2_ne _) hr, G_ratio hq (pow2_ne _) hr]
  obtain ⟨ba, hba⟩ : ∃ b : Nat, b = 400 := ⟨_, rfl⟩
  obtain ⟨bb, hbb⟩ : ∃ b : Nat, b = 401 := ⟨_, rfl⟩
  rw [G_iff (m := 0) (n := ba) (by omega), G_iff (m := bb) (n := 0) (by omega), Nat.pow_zero, Nat.mul_one, Nat.mul_one]
  have hS : sz w o * 2 ^ shf w o ≠ 0 := fun h0 => by
    rw [h0, Nat.zero_mul] at hr
    rcases Nat.mul_eq_zero.1 hr with h1 | h1
    · exact hp h1
    · exact pow2_ne _ h1
  constructor
  · refine Nat.le_trans (two_ten' (b := ba) (by omega)) ?_
    exact Nat.le_mul_of_pos_left _ (by omega)
  · have h1 : sz w o * 2 ^ shf w o < 2 ^ 53 * 2 ^ (lst w + 971) := by
      have h2 : 2 ^ shf w o ≤ 2 ^ (lst w + 971) := Nat.pow_le_pow_right (by decide) hsh
      refine Nat.lt_of_lt_of_le (Nat.mul_lt_mul_of_pos_right (show sz w o < 2 ^ 53 by omega) (Nat.pow_pos (by decide))) (Nat.mul_le_mul_left _ h2)
    have h3 : 2 ^ 53 * 2 ^ (lst w + 971) ≤ 2 ^ lst w * 10 ^ bb := by
      obtain ⟨e, he⟩ : ∃ e : Nat, e = 1024 := ⟨_, rfl⟩
      rw [← Nat.pow_add, show 53 + (lst w + 971) = lst w + e by omega, Nat.pow_add]
      exact Nat.mul_le_mul_left _ (two_ten' (by omega))
    omega
theorem shown_bl {p q : Nat} {k : Int} {up : Bool} (hq : q ≠ 0) (h : LG p q k) (h1 : -500 ≤ k) (h2 : k ≤ 500) : Go.Px.Bl (shown k (rnd up (p * tp (8 - k)) (q * tp (k - 8)))) ∧ (shown k (rnd up (p * tp (8 - k)) (q * tp (k - 8)))).length ≤ 100 := by
  have hl := shown_len (up := up) hq h
  obtain ⟨N, hN⟩ : ∃ N, N = rnd up (p * tp (8 - k)) (q * tp (k - 8)) := ⟨_, rfl⟩
  rw [← hN] at hl ⊢
  have hb := dec_bl N
  unfold shown
  obtain ⟨d, hd⟩ : ∃ d, d = dec N := ⟨_, rfl⟩
  rw [← hd] at hl hb ⊢
  have hr : ∀ x ∈ ((d.drop 1).reverse.dropWhile (· == 48)).reverse, x < 256 := fun x hx => hb x (List.mem_of_mem_drop (List.mem_reverse.1 ((List.dropWhile_sublist _).mem (List.mem_reverse.1 hx))))
  have htl := trim_len (d.drop 1) 48
  rw [List.length_drop] at htl
  have hK : -1000 < k + ((d.length : Int) - 9) ∧ k + ((d.length : Int) - 9) < 1000 := by omega
  have hil := itoa_len hK.1 hK.2
  constructor
  · refine Go.Px.bl_app.2 ⟨Go.Px.bl_take hb _, Go.Px.bl_app.2 ⟨?_, ?_⟩⟩
    · split
      · intro x hx; cases hx
      · intro x hx
        rcases List.mem_cons.1 hx with rfl | hx
        · decide
        · exact hr x hx
    · split
      · intro x hx; cases hx
      · intro x hx
        rcases List.mem_cons.1 hx with rfl | hx
        · decide
        · exact itoa_bl _ x hx
  · rw [List.length_append, List.length_append, List.length_take]
    split <;> split <;> simp only [List.length_cons, List.length_nil] <;> omega
end Pm
namespace Go.Px.Seat
open Go Pm
set_option linter.unusedVariables false
theorem k_show : Ev fun n => ∀ (b : Bool) (p q : Nat) (up : Bool) (k : Int), p ≠ 0 → q ≠ 0 → (dig p).length ≤ 1000 → (dig q).length ≤ 1000 → LG p q k → -400 ≤ k → k ≤ 400 → c_i_show ((C B0).run n) b (dig p) (dig q) up = some (bs (shown k (rnd up (p * tp (8 - k)) (q * tp (k - 8)))), ()) := by
  refine ((k_natCmp (B := B0)).and ((k_natMul (B := B0)).and (k_natDiv.and ((k_natAdd (B := B0)).and (k_natText.and (k_ten.and (k_TrimRight.and k_Itoa))))))).succ fun n hn ⟨kc, km, kd, ka, kx, kt, kr, ki⟩ b p q up k hp hq hpl hql hk hk1 hk2 => ?_
  rw [run_succ, e_i_show]
  unfold p_i_show
  have e10 : ([10] : List Int) = dig 10 := dig_one (d := 10) (by decide) (by decide)
  have htl : ∀ j, j ≤ 1000 → (dig (p * 10 ^ j)).length ≤ 2001 := fun j hj => by
    have h1 := len_dig_mul p (10 ^ j)
    have h2 := dig_ten j
    omega
  refine iter_const (fun s => ∃ j : Nat, s = ((dig (p * 10 ^ j), (dig q, (-(j : Int), ((), (up, (bs [], ())))))), ((b, (dig p, (dig q, ()))), ())) ∧ j ≤ 400) (fun s => (1000 + s.1.2.2.1).toNat) _ ?_ n _ (by simp only; omega) ⟨0, by rw [Nat.pow_zero, Nat.mul_one]; rfl, by decide⟩
  rintro rec _ ⟨j, rfl, hj⟩ ih
  dsimp only
  have hjl := htl j (by omega)
  rw [kc _ _ (by omega) (by omega)]
  simp only [Option.bind_some]
  have hcmp : ilt (cmp3 (p * 10 ^ j) q) 0 = decide (p * 10 ^ j < q) := by
    rw [ilt_iff]
    unfold cmp3
    refine decide_eq_decide.2 ?_
    split
    · simp [*]
    · split <;> simp [*]
  rw [hcmp]
  by_cases hlt : p * 10 ^ j < q
  · have hG : ¬ G p q (-(j : Int)) := fun h => by
      have := (G_iff (m := 0) (n := j) (by omega)).1 h
      rw [Nat.pow_zero, Nat.mul_one] at this
      omega
    have hjk : k < -(j : Int) := by
      by_cases h : k < -(j : Int)
      · exact h
      · exact absurd (G_mono hk.1 (by omega)) hG
    rw [decide_eq_true hlt, cond_true, e10, km _ _ (by omega) (by rw [← e10]; decide)]
    simp only [Option.bind_some]
    rw [isub_eq (by omega) (by omega)]
    refine ih _ ⟨j + 1, ?_, by omega⟩ (by simp only; omega)
    rw [Nat.mul_assoc, ← Nat.pow_succ, show -(j : Int) - 1 = -((j + 1 : Nat) : Int) by omega]
  · rw [decide_eq_false hlt, cond_false, kd _ _ (by omega) (by omega) hq]
    simp only [Option.bind_some]
    obtain ⟨q1, hq1⟩ : ∃ q1, q1 = p * 10 ^ j / q := ⟨_, rfl⟩
    have hq1l : (dig q1).length ≤ 2001 := Nat.le_trans (dig_len_mono (by rw [hq1]; exact Nat.div_le_self _ _)) hjl
    have hq10 : q1 ≠ 0 := by
      rw [hq1]
      have : 1 ≤ p * 10 ^ j / q := (Nat.le_div_iff_mul_le (by omega)).2 (by omega)
      omega
    rw [← hq1, kx q1 (by omega)]
    simp only [Option.bind_some]
    have hdl := dec_len q1
    have hdp := dec_pos q1
    have hKk : -(j : Int) + (((dec q1).length : Int) - 1) = k := by
      refine LG_uniq ⟨?_, ?_⟩ hk
      · refine (G_iff (m := (dec q1).length - 1) (n := j) (by omega)).2 ?_
        have := hdl.2 hq10
        rw [hq1, Nat.le_div_iff_mul_le (by omega), ← hq1, Nat.mul_comm] at this
        exact this
      · intro h
        have h2 := (G_iff (p := p) (q := q) (m := (dec q1).length) (n := j) (by omega)).1 h
        have h3 := hdl.1
        rw [hq1, Nat.div_lt_iff_lt_mul (by omega), ← hq1] at h3
        rw [Nat.mul_comm q] at h2
        omega
    have hdl2 := dec_dig q1
    rw [bs_len, isub_eq (y := 1) (by omega) (by omega), iadd_eq (by omega) (by omega), hKk, isub_eq (by omega) (by omega), ineg_eq (by omega) (by omega)]
    have l1 := tp_len (k := 8 - k) (by omega)
    have l2 := tp_len (k := k - 8) (by omega)
    have l3 := len_dig_mul p (tp (8 - k))
    have l4 := len_dig_mul q (tp (k - 8))
    rw [jb_of (p := ((dig (p * tp (8 - k)), (dig (q * tp (k - 8)), (up, (k, (bs [], ()))))), ())) (by
      rw [ile_iff]
      by_cases h8 : 0 ≤ 8 - k
      · rw [decide_eq_true h8, cond_true, tp_one (k := k - 8) (by omega), Nat.mul_one]
        have := kt (8 - k).toNat (by omega)
        rw [show (((8 - k).toNat : Nat) : Int) = 8 - k by omega] at this
        rw [this]
        simp only [Option.bind_some]
        rw [km _ _ (by omega) (by unfold tp at l1; omega)]
        rfl
      · rw [decide_eq_false h8, cond_false, tp_one (k := 8 - k) (by omega), Nat.mul_one]
        have := kt (k - 8).toNat (by omega)
        rw [show (((k - 8).toNat : Nat) : Int) = -(8 - k) by omega] at this
        rw [this]
        simp only [Option.bind_some]
        rw [km _ _ (by omega) (by unfold tp at l2; omega)]
        rfl)]
    dsimp only
    have hb0 : 0 < q * tp (k - 8) := Nat.mul_pos (by omega) (tp_pos _)
    rw [kd _ _ (by omega) (by omega) (by omega)]
    simp only [Option.bind_some]
    have h9 := LG_nine hq hk
    have hdl := shown_len (up := up) hq hk
    obtain ⟨A, hA⟩ : ∃ A, A = p * tp (8 - k) := ⟨_, rfl⟩
    obtain ⟨D, hD⟩ : ∃ D, D = q * tp (k - 8) := ⟨_, rfl⟩
    rw [← hA, ← hD] at h9 hdl ⊢
    have hql2 : (dig (A / D)).length ≤ 10 := dig_len_le.2 (Nat.lt_of_lt_of_le h9.2 (by decide))
    obtain ⟨N, hN⟩ : ∃ N, N = rnd up A D := ⟨_, rfl⟩
    rw [jb_of (p := ((dig N, (k, (bs [], ()))), ())) (by
      rw [jb_of (p := (((up && decide (A % D ≠ 0)), (dig (A / D), (k, (bs [], ())))), ())) (by
        cases up with
        | false => rfl
        | true =>
          rw [cond_true, len_eq, ilt_iff, Bool.true_and]
          by_cases h0 : A % D = 0
          · rw [h0, dig_zero]; rfl
          · have := dig_len_pos h0
            rw [decide_eq_true (by omega), decide_eq_true h0])]
      dsimp only
      rw [hN]
      unfold rnd
      by_cases h0 : up = true ∧ A % D ≠ 0
      · rw [if_pos h0, h0.1, decide_eq_true h0.2, Bool.true_and, cond_true, one_dg, ka _ _ (by omega) (by rw [← one_dg]; decide)]
        rfl
      · rw [if_neg h0, show (up && decide (A % D ≠ 0)) = false from by
          cases up with
          | false => rfl
          | true =>
            rw [Bool.true_and]
            exact decide_eq_false (fun h => h0 ⟨rfl, h⟩)]
        rfl)]
    dsimp only
    have hNle : N ≤ 1000000000 := by
      have := (rnd_le (up := up) (a := A) (b := D)).2
      rw [hN]
      omega
    have hNl : (dig N).length ≤ 10 := dig_len_le.2 (Nat.lt_of_le_of_lt hNle (by decide))
    rw [kx N (by omega), ← hN]
    rw [← hN] at hdl
    simp only [Option.bind_some]
    have hdb := dec_bl N
    unfold shown
    obtain ⟨d, hd⟩ : ∃ d, d = dec N := ⟨_, rfl⟩
    rw [← hd] at hdl hdb ⊢
    obtain ⟨K, hK⟩ : ∃ K, K = k + ((d.length : Int) - 9) := ⟨_, rfl⟩
    have hKb : -1000 < K ∧ K < 1000 := by rw [hK]; omega
    obtain ⟨rest, hrest⟩ : ∃ rest, rest = ((d.drop 1).reverse.dropWhile (· == 48)).reverse := ⟨_, rfl⟩
    have hrl := trim_len (d.drop 1) 48
    rw [← hrest, List.length_drop] at hrl
    have hrb : Bl rest := by
      rw [hrest]
      exact fun x hx => hdb x (List.mem_of_mem_drop (List.mem_reverse.1 ((List.dropWhile_sublist _).mem (List.mem_reverse.1 hx))))
    have ht1 : (d.take 1).length = 1 := by rw [List.length_take]; omega
    have e1 : ByteArray.extract (bs d) (Int.toNat 0) (Int.toNat 1) = bs (d.take 1) := by rw [bs_sub]; rfl
    have e2 : ByteArray.extract (bs d) (Int.toNat 1) (Int.toNat ((d.length : Nat) : Int)) = bs (d.drop 1) := by
      rw [bs_sub, Int.toNat_natCast, List.take_length]; rfl
    rw [← hK, ← hrest, bs_len, ok_of (sliceOk_true (by omega) (by omega) (by omega)), e1]
    rw [jb_of (p := ((K, (bs (d.take 1 ++ (if rest = [] then [] else 46 :: rest)), (bs [], ()))), ())) (by
      rw [ok_of (sliceOk_true (by omega) (by omega) (by omega)), e2, kr _ 48 (bl_drop hdb _) (by decide) (by rw [List.length_drop]; omega), ← hrest, isub_eq (by omega) (by omega), iadd_eq (by omega) (by omega), ← hK]
      simp only [Option.bind_some]
      rw [bs_seq hrb (fun x hx => by cases hx)]
      by_cases h0 : rest = []
      · rw [decide_eq_true h0, if_pos h0, List.append_nil]; rfl
      · rw [decide_eq_false h0, if_neg h0, Bool.not_false, cond_true, bs_sok, ok_of (decide_eq_true (by simp only [List.length_singleton]; omega)), bs_app, bs_sok, ok_of (decide_eq_true (by rw [List.length_append]; simp only [List.length_singleton]; omega)), bs_app]
        rfl)]
    dsimp only
    have hol : (d.take 1 ++ (if rest = [] then [] else 46 :: rest)).length ≤ 100 := by
      rw [List.length_append]
      split
      · simp; omega
      · simp only [List.length_cons]; omega
    have hil := itoa_len (x := K) hKb.1 hKb.2
    rw [jb_of (p := ((bs (d.take 1 ++ ((if rest = [] then [] else 46 :: rest) ++ (if K = 0 then [] else 101 :: itoa K))), (bs [], ())), ())) (by
      by_cases h0 : K = 0
      · rw [h0, if_pos rfl, List.append_nil]; rfl
      · rw [if_neg h0, show (K != 0) = true from by simpa using h0, cond_true, ki K (by omega) (by omega)]
        simp only [Option.bind_some]
        rw [bs_sok, ok_of (decide_eq_true (by simp only [List.length_singleton]; omega)), bs_app, bs_sok, ok_of (decide_eq_true (by have e : ([101] ++ itoa K).length = 1 + (itoa K).length := (by rw [List.length_append]; rfl); rw [e]; omega)), bs_app]
        simp)]
end Go.Px.Seat

/- FloatShow: both sides give one text. -/
namespace Go.Px.Seat
open Go Pm
set_option linter.unusedVariables false
theorem bok_neg {w o : Int} (h : bok w o = true) : bok w (-o) = true := by
  obtain ⟨h1, h2, h3⟩ := bok_iff.1 h
  exact bok_iff.2 ⟨h1, by omega, by omega⟩
theorem top_lt (w : Int) : 0 ≤ top w ∧ top w ≤ 9218868437227405312 := by
  unfold top
  split
  · omega
  · split <;> omega
open Classical in
noncomputable def lgOf (p q : Nat) : Int := if h : ∃ k, LG p q k then Classical.choose h else 0
theorem lgOf_eq {p q : Nat} {k : Int} (h : LG p q k) : lgOf p q = k := by
  unfold lgOf
  rw [dif_pos ⟨k, h⟩]
  exact LG_uniq (Classical.choose_spec (⟨k, h⟩ : ∃ k, LG p q k)) h
/-- the text of a number above 0 -/
noncomputable def numTxt (p q : Nat) (up : Bool) : List Nat := shown (lgOf p q) (rnd up (p * tp (8 - lgOf p q)) (q * tp (lgOf p q - 8)))
noncomputable def posTxt (w o : Int) (up : Bool) : List Nat := if o = 0 then [48] else if o = top w then [105, 110, 102] else numTxt (fv w o).num.natAbs (fv w o).den up
/-- the text of a float -/
noncomputable def fsh (w o : Int) (up : Bool) : List Nat := if o < 0 then 45 :: posTxt w (-o) (!up) else posTxt w o up
theorem fsh_pos {w o : Int} {up : Bool} (h : 0 ≤ o) : fsh w o up = posTxt w o up := if_neg (by omega)
theorem fsh_neg {w o : Int} {up : Bool} (h : o < 0) : fsh w o up = 45 :: posTxt w (-o) (!up) := if_pos h
/-- both texts of a float are one -/
def Both (n : Nat) (w o : Int) (up : Bool) : Prop := c_s_FloatShow ((C B0).run n) w o up = some (bs (fsh w o up), ()) ∧ c_i_floatShow ((C B0).run n) w o up = some (bs (fsh w o up), ()) ∧ Bl (fsh w o up) ∧ (fsh w o up).length ≤ 201
theorem k_bothPos : Ev fun n => ∀ (w o : Int) (up : Bool), bok w o = true → 0 ≤ o → Both n w o up ∧ (fsh w o up).length ≤ 200 := by
  refine ((k_sBitOk (B := B0)).and ((k_sTop' (B := B0)).and ((k_BitTop (B := B0)).and ((k_sOfF (B := B0)).and (k_s22Size.and (k_value.and k_show)))))).succ fun n hn ⟨kb, kt, kT, ko, ks, kv, kw⟩ w o up hb h0 => ?_
  obtain ⟨hw, hlo, hhi⟩ := bok_iff.1 hb
  suffices h : c_s_FloatShow ((C B0).run (n + 1)) w o up = some (bs (fsh w o up), ()) ∧ c_i_floatShow ((C B0).run (n + 1)) w o up = some (bs (fsh w o up), ()) ∧ Bl (fsh w o up) ∧ (fsh w o up).length ≤ 200 from ⟨⟨h.1, h.2.1, h.2.2.1, by have := h.2.2.2; omega⟩, h.2.2.2⟩
  rw [run_succ, e_s_FloatShow, e_i_floatShow, fsh_pos h0]
  unfold p_s_FloatShow p_i_floatShow posTxt
  rw [kb, hb]
  simp only [Option.bind_some]
  rw [Bool.not_true, cond_false]
  by_cases hz : o = 0
  · subst hz
    rw [if_pos rfl]
    exact ⟨rfl, rfl, fun x hx => by simp at hx; omega, by decide⟩
  rw [if_neg hz, beq_f hz, cond_false, cond_false, ilt_iff, decide_eq_false (show ¬ o < 0 by omega), cond_false, cond_false, kt, kT]
  simp only [Option.bind_some]
  by_cases ht : o = top w
  · have e : (o == top w) = true := by simpa using ht
    rw [e, if_pos ht]
    exact ⟨rfl, rfl, fun x hx => by simp at hx; omega, by decide⟩
  rw [if_neg ht, beq_f ht, cond_false, cond_false]
  have hf : fin w o := ⟨hw, by omega, by omega⟩
  obtain ⟨p, q, h1, hq, h2, hpl, hql, hp⟩ := ko w o hf
  have hno : ¬ o < 0 := by omega
  rw [decide_eq_false hno] at h1 h2
  have h2 : mkRat (p : Int) q = fv w o := h2
  have hp0 : p ≠ 0 := fun h => hz (hp.1 h)
  obtain ⟨g1, g2⟩ := G_fv hf hno hp0 hq h2
  obtain ⟨k, hk, hk1, hk2⟩ := LG_ex 801 (-400) g1 (by simpa using g2)
  rw [h1, kv w o hf]
  simp only [Option.bind_some]
  have hfit := fits_len (fits_fv hf)
  have hnum : 0 ≤ (fv w o).num := by
    rw [← h2]
    have : (0 : Rat) ≤ mkRat (p : Int) q := by
      rw [← Rat.not_lt]
      intro h
      have := (mk_lt2 (a := (p : Int)) (b := 0) hq (show (1 : Nat) ≠ 0 by decide)).1 (by simpa using h)
      omega
    exact Rat.num_nonneg.2 this
  have hself : fv w o = mkRat (((fv w o).num.natAbs : Nat) : Int) (fv w o).den := by
    rw [show ((((fv w o).num.natAbs : Nat)) : Int) = (fv w o).num by omega, Rat.mkRat_self]
  have hr := ratio_of hq (fv w o).den_nz (h2.trans hself)
  have hn0 : (fv w o).num.natAbs ≠ 0 := fun h => by
    rw [h, Nat.zero_mul] at hr
    rcases Nat.mul_eq_zero.1 hr with h3 | h3
    · exact hp0 h3
    · exact (fv w o).den_nz h3
  rw [ks p q up k hq (by omega) (by omega) hk g1 g2]
  show _ ∧ ((c_i_show _ (fb (fv w o)) (dig (fv w o).num.natAbs) (dig (fv w o).den) up).bind _ = _) ∧ _
  rw [kw _ _ _ up k hn0 (fv w o).den_nz (Nat.le_trans hfit.1 (by decide)) (Nat.le_trans hfit.2 (by decide)) ((LG_ratio hq (fv w o).den_nz hr).1 hk) (by omega) (by omega)]
  have hlg := lgOf_eq ((LG_ratio hq (fv w o).den_nz hr).1 hk)
  unfold numTxt
  rw [hlg]
  have hN : rnd up ((fv w o).num.natAbs * tp (8 - k)) ((fv w o).den * tp (k - 8)) = rnd up (p * tp (8 - k)) (q * tp (k - 8)) := by
    refine rnd_ratio (Nat.mul_pos (Nat.pos_of_ne_zero (fv w o).den_nz) (tp_pos _)) (Nat.mul_pos (by omega) (tp_pos _)) ?_
    rw [Nat.mul_mul_mul_comm, ← hr, Nat.mul_mul_mul_comm]
  rw [hN]
  obtain ⟨s1, s2⟩ := shown_bl (up := up) hq hk (by omega) (by omega)
  exact ⟨rfl, rfl, s1, by omega⟩
theorem k_both : Ev fun n => ∀ (w o : Int) (up : Bool), bok w o = true → Both n w o up := by
  refine (k_bothPos.and (Ev.succ ((k_sBitOk (B := B0)).and k_bothPos) (q := fun n => ∀ (w o : Int) (up : Bool), bok w o = true → o < 0 → Both n w o up) fun n hn ⟨kb, kp⟩ w o up hb h0 => ?_)).mono fun n ⟨h1, h2⟩ w o up hb => ?_
  · obtain ⟨hw, hlo, hhi⟩ := bok_iff.1 hb
    have ht := top_lt w
    obtain ⟨⟨h1, h2, h3, _⟩, h4⟩ := kp w (-o) (!up) (bok_neg hb) (by omega)
    unfold Both
    rw [fsh_pos (by omega)] at h1 h2 h3 h4
    rw [run_succ, e_s_FloatShow, e_i_floatShow, fsh_neg h0]
    unfold p_s_FloatShow p_i_floatShow
    rw [kb, hb]
    simp only [Option.bind_some]
    rw [Bool.not_true, cond_false, beq_f (show ¬ o = 0 by omega), cond_false, cond_false, ilt_iff, decide_eq_true h0, cond_true, cond_true, ineg_eq (by omega) (by omega), h1, h2]
    simp only [Option.bind_some]
    rw [bs_sok, ok_of (decide_eq_true (by simp only [List.length_singleton]; omega)), bs_app]
    refine ⟨rfl, rfl, fun x hx => ?_, by rw [List.length_cons]; omega⟩
    rcases List.mem_cons.1 hx with rfl | hx
    · decide
    · exact h3 x hx
  · by_cases h0 : 0 ≤ o
    · exact (h1 w o up hb h0).1
    · exact h2 w o up hb (by omega)
/-- the text of a float; none, where there is no such float -/
noncomputable def fsh0 (w o : Int) (up : Bool) : List Nat := if bok w o = true then fsh w o up else []
theorem k_FloatShow : Ev fun n => ∀ (w o : Int) (up : Bool), c_s_FloatShow ((C B0).run n) w o up = some (bs (fsh0 w o up), ()) ∧ c_i_FloatShow ((C B0).run n) w o up = some (bs (fsh0 w o up), ()) ∧ Bl (fsh0 w o up) := by
  have hS : Ev fun n => ∀ (w o : Int) (up : Bool), bok w o = false → c_s_FloatShow ((C B0).run n) w o up = some (bs [], ()) := by
    refine (k_sBitOk (B := B0)).succ fun n hn kb w o up hb => ?_
    rw [run_succ, e_s_FloatShow]
    unfold p_s_FloatShow
    rw [kb, hb]
    rfl
  have hI : Ev fun n => ∀ (w o : Int) (up : Bool), c_i_FloatShow ((C B0).run n) w o up = some (bs (fsh0 w o up), ()) := by
    refine ((k_BitOk (B := B0)).and k_both).succ fun n hn ⟨kb, kf⟩ w o up => ?_
    rw [run_succ, e_i_FloatShow]
    unfold p_i_FloatShow fsh0
    rw [kb]
    simp only [Option.bind_some]
    cases hb : bok w o with
    | false => rfl
    | true =>
      rw [Bool.not_true, cond_false, (kf w o up hb).2.1]
      rfl
  refine (hS.and (hI.and k_both)).mono fun n ⟨h1, h2, h3⟩ w o up => ?_
  refine ⟨?_, h2 w o up, ?_⟩
  · unfold fsh0
    cases hb : bok w o with
    | false => exact h1 w o up hb
    | true => exact (h3 w o up hb).1
  · unfold fsh0
    cases hb : bok w o with
    | false => exact fun x hx => by cases hx
    | true => exact (h3 w o up hb).2.2.1
end Go.Px.Seat

/- Literals that were shown are read: plain, and the reference's parts. -/
namespace Pm
open Go.Px.Seat
def isd (c : Nat) : Bool := decide (48 ≤ c) && decide (c ≤ 57)
theorem isd_iff {c : Nat} : isd c = true ↔ 48 ≤ c ∧ c ≤ 57 := by simp [isd]
/-- the value of digits -/
def vd (a : Nat) (l : List Nat) : Nat := l.foldl (fun n c => n * 10 + (c - 48)) a
theorem vd_app (a : Nat) (l m : List Nat) : vd a (l ++ m) = vd (vd a l) m := List.foldl_append
theorem vd_noughts (a : Nat) : ∀ z : Nat, vd a (List.replicate z 48) = a * 10 ^ z
  | 0 => by simp [vd]
  | z + 1 => by
    rw [List.replicate_succ']
    rw [vd_app, vd_noughts a z]
    show a * 10 ^ z * 10 + (48 - 48) = _
    rw [Nat.pow_succ, Nat.mul_assoc]; rfl
theorem vd_dec (n : Nat) : vd 0 (dec n) = n := by
  induction n using Nat.strongRecOn with
  | _ n ih =>
    by_cases h : n < 10
    · rw [dec_small h]
      show 0 * 10 + (48 + n - 48) = n
      omega
    · rw [dec_big h, vd_app, ih _ (by omega)]
      show n / 10 * 10 + (48 + n % 10 - 48) = n
      omega
theorem vd_lt : ∀ (l : List Nat) (a : Nat), (∀ x ∈ l, isd x = true) → vd a l < (a + 1) * 10 ^ l.length
  | [], a, _ => by simp [vd]
  | c :: l, a, h => by
    have hc := isd_iff.1 (h c (List.mem_cons_self ..))
    have := vd_lt l (a * 10 + (c - 48)) (fun x hx => h x (List.mem_cons_of_mem _ hx))
    have e : vd a (c :: l) = vd (a * 10 + (c - 48)) l := rfl
    rw [e, List.length_cons, Nat.pow_succ, Nat.mul_comm (10 ^ l.length), ← Nat.mul_assoc]
    exact Nat.lt_of_lt_of_le this (Nat.mul_le_mul_right _ (by omega))
theorem dec_isd (n : Nat) : ∀ x ∈ dec n, isd x = true := fun x hx => isd_iff.2 (dec_bytes n x hx)
theorem dec_head {n : Nat} (h : n ≠ 0) : (dec n).getD 0 0 ≠ 48 := by
  induction n using Nat.strongRecOn with
  | _ n ih =>
    by_cases hs : n < 10
    · rw [dec_small hs]
      show 48 + n ≠ 48
      omega
    · rw [dec_big hs]
      have hp := dec_pos (n / 10)
      have := ih (n / 10) (by omega) (by omega)
      match hd : dec (n / 10) with
      | [] => rw [hd] at hp; simp at hp
      | a :: r => rw [hd] at this; exact this
theorem trim_rep (l : List Nat) : ∃ z, l = (l.reverse.dropWhile (· == 48)).reverse ++ List.replicate z 48 := by
  refine ⟨(l.reverse.takeWhile (· == 48)).length, ?_⟩
  have h : l.reverse.takeWhile (· == 48) = List.replicate (l.reverse.takeWhile (· == 48)).length 48 := by
    refine List.eq_replicate_iff.2 ⟨rfl, fun x hx => ?_⟩
    have : ∀ (m : List Nat), ∀ x ∈ m.takeWhile (· == 48), x = 48 := by
      intro m
      induction m with
      | nil => intro x hx; cases hx
      | cons c m ih =>
        intro x hx
        rw [List.takeWhile_cons] at hx
        split at hx
        · rename_i hc
          rcases List.mem_cons.1 hx with rfl | hx
          · simpa using hc
          · exact ih x hx
        · cases hx
    exact this _ x hx
  have e := List.takeWhile_append_dropWhile (p := (· == 48)) (l := l.reverse)
  have e2 := congrArg List.reverse e
  rw [List.reverse_reverse, List.reverse_append, h, List.reverse_replicate] at e2
  simp only [List.length_replicate] at e2
  exact e2.symm
theorem tw_app {a b : List Nat} (ha : ∀ x ∈ a, isd x = true) (hb : b.takeWhile isd = []) : ((a ++ b).takeWhile isd).length = a.length := by
  induction a with
  | nil => rw [List.nil_append, hb]
  | cons c a ih =>
    rw [List.cons_append, List.takeWhile_cons, ha c (List.mem_cons_self ..)]
    simp only [if_true, List.length_cons]
    rw [ih fun x hx => ha x (List.mem_cons_of_mem _ hx)]
theorem tw_no {c : Nat} {l : List Nat} (h : isd c = false) : (c :: l).takeWhile isd = [] := by rw [List.takeWhile_cons, h]; rfl
theorem getD_app {a b : List Nat} {i : Nat} : (a ++ b).getD (a.length + i) 0 = b.getD i 0 := by
  rw [List.getD_eq_getElem?_getD, List.getElem?_append_right (by omega), Nat.add_sub_cancel_left, List.getD_eq_getElem?_getD]
theorem drop_app {a b : List Nat} {i : Nat} : (a ++ b).drop (a.length + i) = b.drop i := by
  rw [List.drop_append, List.drop_eq_nil_of_le (by omega), List.nil_append, Nat.add_sub_cancel_left]
/-- the part behind the point, the part behind e -/
def pB (rest : List Nat) : List Nat := if rest = [] then [] else 46 :: rest
def pC (K : Int) : List Nat := if K = 0 then [] else 101 :: itoa K
end Pm
namespace Go.Px.Seat
open Go Pm
set_option linter.unusedVariables false
theorem k_s7Digits : Ev fun n => ∀ (l : List Nat) (a : Nat), Bl l → l.length ≤ 100000 → a ≤ l.length → c_s_l7Digits ((C B0).run n) (bs l) (a : Int) = some ((((l.drop a).takeWhile isd).length : Int), ()) := by
  refine Ev.triv.succ fun n hn _ l a hl hb ha => ?_
  rw [run_succ, e_s_l7Digits]
  unfold p_s_l7Digits
  refine iter_const (fun p => ∃ k : Nat, p = (((a : Int), ((k : Int), (bs l, (0, ())))), ()) ∧ a + k ≤ l.length ∧ ((l.drop a).takeWhile isd).length = k + ((l.drop (a + k)).takeWhile isd).length) (fun p => 100001 - p.1.2.1.toNat) _ ?_ n _ (by simp only; omega) ⟨0, rfl, by omega, by simp⟩
  rintro rec _ ⟨k, rfl, hk, hw⟩ ih
  dsimp only
  rw [iadd_eq (by omega) (by omega), bs_len]
  rw [jb_of (p := ((decide (a + k < l.length ∧ isd (l.getD (a + k) 0) = true), ((k : Int), ((a : Int), (bs l, (0, ()))))), ())) (by
    rw [ilt_iff]
    by_cases h1 : a + k < l.length
    · rw [decide_eq_true (show (a : Int) + k < l.length by omega), cond_true, ok_of (inB_true (by omega) (by omega)), show (a : Int) + k = ((a + k : Nat) : Int) by omega, bs_bt hl, ile_iff, ile_iff]
      by_cases h48 : 48 ≤ l.getD (a + k) 0
      · rw [decide_eq_true (show (48 : Int) ≤ ((l.getD (a + k) 0 : Nat) : Int) by omega), cond_true, ok_of (inB_true (by omega) (by omega)), decide_eq_decide.2 (show (((l.getD (a + k) 0 : Nat) : Int) ≤ 57) ↔ (a + k < l.length ∧ isd (l.getD (a + k) 0) = true) by rw [isd_iff]; omega)]
      · rw [decide_eq_false (show ¬ (48 : Int) ≤ ((l.getD (a + k) 0 : Nat) : Int) by omega), decide_eq_false (show ¬ (a + k < l.length ∧ isd (l.getD (a + k) 0) = true) from fun h => h48 (isd_iff.1 h.2).1)]; rfl
    · rw [decide_eq_false (show ¬ (a : Int) + k < l.length by omega), decide_eq_false (show ¬ (a + k < l.length ∧ isd (l.getD (a + k) 0) = true) from fun h => h1 h.1)]; rfl)]
  dsimp only
  by_cases hgo : a + k < l.length ∧ isd (l.getD (a + k) 0) = true
  · have hd : l.drop (a + k) = l.getD (a + k) 0 :: l.drop (a + k + 1) := by
      rw [List.getD_eq_getElem?_getD, List.getElem?_eq_getElem hgo.1, List.drop_eq_getElem_cons hgo.1]; rfl
    rw [decide_eq_true hgo, cond_true, iadd_eq (by omega) (by omega)]
    refine ih _ ⟨k + 1, by simp, by omega, ?_⟩ (by simp only; omega)
    rw [hw, hd, List.takeWhile_cons, if_pos hgo.2, List.length_cons, show a + (k + 1) = a + k + 1 by omega]
    omega
  · rw [decide_eq_false hgo, cond_false]
    have : (l.drop (a + k)).takeWhile isd = [] := by
      by_cases h1 : a + k < l.length
      · have hd : l.drop (a + k) = l.getD (a + k) 0 :: l.drop (a + k + 1) := by
          rw [List.getD_eq_getElem?_getD, List.getElem?_eq_getElem h1, List.drop_eq_getElem_cons h1]; rfl
        rw [hd]
        refine tw_no ?_
        cases h : isd (l.getD (a + k) 0) with
        | false => rfl
        | true => exact absurd ⟨h1, h⟩ hgo
      · rw [List.drop_eq_nil_of_le (by omega)]; rfl
    rw [hw, this]
    simp
end Go.Px.Seat

/- The parts of a literal that was shown: the reference. -/
namespace Pm
open Go.Px.Seat
theorem pC_tw (K : Int) : (pC K).takeWhile isd = [] := by
  unfold pC
  split
  · rfl
  · exact tw_no rfl
theorem pBC_tw (rest : List Nat) (K : Int) : (pB rest ++ pC K).takeWhile isd = [] := by
  unfold pB
  split
  · exact pC_tw K
  · exact tw_no rfl
theorem itoa_neg {K : Int} (h : K < 0) : itoa K = 45 :: dec K.natAbs := if_pos h
theorem itoa_pos {K : Int} (h : ¬ K < 0) : itoa K = dec K.natAbs := by
  unfold itoa
  rw [if_neg h, show K.toNat = K.natAbs by omega]
theorem isd_lt {c : Nat} (h : isd c = true) : c < 256 := by have := isd_iff.1 h; omega
theorem pB_bl {rest : List Nat} (h : ∀ x ∈ rest, isd x = true) : Go.Px.Bl (pB rest) := by
  unfold pB
  split
  · intro x hx; cases hx
  · intro x hx
    rcases List.mem_cons.1 hx with rfl | hx
    · decide
    · exact isd_lt (h x hx)
theorem pC_bl (K : Int) : Go.Px.Bl (pC K) := by
  unfold pC
  split
  · intro x hx; cases hx
  · intro x hx
    rcases List.mem_cons.1 hx with rfl | hx
    · decide
    · exact itoa_bl _ x hx
end Pm
namespace Go.Px.Seat
open Go Pm
set_option linter.unusedVariables false
set_option maxRecDepth 4000 in
theorem k_s7Parts : Ev fun n => ∀ (c0 : Nat) (rest : List Nat) (K : Int), isd c0 = true → (∀ x ∈ rest, isd x = true) → rest.length ≤ 40 → -401 < K → K < 401 → c_s_l7Parts ((C B0).run n) (bs (c0 :: (pB rest ++ pC K))) = some (bs (c0 :: rest), ((rest.length : Int), (K, (true, ())))) := by
  refine k_s7Digits.succ fun n hn kd c0 rest K hc0 hrest hrl hK1 hK2 => ?_
  rw [run_succ, e_s_l7Parts]
  unfold p_s_l7Parts
  obtain ⟨T, hT⟩ : ∃ T, T = c0 :: (pB rest ++ pC K) := ⟨_, rfl⟩
  have hTb : Bl T := by
    rw [hT]
    intro x hx
    rcases List.mem_cons.1 hx with rfl | hx
    · exact isd_lt hc0
    · exact (bl_app.2 ⟨pB_bl hrest, pC_bl K⟩) x hx
  have hBl : (pB rest).length = if rest = [] then 0 else rest.length + 1 := by unfold pB; split <;> simp
  have hil := itoa_len (x := K) (by omega) (by omega)
  have hCl : (pC K).length = if K = 0 then 0 else (itoa K).length + 1 := by unfold pC; split <;> simp
  have hTl : T.length = 1 + ((pB rest).length + (pC K).length) := by rw [hT, List.length_cons, List.length_append]; omega
  have hBl2 : (pB rest).length ≤ 41 := by rw [hBl]; split <;> omega
  have hCl2 : (pC K).length ≤ 5 := by rw [hCl]; split <;> omega
  have hlen : T.length ≤ 47 := by omega
  have hT0 : T.getD 0 0 = c0 := by rw [hT]; rfl
  rw [← hT, bs_len, ilt_iff, decide_eq_false (show ¬ (60 : Int) < T.length by omega), cond_false]
  have hd0 : ((T.drop 0).takeWhile isd).length = 1 := by
    rw [List.drop_zero, hT]
    exact tw_app (a := [c0]) (fun x hx => by rw [List.mem_singleton.1 hx]; exact hc0) (pBC_tw rest K)
  have := kd T 0 hTb (by omega) (Nat.zero_le _)
  rw [hd0, show (((0 : Nat) : Int)) = 0 from rfl, show (((1 : Nat) : Int)) = 1 from rfl] at this
  rw [this]
  simp only [Option.bind_some]
  rw [jb_of (p := ((false, (bs T, (1, (bs [], (0, (0, (false, ()))))))), ())) (by rfl)]
  dsimp only
  have e1 : ByteArray.extract (bs T) (Int.toNat 0) (Int.toNat 1) = bs [c0] := by rw [bs_sub, hT]; rfl
  rw [cond_false, bs_len, ok_of (sliceOk_true (by omega) (by omega) (by omega)), e1]
  -- behind the digits that stand ahead
  obtain ⟨at1, hat1⟩ : ∃ at1 : Nat, at1 = 1 + (pB rest).length := ⟨_, rfl⟩
  have hget : ∀ i, T.getD (at1 + i) 0 = (pC K).getD i 0 := by
    intro i
    have e : T = (c0 :: pB rest) ++ pC K := by rw [hT]; rfl
    have hl : (c0 :: pB rest).length = at1 := by rw [List.length_cons]; omega
    rw [e, ← hl, getD_app]
  have hdrop : ∀ i, T.drop (at1 + i) = (pC K).drop i := by
    intro i
    have e : T = (c0 :: pB rest) ++ pC K := by rw [hT]; rfl
    have hl : (c0 :: pB rest).length = at1 := by rw [List.length_cons]; omega
    rw [e, ← hl, drop_app]
  rw [jb_of (p := (((at1 : Int), (bs T, (bs (c0 :: rest), ((rest.length : Int), (bs [], (0, (0, (false, ())))))))), ())) (by
    rw [jb_of (p := ((decide (rest ≠ []), (bs T, (1, (bs [c0], (0, (bs [], (0, (0, (false, ()))))))))), ())) (by
      rw [ilt_iff]
      by_cases h0 : rest = []
      · rw [show decide (rest ≠ []) = false from decide_eq_false (fun h => h h0)]
        have hB0 : (pB rest).length = 0 := by rw [hBl, if_pos h0]
        by_cases hk : K = 0
        · have : (pC K).length = 0 := by rw [hCl, if_pos hk]
          rw [decide_eq_false (show ¬ (1 : Int) < T.length by omega)]; rfl
        · have : (pC K).length ≠ 0 := by rw [hCl, if_neg hk]; omega
          have hg := hget 0
          rw [Nat.add_zero, show at1 = 1 by omega] at hg
          have hg2 : (pC K).getD 0 0 = 101 := by unfold pC; rw [if_neg hk]; rfl
          have hb : bt (bs T) 1 = ((T.getD 1 0 : Nat) : Int) := bs_bt hTb 1
          rw [decide_eq_true (show (1 : Int) < T.length by omega), cond_true, ok_of (inB_true (by omega) (by omega)), hb, hg, hg2]; rfl
      · rw [show decide (rest ≠ []) = true from decide_eq_true h0]
        have hB1 : (pB rest).length ≠ 0 := by rw [hBl, if_neg h0]; omega
        have hg2 : T.getD 1 0 = 46 := by rw [hT]; unfold pB; rw [if_neg h0]; rfl
        have hb : bt (bs T) 1 = ((T.getD 1 0 : Nat) : Int) := bs_bt hTb 1
        rw [decide_eq_true (show (1 : Int) < T.length by omega), cond_true, ok_of (inB_true (by omega) (by omega)), hb, hg2]; rfl)]
    dsimp only
    by_cases h0 : rest = []
    · rw [show decide (rest ≠ []) = false from decide_eq_false (fun h => h h0), cond_false]
      have hB0 : (pB rest).length = 0 := by rw [hBl, if_pos h0]
      rw [show at1 = 1 by omega, h0]; rfl
    · rw [show decide (rest ≠ []) = true from decide_eq_true h0, cond_true]
      have hB1 : (pB rest).length = rest.length + 1 := by rw [hBl, if_neg h0]
      have hrp := List.length_pos_iff.2 h0
      have hd2 : ((T.drop 2).takeWhile isd).length = rest.length := by
        have e : T.drop 2 = rest ++ pC K := by rw [hT]; unfold pB; rw [if_neg h0]; rfl
        rw [e]
        exact tw_app hrest (pC_tw K)
      have := kd T 2 hTb (by omega) (by omega)
      rw [hd2, show (((2 : Nat) : Int)) = 2 from rfl] at this
      rw [iadd_eq (by omega) (by omega), show (1 : Int) + 1 = 2 from rfl, this]
      simp only [Option.bind_some]
      have e2 : ByteArray.extract (bs T) (Int.toNat 2) (Int.toNat (2 + (rest.length : Int))) = bs rest := by
        rw [bs_sub, show Int.toNat 2 = 2 from rfl, show (2 + (rest.length : Int)).toNat = 2 + rest.length by omega]
        have e : T.drop 2 = rest ++ pC K := by rw [hT]; unfold pB; rw [if_neg h0]; rfl
        rw [List.drop_take, e, show 2 + rest.length - 2 = rest.length by omega, List.take_left]
      rw [beq_f (by omega), cond_false, iadd_eq (by omega) (by omega), bs_len, ok_of (sliceOk_true (by omega) (by omega) (by omega)), e2, bs_sok, ok_of (decide_eq_true (by simp only [List.length_singleton]; omega)), bs_app, show (2 : Int) + (rest.length : Int) = (at1 : Int) by omega]
      rfl)]
  dsimp only
  rw [jb_of (p := ((bs (c0 :: rest), ((rest.length : Int), (K, ((T.length : Int), (bs T, (bs [], (0, (0, (false, ()))))))))), ())) (by
    rw [jb_of (p := ((decide (K ≠ 0), ((at1 : Int), (bs T, (0, (bs (c0 :: rest), ((rest.length : Int), (bs [], (0, (0, (false, ())))))))))), ())) (by
      rw [bs_len, ilt_iff]
      by_cases hk : K = 0
      · have : (pC K).length = 0 := by rw [hCl, if_pos hk]
        rw [decide_eq_false (show ¬ (at1 : Int) < T.length by omega), show decide (K ≠ 0) = false from decide_eq_false (fun h => h hk)]; rfl
      · have : (pC K).length ≠ 0 := by rw [hCl, if_neg hk]; omega
        have hg := hget 0
        have hg2 : (pC K).getD 0 0 = 101 := by unfold pC; rw [if_neg hk]; rfl
        rw [Nat.add_zero, hg2] at hg
        rw [decide_eq_true (show (at1 : Int) < T.length by omega), cond_true, ok_of (inB_true (by omega) (by omega)), bs_bt hTb, hg, show decide (K ≠ 0) = true from decide_eq_true hk]; rfl)]
    dsimp only
    by_cases hk : K = 0
    · have : (pC K).length = 0 := by rw [hCl, if_pos hk]
      rw [show decide (K ≠ 0) = false from decide_eq_false (fun h => h hk), cond_false, hk, show at1 = T.length by omega]
    rw [show decide (K ≠ 0) = true from decide_eq_true hk, cond_true]
    have hC : pC K = 101 :: itoa K := if_neg hk
    have hC1 : (pC K).length = (itoa K).length + 1 := by rw [hCl, if_neg hk]
    obtain ⟨m, hm⟩ : ∃ m, m = (dec K.natAbs).length := ⟨_, rfl⟩
    have hm1 := dec_pos K.natAbs
    have hm3 := dec_le 3 K.natAbs (by decide) (by omega)
    rw [← hm] at hm1 hm3
    obtain ⟨at4, hat4⟩ : ∃ at4 : Nat, at4 = at1 + 1 + if K < 0 then 1 else 0 := ⟨_, rfl⟩
    have hitl : (itoa K).length = m + if K < 0 then 1 else 0 := by
      by_cases h : K < 0
      · rw [itoa_neg h, if_pos h, List.length_cons, hm]
      · rw [itoa_pos h, if_neg h, hm]; rfl
    have hTe : at4 + m = T.length := by omega
    have hdr4 : T.drop at4 = dec K.natAbs := by
      rw [hat4]
      by_cases h : K < 0
      · rw [if_pos h, Nat.add_assoc, hdrop, hC, itoa_neg h]; rfl
      · rw [if_neg h, Nat.add_zero, hdrop, hC, itoa_pos h]; rfl
    have hg4 : ∀ i, i < m → T.getD (at4 + i) 0 = (dec K.natAbs).getD i 0 := by
      intro i hi
      rw [← hdr4, List.getD_eq_getElem?_getD, List.getD_eq_getElem?_getD, List.getElem?_drop]
    rw [iadd_eq (x := (at1 : Int)) (by omega) (by omega)]
    rw [jb_of (p := ((decide (K < 0), (((at1 + 1 : Nat) : Int), (bs T, (0, (bs (c0 :: rest), ((rest.length : Int), (bs [], (0, (0, (false, ())))))))))), ())) (by
      have hg := hget 1
      rw [hC] at hg
      rw [bs_len, ilt_iff, decide_eq_true (show (at1 : Int) + 1 < T.length by omega), cond_true, ok_of (inB_true (by omega) (by omega)), show (at1 : Int) + 1 = ((at1 + 1 : Nat) : Int) by omega, bs_bt hTb, hg]
      by_cases h : K < 0
      · rw [decide_eq_true h, itoa_neg h]; rfl
      · have hg0 : (101 :: itoa K).getD 1 0 ≠ 45 := by
          rw [itoa_pos h]
          have h9 := isd_iff.1 (dec_isd K.natAbs ((dec K.natAbs).getD 0 0) (by
            rw [List.getD_eq_getElem?_getD, List.getElem?_eq_getElem (by omega)]
            exact List.getElem_mem _))
          show (dec K.natAbs).getD 0 0 ≠ 45
          omega
        rw [decide_eq_false h, beq_f (by omega)])]
    dsimp only
    rw [jb_of (p := ((bs T, ((at4 : Int), (decide (K < 0), (0, (bs (c0 :: rest), ((rest.length : Int), (bs [], (0, (0, (false, ())))))))))), ())) (by
      by_cases h : K < 0
      · rw [decide_eq_true h, cond_true, iadd_eq (by omega) (by omega), hat4, if_pos h]; rfl
      · rw [decide_eq_false h, cond_false, hat4, if_neg h, Nat.add_zero])]
    dsimp only
    have hd4 : ((T.drop at4).takeWhile isd).length = m := by
      have := tw_app (a := dec K.natAbs) (b := []) (dec_isd _) rfl
      rw [List.append_nil] at this
      rw [hdr4, this, hm]
    rw [kd T at4 hTb (by omega) (by omega), hd4]
    simp only [Option.bind_some]
    have hg40 : T.getD at4 0 ≠ 48 := by
      have := hg4 0 (by omega)
      rw [Nat.add_zero] at this
      rw [this]
      exact dec_head (by omega)
    rw [jb_of (p := ((false, ((at4 : Int), ((m : Int), (0, (bs T, (decide (K < 0), (bs (c0 :: rest), ((rest.length : Int), (bs [], (0, (0, (false, ())))))))))))), ())) (by
      have hb4 : (bt (bs T) (at4 : Int) == 48) = false := by rw [bs_bt hTb]; exact beq_f (by omega)
      rw [beq_f (show ¬ (m : Int) = 0 by omega), cond_false, ilt_iff, decide_eq_false (show ¬ (3 : Int) < m by omega), cond_false, bs_len, ok_of (inB_true (by omega) (by omega)), ok_of (inB_true (by omega) (by omega)), hb4]
      cases ilt 1 (m : Int) <;> cases decide (K < 0) <;> rfl)]
    dsimp only
    rw [cond_false]
    refine iter_const (fun s => ∃ i : Nat, s = ((((at4 + i : Nat) : Int), ((at4 : Int), ((m : Int), (((vd 0 ((dec K.natAbs).take i) : Nat) : Int), (bs T, (decide (K < 0), (bs (c0 :: rest), ((rest.length : Int), (bs [], (0, (0, (false, ())))))))))))), ()) ∧ i ≤ m) (fun s => (1000 - s.1.1).toNat) _ ?_ n _ (by simp only; omega) ⟨0, rfl, Nat.zero_le _⟩
    rintro rec _ ⟨i, rfl, hi⟩ ih
    dsimp only
    have htk : ∀ x ∈ (dec K.natAbs).take i, isd x = true := fun x hx => dec_isd _ x (List.mem_of_mem_take hx)
    have hvl := vd_lt _ 0 htk
    have hvl2 : vd 0 ((dec K.natAbs).take i) < 1000 := by
      refine Nat.lt_of_lt_of_le hvl ?_
      have : 10 ^ ((dec K.natAbs).take i).length ≤ 10 ^ 3 := Nat.pow_le_pow_right (by decide) (by rw [List.length_take]; omega)
      omega
    rw [iadd_eq (x := (at4 : Int)) (by omega) (by omega), ilt_iff]
    by_cases h1 : i < m
    · rw [decide_eq_true (by omega), cond_true, bs_len, ok_of (inB_true (by omega) (by omega)), bs_bt hTb, hg4 i h1]
      have h9 := isd_iff.1 (dec_isd K.natAbs ((dec K.natAbs).getD i 0) (by
        rw [List.getD_eq_getElem?_getD, List.getElem?_eq_getElem (by omega)]
        exact List.getElem_mem _))
      have e8 : isub .u8 (((dec K.natAbs).getD i 0 : Nat) : Int) 48 = ((((dec K.natAbs).getD i 0 - 48 : Nat)) : Int) := by
        show IntKind.u8.wrap _ = _
        rw [wrapu8 (by omega) (by omega)]
        omega
      have ev : vd 0 ((dec K.natAbs).take (i + 1)) = vd 0 ((dec K.natAbs).take i) * 10 + ((dec K.natAbs).getD i 0 - 48) := by
        rw [List.take_add_one, List.getElem?_eq_getElem (by omega), vd_app, List.getD_eq_getElem?_getD, List.getElem?_eq_getElem (by omega)]
        rfl
      rw [e8, wrap64 (by omega) (by omega), imul_eq (by omega) (by omega), iadd_eq (by omega) (by omega), iadd_eq (by omega) (by omega)]
      refine ih _ ⟨i + 1, ?_, by omega⟩ (by simp only; omega)
      rw [ev]
      refine Prod.ext (Prod.ext ?_ (Prod.ext rfl (Prod.ext rfl (Prod.ext ?_ rfl)))) rfl
      · simp only; omega
      · show _ = (((vd 0 ((dec K.natAbs).take i) * 10 + ((dec K.natAbs).getD i 0 - 48) : Nat)) : Int)
        rw [Int.natCast_add]; rfl
    · have him : i = m := by omega
      have hv : vd 0 ((dec K.natAbs).take i) = K.natAbs := by rw [him, hm, List.take_length, vd_dec]
      rw [decide_eq_false (by omega), cond_false, hv, ilt_iff, decide_eq_false (by omega), cond_false]
      rw [jb_of (p := (((at4 : Int), ((m : Int), (bs (c0 :: rest), ((rest.length : Int), (K, (bs T, (bs [], (0, (0, (false, ())))))))))), ())) (by
        by_cases h : K < 0
        · rw [decide_eq_true h, cond_true, ineg_eq (by omega) (by omega), show -((K.natAbs : Nat) : Int) = K by omega]
        · rw [decide_eq_false h, cond_false, show ((K.natAbs : Nat) : Int) = K by omega])]
      dsimp only
      rw [iadd_eq (by omega) (by omega), show (at4 : Int) + (m : Int) = (T.length : Int) by omega])]
  dsimp only
  rw [bs_len, show ((((T.length : Nat) : Int)) == ((T.length : Nat) : Int)) = true from by simp]
end Go.Px.Seat

/- Numbers and two infinite ones: their order, sums, products, quotients, powers. -/
namespace Pm
inductive Lm where
  | neg | num (r : Rat) | pos
namespace Lm
def le : Lm → Lm → Prop
  | .neg, _ => True
  | .num _, .neg => False
  | .num r, .num s => r ≤ s
  | .num _, .pos => True
  | .pos, .pos => True
  | .pos, _ => False
instance : LE Lm := ⟨Lm.le⟩
@[simp] theorem neg_le (a : Lm) : Lm.neg ≤ a := trivial
@[simp] theorem le_pos (a : Lm) : a ≤ Lm.pos := by cases a <;> trivial
@[simp] theorem num_le (r s : Rat) : Lm.num r ≤ Lm.num s ↔ r ≤ s := Iff.rfl
@[simp] theorem num_le_neg (r : Rat) : ¬ Lm.num r ≤ Lm.neg := fun h => h
@[simp] theorem pos_le_num (r : Rat) : ¬ Lm.pos ≤ Lm.num r := fun h => h
@[simp] theorem pos_le_neg : ¬ Lm.pos ≤ Lm.neg := fun h => h
theorem trans {a b c : Lm} (h : a ≤ b) (h' : b ≤ c) : a ≤ c := by
  cases a <;> cases b <;> cases c <;> simp_all
  exact Rat.le_trans h h'
def opp : Lm → Lm
  | .neg => .pos | .pos => .neg | .num r => .num (-r)
@[simp] theorem opp_neg : opp .neg = .pos := rfl
@[simp] theorem opp_pos : opp .pos = .neg := rfl
@[simp] theorem opp_num (r : Rat) : opp (.num r) = .num (-r) := rfl
@[simp] theorem opp_opp (a : Lm) : a.opp.opp = a := by cases a <;> simp [Rat.neg_neg]
/-- what is infinite of a sign -/
def inf (n : Int) : Lm := if n < 0 then .neg else if n = 0 then .num 0 else .pos
def sgn : Lm → Int
  | .neg => -1 | .pos => 1 | .num r => if r < 0 then -1 else if r = 0 then 0 else 1
def add : Lm → Lm → Lm
  | .neg, _ => .neg
  | .pos, _ => .pos
  | .num _, .neg => .neg
  | .num _, .pos => .pos
  | .num r, .num s => .num (r + s)
def mul : Lm → Lm → Lm
  | .num r, .num s => .num (r * s)
  | a, b => inf (a.sgn * b.sgn)
/-- by what is above 0 -/
def div : Lm → Lm → Lm
  | _, .pos => .num 0
  | _, .neg => .num 0
  | .num r, .num s => .num (r / s)
  | a, _ => a
theorem mul_comm (a b : Lm) : mul a b = mul b a := by
  cases a <;> cases b <;> simp only [mul] <;> first | rw [Rat.mul_comm] | rw [Int.mul_comm]
@[simp] theorem inf_neg : inf (-1) = .neg := rfl
@[simp] theorem inf_zero : inf 0 = .num 0 := rfl
@[simp] theorem inf_one : inf 1 = .pos := rfl
end Lm
end Pm

/- The float next to a number, down and up. Seat ZD. -/
namespace Pm
open Go.Px.Seat
/-- what a float stands for -/
def lim (w o : Int) : Lm := if o = top w then .pos else if o = -top w then .neg else .num (fv w o)
def rng (w o : Int) : Prop := -top w ≤ o ∧ o ≤ top w
def DnL (w : Int) : Lm → Int → Prop
  | .neg, d => d = -top w
  | .pos, d => d = top w
  | .num r, d => IsDn w r d
theorem DnL.unique {w : Int} {a : Lm} {d e : Int} (h : DnL w a d) (h' : DnL w a e) : d = e := by
  cases a with
  | neg => exact h.trans h'.symm
  | pos => exact h.trans h'.symm
  | num r => exact IsDn.unique h h'
open Classical in
noncomputable def dn (w : Int) (a : Lm) : Int := if h : ∃ d, DnL w a d then choose h else 0
noncomputable def up (w : Int) (a : Lm) : Int := -dn w a.opp
theorem dn_of {w : Int} {a : Lm} {d : Int} (h : DnL w a d) : dn w a = d := by
  unfold dn
  rw [dif_pos ⟨d, h⟩]
  exact DnL.unique (Classical.choose_spec (⟨d, h⟩ : ∃ d, DnL w a d)) h
@[simp] theorem dn_neg' (w : Int) : dn w .neg = -top w := dn_of rfl
@[simp] theorem dn_pos' (w : Int) : dn w .pos = top w := dn_of rfl
@[simp] theorem up_neg' (w : Int) : up w .neg = -top w := by simp [up]
@[simp] theorem up_pos' (w : Int) : up w .pos = top w := by simp [up]
theorem fv_zero' {w : Int} : fv w 0 = 0 := by
  have : fI w 0 = 0 := by simp [fI, fN_zero]
  rw [fv, this, Rat.zero_mkRat]
theorem pok_rng {w lo hi : Int} (h : pok w lo hi = true) : wd w = true ∧ rng w lo ∧ rng w hi ∧ lo ≤ hi ∧ lo < top w ∧ -top w < hi := by
  obtain ⟨h1, h2, h3, h4, h5, h6⟩ := pok_iff.1 h
  unfold rng
  exact ⟨h1, ⟨h2, by omega⟩, ⟨by omega, h5⟩, h6, h3, h4⟩
end Pm

/- Differences and products of spans: the program's. Seat ZD. -/
namespace Pm
open Go.Px.Seat
theorem fin_neg {w o : Int} (h : fin w o) : fin w (-o) := by
  obtain ⟨h1, h2, h3⟩ := h
  exact ⟨h1, by omega, by omega⟩
theorem pok_neg {w a b : Int} (h : pok w a b = true) : pok w (-b) (-a) = true := by
  obtain ⟨h1, h2, h3, h4, h5, h6⟩ := pok_iff.1 h
  exact pok_iff.2 ⟨h1, by omega, by omega, by omega, by omega, by omega⟩
end Pm
namespace Go.Px.Seat
open Go Pm
set_option linter.unusedVariables false
variable {B : Run}
end Go.Px.Seat

/- Limits: the program's. Seat ZD. -/
namespace Pm
open Go.Px.Seat
def li : Lm → Int
  | .neg => -1 | .pos => 1 | .num _ => 0
def lb : Lm → Bool
  | .num r => fb r | _ => false
def lu : Lm → List Int
  | .num r => ft r | _ => []
def lv : Lm → List Int
  | .num r => fq r | _ => []
/-- a limit as the program has it -/
def outL (a : Lm) : Int × (Bool × (List Int × (List Int × Unit))) := (li a, (lb a, (lu a, (lv a, ()))))
def shL (k : Nat) : Lm → Prop
  | .num r => short k r | _ => True
theorem inv_sg {s : Rat} (hs : s ≠ 0) : s⁻¹ = mkRat (sg (fb s) s.den) s.num.natAbs := by
  rw [Rat.inv_def, ← Rat.divInt_ofNat]
  have h := sg_num s
  cases hb : fb s <;> rw [hb] at h
  · have h' : (s.num.natAbs : Int) = s.num := h
    rw [h']; rfl
  · have h' : -(s.num.natAbs : Int) = s.num := h
    rw [show s.num = -(s.num.natAbs : Int) from h'.symm, Rat.divInt_neg', Int.natAbs_neg, Int.natAbs_natCast]
    rfl
theorem div_sg {r s : Rat} (hs : s ≠ 0) : r / s = mkRat (sg (fb r != fb s) (r.num.natAbs * s.den)) (r.den * s.num.natAbs) := by
  rw [Rat.div_def, inv_sg hs, sg_mul, ← Rat.mkRat_mul_mkRat, mk_self]
end Pm
namespace Go.Px.Seat
open Go Pm
set_option linter.unusedVariables false
variable {B : Run}
end Go.Px.Seat

/- What is reckoned of spans. -/
namespace Pm
open Go.Px.Seat
/-- ok, and not empty -/
def ok1 (w : Int) (a : Sp) : Bool := a.1 && spk w a
noncomputable def addS (w : Int) (a b : Sp) : Sp := if both w a b = true then sp (dn w (Lm.add (lim w a.2.1) (lim w b.2.1))) (up w (Lm.add (lim w a.2.2.1) (lim w b.2.2.1))) else spn
def negS (w : Int) (a : Sp) : Sp := if ok1 w a = true then sp (-a.2.2.1) (-a.2.1) else spn
noncomputable def subS (w : Int) (a b : Sp) : Sp := addS w a (negS w b)
def hullS (w : Int) (a b : Sp) : Sp := if (spk w a && spk w b) = true then (if a.1 = true then (if b.1 = true then sp (min a.2.1 b.2.1) (max a.2.2.1 b.2.2.1) else a) else b) else spn
def minS (w : Int) (a b : Sp) : Sp := if both w a b = true then sp (min a.2.1 b.2.1) (min a.2.2.1 b.2.2.1) else spn
def maxS (w : Int) (a b : Sp) : Sp := if both w a b = true then sp (max a.2.1 b.2.1) (max a.2.2.1 b.2.2.1) else spn
def absS (w : Int) (a : Sp) : Sp := if ok1 w a = true then sp (max (max 0 a.2.1) (-a.2.2.1)) (max (a.2.1.natAbs : Int) (a.2.2.1.natAbs : Int)) else spn
def stp (o : Sp) (d u : Int) : Sp := if o.1 = true then sp (min o.2.1 d) (max o.2.2.1 u) else sp d u
noncomputable def stm (w : Int) (o : Sp) (x y : Int) : Sp := stp o (dn w (Lm.mul (lim w x) (lim w y))) (up w (Lm.mul (lim w x) (lim w y)))
noncomputable def mulS (w : Int) (a b : Sp) : Sp := if both w a b = true then stm w (stm w (stm w (stm w spn a.2.1 b.2.1) a.2.1 b.2.2.1) a.2.2.1 b.2.1) a.2.2.1 b.2.2.1 else spn
open Classical in
/-- the lower end of quotients by what is above 0 -/
noncomputable def qlo (l bl bh : Lm) : Lm := if Lm.num 0 ≤ l then Lm.div l bh else if bl ≤ Lm.num 0 then .neg else Lm.div l bl
open Classical in
noncomputable def qhi (h bl bh : Lm) : Lm := if h ≤ Lm.num 0 then Lm.div h bh else if bl ≤ Lm.num 0 then .pos else Lm.div h bl
noncomputable def quotS (w : Int) (a b : Sp) : Sp := if b.2.2.1 ≤ 0 then spn else
  sp (dn w (qlo (lim w a.2.1) (lim w b.2.1) (lim w b.2.2.1))) (up w (qhi (lim w a.2.2.1) (lim w b.2.1) (lim w b.2.2.1)))
def parts (w : Int) (p q : Sp) : Sp × Sp :=
  if (p.1 && q.1 && decide (p.2.2.1 < q.2.1)) = true then (p, q) else if (p.1 && q.1 && decide (q.2.2.1 < p.2.1)) = true then (q, p) else (hullS w p q, spn)
noncomputable def divTwoS (w : Int) (a b : Sp) : Sp × Sp := if both w a b = true then parts w (quotS w a b) (quotS w (negS w a) (negS w b)) else (spn, spn)
noncomputable def divS (w : Int) (a b : Sp) : Sp := hullS w (divTwoS w a b).1 (divTwoS w a b).2
/-- its parts -/
def out2 (p : Sp × Sp) : Bool × (Int × (Int × (Bool × (Int × (Int × Unit))))) := (p.1.1, (p.1.2.1, (p.1.2.2.1, (p.2.1, (p.2.2.1, (p.2.2.2.1, ()))))))
theorem ok1_sp {w lo hi : Int} : ok1 w (sp lo hi) = pok w lo hi := by unfold ok1; simp [sp, spk]
end Pm

/- What is reckoned of spans: the program's. Seat ZD. -/
namespace Go.Px.Seat
open Go Pm
set_option linter.unusedVariables false
variable {B : Run}
end Go.Px.Seat

/- Quotients of spans: the program's. Seat ZD. -/
namespace Pm
open Go.Px Go.Px.Seat
/-- a quotient by what is next to 0 -/
def near (l bl : Lm) (p : Bool) : Lm := if p = true then Lm.div l bl else if l.sgn = 0 then l else Lm.inf l.sgn
theorem zero_div (a : Lm) : Lm.div (.num 0) a = .num 0 := by
  cases a with
  | neg => rfl
  | pos => rfl
  | num s => simp only [Lm.div, Rat.div_def, Rat.zero_mul]
end Pm
namespace Go.Px.Seat
open Go Pm
set_option linter.unusedVariables false
variable {B : Run}
end Go.Px.Seat

/- Quotients with infinite ones; what spans leave in. -/
namespace Pm
open Go.Px Go.Px.Seat
namespace Lm
end Lm
end Pm

/- What is reckoned of spans: the reference's. Seat ZD. -/
namespace Pm
open Go.Px Go.Px.Seat
noncomputable def du (w : Int) (u : Bool) (a : Lm) : Int := if u = true then up w a else dn w a
end Pm
namespace Go.Px.Seat
open Go Pm
set_option linter.unusedVariables false
variable {B : Run}
end Go.Px.Seat

/- What lies in spans; spans in spans. -/
namespace Pm
open Go.Px Go.Px.Seat
/-- a number in a span -/
def psI (w : Int) (s : Sp) (r : Rat) : Bool := s.1 && (pok w s.2.1 s.2.2.1 && inn w s.2.1 s.2.2.1 r)
def memS (w : Int) (s : Sp) (r : Rat) : Prop := ∃ lo hi, s = sp lo hi ∧ pok w lo hi = true ∧ lim w lo ≤ .num r ∧ .num r ≤ lim w hi
theorem memS.ok1 {w : Int} {s : Sp} {r : Rat} (h : memS w s r) : ok1 w s = true := by
  obtain ⟨lo, hi, rfl, h1, _⟩ := h
  rwa [ok1_sp]
theorem memS.wd {w : Int} {s : Sp} {r : Rat} (h : memS w s r) : wd w = true := by
  obtain ⟨lo, hi, rfl, h1, _⟩ := h
  exact (pok_rng h1).1
end Pm

/- Powers of spans: the program's. Seat ZD. -/
namespace Pm
open Go.Px Go.Px.Seat
def powL (a : Lm) (n : Nat) : Lm := if n = 0 then .num 1 else match a with
  | .num r => .num (r ^ n)
  | .pos => .pos
  | .neg => if n % 2 = 0 then .pos else .neg
open Classical in
noncomputable def powS (w : Int) (a : Sp) (n : Int) : Sp := if ok1 w a = true ∧ 0 ≤ n ∧ n ≤ 8 then
    sp (dn w (powL (lim w (if n % 2 = 0 then absS w a else a).2.1) n.toNat)) (up w (powL (lim w (if n % 2 = 0 then absS w a else a).2.2.1) n.toNat)) else spn
end Pm
namespace Go.Px.Seat
open Go Pm
set_option linter.unusedVariables false
variable {B : Run}
end Go.Px.Seat

/- Roots of floats: the program's. Seat ZD. -/
namespace Pm
open Go.Px Go.Px.Seat
theorem rat_pow_le {x y : Rat} (hx : 0 ≤ x) (h : x ≤ y) : ∀ n : Nat, x ^ n ≤ y ^ n
  | 0 => by rw [Rat.pow_zero, Rat.pow_zero]; exact Rat.le_refl
  | n + 1 => by
    rw [Rat.pow_succ, Rat.pow_succ]
    have hy : 0 ≤ y := Rat.le_trans hx h
    have h1 := rat_pow_le hx h n
    have h2 : 0 ≤ y ^ n := Rat.pow_nonneg hy
    exact Rat.le_trans (Rat.mul_le_mul_of_nonneg_right h1 hx) (Rat.mul_le_mul_of_nonneg_left h h2)
theorem fv_nonneg {w o : Int} (h : 0 ≤ o) : 0 ≤ fv w o := by
  rw [← fv_zero' (w := w)]; exact fv_le.2 h
/-- the greatest float whose power is not above -/
def IsRt (w a : Int) (n : Nat) (d : Int) : Prop := 0 ≤ d ∧ d < top w ∧ fv w d ^ n ≤ fv w a ∧ (d = top w - 1 ∨ fv w a < fv w (d + 1) ^ n)
theorem IsRt.le {w a : Int} {n : Nat} {d : Int} (h : IsRt w a n d) (hn : n ≠ 0) {o : Int} (h0 : 0 ≤ o) (h1 : o < top w) : o ≤ d ↔ fv w o ^ n ≤ fv w a := by
  obtain ⟨a1, a2, a3, a4⟩ := h
  constructor
  · intro hod
    exact Rat.le_trans (rat_pow_le (fv_nonneg h0) (fv_le.2 hod) n) a3
  · intro ho
    rcases a4 with h | h
    · omega
    · refine Int.not_lt.1 fun h' => ?_
      have := rat_pow_le (fv_nonneg (w := w) (show 0 ≤ d + 1 by omega)) (fv_le.2 (show d + 1 ≤ o by omega)) n
      exact absurd (Rat.le_trans this ho) (Rat.not_le.2 h)
theorem IsRt.unique {w a : Int} {n : Nat} {d e : Int} (hn : n ≠ 0) (h : IsRt w a n d) (h' : IsRt w a n e) : d = e := by
  have h1 := (h.le hn h'.1 h'.2.1).2 h'.2.2.1
  have h2 := (h'.le hn h.1 h.2.1).2 h.2.2.1
  omega
open Classical in
noncomputable def rt (w a : Int) (n : Nat) : Int := if h : ∃ d, IsRt w a n d then choose h else 0
/-- down and up, of what is from 0 on -/
noncomputable def rdn0 (w a : Int) (n : Nat) : Int := if a = top w then top w else rt w a n
open Classical in
noncomputable def rup0 (w a : Int) (n : Nat) : Int := if a = top w then top w else if fv w (rt w a n) ^ n = fv w a then rt w a n else rt w a n + 1
noncomputable def rdn (w a : Int) (n : Nat) : Int := if a < 0 then -rup0 w (-a) n else rdn0 w a n
noncomputable def rup (w a : Int) (n : Nat) : Int := if a < 0 then -rdn0 w (-a) n else rup0 w a n
noncomputable def rootS (w : Int) (a : Sp) : Sp := if (meet w a (sp 0 (top w))).1 = true then sp (rdn0 w (meet w a (sp 0 (top w))).2.1 2) (rup0 w (meet w a (sp 0 (top w))).2.2.1 2) else spn
/-! ### a power by its length -/
end Pm
namespace Go.Px.Seat
open Go Pm
set_option linter.unusedVariables false
variable {B : Run}
end Go.Px.Seat

/- Backward over a product: both sides; bytes turned round. Seat ZD. -/
namespace Pm
open Go.Px Go.Px.Seat
/-- has 0 -/
def nuS (s : Sp) : Bool := decide (s.2.1 ≤ 0 ∧ 0 ≤ s.2.2.1)
def three (w : Int) (z y x : Sp) : Bool := ok1 w z && (ok1 w y && ok1 w x)
noncomputable def bparts (w : Int) (z y x : Sp) : Sp × Sp := (meet w x (divTwoS w z y).1, meet w x (divTwoS w z y).2)
noncomputable def bmulS (w : Int) (z y x : Sp) : Sp := if three w z y x = true then (if (nuS z && nuS y) = true then x else hullS w (bparts w z y x).1 (bparts w z y x).2) else spn
noncomputable def gapS (w : Int) (z y x : Sp) : Int × (Int × (Bool × Unit)) :=
  if (three w z y x && (!(nuS z && nuS y) && ((bparts w z y x).1.1 && (bparts w z y x).2.1))) = true then ((bparts w z y x).1.2.2.1, ((bparts w z y x).2.2.1, (true, ()))) else (0, (0, (false, ())))
end Pm
namespace Go.Px.Seat
open Go Pm
set_option linter.unusedVariables false
variable {B : Run}
end Go.Px.Seat

/- Roots of spans: the program's. Seat ZD. -/
namespace Pm
open Go.Px Go.Px.Seat
end Pm
namespace Pm
open Go.Px Go.Px.Seat
end Pm
namespace Go.Px.Seat
open Go Pm
set_option linter.unusedVariables false
variable {B : Run}
end Go.Px.Seat

/- More makes more: what is reckoned of spans within spans. Seat ZD. -/
namespace Pm
open Go.Px Go.Px.Seat
/-- a span in a span -/
def isS (a b : Sp) : Bool := !a.1 || (b.1 && decide (b.2.1 ≤ a.2.1 ∧ a.2.2.1 ≤ b.2.2.1))
structure Sub (w a1 a2 x1 x2 : Int) : Prop where
  pa : pok w a1 a2 = true
  px : pok w x1 x2 = true
  l : a1 ≤ x1
  r : x2 ≤ a2
variable {w a1 a2 x1 x2 b1 b2 y1 y2 : Int}
theorem Sub.neg (h : Sub w a1 a2 x1 x2) : Sub w (-a2) (-a1) (-x2) (-x1) := ⟨pok_neg h.pa, pok_neg h.px, by have := h.r; omega, by have := h.l; omega⟩
end Pm

/- The least and the greatest of some numbers, rounded outward. No program here. -/
namespace Pm
/-- o goes from the float below the least of S to the float above the greatest -/
def Best (w : Int) (S : List Rat) (o : Sp) : Prop := o.1 = true ∧ (∃ r ∈ S, (∀ s ∈ S, r ≤ s) ∧ IsDn w r o.2.1) ∧ (∃ r ∈ S, (∀ s ∈ S, s ≤ r) ∧ IsDn w (-r) (-o.2.2.1))
theorem Best.one {w d u : Int} {r : Rat} (h1 : IsDn w r d) (h2 : IsDn w (-r) (-u)) : Best w [r] (sp d u) :=
  ⟨rfl, ⟨r, by simp, fun s hs => by rw [List.mem_singleton.1 hs]; exact Rat.le_refl, h1⟩, ⟨r, by simp, fun s hs => by rw [List.mem_singleton.1 hs]; exact Rat.le_refl, h2⟩⟩
theorem Best.more {w d u : Int} {s : Rat} {S : List Rat} {o : Sp} (h : Best w S o) (h1 : IsDn w s d) (h2 : IsDn w (-s) (-u)) : Best w (s :: S) (sp (min o.2.1 d) (max o.2.2.1 u)) := by
  obtain ⟨_, ⟨r, hr, hle, hd⟩, ⟨r', hr', hge, hu⟩⟩ := h
  refine ⟨rfl, ?_, ?_⟩
  · rcases (Rat.le_total : r ≤ s ∨ s ≤ r) with hrs | hrs
    · refine ⟨r, List.mem_cons_of_mem _ hr, fun x hx => ?_, ?_⟩
      · rcases List.mem_cons.1 hx with rfl | hx
        · exact hrs
        · exact hle x hx
      · have := hd.mono h1 hrs
        show IsDn w r (min o.2.1 d)
        rw [Int.min_eq_left this]; exact hd
    · refine ⟨s, List.mem_cons_self .., fun x hx => ?_, ?_⟩
      · rcases List.mem_cons.1 hx with rfl | hx
        · exact Rat.le_refl
        · exact Rat.le_trans hrs (hle x hx)
      · have := h1.mono hd hrs
        show IsDn w s (min o.2.1 d)
        rw [Int.min_eq_right this]; exact h1
  · rcases (Rat.le_total : s ≤ r' ∨ r' ≤ s) with hrs | hrs
    · refine ⟨r', List.mem_cons_of_mem _ hr', fun x hx => ?_, ?_⟩
      · rcases List.mem_cons.1 hx with rfl | hx
        · exact hrs
        · exact hge x hx
      · have := hu.mono h2 (by grind)
        show IsDn w (-r') (-(max o.2.2.1 u))
        rw [Int.max_eq_left (by omega)]; exact hu
    · refine ⟨s, List.mem_cons_self .., fun x hx => ?_, ?_⟩
      · rcases List.mem_cons.1 hx with rfl | hx
        · exact Rat.le_refl
        · exact Rat.le_trans (hge x hx) hrs
      · have := h2.mono hu (by grind)
        show IsDn w (-s) (-(max o.2.2.1 u))
        rw [Int.max_eq_right (by omega)]; exact h2
end Pm

/- Products of spans: the program's. Seat ZD. -/
namespace Go.Px.Seat
open Go Pm
set_option linter.unusedVariables false
variable {B : Run}
def Bst (w : Int) (S : List Rat) (o : Sp) : Prop := (S = [] ∧ o = spn) ∨ Best w S o
end Go.Px.Seat

/- Helpers of the law on tight spans. Seat ZD. -/
namespace Go.Px.Seat
open Go Pm
set_option linter.unusedVariables false
variable {B : Run}
theorem k_sFloatFracNo : Ev fun n => ∀ w o : Int, ¬ fin w o → c_s_FloatFrac ((C B).run n) w o = some (false, ([], ([], (false, ())))) := by
  refine (k_sPartNo (B := B)).succ fun n hn hP w o h => ?_
  rw [run_succ, e_s_FloatFrac]
  unfold p_s_FloatFrac
  rw [hP w o h]
  rfl
end Go.Px.Seat

/- The law on both parts of a quotient: what its function comes to. Seat ZD. -/
namespace Pm
open Go.Px Go.Px.Seat
def hf : Rat := mkRat 1 2
theorem sgnR_zero {r : Rat} : sgnR r = 0 ↔ r = 0 := by
  unfold sgnR
  split
  · rename_i h
    constructor
    · intro h'; omega
    · intro h'; subst h'; exact absurd h (by decide)
  · split <;> simp_all
end Pm
namespace Go.Px.Seat
open Go Pm
set_option linter.unusedVariables false
variable {B : Run}
theorem k_sSign : Ev fun n => ∀ r : Rat, fits r → c_s_FracSign ((C B).run n) (fb r) (ft r) (fq r) = some (sgnR r, ()) := by
  refine (k_sFracOk (B := B)).succ fun n hn hO r hr => ?_
  rw [run_succ, e_s_FracSign]
  unfold p_s_FracSign
  rw [hO, fok_fr, decide_eq_true hr]
  simp only [Option.bind_some, Bool.not_true, cond_false, jb_inr, len_zero_iff]
  unfold sgnR
  by_cases h0 : r = 0
  · subst h0
    have : ft 0 = [] := ft_nil.2 rfl
    rw [this]; rfl
  · have : (ft r).isEmpty = false := by
      cases h : (ft r).isEmpty
      · rfl
      · exact absurd (ft_nil.1 (List.isEmpty_iff.1 h)) h0
    rw [this, cond_false, fb_iff]
    by_cases hl : r < 0
    · rw [decide_eq_true hl, if_pos hl]; rfl
    · rw [decide_eq_false hl, if_neg hl, if_neg h0]; rfl
end Go.Px.Seat

/- The law on tight spans: the loop at its end. Seat ZD. -/
namespace Go.Px.Seat
open Go Pm
set_option linter.unusedVariables false
variable {B : Run}
/-- a fraction as one of a list -/
def inF (r : Rat) : Bool × (List Int × (List Int × Unit)) := (fb r, (ft r, (fq r, ())))
/-- the least and the greatest so far -/
def mnF (r s : Rat) : Rat := if s < r then s else r
def mxF (r s : Rat) : Rat := if r < s then s else r
end Go.Px.Seat
