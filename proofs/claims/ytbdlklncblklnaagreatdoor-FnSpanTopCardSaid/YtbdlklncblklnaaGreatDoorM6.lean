/- Own texts, part M6: PmZ PmZa PmZb PmZc PmZd PmZe PnC PnD PnE PnF PnG. -/
import Derived.Test.YtbdlklncblklnaaGreatDoorM5
set_option linter.unusedVariables false

/- A float made of its parts: the program's. Seat ZD. -/
namespace Pm
open Go.Px.Seat
theorem ctz_dvd : ∀ (f x : Nat), x ≠ 0 → x < 2 ^ f → 2 ^ ctz f x ∣ x ∧ ctz f x < f
  | 0, x, h, h' => by simp at h'; omega
  | f + 1, x, h, h' => by
    unfold ctz
    by_cases h1 : x % 2 = 1
    · rw [if_pos h1]
      exact ⟨Nat.one_dvd _, by omega⟩
    · rw [if_neg h1]
      rw [Nat.pow_succ] at h'
      obtain ⟨h2, h3⟩ := ctz_dvd f (x / 2) (by omega) (by omega)
      refine ⟨?_, by omega⟩
      rw [Nat.pow_succ]
      obtain ⟨c, hc⟩ := h2
      refine ⟨c, ?_⟩
      rw [Nat.mul_assoc, Nat.mul_comm 2 c, ← Nat.mul_assoc, ← hc]
      omega
theorem bias_of {w : Int} (h : wd w = true) : ∃ b : Nat, (fmt w).2.2.1 = (b : Int) ∧ lst w + 1 = b + frw w ∧ top w = ((2 * b + 1 : Nat) : Int) * ((2 ^ frw w : Nat) : Int) ∧ b ≤ 1023 ∧ 1 ≤ b ∧ 1 ≤ frw w := by
  rcases of_decide_eq_true h with h | h <;> subst h
  · exact ⟨127, rfl, rfl, rfl, by omega, by omega, by decide⟩
  · exact ⟨1023, rfl, rfl, rfl, by omega, by omega, by decide⟩
end Pm
namespace Go.Px.Seat
open Go Pm
set_option linter.unusedVariables false
variable {B : Run}
theorem ishlu_eq {x k : Nat} (hk : k ≤ 64) (h : x * 2 ^ k < 18446744073709551616) : ishl .u64 (x : Int) (k : Int) = ((x * 2 ^ k : Nat) : Int) := by
  have : min ((k : Int)).toNat (IntKind.bits .u64) = k := by simp [IntKind.bits]; omega
  rw [ishl, this]
  have e : (x : Int) * 2 ^ k = ((x * 2 ^ k : Nat) : Int) := by simp
  rw [e, wrapu64 (by omega) (by omega)]
theorem k_Make : Ev fun n => ∀ (w pw : Int) (Q : Nat), wd w = true → Q < 2 ^ (frw w + 1) → -(lst w : Int) ≤ pw → (pw = -(lst w : Int) ∨ 2 ^ frw w ≤ Q) → pw ≤ 1000000 →
    c_i_BitMake ((C B0).run n) w false (Q : Int) pw = some (if (((pw + lst w).toNat * 2 ^ frw w + Q : Nat) : Int) < top w then ((((pw + lst w).toNat * 2 ^ frw w + Q : Nat) : Int), (true, ())) else (0, (false, ()))) := by
  refine ((k_fmt (B := B0)).and ((k_in (B := B0)).and (k_tz.and (k_Len64 (B := B0))))).succ fun n hn ⟨hF, hI, hZ, hL⟩ w pw Q hw hQ hp1 hp2 hp3 => ?_
  rw [run_succ, e_i_BitMake]
  unfold p_i_BitMake
  have hfl := frw_le w
  have hll : lst w ≤ 1074 := by unfold lst; split <;> omega
  have htp := top_pos hw
  have htn := top_nonneg w
  obtain ⟨b, hb1, hb2, hb3, hb4, hb5, hb6⟩ := bias_of hw
  have hU : 0 < 2 ^ frw w := Nat.pow_pos (by decide)
  have hU2 : 2 ^ frw w ≤ 2 ^ 52 := Nat.pow_le_pow_right (by decide) hfl
  have hQ' := hQ
  rw [Nat.pow_succ] at hQ'
  rw [hF, fmt_of hw, hb1]
  simp only [Option.bind_some, Bool.not_true, cond_false]
  rw [hI]
  simp only [Option.bind_some, jb_inr]
  obtain ⟨e, he⟩ : ∃ e : Nat, pw + lst w = (e : Int) := ⟨(pw + lst w).toNat, by omega⟩
  have het : (pw + lst w).toNat = e := by omega
  rw [het]
  have hm0 : ((e * 2 ^ frw w + Q : Nat) : Int) = (e : Int) * ((2 ^ frw w : Nat) : Int) + (Q : Int) := by rw [Int.natCast_add, Int.natCast_mul]
  by_cases hr : -2000 ≤ pw ∧ pw ≤ 2000
  · rw [decide_eq_true hr, Bool.not_true, cond_false]
    by_cases hQ0 : Q = 0
    · subst hQ0
      have hpe : pw = -(lst w : Int) := hp2.resolve_right (by omega)
      have he0 : e = 0 := by omega
      subst he0
      rw [if_pos (by simp; omega)]
      simp
    · rw [beq_f (by omega), cond_false, hZ _ (by simp only [Nat.reducePow] at hU2; omega)]
      simp only [Option.bind_some]
      obtain ⟨hz1, hz2⟩ := ctz_dvd 64 Q hQ0 (by simp only [Nat.reducePow] at hU2; omega)
      generalize ctz 64 Q = z at *
      obtain ⟨od, hod⟩ := hz1
      have hz0 : 0 < 2 ^ z := Nat.pow_pos (by decide)
      have hdiv : Q / 2 ^ z = od := by rw [hod, Nat.mul_div_cancel_left _ hz0]
      have hod0 : od ≠ 0 := fun h => hQ0 (by rw [hod, h, Nat.mul_zero])
      have hbl : bl Q = z + bl od := by
        have := bl_shift Q z (by rw [hdiv]; exact hod0)
        rwa [hdiv] at this
      have hodQ : od ≤ Q := by rw [hod]; exact Nat.le_mul_of_pos_left _ hz0
      have hblQ : bl Q ≤ frw w + 1 := bl_le.2 hQ
      have hsh : ishr .u64 (Q : Int) (z : Int) = (od : Int) := by
        rw [ishru_eq (by omega)]
        have : ((2 : Int) ^ z) = ((2 ^ z : Nat) : Int) := by simp
        rw [this, ← Int.natCast_ediv, hdiv]
      have hblod : bl od ≠ 0 := mt bl_eq_zero.1 hod0
      have hQ64 : Q < 9223372036854775808 := by simp only [Nat.reducePow] at hU2; omega
      rw [show ile 0 (z : Int) = true by simp, ok_true, hsh, hL _ (by omega)]
      simp only [Option.bind_some, ilt_iff]
      have x1 : iadd .i64 (frw w : Int) 1 = (frw w : Int) + 1 := iadd_eq (by omega) (by omega)
      have x2 : iadd .i64 pw (z : Int) = pw + z := iadd_eq (by omega) (by omega)
      have x3 : iadd .i64 (pw + z) (bl od : Int) = pw + z + bl od := iadd_eq (by omega) (by omega)
      have x4 : isub .i64 (pw + z + bl od) 1 = pw + z + bl od - 1 := isub_eq (by omega) (by omega)
      rw [x1, x2, x3, x4, decide_eq_false (show ¬ (frw w : Int) + 1 < (bl od : Int) by omega), cond_false, decide_eq_false (show ¬ pw + (z : Int) < -(lst w : Int) by omega), cond_false, jb_inr]
      simp only
      by_cases hov : (b : Int) < pw + z + bl od - 1
      · rw [decide_eq_true hov, cond_true, if_neg]
        have hge : 2 ^ frw w ≤ Q := by
          rcases hp2 with h | h
          · exfalso; omega
          · exact h
        rw [hm0, hb3]
        have h3 : ((2 * b : Nat) : Int) * ((2 ^ frw w : Nat) : Int) ≤ (e : Int) * ((2 ^ frw w : Nat) : Int) := Int.mul_le_mul_of_nonneg_right (by omega) (by omega)
        have h4 : ((2 * b + 1 : Nat) : Int) * ((2 ^ frw w : Nat) : Int) = ((2 * b : Nat) : Int) * ((2 ^ frw w : Nat) : Int) + ((2 ^ frw w : Nat) : Int) := by rw [Int.natCast_add, Int.add_mul]; simp
        omega
      · rw [decide_eq_false hov, cond_false]
        have hmul : od * 2 ^ z = Q := by rw [Nat.mul_comm]; exact hod.symm
        have hshl : ishl .u64 (od : Int) (z : Int) = (Q : Int) := by
          rw [ishlu_eq (by omega) (by omega), hmul]
        have x5 : iadd .i64 (pw + z + bl od - 1) (b : Int) = pw + z + bl od - 1 + b := iadd_eq (by omega) (by omega)
        have x6 : isub .i64 ((frw w : Int) + 1) (bl od : Int) = (frw w : Int) + 1 - bl od := isub_eq (by omega) (by omega)
        have x7 : isub .i64 (pw + z) (-(lst w : Int)) = pw + z + lst w := by rw [isub_eq (by omega) (by omega)]; omega
        rw [x5, x1, x6, x7]
        by_cases hge : 2 ^ frw w ≤ Q
        · have hbe : bl Q = frw w + 1 := by
            have h5 : ¬ bl Q ≤ frw w := fun h => by have := bl_le.1 h; omega
            omega
          have hfld : pw + z + bl od - 1 + b = ((e + 1 : Nat) : Int) := by omega
          have hzz : (frw w : Int) + 1 - bl od = (z : Int) := by omega
          rw [hfld, hzz, hshl, wrap64 (by omega) (by omega)]
          have he2 : e + 1 ≤ 2 * b := by omega
          have h3 : (e + 1) * 2 ^ frw w ≤ 2 * b * 2 ^ frw w := Nat.mul_le_mul_right _ he2
          have h6 : 2 * b * 2 ^ frw w + 2 ^ frw w = (2 * b + 1) * 2 ^ frw w := by rw [Nat.add_mul, Nat.one_mul]
          have h7 : ((2 * b + 1) * 2 ^ frw w : Nat) = (top w).toNat := by rw [hb3, ← Int.natCast_mul]; rfl
          have h8 : (e + 1) * 2 ^ frw w = e * 2 ^ frw w + 2 ^ frw w := by rw [Nat.add_mul, Nat.one_mul]
          have hmr : Q % 2 ^ frw w = Q - 2 ^ frw w := by
            rw [Nat.mod_eq_sub_mod hge, Nat.mod_eq_of_lt (by omega)]
          have hcast : ((2 : Int) ^ frw w) = ((2 ^ frw w : Nat) : Int) := by simp
          have y1 : ishl .i64 ((e + 1 : Nat) : Int) (frw w : Int) = (((e + 1) * 2 ^ frw w : Nat) : Int) := by
            have h9 : ((e + 1 : Nat) : Int) * 2 ^ frw w = (((e + 1) * 2 ^ frw w : Nat) : Int) := by rw [hcast, Int.natCast_mul]
            rw [ishl_eq (by omega) (by rw [h9]; omega) (by rw [h9]; omega), h9]
          have y2 : iand .i64 (Q : Int) (isub .i64 (ishl .i64 1 (frw w : Int)) 1) = ((Q - 2 ^ frw w : Nat) : Int) := by
            have h9 : isub .i64 (ishl .i64 1 (frw w : Int)) 1 = (2 : Int) ^ frw w - 1 := by
              rw [shl_one _ (by omega), hcast]
              simp only [Nat.reducePow] at hU2
              exact isub_eq (by omega) (by omega)
            rw [h9, iand_mask (by omega) (by omega) (by omega), hcast, ← Int.natCast_emod, hmr]
          have y3 : ior .i64 (((e + 1) * 2 ^ frw w : Nat) : Int) ((Q - 2 ^ frw w : Nat) : Int) = ((e * 2 ^ frw w + Q : Nat) : Int) := by
            rw [ior_eq (by omega) (by omega)]
            have h9 := Nat.two_pow_add_eq_or_of_lt (show Q - 2 ^ frw w < 2 ^ frw w by omega) (e + 1)
            rw [Nat.mul_comm] at h9
            rw [← h9]
            omega
          rw [show ile 1 ((e + 1 : Nat) : Int) = true by simp; omega, cond_true, show ile 0 (frw w : Int) = true by simp, show ile 0 (z : Int) = true by simp, y1, y2, y3]
          simp only [ok_true, jb_inr, cond_false]
          rw [if_pos (by omega)]
        · have hpe : pw = -(lst w : Int) := hp2.resolve_right hge
          have he0 : e = 0 := by omega
          subst he0
          have hbe : bl Q ≤ frw w := bl_le.2 (by omega)
          rw [show ile 1 (pw + z + bl od - 1 + b) = false by simp; omega, cond_false]
          rw [show pw + z + lst w = (z : Int) by omega, show ile 0 (z : Int) = true by simp, ok_true, hshl, wrap64 (by omega) (by omega)]
          simp only [jb_inr, cond_false]
          rw [Nat.zero_mul, Nat.zero_add, if_pos]
          rw [hb3]
          have h3 : ((1 : Nat) : Int) * ((2 ^ frw w : Nat) : Int) ≤ ((2 * b + 1 : Nat) : Int) * ((2 ^ frw w : Nat) : Int) := Int.mul_le_mul_of_nonneg_right (by omega) (by omega)
          omega
  · rw [decide_eq_false hr, Bool.not_false, cond_true, if_neg]
    rw [hm0, hb3]
    have h3 : ((2 * b + 1 : Nat) : Int) * ((2 ^ frw w : Nat) : Int) ≤ (e : Int) * ((2 ^ frw w : Nat) : Int) := Int.mul_le_mul_of_nonneg_right (by omega) (by omega)
    omega
end Go.Px.Seat

/- The float below a number: the program's. Seat ZD. -/
namespace Pm
open Go.Px.Seat
theorem scR_half {p q : Nat} (hq : q ≠ 0) (s : Int) : scR p q (s - 1) = 0 ↔ scR p q s = 0 ∧ scQ p q s % 2 = 0 := by
  unfold scQ scR
  by_cases h : 1 ≤ s
  · obtain ⟨k, rfl⟩ : ∃ k : Nat, s = (k : Int) + 1 := ⟨(s - 1).toNat, by omega⟩
    rw [if_pos (by omega), if_pos (by omega), if_pos (by omega), show ((k : Int) + 1 - 1).toNat = k by omega, show ((k : Int) + 1).toNat = k + 1 by omega, Nat.pow_succ, ← Nat.mul_assoc]
    generalize p * 2 ^ k = x
    constructor
    · intro h1
      obtain ⟨c, rfl⟩ := Nat.dvd_of_mod_eq_zero h1
      have e : q * c * 2 = q * (c * 2) := Nat.mul_assoc ..
      rw [e, Nat.mul_mod_right, Nat.mul_div_cancel_left _ (Nat.pos_of_ne_zero hq)]
      exact ⟨rfl, by omega⟩
    · rintro ⟨h1, h2⟩
      obtain ⟨d, hd⟩ := Nat.dvd_of_mod_eq_zero h1
      rw [hd, Nat.mul_div_cancel_left _ (Nat.pos_of_ne_zero hq)] at h2
      obtain ⟨c, rfl⟩ : ∃ c, d = c * 2 := ⟨d / 2, by omega⟩
      rw [← Nat.mul_assoc] at hd
      have : x = q * c := by omega
      rw [this, Nat.mul_mod_right]
  · obtain ⟨k, rfl⟩ : ∃ k : Nat, s = -(k : Int) := ⟨(-s).toNat, by omega⟩
    have h1 : (-(-(k : Int) - 1)).toNat = k + 1 := by omega
    have h2 : (- -(k : Int)).toNat = k := by omega
    have key : p % (q * 2 ^ k * 2) = 0 ↔ p % (q * 2 ^ k) = 0 ∧ p / (q * 2 ^ k) % 2 = 0 := by
      have hD : 0 < q * 2 ^ k := Nat.mul_pos (Nat.pos_of_ne_zero hq) (Nat.pow_pos (by decide))
      rw [Nat.mod_mul]
      generalize q * 2 ^ k = D at *
      constructor
      · intro h
        refine ⟨by omega, ?_⟩
        have : D * (p / D % 2) = 0 := by omega
        rcases Nat.mul_eq_zero.1 this with h3 | h3
        · omega
        · exact h3
      · rintro ⟨h3, h4⟩
        rw [h3, h4]; simp
    rw [if_neg (by omega), h1, Nat.pow_succ, ← Nat.mul_assoc, key]
    by_cases hk : k = 0
    · subst hk
      rw [if_pos (by omega), if_pos (by omega)]
      simp
    · rw [if_neg (by omega), if_neg (by omega), h2]
theorem scQ_neg (p q : Nat) (pw : Int) : scQ p q (-pw) = if pw < 0 then p * 2 ^ (-pw).toNat / q else p / (q * 2 ^ pw.toNat) := by
  unfold scQ
  by_cases h : pw < 0
  · rw [if_pos h, if_pos (by omega)]
  · rw [if_neg h]
    by_cases h0 : pw = 0
    · subst h0; simp
    · rw [if_neg (by omega), Int.neg_neg]
theorem scR_neg (p q : Nat) (pw : Int) : scR p q (-pw) = if pw < 0 then p * 2 ^ (-pw).toNat % q else p % (q * 2 ^ pw.toNat) := by
  unfold scR
  by_cases h : pw < 0
  · rw [if_pos h, if_pos (by omega)]
  · rw [if_neg h]
    by_cases h0 : pw = 0
    · subst h0; simp
    · rw [if_neg (by omega), Int.neg_neg]
end Pm
namespace Go.Px.Seat
open Go Pm
set_option linter.unusedVariables false
variable {B : Run}
theorem len_zero_dig (x : Nat) : (len (dig x) == 0) = decide (x = 0) := by
  rw [len_zero_iff]
  by_cases h : x = 0
  · subst h; simp
  · rw [decide_eq_false h]; simpa using mt dig_eq_nil.1 h
theorem tr_make {w s : Int} {p q : Nat} (hw : wd w = true) (hq : q ≠ 0) (hs : s ≤ (lst w : Int)) (h1 : scQ p q s < 2 ^ (frw w + 1)) (h2 : s = (lst w : Int) ∨ 2 ^ frw w ≤ scQ p q s) (ex : Bool) (he : ex = decide (scR p q s = 0)) :
    let m : Nat := ((-s + lst w).toNat * 2 ^ frw w + scQ p q s)
    IsTr w (mkRat p q) (if (m : Int) < top w then (m : Int) else top w - 1) (if (m : Int) < top w then ex else false) := by
  intro m
  have hm : m = ((lst w : Int) - s).toNat * 2 ^ frw w + scQ p q s := by
    show (-s + lst w).toNat * 2 ^ frw w + scQ p q s = _
    rw [show -s + (lst w : Int) = (lst w : Int) - s by omega]
  by_cases h : (m : Int) < top w
  · rw [if_pos h, if_pos h, he]
    have := tr_in hq hs h1 h2 (by rw [← hm]; exact h)
    rw [← hm] at this
    simpa using this
  · rw [if_neg h, if_neg h]
    exact tr_out hw hq hs h1 h2 (by rw [← hm]; omega)
end Go.Px.Seat

/- The float below a number: the program's, found. Seat ZD. -/
namespace Go.Px.Seat
open Go Pm
set_option linter.unusedVariables false
variable {B : Run}
theorem ioru_eq {x y : Nat} (hx : x < 18446744073709551616) (hy : y < 18446744073709551616) : ior .u64 (x : Int) (y : Int) = ((x ||| y : Nat) : Int) := by
  have e1 : ∀ z : Nat, z < 18446744073709551616 → (BitVec.ofInt 64 (z : Int)).toNat = z := fun z hz => by
    simp; omega
  have h3 : x ||| y < 2 ^ 64 := Nat.or_lt_two_pow (by omega) (by omega)
  show IntKind.u64.wrap (((BitVec.ofInt 64 (x : Int) ||| BitVec.ofInt 64 (y : Int)).toNat : Nat) : Int) = _
  rw [BitVec.toNat_or, e1 x hx, e1 y hy]
  exact wrapu64 (by omega) (by omega)
theorem k_truncated : Ev fun n => ∀ (w : Int) (b : Bool) (p q : Nat), wd w = true → q ≠ 0 → (dig p).length ≤ 1024 → (dig q).length ≤ 1024 →
    ∃ m ex, c_i_truncated ((C B0).run n) w b (dig p) (dig q) = some (m, (ex, ())) ∧ IsTr w (mkRat p q) m ex := by
  refine ((k_fmt (B := B0)).and ((k_natBits (B := B0)).and ((k_natShl (B := B0)).and (k_natDiv.and (k_natShr.and k_Make))))).succ fun n hn ⟨hF, hB, hSl, hD, hSr, hMk⟩ w b p q hw hq l1 l2 => ?_
  rw [run_succ, e_i_truncated]
  unfold p_i_truncated
  have htp := top_pos hw
  have htn := top_nonneg w
  have hfl := frw_le w
  have hll : lst w ≤ 1074 := by unfold lst; split <;> omega
  have bp := bl_len p
  have bq := bl_len q
  rw [hF, fmt_of hw]
  simp only [Option.bind_some, len_zero_dig]
  by_cases hp : p = 0
  · subst hp
    exact ⟨0, true, rfl, tr_zero hw⟩
  rw [decide_eq_false hp, cond_false, hB _ (by omega)]
  simp only [Option.bind_some]
  rw [hB _ (by omega)]
  simp only [Option.bind_some]
  have x1 : iadd .i64 (frw w : Int) 1 = (frw w : Int) + 1 := iadd_eq (by omega) (by omega)
  have x2 : isub .i64 (bl p : Int) (bl q : Int) = (bl p : Int) - bl q := isub_eq (by omega) (by omega)
  have x3 : isub .i64 ((bl p : Int) - bl q) ((frw w : Int) + 1) = (bl p : Int) - bl q - (frw w + 1) := isub_eq (by omega) (by omega)
  rw [x1, x2, x3]
  obtain ⟨pw, hpw⟩ : ∃ pw : Int, pw = imax (-(lst w : Int)) ((bl p : Int) - bl q - (frw w + 1)) := ⟨_, rfl⟩
  have hpw' : pw = -(sz0 w p q) := by
    rw [hpw]; unfold imax sz0; omega
  rw [← hpw]
  have hs1 : sz0 w p q ≤ lst w := Int.min_le_right ..
  have hs2 : sz0 w p q ≤ (frw w : Int) + 1 - bl p + bl q := Int.min_le_left ..
  have hs3 : -16500 ≤ sz0 w p q := by unfold sz0; omega
  have hs4 : sz0 w p q = lst w ∨ 2 ^ frw w ≤ scQ p q (sz0 w p q) := by
    by_cases h : sz0 w p q = lst w
    · exact .inl h
    · exact .inr (scQ_ge hp hq (by unfold sz0 at h ⊢; omega))
  have hQ := scQ_neg p q pw
  have hR := scR_neg p q pw
  have hsn : -pw = sz0 w p q := by omega
  rw [hsn] at hQ hR
  generalize sz0 w p q = s0 at *
  refine jb_goal (fun o => ∃ m ex, o = some (m, (ex, ())) ∧ IsTr w (mkRat p q) m ex) (fun st => ∃ t u : Nat, u ≠ 0 ∧ (dig t).length ≤ 4096 ∧ (dig u).length ≤ 4096 ∧ t / u = scQ p q s0 ∧ t % u = scR p q s0 ∧
      st = ((dig t, (dig u, ((frw w : Int) + 1, (pw, (w, ((), (0, (false, ())))))))), (((frw w : Int), (-(lst w : Int), ((fmt w).2.2.1, (top w, ())))), ()))) ?_ ?_
  · rw [ilt_iff]
    by_cases h : pw < 0
    · obtain ⟨k, hk⟩ : ∃ k : Nat, pw = -(k : Int) := ⟨(-pw).toNat, by omega⟩
      have hkl := dig_len_pow k
      have := len_dig_mul p (2 ^ k)
      rw [decide_eq_true h, cond_true, ineg_eq (by omega) (by omega), hk, Int.neg_neg, hSl _ _ (by omega) (by omega)]
      rw [if_pos h, show s0.toNat = k by omega] at hQ hR
      exact ⟨_, rfl, p * 2 ^ k, q, hq, by omega, by omega, hQ.symm, hR.symm, rfl⟩
    · obtain ⟨k, hk⟩ : ∃ k : Nat, pw = (k : Int) := ⟨pw.toNat, by omega⟩
      have hkl := dig_len_pow k
      have := len_dig_mul q (2 ^ k)
      rw [decide_eq_false h, cond_false, hk, hSl _ _ (by omega) (by omega)]
      rw [if_neg h, hk, Int.toNat_natCast] at hQ hR
      exact ⟨_, rfl, p, q * 2 ^ k, Nat.mul_ne_zero hq (pow2_ne k), by omega, by omega, hQ.symm, hR.symm, rfl⟩
  rintro _ ⟨t, u, hu, ht1, hu1, htu, htr, rfl⟩
  simp only
  rw [hD _ _ (by omega) (by omega) hu, htu, htr]
  simp only [Option.bind_some]
  have g1 : scQ p q s0 < 2 ^ (frw w + 2) := scQ_lt hq (by omega)
  have g3 : 2 ^ (frw w + 2) ≤ 2 ^ 54 := Nat.pow_le_pow_right (by decide) (by omega)
  simp only [Nat.reducePow] at g3
  have g5 : (dig (scQ p q s0)).length ≤ 4 := dig_len_le.2 (by omega)
  refine jb_goal (fun o => ∃ m ex, o = some (m, (ex, ())) ∧ IsTr w (mkRat p q) m ex) (fun st => ∃ s : Int, s ≤ lst w ∧ -16600 ≤ s ∧ scQ p q s < 2 ^ (frw w + 1) ∧ (s = lst w ∨ 2 ^ frw w ≤ scQ p q s) ∧
      st = ((dig (scQ p q s), (w, (-s, ((), (decide (scR p q s = 0), (0, (false, ()))))))), (((frw w : Int), (-(lst w : Int), ((fmt w).2.2.1, (top w, ())))), ()))) ?_ ?_
  · rw [hB _ (by omega)]
    simp only [Option.bind_some, ilt_iff, len_zero_dig]
    by_cases h : (frw w : Int) + 1 < (bl (scQ p q s0) : Int)
    · have h8 : ¬ scQ p q s0 < 2 ^ (frw w + 1) := fun hh => by have := bl_le.2 hh; omega
      have hQ0 : scQ p q s0 ≠ 0 := fun h0 => h8 (by rw [h0]; exact Nat.pow_pos (by decide))
      have hlen := dig_len_pos hQ0
      rw [decide_eq_true h, cond_true]
      refine ⟨_, ?_, s0 - 1, by omega, by omega, scQ_lt hq (by omega), .inr ?_, rfl⟩
      rotate_left
      · rw [scQ_half]
        rw [Nat.pow_succ] at h8
        omega
      refine (jb_of (p := ((dig (scQ p q s0), (pw, (w, ((), (decide (scR p q (s0 - 1) = 0), (0, (false, ()))))))), (((frw w : Int), (-(lst w : Int), ((fmt w).2.2.1, (top w, ())))), ()))) ?_ _).trans ?_
      · have hhalf := scR_half (p := p) hq s0
        by_cases hr0 : scR p q s0 = 0
        · rw [decide_eq_true hr0, cond_true, ok_of (inB_true (by omega) (by rw [len_eq]; omega))]
          have e1 : List.getD (dig (scQ p q s0)) (Int.toNat 0) 0 = ((scQ p q s0 % 65536 : Nat) : Int) := by
            show at_ _ 0 = _
            rw [dig_at]; simp
          have e2 : iand .i64 ((scQ p q s0 % 65536 : Nat) : Int) 1 = ((scQ p q s0 % 65536 : Nat) : Int) % 2 := iand_mask (k := 1) (by omega) (by omega) (by omega)
          rw [e1, e2]
          have e3 : ((((scQ p q s0 % 65536 : Nat) : Int) % 2 == 0) : Bool) = decide (scR p q (s0 - 1) = 0) := by
            rw [show ((((scQ p q s0 % 65536 : Nat) : Int) % 2 == 0) : Bool) = decide (((scQ p q s0 % 65536 : Nat) : Int) % 2 = 0) from rfl]
            refine decide_eq_decide.2 ?_
            rw [hhalf]
            constructor
            · intro h; exact ⟨hr0, by omega⟩
            · intro h; have := h.2; omega
          rw [e3]
        · rw [decide_eq_false hr0, cond_false, decide_eq_false (fun h => hr0 (hhalf.1 h).1)]
      · simp only
        have hshr := hSr (scQ p q s0) 1 (by omega) (by omega) (by omega)
        have e1 : (-((1 : Nat) : Int)) = -1 := rfl
        rw [e1, Nat.pow_one, ← scQ_half] at hshr
        rw [hshr]
        simp only [Option.bind_some]
        rw [iadd_eq (by omega) (by omega), show pw + 1 = -(s0 - 1) by omega]
    · rw [decide_eq_false h, cond_false]
      exact ⟨_, rfl, s0, hs1, by omega, bl_le.1 (by omega), hs4, by rw [hpw']⟩
  rintro _ ⟨s, k1, k2, k3, k4, rfl⟩
  simp only
  have hU2 : 2 ^ (frw w + 1) ≤ 2 ^ 53 := Nat.pow_le_pow_right (by decide) (by omega)
  simp only [Nat.reducePow] at hU2
  have hlen : (dig (scQ p q s)).length ≤ 4 := dig_len_le.2 (by omega)
  have hmk := hMk w (-s) (scQ p q s) hw k3 (by omega) (k4.imp (fun h => by omega) id) (by omega)
  have hfin := tr_make hw hq k1 k3 k4 (decide (scR p q s = 0)) rfl
  generalize scQ p q s = Q at *
  generalize decide (scR p q s = 0) = ex at *
  refine iter_goal (fun o => ∃ m ex, o = some (m, (ex, ())) ∧ IsTr w (mkRat p q) m ex) (fun st => ∃ i : Nat, i ≤ (dig Q).length ∧ st = (((i : Int), (((dig Q).length : Int), (dig Q, (((Q % 65536 ^ i : Nat) : Int), (w, (-s, ((), (ex, (0, (false, ())))))))))), (((frw w : Int), (-(lst w : Int), ((fmt w).2.2.1, (top w, ())))), ())))
    (fun st => (dig Q).length - st.1.1.toNat) (fun r : Int × (Bool × Unit) => ∃ m ex, r = (m, (ex, ())) ∧ IsTr w (mkRat p q) m ex) ?_ (by simp only; omega) ⟨0, by omega, by rw [Nat.pow_zero, Nat.mod_one]; rfl⟩ ?_
  rotate_left
  · rintro r ⟨m, re, rfl, h⟩
    exact ⟨m, re, rfl, h⟩
  rintro rec _ ⟨i, hi, rfl⟩ ih
  simp only [ilt_iff, len_eq]
  by_cases h : i < (dig Q).length
  · have hp16 : (65536 : Nat) ^ i = 2 ^ (16 * i) := pow_base i
    have hi3 : i ≤ 3 := by omega
    have hd : Q / 65536 ^ i % 65536 < 65536 := Nat.mod_lt _ (by decide)
    have hp48 : (65536 : Nat) ^ i ≤ 65536 ^ 3 := Nat.pow_le_pow_right (by decide) hi3
    rw [decide_eq_true (show (i : Int) < ((dig Q).length : Int) by omega), cond_true, ok_of (inB_true (by omega) (by omega)), imul_eq (by omega) (by omega), show ile 0 (16 * (i : Int)) = true by simp; omega, ok_true, Int.toNat_natCast, getD_at, dig_at, wrapu64 (by omega) (by omega)]
    have e0 : (16 * (i : Int)) = ((16 * i : Nat) : Int) := by omega
    have hm48 : Q / 65536 ^ i % 65536 * 65536 ^ i ≤ 65535 * 65536 ^ 3 := Nat.mul_le_mul (by omega) hp48
    rw [e0, ishlu_eq (by omega) (by rw [← hp16]; omega), ← hp16, ioru_eq (by have := Nat.mod_le Q (65536 ^ i); omega) (by omega), iadd_eq (by omega) (by omega)]
    refine ih _ ⟨i + 1, by omega, ?_⟩ (by simp only; omega)
    have h9 := Nat.two_pow_add_eq_or_of_lt (show Q % 65536 ^ i < 2 ^ (16 * i) by rw [← hp16]; exact Nat.mod_lt _ (Nat.pow_pos (by decide))) (Q / 65536 ^ i % 65536)
    rw [← hp16, Nat.mul_comm] at h9
    rw [Nat.or_comm, ← h9, mod_succ, Nat.add_comm (Q % 65536 ^ i)]
    rfl
  · have hie : i = (dig Q).length := by omega
    subst hie
    rw [decide_eq_false (by omega), cond_false, Nat.mod_eq_of_lt (dig_lt_pow Q), hmk]
    simp only [Option.bind_some]
    by_cases hm : (((-s + lst w).toNat * 2 ^ frw w + Q : Nat) : Int) < top w
    · simp only [if_pos hm] at hfin
      rw [if_pos hm]
      exact ⟨_, rfl, _, _, rfl, hfin⟩
    · simp only [if_neg hm] at hfin
      rw [if_neg hm]
      simp only [Bool.not_false, cond_true]
      rw [isub_eq (by omega) (by omega)]
      exact ⟨_, rfl, _, _, rfl, hfin⟩
end Go.Px.Seat

/- Floats next to a number, limits: the program's. Seat ZD. -/
namespace Go.Px.Seat
open Go Pm
set_option linter.unusedVariables false
variable {B : Run}
theorem k_around : Ev fun n => ∀ (w : Int) (r : Rat), wd w = true → short 1024 r → ∃ d u, c_i_around ((C B0).run n) w (fb r) (ft r) (fq r) = some (d, (u, ())) ∧ IsDn w r d ∧ IsDn w (-r) (-u) := by
  refine k_truncated.succ fun n hn hT w r hw hr => ?_
  rw [run_succ, e_i_around]
  unfold p_i_around
  obtain ⟨r1, r2⟩ := hr
  simp only [ft, fq] at r1 r2 ⊢
  obtain ⟨m, ex, h1, h2⟩ := hT w (fb r) r.num.natAbs r.den hw r.den_nz (by omega) (by omega)
  rw [h1]
  simp only [Option.bind_some]
  have htn := top_nonneg w
  have hm := h2.1
  have hm2 := h2.2.1
  have e1 : iadd .i64 m 1 = m + 1 := iadd_eq (by omega) (by omega)
  have e2 : ineg .i64 m = -m := ineg_eq (by omega) (by omega)
  have e3 : ineg .i64 (m + 1) = -(m + 1) := ineg_eq (by omega) (by omega)
  have hd := dn_pos hw h2
  have hn' := dn_neg (r := -mkRat (r.num.natAbs : Int) r.den) hw (by rw [Rat.neg_neg]; exact h2)
  have hself := mk_self r
  cases hb : fb r
  · rw [hb] at hself
    have hr' : mkRat (r.num.natAbs : Int) r.den = r := hself
    rw [hr'] at hd hn'
    cases ex <;> simp only [Bool.not_true, Bool.not_false, cond_true, cond_false, jb_inr, e1]
    · exact ⟨_, _, rfl, hd, by simpa using hn'⟩
    · exact ⟨_, _, rfl, hd, by simpa using hn'⟩
  · rw [hb, mk_negate] at hself
    have hr' : -mkRat (r.num.natAbs : Int) r.den = r := hself
    have hr2 := congrArg Neg.neg hr'
    rw [Rat.neg_neg] at hr2
    rw [hr2] at hd
    rw [hr'] at hn'
    cases ex <;> simp only [Bool.not_true, Bool.not_false, cond_true, cond_false, jb_inr, e1, e2, e3]
    · exact ⟨_, _, rfl, by simpa using hn', by simpa using hd⟩
    · exact ⟨_, _, rfl, by simpa using hn', by simpa using hd⟩
theorem k_limitOf : Ev fun n => ∀ w o : Int, fin w o → c_i_limitOf ((C B0).run n) w o = some (0, outF (fv w o)) := by
  refine ((k_BitTop (B := B0)).and k_value).succ fun n hn ⟨hT, hV⟩ w o hf => ?_
  rw [run_succ, e_i_limitOf]
  unfold p_i_limitOf
  have htn := top_nonneg w
  obtain ⟨h1, h2, h3⟩ := hf
  rw [hT]
  simp only [Option.bind_some, ineg_top]
  rw [beq_f (by omega), cond_false, beq_f (by omega), cond_false, hV w o ⟨h1, h2, h3⟩]
  rfl
theorem k_floats : Ev fun n => ∀ (w : Int) (r : Rat), wd w = true → short 1024 r → ∃ d u, c_i_limit_floats ((C B0).run n) 0 (fb r) (ft r) (fq r) w = some (d, (u, ())) ∧ IsDn w r d ∧ IsDn w (-r) (-u) := by
  refine k_around.succ fun n hn hA w r hw hr => ?_
  rw [run_succ, e_i_limit_floats]
  unfold p_i_limit_floats
  obtain ⟨d, u, h1, h2, h3⟩ := hA w r hw hr
  rw [show ((0 : Int) != 0) = false from rfl, cond_false, h1]
  exact ⟨d, u, rfl, h2, h3⟩
end Go.Px.Seat

/- Sums of spans: the program's. Seat ZD. -/
namespace Pm
open Go.Px.Seat
theorem lst_le (w : Int) : lst w ≤ 1074 := by unfold lst; split <;> omega
theorem fits_fv {w o : Int} (h : fin w o) : fits (fv w o) := by
  have hl := lst_le w
  have h1 : (fI w o).natAbs < 65536 ^ 256 := Nat.lt_of_lt_of_le (fI_lt2 h) (Nat.le_of_lt (two_lt (by decide)))
  exact fits_mkI (pow2_ne _) h1 (two_lt (by omega))
theorem fits_add {w x y : Int} (hx : fin w x) (hy : fin w y) : fits (fv w x + fv w y) := by
  have hl := lst_le w
  rw [fv, fv, mk_same (pow2_ne _)]
  have h1 := fI_lt2 hx
  have h2 := fI_lt2 hy
  refine fits_mkI (pow2_ne _) ?_ (two_lt (by omega))
  have h3 : 2 ^ bigE * 128 < 65536 ^ 256 := lt_two_of (B7 (Nat.le_refl _)) (by decide)
  omega
theorem mk_short {a : Int} {q k : Nat} (hq : q ≠ 0) (h1 : (dig a.natAbs).length ≤ k) (h2 : (dig q).length ≤ k) : short k (mkRat a q) := by
  have e : a = sg (decide (a < 0)) a.natAbs := by
    by_cases h : a < 0
    · rw [decide_eq_true h]; simp only [sg, if_true]; omega
    · rw [decide_eq_false h]; simp only [sg, Bool.false_eq_true, if_false]; omega
  unfold short
  rw [e, mk_rt hq, mk_rd hq]
  exact ⟨Nat.le_trans (dig_len_mono (Nat.div_le_self ..)) h1, Nat.le_trans (dig_len_mono (Nat.div_le_self ..)) h2⟩
end Pm
namespace Go.Px.Seat
open Go Pm
set_option linter.unusedVariables false
variable {B : Run}
theorem short_mono {k l : Nat} {r : Rat} (h : short k r) (hk : k ≤ l) : short l r := ⟨Nat.le_trans h.1 hk, Nat.le_trans h.2 hk⟩
end Go.Px.Seat

/- Differences and products of spans: the program's. Seat ZD. -/
namespace Pm
open Go.Px.Seat
theorem pok_neg {w a b : Int} (h : pok w a b = true) : pok w (-b) (-a) = true := by
  obtain ⟨h1, h2, h3, h4, h5, h6⟩ := pok_iff.1 h
  exact pok_iff.2 ⟨h1, by omega, by omega, by omega, by omega, by omega⟩
theorem short_mulf {w x y : Int} (hx : fin w x) (hy : fin w y) : short 1024 (fv w x * fv w y) := by
  rw [fv, fv, Rat.mkRat_mul_mkRat]
  have l1 : (dig (fI w x).natAbs).length ≤ 256 := dig_len_le.2 (Nat.lt_of_lt_of_le (fI_lt2 hx) (Nat.le_of_lt (two_lt (by decide))))
  have l2 : (dig (fI w y).natAbs).length ≤ 256 := dig_len_le.2 (Nat.lt_of_lt_of_le (fI_lt2 hy) (Nat.le_of_lt (two_lt (by decide))))
  have l3 : (dig (2 ^ lst w)).length ≤ 256 := by
    have := lst_le w
    exact Nat.le_trans (dig_len_pow _) (by omega)
  have m1 := len_dig_mul (fI w x).natAbs (fI w y).natAbs
  have m2 := len_dig_mul (2 ^ lst w) (2 ^ lst w)
  refine mk_short (Nat.mul_ne_zero (pow2_ne _) (pow2_ne _)) ?_ (by omega)
  rw [Int.natAbs_mul]
  omega
end Pm
namespace Go.Px.Seat
open Go Pm
set_option linter.unusedVariables false
variable {B : Run}
end Go.Px.Seat

/- Limits: the program's. Seat ZD. -/
namespace Pm
open Go.Px.Seat
def li : Lm → Int
  | .neg => -1 | .pos => 1 | .num _ => 0
def lb : Lm → Bool
  | .num r => fb r | _ => false
def lu : Lm → List Int
  | .num r => ft r | _ => []
def lv : Lm → List Int
  | .num r => fq r | _ => []
/-- a limit as the program has it -/
def outL (a : Lm) : Int × (Bool × (List Int × (List Int × Unit))) := (li a, (lb a, (lu a, (lv a, ()))))
def shL (k : Nat) : Lm → Prop
  | .num r => short k r | _ => True
theorem inv_sg {s : Rat} (hs : s ≠ 0) : s⁻¹ = mkRat (sg (fb s) s.den) s.num.natAbs := by
  rw [Rat.inv_def, ← Rat.divInt_ofNat]
  have h := sg_num s
  cases hb : fb s <;> rw [hb] at h
  · have h' : (s.num.natAbs : Int) = s.num := h
    rw [h']; rfl
  · have h' : -(s.num.natAbs : Int) = s.num := h
    rw [show s.num = -(s.num.natAbs : Int) from h'.symm, Rat.divInt_neg', Int.natAbs_neg, Int.natAbs_natCast]
    rfl
theorem div_sg {r s : Rat} (hs : s ≠ 0) : r / s = mkRat (sg (fb r != fb s) (r.num.natAbs * s.den)) (r.den * s.num.natAbs) := by
  rw [Rat.div_def, inv_sg hs, sg_mul, ← Rat.mkRat_mul_mkRat, mk_self]
theorem sgn_rng (a : Lm) : a.sgn = -1 ∨ a.sgn = 0 ∨ a.sgn = 1 := by
  cases a with
  | neg => exact .inl rfl
  | pos => exact .inr (.inr rfl)
  | num r => rcases Lm.sgn_cases r with ⟨_, h⟩ | ⟨_, h⟩ | ⟨_, h⟩ <;> rw [h] <;> simp
theorem mul_inf {a b : Lm} (h : ∀ r s, ¬ (a = .num r ∧ b = .num s)) : Lm.mul a b = Lm.inf (a.sgn * b.sgn) := by
  cases a <;> cases b <;> first | rfl | exact absurd ⟨rfl, rfl⟩ (h _ _)
theorem outL_num (r : Rat) : outL (.num r) = (0, outF r) := rfl
theorem zero_out : (0, outF (mkRat (sg false 0) 1)) = outL (.num 0) := by
  rw [outL_num, sg_zero, Rat.zero_mkRat]
end Pm
namespace Go.Px.Seat
open Go Pm
set_option linter.unusedVariables false
variable {B : Run}
theorem k_limL : Ev fun n => ∀ w o : Int, wd w = true → rng w o → c_i_limitOf ((C B0).run n) w o = some (outL (lim w o)) := by
  refine ((k_BitTop (B := B0)).and k_limitOf).and k_value |>.succ fun n hn ⟨⟨hT, _⟩, hV⟩ w o hw hr => ?_
  rw [run_succ, e_i_limitOf]
  unfold p_i_limitOf
  have htn := top_pos hw
  rw [hT]
  simp only [Option.bind_some, ineg_top]
  rcases lim_cases hw hr with ⟨h, e⟩ | ⟨h, e⟩ | ⟨h, e⟩ <;> rw [e]
  · subst h
    rw [beq_f (by omega), cond_false, show ((-top w : Int) == -top w) = true by simp]; rfl
  · subst h
    rw [show ((top w : Int) == top w) = true by simp]; rfl
  · have h1 := h.2.1
    have h2 := h.2.2
    rw [beq_f (by omega), cond_false, beq_f (by omega), cond_false, hV w o h]
    rfl
theorem k_floatsL : Ev fun n => ∀ (w : Int) (a : Lm), wd w = true → shL 1024 a → c_i_limit_floats ((C B0).run n) (li a) (lb a) (lu a) (lv a) w = some (dn w a, (up w a, ())) := by
  refine (k_floats.and ((k_BitTop (B := B0)).and k_around)).succ fun n hn ⟨_, hT, hA⟩ w a hw hs => ?_
  rw [run_succ, e_i_limit_floats]
  unfold p_i_limit_floats
  have htn := top_nonneg w
  cases a with
  | neg =>
    simp only [li, show ((-1 : Int) != 0) = true from rfl, cond_true]
    rw [hT]
    simp only [Option.bind_some, dn_neg', up_neg']
    rw [imul_eq (by omega) (by omega)]
    simp
  | pos =>
    simp only [li, show ((1 : Int) != 0) = true from rfl, cond_true]
    rw [hT]
    simp only [Option.bind_some, dn_pos', up_pos']
    rw [imul_eq (by omega) (by omega)]
    simp
  | num r =>
    simp only [li, show ((0 : Int) != 0) = false from rfl, cond_false, lb, lu, lv]
    obtain ⟨d, u, h1, h2, h3⟩ := hA w r hw hs
    rw [h1, dn_num h2, up_num h3]
    rfl
theorem k_sgnL : Ev fun n => ∀ a : Lm, c_i_limit_sign ((C B).run n) (li a) (lb a) (lu a) (lv a) = some (a.sgn, ()) := by
  refine (k_sign (B := B)).succ fun n hn hS a => ?_
  rw [run_succ, e_i_limit_sign]
  unfold p_i_limit_sign
  cases a with
  | neg => rfl
  | pos => rfl
  | num r =>
    simp only [li, show ((0 : Int) != 0) = false from rfl, cond_false, lb, lu, lv]
    rw [hS]
    rfl
theorem k_mulL : Ev fun n => ∀ a b : Lm, shL 33554432 a → shL 33554432 b → c_i_limit_times ((C B0).run n) (li a) (lb a) (lu a) (lv a) (li b) (lb b) (lu b) (lv b) = some (outL (Lm.mul a b)) := by
  refine (k_Fmul.and ((k_sgnL (B := B0)).and (k_whole (B := B0)))).succ fun n hn ⟨hM, hS, hW⟩ a b ha hb => ?_
  rw [run_succ, e_i_limit_times]
  unfold p_i_limit_times
  have key : (∀ r s, ¬ (a = .num r ∧ b = .num s)) → ((c_i_limit_sign ((C B0).run n) (li a) (lb a) (lu a) (lv a)).bind fun (r158_1, _) =>
      (c_i_limit_sign ((C B0).run n) (li b) (lb b) (lu b) (lv b)).bind fun (r158_2_1, _) =>
      bif ((imul .i64 r158_1 r158_2_1) != 0) then
        some ((imul .i64 r158_1 r158_2_1), (false, (([] : List Int), (([] : List Int), ()))))
      else
      (c_i_whole ((C B0).run n) false []).bind fun (r132_1, (r132b, (r132c, _))) =>
      some ((0 : Int), (r132_1, (r132b, (r132c, ()))))) = some (outL (Lm.mul a b)) := by
    intro hne
    rw [hS, hS]
    simp only [Option.bind_some]
    rw [mul_inf hne]
    have e0 : ([] : List Int) = dig 0 := dig_zero.symm
    rcases sgn_rng a with h | h | h <;> rcases sgn_rng b with h' | h' | h' <;> rw [h, h'] <;> first | rfl | (rw [e0, hW]; exact congrArg some zero_out)
  cases a with
  | neg => exact key (by simp)
  | pos => exact key (by simp)
  | num r =>
    cases b with
    | neg => exact key (by simp)
    | pos => exact key (by simp)
    | num s =>
      simp only [li, show ((0 : Int) != 0) = false from rfl, cond_false, lb, lu, lv, jb_inr]
      rw [hM r s ha hb]
      rfl
theorem k_Fdiv : Ev fun n => ∀ r s : Rat, short 33554432 r → short 33554432 s → s ≠ 0 → c_i_Frac_div ((C B0).run n) (fb r) (ft r) (fq r) (fb s) (ft s) (fq s) = some (outF (r / s)) := by
  refine ((k_natMul (B := B0)).and k_lowest).succ fun n hn ⟨hM, hL⟩ r s hr hs h0 => ?_
  rw [run_succ, e_i_Frac_div]
  unfold p_i_Frac_div
  obtain ⟨r1, r2⟩ := hr
  obtain ⟨s1, s2⟩ := hs
  simp only [ft, fq] at r1 r2 s1 s2 ⊢
  have l1 := len_dig_mul r.num.natAbs s.den
  have l3 := len_dig_mul r.den s.num.natAbs
  have hn : s.num.natAbs ≠ 0 := fun h => h0 (Rat.num_eq_zero.1 (Int.natAbs_eq_zero.1 h))
  rw [hM _ _ (by omega) (by omega)]
  simp only [Option.bind_some]
  rw [hM _ _ (by omega) (by omega)]
  simp only [Option.bind_some, beqB_eq]
  have e : (!(fb r == fb s)) = (fb r != fb s) := rfl
  rw [e, hL _ _ _ (Nat.mul_ne_zero r.den_nz hn) (by omega) (by omega), ← div_sg h0]
  rfl
theorem k_divL : Ev fun n => ∀ a b : Lm, shL 33554432 a → shL 33554432 b → b ≠ .num 0 → c_i_limit_by ((C B0).run n) (li a) (lb a) (lu a) (lv a) (li b) (lb b) (lu b) (lv b) = some (outL (Lm.div a b)) := by
  refine (k_Fdiv.and (k_whole (B := B0))).succ fun n hn ⟨hD, hW⟩ a b ha hb h0 => ?_
  rw [run_succ, e_i_limit_by]
  unfold p_i_limit_by
  have e0 : ([] : List Int) = dig 0 := dig_zero.symm
  cases b with
  | neg =>
    simp only [li, show ((-1 : Int) != 0) = true from rfl, cond_true]
    rw [e0, hW]
    cases a <;> exact congrArg some zero_out
  | pos =>
    simp only [li, show ((1 : Int) != 0) = true from rfl, cond_true]
    rw [e0, hW]
    cases a <;> exact congrArg some zero_out
  | num s =>
    simp only [li, show ((0 : Int) != 0) = false from rfl, cond_false]
    cases a with
    | neg => rfl
    | pos => rfl
    | num r =>
      simp only [li, show ((0 : Int) != 0) = false from rfl, cond_false, lb, lu, lv]
      rw [hD r s ha hb (fun h => h0 (by rw [h]))]
      rfl
theorem shL_lim {w o : Int} (hw : wd w = true) (h : rng w o) : shL 256 (lim w o) := by
  rcases lim_cases hw h with ⟨h, e⟩ | ⟨h, e⟩ | ⟨h, e⟩ <;> rw [e]
  · trivial
  · trivial
  · exact fits_short (fits_fv h)
theorem shL_mono {k l : Nat} {a : Lm} (h : shL k a) (hk : k ≤ l) : shL l a := by
  cases a with
  | neg => trivial
  | pos => trivial
  | num r => exact short_mono h hk
theorem shL_add {w x y : Int} (hw : wd w = true) (hx : rng w x) (hy : rng w y) : shL 1024 (Lm.add (lim w x) (lim w y)) := by
  rcases lim_cases hw hx with ⟨h, e⟩ | ⟨h, e⟩ | ⟨h, e⟩ <;> rcases lim_cases hw hy with ⟨h', e'⟩ | ⟨h', e'⟩ | ⟨h', e'⟩ <;> rw [e, e'] <;> try trivial
  exact short_mono (fits_short (fits_add h h')) (by omega)
theorem shL_inf (k : Nat) (hk : 1 ≤ k) (n : Int) : shL k (Lm.inf n) := by
  unfold Lm.inf
  split
  · trivial
  · split
    · exact ⟨by simp [ft], by
        have : dig 1 = [1] := one_dig.symm
        simp only [fq]
        show (dig 1).length ≤ k
        rw [this]; simpa using hk⟩
    · trivial
theorem shL_mul {w x y : Int} (hw : wd w = true) (hx : rng w x) (hy : rng w y) : shL 1024 (Lm.mul (lim w x) (lim w y)) := by
  rcases lim_cases hw hx with ⟨h, e⟩ | ⟨h, e⟩ | ⟨h, e⟩ <;> rcases lim_cases hw hy with ⟨h', e'⟩ | ⟨h', e'⟩ | ⟨h', e'⟩ <;> rw [e, e'] <;> first | exact short_mulf h h' | exact shL_inf 1024 (by omega) _
theorem k_addL : Ev fun n => ∀ w x y : Int, wd w = true → rng w x → rng w y → c_i_SpanAdd_1 ((C B0).run n) x y w =
    some (li (Lm.add (lim w x) (lim w y)), (lb (Lm.add (lim w x) (lim w y)), (lu (Lm.add (lim w x) (lim w y)), (lv (Lm.add (lim w x) (lim w y)), (w, ()))))) := by
  refine (k_limL.and k_Fadd).succ fun n hn ⟨hL, hA⟩ w x y hw hx hy => ?_
  rw [run_succ, e_i_SpanAdd_1]
  unfold p_i_SpanAdd_1
  rw [hL w x hw hx, hL w y hw hy]
  simp only [Option.bind_some, outL]
  rcases lim_cases hw hx with ⟨h, e⟩ | ⟨h, e⟩ | ⟨h, e⟩ <;> rw [e]
  · rfl
  · rfl
  · rcases lim_cases hw hy with ⟨h', e'⟩ | ⟨h', e'⟩ | ⟨h', e'⟩ <;> rw [e']
    · rfl
    · rfl
    · simp only [li, show ((0 : Int) != 0) = false from rfl, cond_false, lb, lu, lv]
      rw [hA _ _ (short_mono (fits_short (fits_fv h)) (by omega)) (short_mono (fits_short (fits_fv h')) (by omega))]
      rfl
end Go.Px.Seat

/- What is reckoned of spans. -/
namespace Pm
open Go.Px.Seat
/-- ok, and not empty -/
def ok1 (w : Int) (a : Sp) : Bool := a.1 && spk w a
noncomputable def addS (w : Int) (a b : Sp) : Sp := if both w a b = true then sp (dn w (Lm.add (lim w a.2.1) (lim w b.2.1))) (up w (Lm.add (lim w a.2.2.1) (lim w b.2.2.1))) else spn
def negS (w : Int) (a : Sp) : Sp := if ok1 w a = true then sp (-a.2.2.1) (-a.2.1) else spn
noncomputable def subS (w : Int) (a b : Sp) : Sp := addS w a (negS w b)
def hullS (w : Int) (a b : Sp) : Sp := if (spk w a && spk w b) = true then (if a.1 = true then (if b.1 = true then sp (min a.2.1 b.2.1) (max a.2.2.1 b.2.2.1) else a) else b) else spn
def minS (w : Int) (a b : Sp) : Sp := if both w a b = true then sp (min a.2.1 b.2.1) (min a.2.2.1 b.2.2.1) else spn
def maxS (w : Int) (a b : Sp) : Sp := if both w a b = true then sp (max a.2.1 b.2.1) (max a.2.2.1 b.2.2.1) else spn
def absS (w : Int) (a : Sp) : Sp := if ok1 w a = true then sp (max (max 0 a.2.1) (-a.2.2.1)) (max (a.2.1.natAbs : Int) (a.2.2.1.natAbs : Int)) else spn
def stp (o : Sp) (d u : Int) : Sp := if o.1 = true then sp (min o.2.1 d) (max o.2.2.1 u) else sp d u
noncomputable def stm (w : Int) (o : Sp) (x y : Int) : Sp := stp o (dn w (Lm.mul (lim w x) (lim w y))) (up w (Lm.mul (lim w x) (lim w y)))
noncomputable def mulS (w : Int) (a b : Sp) : Sp := if both w a b = true then stm w (stm w (stm w (stm w spn a.2.1 b.2.1) a.2.1 b.2.2.1) a.2.2.1 b.2.1) a.2.2.1 b.2.2.1 else spn
open Classical in
/-- the lower end of quotients by what is above 0 -/
noncomputable def qlo (l bl bh : Lm) : Lm := if Lm.num 0 ≤ l then Lm.div l bh else if bl ≤ Lm.num 0 then .neg else Lm.div l bl
open Classical in
noncomputable def qhi (h bl bh : Lm) : Lm := if h ≤ Lm.num 0 then Lm.div h bh else if bl ≤ Lm.num 0 then .pos else Lm.div h bl
noncomputable def quotS (w : Int) (a b : Sp) : Sp := if b.2.2.1 ≤ 0 then spn else
  sp (dn w (qlo (lim w a.2.1) (lim w b.2.1) (lim w b.2.2.1))) (up w (qhi (lim w a.2.2.1) (lim w b.2.1) (lim w b.2.2.1)))
def parts (w : Int) (p q : Sp) : Sp × Sp :=
  if (p.1 && q.1 && decide (p.2.2.1 < q.2.1)) = true then (p, q) else if (p.1 && q.1 && decide (q.2.2.1 < p.2.1)) = true then (q, p) else (hullS w p q, spn)
noncomputable def divTwoS (w : Int) (a b : Sp) : Sp × Sp := if both w a b = true then parts w (quotS w a b) (quotS w (negS w a) (negS w b)) else (spn, spn)
noncomputable def divS (w : Int) (a b : Sp) : Sp := hullS w (divTwoS w a b).1 (divTwoS w a b).2
/-- its parts -/
def out2 (p : Sp × Sp) : Bool × (Int × (Int × (Bool × (Int × (Int × Unit))))) := (p.1.1, (p.1.2.1, (p.1.2.2.1, (p.2.1, (p.2.2.1, (p.2.2.2.1, ()))))))
theorem both_ok1 {w : Int} {a b : Sp} : both w a b = (ok1 w a && ok1 w b) := by
  unfold both ok1
  cases a.1 <;> cases b.1 <;> simp
theorem ok1_sp {w lo hi : Int} : ok1 w (sp lo hi) = pok w lo hi := by unfold ok1; simp [sp, spk]
theorem spk_spn {w : Int} : spk w spn = wd w := by simp [spn, spk]
theorem ok1_iff {w : Int} {a : Sp} : ok1 w a = true ↔ ∃ lo hi, a = sp lo hi ∧ pok w lo hi = true := by
  constructor
  · intro h
    unfold ok1 at h
    obtain ⟨s, lo, hi, u⟩ := a
    simp only [Bool.and_eq_true] at h
    obtain ⟨rfl, h⟩ := h
    exact ⟨lo, hi, rfl, h⟩
  · rintro ⟨lo, hi, rfl, h⟩
    rw [ok1_sp]; exact h
theorem pok_dn_up {w : Int} {a b : Lm} (hw : wd w = true) (h : a ≤ b) (ha : a ≠ .pos) (hb : b ≠ .neg) : pok w (dn w a) (up w b) = true :=
  pok_of hw (dn_rng hw a) (up_rng hw b) (dn_le_up hw h) (dn_lt hw ha) (up_gt hw hb)
theorem lim_lo_hi {w lo hi : Int} (h : pok w lo hi = true) : lim w lo ≤ lim w hi := by
  obtain ⟨hw, h1, h2, h3, _⟩ := pok_rng h
  exact (lim_le hw h1 h2).2 h3
/-- an ok span's ends as limits -/
theorem spk_of_ok1 {w : Int} {a : Sp} (h : ok1 w a = true) : spk w a = true := by
  unfold ok1 at h
  simp only [Bool.and_eq_true] at h
  exact h.2
end Pm

/- What is reckoned of spans: the program's. Seat ZD. -/
namespace Go.Px.Seat
open Go Pm
set_option linter.unusedVariables false
variable {B : Run}
theorem full1 (w : Int) (a : Sp) : ([a].all fun s => s.1 && spk w s) = ok1 w a := by simp [ok1]
theorem full2 (w : Int) (a b : Sp) : ([a, b].all fun s => s.1 && spk w s) = both w a b := full_two w a b
theorem k_NegS : Ev fun n => ∀ (w : Int) (a : Sp), c_i_SpanNeg ((C B).run n) w a.1 a.2.1 a.2.2.1 = some (negS w a) := by
  refine ((k_full (B := B)).and (k_some (B := B))).succ fun n hn ⟨hF, hSo⟩ w a => ?_
  rw [run_succ, e_i_SpanNeg]
  unfold p_i_SpanNeg negS
  have e2 : [(a.1, (a.2.1, (a.2.2.1, ())))] = [a] := rfl
  rw [e2, hF _ _ (by simp), full1]
  simp only [Option.bind_some]
  cases h : ok1 w a
  · rfl
  · obtain ⟨lo, hi, rfl, hp⟩ := ok1_iff.1 h
    obtain ⟨h1, h2, h3, h4, h5, h6⟩ := pok_iff.1 hp
    have htn := top_nonneg w
    simp only [Bool.not_true, cond_false, sp]
    rw [ineg_eq (by omega) (by omega), ineg_eq (by omega) (by omega), hSo]
    rfl
theorem k_AddS : Ev fun n => ∀ (w : Int) (a b : Sp), c_i_SpanAdd ((C B0).run n) w a.1 a.2.1 a.2.2.1 b.1 b.2.1 b.2.2.1 = some (addS w a b) := by
  refine ((k_full (B := B0)).and (k_addL.and (k_floatsL.and (k_some (B := B0))))).succ fun n hn ⟨hF, hS, hFl, hSo⟩ w a b => ?_
  rw [run_succ, e_i_SpanAdd]
  unfold p_i_SpanAdd addS
  have e2 : [(a.1, (a.2.1, (a.2.2.1, ()))), (b.1, (b.2.1, (b.2.2.1, ())))] = [a, b] := rfl
  rw [e2, hF _ _ (by simp), full2]
  simp only [Option.bind_some]
  cases h : both w a b
  · rfl
  · rw [both_ok1, Bool.and_eq_true] at h
    obtain ⟨a1, a2, rfl, pa⟩ := ok1_iff.1 h.1
    obtain ⟨b1, b2, rfl, pb⟩ := ok1_iff.1 h.2
    obtain ⟨hw, ra1, ra2, _⟩ := pok_rng pa
    obtain ⟨_, rb1, rb2, _⟩ := pok_rng pb
    simp only [Bool.not_true, cond_false, sp, if_true]
    rw [hS w a1 b1 hw ra1 rb1]
    simp only [Option.bind_some]
    rw [show (((w == w) && true) && true) = true by simp, ok_true, hFl w _ hw (shL_add hw ra1 rb1)]
    simp only [Option.bind_some]
    rw [hS w a2 b2 hw ra2 rb2]
    simp only [Option.bind_some]
    rw [show (((w == w) && true) && true) = true by simp, ok_true, hFl w _ hw (shL_add hw ra2 rb2)]
    simp only [Option.bind_some]
    rw [hSo]
    rfl
theorem k_SubS : Ev fun n => ∀ (w : Int) (a b : Sp), c_i_SpanSub ((C B0).run n) w a.1 a.2.1 a.2.2.1 b.1 b.2.1 b.2.2.1 = some (subS w a b) := by
  refine ((k_NegS (B := B0)).and k_AddS).succ fun n hn ⟨hN, hA⟩ w a b => ?_
  rw [run_succ, e_i_SpanSub]
  unfold p_i_SpanSub subS
  rw [hN]
  simp only [Option.bind_some]
  rw [hA w a (negS w b)]
  rfl
theorem k_HullS : Ev fun n => ∀ (w : Int) (a b : Sp), c_i_SpanHull ((C B).run n) w a.1 a.2.1 a.2.2.1 b.1 b.2.1 b.2.2.1 = some (hullS w a b) := by
  refine ((k_SpanOk (B := B)).and (k_some (B := B))).succ fun n hn ⟨hO, hSo⟩ w a b => ?_
  rw [run_succ, e_i_SpanHull]
  unfold p_i_SpanHull hullS
  obtain ⟨s1, a1, a2, u⟩ := a
  obtain ⟨s2, b1, b2, u'⟩ := b
  simp only
  rw [hO]
  simp only [Option.bind_some]
  cases h1 : spk w (s1, (a1, (a2, ())))
  · rfl
  simp only [Bool.not_true, cond_false]
  rw [hO]
  simp only [Option.bind_some, jb_inr]
  cases h2 : spk w (s2, (b1, (b2, ())))
  · rfl
  cases s1
  · rfl
  cases s2
  · rfl
  simp only [Bool.not_true, cond_false]
  rw [hSo]
  rfl
theorem k_MinS : Ev fun n => ∀ (w : Int) (a b : Sp), c_i_SpanMin ((C B).run n) w a.1 a.2.1 a.2.2.1 b.1 b.2.1 b.2.2.1 = some (minS w a b) := by
  refine ((k_full (B := B)).and (k_some (B := B))).succ fun n hn ⟨hF, hSo⟩ w a b => ?_
  rw [run_succ, e_i_SpanMin]
  unfold p_i_SpanMin minS
  have e2 : [(a.1, (a.2.1, (a.2.2.1, ()))), (b.1, (b.2.1, (b.2.2.1, ())))] = [a, b] := rfl
  rw [e2, hF _ _ (by simp), full2]
  simp only [Option.bind_some]
  cases h : both w a b
  · rfl
  · simp only [Bool.not_true, cond_false, if_true]
    rw [hSo]
    rfl
theorem k_MaxS : Ev fun n => ∀ (w : Int) (a b : Sp), c_i_SpanMax ((C B).run n) w a.1 a.2.1 a.2.2.1 b.1 b.2.1 b.2.2.1 = some (maxS w a b) := by
  refine ((k_full (B := B)).and (k_some (B := B))).succ fun n hn ⟨hF, hSo⟩ w a b => ?_
  rw [run_succ, e_i_SpanMax]
  unfold p_i_SpanMax maxS
  have e2 : [(a.1, (a.2.1, (a.2.2.1, ()))), (b.1, (b.2.1, (b.2.2.1, ())))] = [a, b] := rfl
  rw [e2, hF _ _ (by simp), full2]
  simp only [Option.bind_some]
  cases h : both w a b
  · rfl
  · simp only [Bool.not_true, cond_false, if_true]
    rw [hSo]
    rfl
theorem k_AbsS : Ev fun n => ∀ (w : Int) (a : Sp), c_i_SpanAbs ((C B0).run n) w a.1 a.2.1 a.2.2.1 = some (absS w a) := by
  refine ((k_full (B := B0)).and ((k_some (B := B0)).and (k_size (B := B0)))).succ fun n hn ⟨hF, hSo, hZ⟩ w a => ?_
  rw [run_succ, e_i_SpanAbs]
  unfold p_i_SpanAbs absS
  have e2 : [(a.1, (a.2.1, (a.2.2.1, ())))] = [a] := rfl
  rw [e2, hF _ _ (by simp), full1]
  simp only [Option.bind_some]
  cases h : ok1 w a
  · rfl
  · obtain ⟨lo, hi, rfl, hp⟩ := ok1_iff.1 h
    obtain ⟨h1, h2, h3, h4, h5, h6⟩ := pok_iff.1 hp
    have htn := top_nonneg w
    simp only [Bool.not_true, cond_false, sp, if_true]
    rw [hZ lo (by omega) (by omega), hZ hi (by omega) (by omega), ineg_eq (by omega) (by omega)]
    simp only [Option.bind_some]
    rw [hSo]
    rfl
theorem k_MulS : Ev fun n => ∀ (w : Int) (a b : Sp), c_i_SpanMul ((C B0).run n) w a.1 a.2.1 a.2.2.1 b.1 b.2.1 b.2.2.1 = some (mulS w a b) := by
  refine ((k_full (B := B0)).and (k_limL.and (k_mulL.and (k_floatsL.and (k_some (B := B0)))))).succ fun n hn ⟨hF, hL, hT, hFl, hSo⟩ w a b => ?_
  rw [run_succ, e_i_SpanMul]
  unfold p_i_SpanMul
  have e2 : [(a.1, (a.2.1, (a.2.2.1, ()))), (b.1, (b.2.1, (b.2.2.1, ())))] = [a, b] := rfl
  rw [e2, hF _ _ (by simp), full2]
  simp only [Option.bind_some]
  cases h : both w a b
  · unfold mulS
    rw [h]; rfl
  rw [both_ok1, Bool.and_eq_true] at h
  have hb : both w a b = true := by rw [both_ok1, h.1, h.2]; rfl
  obtain ⟨a1, a2, rfl, pa⟩ := ok1_iff.1 h.1
  obtain ⟨b1, b2, rfl, pb⟩ := ok1_iff.1 h.2
  obtain ⟨hw, ra1, ra2, _⟩ := pok_rng pa
  obtain ⟨_, rb1, rb2, _⟩ := pok_rng pb
  simp only [Bool.not_true, cond_false, sp]
  let S : Nat → Sp := fun i => if i = 0 then spn else if i = 1 then stm w (stm w spn a1 b1) a1 b2 else stm w (stm w (stm w (stm w spn a1 b1) a1 b2) a2 b1) a2 b2
  have hres : mulS w (true, (a1, (a2, ()))) (true, (b1, (b2, ()))) = S 2 := by
    unfold mulS
    exact if_pos hb
  rw [hres]
  refine iter_const (fun st => ∃ (i : Nat) (z : Sp), i ≤ 2 ∧ st = (((i : Int), ((2 : Int), ((), ((), (w, ((), ((), ()))))))), ([a1, a2], ((true, (b1, (b2, ()))), (((S i).1, ((S i).2.1, ((S i).2.2.1, ()))), ((z.1, (z.2.1, (z.2.2.1, ()))), ()))))))
    (fun st => (2 - st.1.1).toNat) _ ?_ n _ (by simp only; omega) ⟨0, spn, by omega, rfl⟩
  rintro rec _ ⟨i, z, hi, rfl⟩ ih
  simp only [ilt_iff, len_eq]
  by_cases h : i < 2
  · obtain ⟨x, hx, hrx, hSx⟩ : ∃ x, List.getD [a1, a2] i 0 = x ∧ rng w x ∧ S (i + 1) = stm w (stm w (S i) x b1) x b2 := by
      have : i = 0 ∨ i = 1 := by omega
      rcases this with rfl | rfl
      · exact ⟨a1, rfl, ra1, rfl⟩
      · exact ⟨a2, rfl, ra2, rfl⟩
    rw [decide_eq_true (show (i : Int) < 2 by omega), cond_true, ok_of (inB_true (by omega) (by simp; omega)), Int.toNat_natCast, hx]
    generalize S i = o at hSx
    let T : Nat → Sp := fun j => if j = 0 then o else if j = 1 then stm w o x b1 else stm w (stm w o x b1) x b2
    refine iter_const (fun st => ∃ (j : Nat), j ≤ 2 ∧ st = (((j : Int), ((2 : Int), ((), (w, (x, ((), ((i : Int), ((2 : Int), ((), ((), ((), ()))))))))))), ([b1, b2], (((T j).1, ((T j).2.1, ((T j).2.2.1, ()))), ([a1, a2], ((true, (b1, (b2, ()))), ((z.1, (z.2.1, (z.2.2.1, ()))), ())))))))
      (fun st => (2 - st.1.1).toNat) _ ?_ n _ (by simp only; omega) ⟨0, by omega, rfl⟩
    rintro rec1 _ ⟨j, hj, rfl⟩ ih1
    simp only [ilt_iff, len_eq]
    by_cases h1 : j < 2
    · obtain ⟨y, hy, hry, hTy⟩ : ∃ y, List.getD [b1, b2] j 0 = y ∧ rng w y ∧ T (j + 1) = stm w (T j) x y := by
        have : j = 0 ∨ j = 1 := by omega
        rcases this with rfl | rfl
        · exact ⟨b1, rfl, rb1, rfl⟩
        · exact ⟨b2, rfl, rb2, rfl⟩
      rw [decide_eq_true (show (j : Int) < 2 by omega), cond_true, ok_of (inB_true (by omega) (by simp; omega)), Int.toNat_natCast, hy, hL w x hw hrx, hL w y hw hry]
      simp only [Option.bind_some, outL]
      rw [hT _ _ (shL_mono (shL_lim hw hrx) (by omega)) (shL_mono (shL_lim hw hry) (by omega))]
      simp only [Option.bind_some, outL]
      rw [hFl w _ hw (shL_mul hw hrx hry)]
      simp only [Option.bind_some]
      have hj1 : iadd .i64 (j : Int) 1 = (j : Int) + 1 := iadd_eq (by omega) (by omega)
      generalize T j = o1 at hTy
      obtain ⟨s, l1, l2, u⟩ := o1
      refine Eq.trans ?_ (ih1 _ ⟨j + 1, by omega, rfl⟩ (by simp only; omega))
      rw [hTy]
      unfold stm stp
      cases s
      · simp only [Bool.not_false, cond_true, Bool.false_eq_true, if_false]
        rw [hSo]
        simp only [Option.bind_some, jb_inr, sp]
        rw [hSo]
        simp only [Option.bind_some, sp]
        have m1 : ∀ d : Int, imin d d = d := fun d => by unfold imin; omega
        have m2 : ∀ d : Int, imax d d = d := fun d => by unfold imax; omega
        rw [m1, m2, hj1]
        rfl
      · simp only [Bool.not_true, cond_false, jb_inr, if_true]
        rw [hSo]
        simp only [Option.bind_some, sp]
        rw [hj1]
        rfl
    · have hj2 : j = 2 := by omega
      subst hj2
      rw [decide_eq_false (by omega), cond_false, iadd_eq (by omega) (by omega)]
      refine ih _ ⟨i + 1, z, by omega, ?_⟩ (by simp only; omega)
      rw [hSx]; rfl
  · have hi2 : i = 2 := by omega
    subst hi2
    rw [decide_eq_false (by omega), cond_false]
end Go.Px.Seat

/- Quotients of spans: the program's. Seat ZD. -/
namespace Pm
open Go.Px Go.Px.Seat
theorem sgn_nonneg (a : Lm) : 0 ≤ a.sgn ↔ Lm.num 0 ≤ a := by
  cases a with
  | neg => simp [Lm.sgn]
  | pos => simp [Lm.sgn]
  | num r => rcases Lm.sgn_cases r with ⟨h, e⟩ | ⟨h, e⟩ | ⟨h, e⟩ <;> rw [e] <;> simp <;> grind
theorem sgn_nonpos (a : Lm) : a.sgn ≤ 0 ↔ a ≤ Lm.num 0 := by
  cases a with
  | neg => simp [Lm.sgn]
  | pos => simp [Lm.sgn]
  | num r => rcases Lm.sgn_cases r with ⟨h, e⟩ | ⟨h, e⟩ | ⟨h, e⟩ <;> rw [e] <;> simp <;> grind
theorem sgn_zero (a : Lm) : a.sgn = 0 ↔ a = Lm.num 0 := by
  cases a with
  | neg => simp [Lm.sgn]
  | pos => simp [Lm.sgn]
  | num r => rcases Lm.sgn_cases r with ⟨h, e⟩ | ⟨h, e⟩ | ⟨h, e⟩ <;> rw [e] <;> simp <;> grind
theorem short_divf {w x y : Int} (hx : fin w x) (hy : fin w y) : short 1024 (fv w x / fv w y) := by
  by_cases h0 : fv w y = 0
  · rw [h0, Rat.div_def, Rat.inv_zero, Rat.mul_zero]
    exact ⟨by simp [ft], by
      show (dig 1).length ≤ _
      rw [← one_dig]; decide⟩
  rw [div_sg h0]
  have f1 := fits_len (fits_fv hx)
  have f2 := fits_len (fits_fv hy)
  simp only [ft, fq] at f1 f2
  have m1 := len_dig_mul (fv w x).num.natAbs (fv w y).den
  have m2 := len_dig_mul (fv w x).den (fv w y).num.natAbs
  have hn : (fv w y).num.natAbs ≠ 0 := fun h => h0 (Rat.num_eq_zero.1 (Int.natAbs_eq_zero.1 h))
  refine mk_short (Nat.mul_ne_zero (Rat.den_nz _) hn) ?_ (by omega)
  rw [sg_natAbs]
  omega
theorem short_zero : short 1024 0 := ⟨by simp [ft], by
  show (dig 1).length ≤ _
  rw [← one_dig]; decide⟩
theorem shL_div {w x y : Int} (hw : wd w = true) (hx : rng w x) (hy : rng w y) : shL 1024 (Lm.div (lim w x) (lim w y)) := by
  rcases lim_cases hw hx with ⟨h, e⟩ | ⟨h, e⟩ | ⟨h, e⟩ <;> rcases lim_cases hw hy with ⟨h', e'⟩ | ⟨h', e'⟩ | ⟨h', e'⟩ <;> rw [e, e'] <;> first | exact short_divf h h' | exact short_zero | trivial
/-- a quotient by what is next to 0 -/
def near (l bl : Lm) (p : Bool) : Lm := if p = true then Lm.div l bl else if l.sgn = 0 then l else Lm.inf l.sgn
theorem zero_div (a : Lm) : Lm.div (.num 0) a = .num 0 := by
  cases a with
  | neg => rfl
  | pos => rfl
  | num s => simp only [Lm.div, Rat.div_def, Rat.zero_mul]
theorem qlo_prog {l bl bh : Lm} {p : Bool} (hp : p = true ↔ ¬ bl ≤ .num 0) : qlo l bl bh = if 0 ≤ l.sgn then Lm.div l bh else near l bl p := by
  unfold qlo near
  by_cases h : Lm.num 0 ≤ l
  · rw [if_pos h, if_pos ((sgn_nonneg l).2 h)]
  · rw [if_neg h, if_neg (fun h' => h ((sgn_nonneg l).1 h'))]
    have hs : l.sgn = -1 := by
      have := sgn_rng l
      have h2 : ¬ 0 ≤ l.sgn := fun h' => h ((sgn_nonneg l).1 h')
      omega
    by_cases hb : bl ≤ .num 0
    · rw [if_pos hb, if_neg (fun h' => (hp.1 h') hb), hs]; rfl
    · rw [if_neg hb, if_pos (hp.2 hb)]
theorem qhi_prog {l bl bh : Lm} {p : Bool} (hp : p = true ↔ ¬ bl ≤ .num 0) : qhi l bl bh = if l.sgn < 0 then Lm.div l bh else near l bl p := by
  unfold qhi near
  by_cases h : l ≤ Lm.num 0
  · rw [if_pos h]
    have h2 := (sgn_nonpos l).2 h
    by_cases h0 : l.sgn = 0
    · have hl := (sgn_zero l).1 h0
      subst hl
      rw [if_neg (by omega), zero_div, zero_div]
      simp [h0]
    · rw [if_pos (by omega)]
  · rw [if_neg h]
    have h2 : ¬ l.sgn ≤ 0 := fun h' => h ((sgn_nonpos l).1 h')
    have := sgn_rng l
    rw [if_neg (show ¬ l.sgn < 0 by omega)]
    by_cases hb : bl ≤ .num 0
    · rw [if_pos hb, if_neg (fun h' => (hp.1 h') hb), if_neg (show ¬ l.sgn = 0 by omega), show l.sgn = 1 by omega]; rfl
    · rw [if_neg hb, if_pos (hp.2 hb)]
theorem pos_lim {w o : Int} (hw : wd w = true) (ho : rng w o) : ilt 0 o = true ↔ ¬ lim w o ≤ .num 0 := by
  have ht := top_pos hw
  rw [← lim_zero hw, lim_le hw ho (by unfold rng; omega), ilt_iff, decide_eq_true_iff]
  omega
theorem shL_near {w x y : Int} (hw : wd w = true) (hx : rng w x) (hy : rng w y) (p : Bool) : shL 1024 (near (lim w x) (lim w y) p) := by
  unfold near
  split
  · exact shL_div hw hx hy
  · split
    · exact shL_mono (shL_lim hw hx) (by omega)
    · exact shL_inf 1024 (by omega) _
end Pm
namespace Go.Px.Seat
open Go Pm
set_option linter.unusedVariables false
variable {B : Run}
theorem k_near : Ev fun n => ∀ (w : Int) (l : Lm) (s : Bool) (lo hi : Int), wd w = true → rng w lo → shL 33554432 l → c_i_divAbove_1 ((C B0).run n) (li l) (lb l) (lu l) (lv l) s lo hi w =
    some (li (near l (lim w lo) (ilt 0 lo)), (lb (near l (lim w lo) (ilt 0 lo)), (lu (near l (lim w lo) (ilt 0 lo)), (lv (near l (lim w lo) (ilt 0 lo)), (s, (lo, (hi, (w, ())))))))) := by
  refine (k_limL.and (k_divL.and (k_sgnL (B := B0)))).succ fun n hn ⟨hL, hD, hS⟩ w l s lo hi hw hlo hl => ?_
  rw [run_succ, e_i_divAbove_1]
  unfold p_i_divAbove_1 near
  cases hp : ilt 0 lo
  · simp only [cond_false]
    rw [hS]
    simp only [Option.bind_some]
    by_cases h0 : l.sgn = 0
    · rw [show (l.sgn == 0) = true by simp [h0], cond_true]
      simp [h0]
    · rw [beq_f h0, cond_false]
      simp only [Bool.false_eq_true, if_false, if_neg h0]
      rcases sgn_rng l with h | h | h
      · rw [h]; rfl
      · exact absurd h h0
      · rw [h]; rfl
  · simp only [cond_true, if_true]
    rw [hL w lo hw hlo]
    simp only [Option.bind_some, outL]
    rw [hD l (lim w lo) hl (shL_mono (shL_lim hw hlo) (by omega)) (fun h => by
      have := (pos_lim hw hlo).1 hp
      rw [h] at this
      exact this (Lm.rfl' _))]
    rfl
theorem k_quotS : Ev fun n => ∀ (w : Int) (a b : Sp), ok1 w a = true → ok1 w b = true → c_i_divAbove ((C B0).run n) w a.1 a.2.1 a.2.2.1 b.1 b.2.1 b.2.2.1 = some (quotS w a b) := by
  refine (k_limL.and (k_divL.and ((k_sgnL (B := B0)).and (k_near.and (k_floatsL.and (k_some (B := B0))))))).succ fun n hn ⟨hL, hD, hS, hN, hFl, hSo⟩ w a b ha hb => ?_
  obtain ⟨a1, a2, rfl, pa⟩ := ok1_iff.1 ha
  obtain ⟨b1, b2, rfl, pb⟩ := ok1_iff.1 hb
  obtain ⟨hw, ra1, ra2, _⟩ := pok_rng pa
  obtain ⟨_, rb1, rb2, _⟩ := pok_rng pb
  rw [run_succ, e_i_divAbove]
  unfold p_i_divAbove
  have e : quotS w (sp a1 a2) (sp b1 b2) = if b2 ≤ 0 then spn else sp (dn w (qlo (lim w a1) (lim w b1) (lim w b2))) (up w (qhi (lim w a2) (lim w b1) (lim w b2))) := rfl
  rw [e]
  simp only [sp, ile_iff]
  by_cases h : b2 ≤ 0
  · rw [decide_eq_true h, if_pos h]; rfl
  rw [decide_eq_false h, if_neg h, cond_false, hL w b2 hw rb2, hL w a1 hw ra1, hL w a2 hw ra2]
  simp only [Option.bind_some, outL]
  rw [hN w (lim w a1) true b1 b2 hw rb1 (shL_mono (shL_lim hw ra1) (by omega))]
  simp only [Option.bind_some]
  rw [ok_of (by simp [beqB])]
  rw [hN w (lim w a2) true b1 b2 hw rb1 (shL_mono (shL_lim hw ra2) (by omega))]
  simp only [Option.bind_some]
  rw [ok_of (by simp [beqB]), hS]
  simp only [Option.bind_some]
  have hb2 : lim w b2 ≠ .num 0 := fun h' => by
    have := (pos_lim hw rb2).1 (by simp; omega)
    rw [h'] at this
    exact this (Lm.rfl' _)
  have q1 := qlo_prog (l := lim w a1) (bh := lim w b2) (pos_lim hw rb1)
  have q2 := qhi_prog (l := lim w a2) (bh := lim w b2) (pos_lim hw rb1)
  rw [q1, q2]
  have s1 := shL_mono (l := 33554432) (shL_lim hw ra1) (by omega)
  have s2 := shL_mono (l := 33554432) (shL_lim hw ra2) (by omega)
  have s3 := shL_mono (l := 33554432) (shL_lim hw rb2) (by omega)
  have t1 := shL_div hw ra1 rb2
  have t2 := shL_div hw ra2 rb2
  have t3 := shL_near hw ra1 rb1 (ilt 0 b1)
  have t4 := shL_near hw ra2 rb1 (ilt 0 b1)
  have c1 := hD _ _ s1 s3 hb2
  have c2 := hD _ _ s2 s3 hb2
  have c3 := hS (lim w a2)
  clear hN q1 q2
  generalize ilt 0 b1 = pp at t3 t4 ⊢
  by_cases g1 : 0 ≤ (lim w a1).sgn
  · rw [decide_eq_true g1, cond_true, c1, if_pos g1]
    simp only [Option.bind_some, outL, jb_inr]
    rw [c3]
    simp only [Option.bind_some, ilt_iff]
    by_cases g2 : (lim w a2).sgn < 0
    · rw [decide_eq_true g2, cond_true, c2, if_pos g2]
      simp only [Option.bind_some, outL, jb_inr]
      rw [hFl w _ hw t1, hFl w _ hw t2]
      simp only [Option.bind_some]
      rw [hSo]
      rfl
    · rw [decide_eq_false g2, cond_false, if_neg g2]
      simp only [jb_inr]
      rw [hFl w _ hw t1, hFl w _ hw t4]
      simp only [Option.bind_some]
      rw [hSo]
      rfl
  · rw [decide_eq_false g1, cond_false, if_neg g1]
    simp only [jb_inr]
    rw [c3]
    simp only [Option.bind_some, ilt_iff]
    by_cases g2 : (lim w a2).sgn < 0
    · rw [decide_eq_true g2, cond_true, c2, if_pos g2]
      simp only [Option.bind_some, outL, jb_inr]
      rw [hFl w _ hw t3, hFl w _ hw t2]
      simp only [Option.bind_some]
      rw [hSo]
      rfl
    · rw [decide_eq_false g2, cond_false, if_neg g2]
      simp only [jb_inr]
      rw [hFl w _ hw t3, hFl w _ hw t4]
      simp only [Option.bind_some]
      rw [hSo]
      rfl
theorem ok1_neg {w : Int} {a : Sp} (h : ok1 w a = true) : ok1 w (negS w a) = true := by
  obtain ⟨lo, hi, rfl, hp⟩ := ok1_iff.1 h
  unfold negS
  rw [if_pos h, ok1_sp]
  exact pok_neg hp
theorem k_divTwoS : Ev fun n => ∀ (w : Int) (a b : Sp), c_i_SpanDivTwo ((C B0).run n) w a.1 a.2.1 a.2.2.1 b.1 b.2.1 b.2.2.1 = some (out2 (divTwoS w a b)) := by
  refine ((k_full (B := B0)).and (k_quotS.and ((k_NegS (B := B0)).and (k_HullS (B := B0))))).succ fun n hn ⟨hF, hQ, hN, hH⟩ w a b => ?_
  rw [run_succ, e_i_SpanDivTwo]
  unfold p_i_SpanDivTwo divTwoS
  have e2 : [(a.1, (a.2.1, (a.2.2.1, ()))), (b.1, (b.2.1, (b.2.2.1, ())))] = [a, b] := rfl
  rw [e2, hF _ _ (by simp), full2]
  simp only [Option.bind_some]
  cases h : both w a b
  · rfl
  have h' := h
  rw [both_ok1, Bool.and_eq_true] at h'
  simp only [Bool.not_true, cond_false, if_true]
  rw [hQ w a b h'.1 h'.2]
  simp only [Option.bind_some]
  rw [hN, hN]
  simp only [Option.bind_some]
  rw [hQ w _ _ (ok1_neg h'.1) (ok1_neg h'.2)]
  simp only [Option.bind_some]
  generalize quotS w a b = p
  generalize quotS w (negS w a) (negS w b) = q
  obtain ⟨s, p1, p2, u⟩ := p
  obtain ⟨t, q1, q2, u'⟩ := q
  unfold parts
  cases s
  · simp only [cond_false, jb_inr, Bool.false_and, Bool.false_eq_true, if_false]
    rw [hH w (false, (p1, (p2, ()))) (t, (q1, (q2, ())))]
    rfl
  cases t
  · simp only [cond_false, cond_true, jb_inr, Bool.and_false, Bool.false_and, Bool.false_eq_true, if_false]
    rw [hH w (true, (p1, (p2, ()))) (false, (q1, (q2, ())))]
    rfl
  simp only [cond_true, jb_inr, Bool.true_and, ilt_iff]
  by_cases g : p2 < q1
  · rw [decide_eq_true g, if_pos rfl]; rfl
  · rw [decide_eq_false g, cond_false, if_neg (by simp)]
    by_cases g' : q2 < p1
    · rw [decide_eq_true g', if_pos rfl]; rfl
    · rw [decide_eq_false g', cond_false, if_neg (by simp), hH w (true, (p1, (p2, ()))) (true, (q1, (q2, ())))]
      rfl
theorem k_divS : Ev fun n => ∀ (w : Int) (a b : Sp), c_i_SpanDiv ((C B0).run n) w a.1 a.2.1 a.2.2.1 b.1 b.2.1 b.2.2.1 = some (divS w a b) := by
  refine (k_divTwoS.and (k_HullS (B := B0))).succ fun n hn ⟨hD, hH⟩ w a b => ?_
  rw [run_succ, e_i_SpanDiv]
  unfold p_i_SpanDiv divS
  rw [hD]
  simp only [Option.bind_some, out2]
  rw [hH w (divTwoS w a b).1 (divTwoS w a b).2]
  rfl
end Go.Px.Seat

/- Quotients with infinite ones; what spans leave in. -/
namespace Pm
open Go.Px Go.Px.Seat
namespace Lm
theorem div_opp (a b : Lm) : div a.opp b = (div a b).opp := by
  cases a <;> cases b <;> simp [div, Rat.div_def, Rat.neg_mul]
theorem not_le_num {s : Rat} (h : ¬ Lm.num s ≤ .num 0) : 0 < s := by
  simp at h
  exact Rat.not_le.1 h
theorem rat_div_mono {a b s : Rat} (h : a ≤ b) (hs : 0 < s) : a / s ≤ b / s := by
  rw [Rat.div_def, Rat.div_def]
  exact Rat.mul_le_mul_of_nonneg_right h (Rat.le_of_lt (Rat.inv_pos.2 hs))
theorem div_mono {a b y : Lm} (h : a ≤ b) (hy : ¬ y ≤ .num 0) : div a y ≤ div b y := by
  cases y with
  | neg => simp at hy
  | pos => cases a <;> cases b <;> simp [div]
  | num s =>
    have hs := not_le_num hy
    cases a <;> cases b <;> simp_all [div]
    exact rat_div_mono h hs
theorem div_nonneg {a y : Lm} (h : .num 0 ≤ a) (hy : ¬ y ≤ .num 0) : .num 0 ≤ div a y := by
  have := div_mono h hy
  rwa [zero_div] at this
theorem rat_inv_anti {s t : Rat} (hs : 0 < s) (h : s ≤ t) : t⁻¹ ≤ s⁻¹ := by
  have ht : 0 < t := by grind
  have h1 := Rat.mul_le_mul_of_nonneg_right h (Rat.le_of_lt (Rat.inv_pos.2 ht))
  rw [Rat.mul_inv_cancel t (Rat.ne_of_gt ht)] at h1
  have h2 := Rat.mul_le_mul_of_nonneg_left h1 (Rat.le_of_lt (Rat.inv_pos.2 hs))
  rw [← Rat.mul_assoc, Rat.inv_mul_cancel s (Rat.ne_of_gt hs), Rat.one_mul, Rat.mul_one] at h2
  exact h2
/-- by more it is less -/
theorem div_anti {a x y : Lm} (ha : .num 0 ≤ a) (hx : ¬ x ≤ .num 0) (h : x ≤ y) : div a y ≤ div a x := by
  have hy : ¬ y ≤ .num 0 := fun h' => hx (trans h h')
  cases y with
  | neg => simp at hy
  | pos => 
    rw [show div a .pos = .num 0 by cases a <;> rfl]
    exact div_nonneg ha hx
  | num t =>
    cases x with
    | neg => simp at hx
    | pos => simp at h
    | num s =>
      cases a with
      | neg => simp at ha
      | pos => exact rfl' _
      | num r =>
        simp at ha h
        simp only [div, num_le, Rat.div_def]
        exact Rat.mul_le_mul_of_nonneg_left (rat_inv_anti (not_le_num hx) h) ha
theorem div_mono_neg {a x y : Lm} (ha : a ≤ .num 0) (hx : ¬ x ≤ .num 0) (h : x ≤ y) : div a x ≤ div a y := by
  have h0 : Lm.num 0 ≤ a.opp := by
    have := opp_le.2 ha
    simpa using this
  have := div_anti h0 hx h
  rw [div_opp, div_opp] at this
  exact opp_le.1 this
end Lm
theorem qlo_opp (l bl bh : Lm) : qlo l.opp bl bh = (qhi l bl bh).opp := by
  unfold qlo qhi
  have e : Lm.num 0 ≤ l.opp ↔ l ≤ .num 0 := by
    have := Lm.opp_le (a := .num 0) (b := l)
    rw [show (Lm.num 0).opp = .num 0 by simp] at this
    exact this
  by_cases h : l ≤ .num 0
  · rw [if_pos (e.2 h), if_pos h, Lm.div_opp]
  · rw [if_neg (fun h' => h (e.1 h')), if_neg h]
    split
    · rfl
    · rw [Lm.div_opp]
theorem qlo_le {l x bl y bh : Lm} (h1 : l ≤ x) (h2 : bl ≤ y) (h3 : y ≤ bh) (hy : ¬ y ≤ .num 0) : qlo l bl bh ≤ Lm.div x y := by
  unfold qlo
  by_cases h : Lm.num 0 ≤ l
  · rw [if_pos h]
    exact Lm.trans (Lm.div_anti h hy h3) (Lm.div_mono h1 hy)
  · rw [if_neg h]
    by_cases hb : bl ≤ .num 0
    · rw [if_pos hb]; simp
    · rw [if_neg hb]
      exact Lm.trans (Lm.div_mono_neg (Lm.of_not_le h) hb h2) (Lm.div_mono h1 hy)
theorem le_qhi {h x bl y bh : Lm} (h1 : x ≤ h) (h2 : bl ≤ y) (h3 : y ≤ bh) (hy : ¬ y ≤ .num 0) : Lm.div x y ≤ qhi h bl bh := by
  have := qlo_le (l := h.opp) (x := x.opp) (Lm.opp_le.2 h1) h2 h3 hy
  rw [qlo_opp, Lm.div_opp] at this
  exact Lm.opp_le.1 this
theorem qlo_qhi {l h bl bh : Lm} (h1 : l ≤ h) (h2 : bl ≤ bh) (hy : ¬ bh ≤ .num 0) : qlo l bl bh ≤ qhi h bl bh :=
  Lm.trans (qlo_le h1 h2 (Lm.rfl' _) hy) (le_qhi (Lm.rfl' _) h2 (Lm.rfl' _) hy)
theorem div_ne_pos {a b : Lm} (h : a ≠ .pos) : Lm.div a b ≠ .pos := by
  cases a <;> cases b <;> simp_all [Lm.div]
theorem qlo_ne {l bl bh : Lm} (h : l ≠ .pos) : qlo l bl bh ≠ .pos := by
  unfold qlo
  split
  · exact div_ne_pos h
  · split
    · simp
    · exact div_ne_pos h
theorem qhi_ne {l bl bh : Lm} (h : l ≠ .neg) : qhi l bl bh ≠ .neg := by
  have := qlo_ne (l := l.opp) (bl := bl) (bh := bh) (by cases l <;> simp_all)
  rw [qlo_opp] at this
  intro h'
  rw [h'] at this
  exact this rfl
theorem pos_lim' {w o : Int} (hw : wd w = true) (ho : rng w o) : 0 < o ↔ ¬ lim w o ≤ .num 0 := by
  have := pos_lim hw ho
  rwa [ilt_iff, decide_eq_true_iff] at this
theorem nonneg_lim {w o : Int} (hw : wd w = true) (ho : rng w o) : 0 ≤ o ↔ .num 0 ≤ lim w o := by
  have ht := top_pos hw
  rw [← lim_zero hw, lim_le hw (by unfold rng; omega) ho]
theorem quot_ok {w : Int} {a b : Sp} (ha : ok1 w a = true) (hb : ok1 w b = true) (h : 0 < b.2.2.1) : ok1 w (quotS w a b) = true := by
  obtain ⟨a1, a2, rfl, pa⟩ := ok1_iff.1 ha
  obtain ⟨b1, b2, rfl, pb⟩ := ok1_iff.1 hb
  obtain ⟨hw, ra1, ra2, _⟩ := pok_rng pa
  obtain ⟨_, rb1, rb2, _⟩ := pok_rng pb
  have h' : 0 < b2 := h
  have e : quotS w (sp a1 a2) (sp b1 b2) = if b2 ≤ 0 then spn else sp (dn w (qlo (lim w a1) (lim w b1) (lim w b2))) (up w (qhi (lim w a2) (lim w b1) (lim w b2))) := rfl
  rw [e, if_neg (by omega), ok1_sp]
  exact pok_dn_up hw (qlo_qhi (lim_lo_hi pa) (lim_lo_hi pb) ((pos_lim' hw rb2).1 h')) (qlo_ne (lo_ne pa).1) (qhi_ne (lo_ne pa).2)
theorem quot_spk {w : Int} {a b : Sp} (hw : wd w = true) (ha : ok1 w a = true) (hb : ok1 w b = true) : spk w (quotS w a b) = true := by
  by_cases h : 0 < b.2.2.1
  · exact spk_of_ok1 (quot_ok ha hb h)
  · unfold quotS
    rw [if_pos (by omega), spk_spn, hw]
theorem negS_sp {w lo hi : Int} (h : pok w lo hi = true) : negS w (sp lo hi) = sp (-hi) (-lo) := by
  unfold negS
  rw [ok1_sp, if_pos h]; rfl
end Pm
