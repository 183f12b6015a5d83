/- Own texts, part M7: PmZ PmZa PmZb PmZc PmZd PmZe PmZf PmZg PmZh PmZi PmZj. -/
import Derived.Test.YtbdlklncblklnaaGreatDoorM6
import Derived.Test.YtbdlklncblklnaaGreatDoorM5
set_option linter.unusedVariables false

/- A float made of its parts: the program's. Seat ZD. -/
namespace Pm
open Go.Px.Seat
theorem ctz_dvd : ∀ (f x : Nat), x ≠ 0 → x < 2 ^ f → 2 ^ ctz f x ∣ x ∧ ctz f x < f
  | 0, x, h, h' => by simp at h'; omega
  | f + 1, x, h, h' => by
    unfold ctz
    by_cases h1 : x % 2 = 1
    · rw [if_pos h1]
      exact ⟨Nat.one_dvd _, by omega⟩
    · rw [if_neg h1]
      rw [Nat.pow_succ] at h'
      obtain ⟨h2, h3⟩ := ctz_dvd f (x / 2) (by omega) (by omega)
      refine ⟨?_, by omega⟩
      rw [Nat.pow_succ]
      obtain ⟨c, hc⟩ := h2
      refine ⟨c, ?_⟩
      rw [Nat.mul_assoc, Nat.mul_comm 2 c, ← Nat.mul_assoc, ← hc]
      omega
theorem bias_of {w : Int} (h : wd w = true) : ∃ b : Nat, (fmt w).2.2.1 = (b : Int) ∧ lst w + 1 = b + frw w ∧ top w = ((2 * b + 1 : Nat) : Int) * ((2 ^ frw w : Nat) : Int) ∧ b ≤ 1023 ∧ 1 ≤ b ∧ 1 ≤ frw w := by
  rcases of_decide_eq_true h with h | h <;> subst h
  · exact ⟨127, rfl, rfl, rfl, by omega, by omega, by decide⟩
  · exact ⟨1023, rfl, rfl, rfl, by omega, by omega, by decide⟩
end Pm
namespace Go.Px.Seat
open Go Pm
set_option linter.unusedVariables false
variable {B : Run}
theorem ishlu_eq {x k : Nat} (hk : k ≤ 64) (h : x * 2 ^ k < 18446744073709551616) : ishl .u64 (x : Int) (k : Int) = ((x * 2 ^ k : Nat) : Int) := by
  have : min ((k : Int)).toNat (IntKind.bits .u64) = k := by simp [IntKind.bits]; omega
  rw [ishl, this]
  have e : (x : Int) * 2 ^ k = ((x * 2 ^ k : Nat) : Int) := by simp
  rw [e, wrapu64 (by omega) (by omega)]
theorem k_Make : Ev fun n => ∀ (w pw : Int) (Q : Nat), wd w = true → Q < 2 ^ (frw w + 1) → -(lst w : Int) ≤ pw → (pw = -(lst w : Int) ∨ 2 ^ frw w ≤ Q) → pw ≤ 1000000 →
    c_i_BitMake ((C B0).run n) w false (Q : Int) pw = some (if (((pw + lst w).toNat * 2 ^ frw w + Q : Nat) : Int) < top w then ((((pw + lst w).toNat * 2 ^ frw w + Q : Nat) : Int), (true, ())) else (0, (false, ()))) := by
  refine ((k_fmt (B := B0)).and ((k_in (B := B0)).and (k_tz.and (k_Len64 (B := B0))))).succ fun n hn ⟨hF, hI, hZ, hL⟩ w pw Q hw hQ hp1 hp2 hp3 => ?_
  rw [run_succ, e_i_BitMake]
  unfold p_i_BitMake
  have hfl := frw_le w
  have hll : lst w ≤ 1074 := by unfold lst; split <;> omega
  have htp := top_pos hw
  have htn := top_nonneg w
  obtain ⟨b, hb1, hb2, hb3, hb4, hb5, hb6⟩ := bias_of hw
  have hU : 0 < 2 ^ frw w := Nat.pow_pos (by decide)
  have hU2 : 2 ^ frw w ≤ 2 ^ 52 := Nat.pow_le_pow_right (by decide) hfl
  have hQ' := hQ
  rw [Nat.pow_succ] at hQ'
  rw [hF, fmt_of hw, hb1]
  simp only [Option.bind_some, Bool.not_true, cond_false]
  rw [hI]
  simp only [Option.bind_some, jb_inr]
  obtain ⟨e, he⟩ : ∃ e : Nat, pw + lst w = (e : Int) := ⟨(pw + lst w).toNat, by omega⟩
  have het : (pw + lst w).toNat = e := by omega
  rw [het]
  have hm0 : ((e * 2 ^ frw w + Q : Nat) : Int) = (e : Int) * ((2 ^ frw w : Nat) : Int) + (Q : Int) := by rw [Int.natCast_add, Int.natCast_mul]
  by_cases hr : -2000 ≤ pw ∧ pw ≤ 2000
  · rw [decide_eq_true hr, Bool.not_true, cond_false]
    by_cases hQ0 : Q = 0
    · subst hQ0
      have hpe : pw = -(lst w : Int) := hp2.resolve_right (by omega)
      have he0 : e = 0 := by omega
      subst he0
      rw [if_pos (by simp; omega)]
      simp
    · rw [beq_f (by omega), cond_false, hZ _ (by simp only [Nat.reducePow] at hU2; omega)]
      simp only [Option.bind_some]
      obtain ⟨hz1, hz2⟩ := ctz_dvd 64 Q hQ0 (by simp only [Nat.reducePow] at hU2; omega)
      generalize ctz 64 Q = z at *
      obtain ⟨od, hod⟩ := hz1
      have hz0 : 0 < 2 ^ z := Nat.pow_pos (by decide)
      have hdiv : Q / 2 ^ z = od := by rw [hod, Nat.mul_div_cancel_left _ hz0]
      have hod0 : od ≠ 0 := fun h => hQ0 (by rw [hod, h, Nat.mul_zero])
      have hbl : bl Q = z + bl od := by
        have := bl_shift Q z (by rw [hdiv]; exact hod0)
        rwa [hdiv] at this
      have hodQ : od ≤ Q := by rw [hod]; exact Nat.le_mul_of_pos_left _ hz0
      have hblQ : bl Q ≤ frw w + 1 := bl_le.2 hQ
      have hsh : ishr .u64 (Q : Int) (z : Int) = (od : Int) := by
        rw [ishru_eq (by omega)]
        have : ((2 : Int) ^ z) = ((2 ^ z : Nat) : Int) := by simp
        rw [this, ← Int.natCast_ediv, hdiv]
      have hblod : bl od ≠ 0 := mt bl_eq_zero.1 hod0
      have hQ64 : Q < 9223372036854775808 := by simp only [Nat.reducePow] at hU2; omega
      rw [show ile 0 (z : Int) = true by simp, ok_true, hsh, hL _ (by omega)]
      simp only [Option.bind_some, ilt_iff]
      have x1 : iadd .i64 (frw w : Int) 1 = (frw w : Int) + 1 := iadd_eq (by omega) (by omega)
      have x2 : iadd .i64 pw (z : Int) = pw + z := iadd_eq (by omega) (by omega)
      have x3 : iadd .i64 (pw + z) (bl od : Int) = pw + z + bl od := iadd_eq (by omega) (by omega)
      have x4 : isub .i64 (pw + z + bl od) 1 = pw + z + bl od - 1 := isub_eq (by omega) (by omega)
      rw [x1, x2, x3, x4, decide_eq_false (show ¬ (frw w : Int) + 1 < (bl od : Int) by omega), cond_false, decide_eq_false (show ¬ pw + (z : Int) < -(lst w : Int) by omega), cond_false, jb_inr]
      simp only
      by_cases hov : (b : Int) < pw + z + bl od - 1
      · rw [decide_eq_true hov, cond_true, if_neg]
        have hge : 2 ^ frw w ≤ Q := by
          rcases hp2 with h | h
          · exfalso; omega
          · exact h
        rw [hm0, hb3]
        have h3 : ((2 * b : Nat) : Int) * ((2 ^ frw w : Nat) : Int) ≤ (e : Int) * ((2 ^ frw w : Nat) : Int) := Int.mul_le_mul_of_nonneg_right (by omega) (by omega)
        have h4 : ((2 * b + 1 : Nat) : Int) * ((2 ^ frw w : Nat) : Int) = ((2 * b : Nat) : Int) * ((2 ^ frw w : Nat) : Int) + ((2 ^ frw w : Nat) : Int) := by rw [Int.natCast_add, Int.add_mul]; simp
        omega
      · rw [decide_eq_false hov, cond_false]
        have hmul : od * 2 ^ z = Q := by rw [Nat.mul_comm]; exact hod.symm
        have hshl : ishl .u64 (od : Int) (z : Int) = (Q : Int) := by
          rw [ishlu_eq (by omega) (by omega), hmul]
        have x5 : iadd .i64 (pw + z + bl od - 1) (b : Int) = pw + z + bl od - 1 + b := iadd_eq (by omega) (by omega)
        have x6 : isub .i64 ((frw w : Int) + 1) (bl od : Int) = (frw w : Int) + 1 - bl od := isub_eq (by omega) (by omega)
        have x7 : isub .i64 (pw + z) (-(lst w : Int)) = pw + z + lst w := by rw [isub_eq (by omega) (by omega)]; omega
        rw [x5, x1, x6, x7]
        by_cases hge : 2 ^ frw w ≤ Q
        · have hbe : bl Q = frw w + 1 := by
            have h5 : ¬ bl Q ≤ frw w := fun h => by have := bl_le.1 h; omega
            omega
          have hfld : pw + z + bl od - 1 + b = ((e + 1 : Nat) : Int) := by omega
          have hzz : (frw w : Int) + 1 - bl od = (z : Int) := by omega
          rw [hfld, hzz, hshl, wrap64 (by omega) (by omega)]
          have he2 : e + 1 ≤ 2 * b := by omega
          have h3 : (e + 1) * 2 ^ frw w ≤ 2 * b * 2 ^ frw w := Nat.mul_le_mul_right _ he2
          have h6 : 2 * b * 2 ^ frw w + 2 ^ frw w = (2 * b + 1) * 2 ^ frw w := by rw [Nat.add_mul, Nat.one_mul]
          have h7 : ((2 * b + 1) * 2 ^ frw w : Nat) = (top w).toNat := by rw [hb3, ← Int.natCast_mul]; rfl
          have h8 : (e + 1) * 2 ^ frw w = e * 2 ^ frw w + 2 ^ frw w := by rw [Nat.add_mul, Nat.one_mul]
          have hmr : Q % 2 ^ frw w = Q - 2 ^ frw w := by
            rw [Nat.mod_eq_sub_mod hge, Nat.mod_eq_of_lt (by omega)]
          have hcast : ((2 : Int) ^ frw w) = ((2 ^ frw w : Nat) : Int) := by simp
          have y1 : ishl .i64 ((e + 1 : Nat) : Int) (frw w : Int) = (((e + 1) * 2 ^ frw w : Nat) : Int) := by
            have h9 : ((e + 1 : Nat) : Int) * 2 ^ frw w = (((e + 1) * 2 ^ frw w : Nat) : Int) := by rw [hcast, Int.natCast_mul]
            rw [ishl_eq (by omega) (by rw [h9]; omega) (by rw [h9]; omega), h9]
          have y2 : iand .i64 (Q : Int) (isub .i64 (ishl .i64 1 (frw w : Int)) 1) = ((Q - 2 ^ frw w : Nat) : Int) := by
            have h9 : isub .i64 (ishl .i64 1 (frw w : Int)) 1 = (2 : Int) ^ frw w - 1 := by
              rw [shl_one _ (by omega), hcast]
              simp only [Nat.reducePow] at hU2
              exact isub_eq (by omega) (by omega)
            rw [h9, iand_mask (by omega) (by omega) (by omega), hcast, ← Int.natCast_emod, hmr]
          have y3 : ior .i64 (((e + 1) * 2 ^ frw w : Nat) : Int) ((Q - 2 ^ frw w : Nat) : Int) = ((e * 2 ^ frw w + Q : Nat) : Int) := by
            rw [ior_eq (by omega) (by omega)]
            have h9 := Nat.two_pow_add_eq_or_of_lt (show Q - 2 ^ frw w < 2 ^ frw w by omega) (e + 1)
            rw [Nat.mul_comm] at h9
            rw [← h9]
            omega
          rw [show ile 1 ((e + 1 : Nat) : Int) = true by simp; omega, cond_true, show ile 0 (frw w : Int) = true by simp, show ile 0 (z : Int) = true by simp, y1, y2, y3]
          simp only [ok_true, jb_inr, cond_false]
          rw [if_pos (by omega)]
        · have hpe : pw = -(lst w : Int) := hp2.resolve_right hge
          have he0 : e = 0 := by omega
          subst he0
          have hbe : bl Q ≤ frw w := bl_le.2 (by omega)
          rw [show ile 1 (pw + z + bl od - 1 + b) = false by simp; omega, cond_false]
          rw [show pw + z + lst w = (z : Int) by omega, show ile 0 (z : Int) = true by simp, ok_true, hshl, wrap64 (by omega) (by omega)]
          simp only [jb_inr, cond_false]
          rw [Nat.zero_mul, Nat.zero_add, if_pos]
          rw [hb3]
          have h3 : ((1 : Nat) : Int) * ((2 ^ frw w : Nat) : Int) ≤ ((2 * b + 1 : Nat) : Int) * ((2 ^ frw w : Nat) : Int) := Int.mul_le_mul_of_nonneg_right (by omega) (by omega)
          omega
  · rw [decide_eq_false hr, Bool.not_false, cond_true, if_neg]
    rw [hm0, hb3]
    have h3 : ((2 * b + 1 : Nat) : Int) * ((2 ^ frw w : Nat) : Int) ≤ (e : Int) * ((2 ^ frw w : Nat) : Int) := Int.mul_le_mul_of_nonneg_right (by omega) (by omega)
    omega
end Go.Px.Seat

/- The float below a number: the program's. Seat ZD. -/
namespace Pm
open Go.Px.Seat
theorem scR_half {p q : Nat} (hq : q ≠ 0) (s : Int) : scR p q (s - 1) = 0 ↔ scR p q s = 0 ∧ scQ p q s % 2 = 0 := by
  unfold scQ scR
  by_cases h : 1 ≤ s
  · obtain ⟨k, rfl⟩ : ∃ k : Nat, s = (k : Int) + 1 := ⟨(s - 1).toNat, by omega⟩
    rw [if_pos (by omega), if_pos (by omega), if_pos (by omega), show ((k : Int) + 1 - 1).toNat = k by omega, show ((k : Int) + 1).toNat = k + 1 by omega, Nat.pow_succ, ← Nat.mul_assoc]
    generalize p * 2 ^ k = x
    constructor
    · intro h1
      obtain ⟨c, rfl⟩ := Nat.dvd_of_mod_eq_zero h1
      have e : q * c * 2 = q * (c * 2) := Nat.mul_assoc ..
      rw [e, Nat.mul_mod_right, Nat.mul_div_cancel_left _ (Nat.pos_of_ne_zero hq)]
      exact ⟨rfl, by omega⟩
    · rintro ⟨h1, h2⟩
      obtain ⟨d, hd⟩ := Nat.dvd_of_mod_eq_zero h1
      rw [hd, Nat.mul_div_cancel_left _ (Nat.pos_of_ne_zero hq)] at h2
      obtain ⟨c, rfl⟩ : ∃ c, d = c * 2 := ⟨d / 2, by omega⟩
      rw [← Nat.mul_assoc] at hd
      have : x = q * c := by omega
      rw [this, Nat.mul_mod_right]
  · obtain ⟨k, rfl⟩ : ∃ k : Nat, s = -(k : Int) := ⟨(-s).toNat, by omega⟩
    have h1 : (-(-(k : Int) - 1)).toNat = k + 1 := by omega
    have h2 : (- -(k : Int)).toNat = k := by omega
    have key : p % (q * 2 ^ k * 2) = 0 ↔ p % (q * 2 ^ k) = 0 ∧ p / (q * 2 ^ k) % 2 = 0 := by
      have hD : 0 < q * 2 ^ k := Nat.mul_pos (Nat.pos_of_ne_zero hq) (Nat.pow_pos (by decide))
      rw [Nat.mod_mul]
      generalize q * 2 ^ k = D at *
      constructor
      · intro h
        refine ⟨by omega, ?_⟩
        have : D * (p / D % 2) = 0 := by omega
        rcases Nat.mul_eq_zero.1 this with h3 | h3
        · omega
        · exact h3
      · rintro ⟨h3, h4⟩
        rw [h3, h4]; simp
    rw [if_neg (by omega), h1, Nat.pow_succ, ← Nat.mul_assoc, key]
    by_cases hk : k = 0
    · subst hk
      rw [if_pos (by omega), if_pos (by omega)]
      simp
    · rw [if_neg (by omega), if_neg (by omega), h2]
theorem scQ_neg (p q : Nat) (pw : Int) : scQ p q (-pw) = if pw < 0 then p * 2 ^ (-pw).toNat / q else p / (q * 2 ^ pw.toNat) := by
  unfold scQ
  by_cases h : pw < 0
  · rw [if_pos h, if_pos (by omega)]
  · rw [if_neg h]
    by_cases h0 : pw = 0
    · subst h0; simp
    · rw [if_neg (by omega), Int.neg_neg]
theorem scR_neg (p q : Nat) (pw : Int) : scR p q (-pw) = if pw < 0 then p * 2 ^ (-pw).toNat % q else p % (q * 2 ^ pw.toNat) := by
  unfold scR
  by_cases h : pw < 0
  · rw [if_pos h, if_pos (by omega)]
  · rw [if_neg h]
    by_cases h0 : pw = 0
    · subst h0; simp
    · rw [if_neg (by omega), Int.neg_neg]
end Pm
namespace Go.Px.Seat
open Go Pm
set_option linter.unusedVariables false
variable {B : Run}
theorem len_zero_dig (x : Nat) : (len (dig x) == 0) = decide (x = 0) := by
  rw [len_zero_iff]
  by_cases h : x = 0
  · subst h; simp
  · rw [decide_eq_false h]; simpa using mt dig_eq_nil.1 h
theorem tr_make {w s : Int} {p q : Nat} (hw : wd w = true) (hq : q ≠ 0) (hs : s ≤ (lst w : Int)) (h1 : scQ p q s < 2 ^ (frw w + 1)) (h2 : s = (lst w : Int) ∨ 2 ^ frw w ≤ scQ p q s) (ex : Bool) (he : ex = decide (scR p q s = 0)) :
    let m : Nat := ((-s + lst w).toNat * 2 ^ frw w + scQ p q s)
    IsTr w (mkRat p q) (if (m : Int) < top w then (m : Int) else top w - 1) (if (m : Int) < top w then ex else false) := by
  intro m
  have hm : m = ((lst w : Int) - s).toNat * 2 ^ frw w + scQ p q s := by
    show (-s + lst w).toNat * 2 ^ frw w + scQ p q s = _
    rw [show -s + (lst w : Int) = (lst w : Int) - s by omega]
  by_cases h : (m : Int) < top w
  · rw [if_pos h, if_pos h, he]
    have := tr_in hq hs h1 h2 (by rw [← hm]; exact h)
    rw [← hm] at this
    simpa using this
  · rw [if_neg h, if_neg h]
    exact tr_out hw hq hs h1 h2 (by rw [← hm]; omega)
end Go.Px.Seat

/- The float below a number: the program's, found. Seat ZD. -/
namespace Go.Px.Seat
open Go Pm
set_option linter.unusedVariables false
variable {B : Run}
theorem ioru_eq {x y : Nat} (hx : x < 18446744073709551616) (hy : y < 18446744073709551616) : ior .u64 (x : Int) (y : Int) = ((x ||| y : Nat) : Int) := by
  have e1 : ∀ z : Nat, z < 18446744073709551616 → (BitVec.ofInt 64 (z : Int)).toNat = z := fun z hz => by
    simp; omega
  have h3 : x ||| y < 2 ^ 64 := Nat.or_lt_two_pow (by omega) (by omega)
  show IntKind.u64.wrap (((BitVec.ofInt 64 (x : Int) ||| BitVec.ofInt 64 (y : Int)).toNat : Nat) : Int) = _
  rw [BitVec.toNat_or, e1 x hx, e1 y hy]
  exact wrapu64 (by omega) (by omega)
theorem k_truncated : Ev fun n => ∀ (w : Int) (b : Bool) (p q : Nat), wd w = true → q ≠ 0 → (dig p).length ≤ 1024 → (dig q).length ≤ 1024 →
    ∃ m ex, c_i_truncated ((C B0).run n) w b (dig p) (dig q) = some (m, (ex, ())) ∧ IsTr w (mkRat p q) m ex := by
  refine ((k_fmt (B := B0)).and ((k_natBits (B := B0)).and ((k_natShl (B := B0)).and (k_natDiv.and (k_natShr.and k_Make))))).succ fun n hn ⟨hF, hB, hSl, hD, hSr, hMk⟩ w b p q hw hq l1 l2 => ?_
  rw [run_succ, e_i_truncated]
  unfold p_i_truncated
  have htp := top_pos hw
  have htn := top_nonneg w
  have hfl := frw_le w
  have hll : lst w ≤ 1074 := by unfold lst; split <;> omega
  have bp := bl_len p
  have bq := bl_len q
  rw [hF, fmt_of hw]
  simp only [Option.bind_some, len_zero_dig]
  by_cases hp : p = 0
  · subst hp
    exact ⟨0, true, rfl, tr_zero hw⟩
  rw [decide_eq_false hp, cond_false, hB _ (by omega)]
  simp only [Option.bind_some]
  rw [hB _ (by omega)]
  simp only [Option.bind_some]
  have x1 : iadd .i64 (frw w : Int) 1 = (frw w : Int) + 1 := iadd_eq (by omega) (by omega)
  have x2 : isub .i64 (bl p : Int) (bl q : Int) = (bl p : Int) - bl q := isub_eq (by omega) (by omega)
  have x3 : isub .i64 ((bl p : Int) - bl q) ((frw w : Int) + 1) = (bl p : Int) - bl q - (frw w + 1) := isub_eq (by omega) (by omega)
  rw [x1, x2, x3]
  obtain ⟨pw, hpw⟩ : ∃ pw : Int, pw = imax (-(lst w : Int)) ((bl p : Int) - bl q - (frw w + 1)) := ⟨_, rfl⟩
  have hpw' : pw = -(sz0 w p q) := by
    rw [hpw]; unfold imax sz0; omega
  rw [← hpw]
  have hs1 : sz0 w p q ≤ lst w := Int.min_le_right ..
  have hs2 : sz0 w p q ≤ (frw w : Int) + 1 - bl p + bl q := Int.min_le_left ..
  have hs3 : -16500 ≤ sz0 w p q := by unfold sz0; omega
  have hs4 : sz0 w p q = lst w ∨ 2 ^ frw w ≤ scQ p q (sz0 w p q) := by
    by_cases h : sz0 w p q = lst w
    · exact .inl h
    · exact .inr (scQ_ge hp hq (by unfold sz0 at h ⊢; omega))
  have hQ := scQ_neg p q pw
  have hR := scR_neg p q pw
  have hsn : -pw = sz0 w p q := by omega
  rw [hsn] at hQ hR
  generalize sz0 w p q = s0 at *
  refine jb_goal (fun o => ∃ m ex, o = some (m, (ex, ())) ∧ IsTr w (mkRat p q) m ex) (fun st => ∃ t u : Nat, u ≠ 0 ∧ (dig t).length ≤ 4096 ∧ (dig u).length ≤ 4096 ∧ t / u = scQ p q s0 ∧ t % u = scR p q s0 ∧
      st = ((dig t, (dig u, ((frw w : Int) + 1, (pw, (w, ((), (0, (false, ())))))))), (((frw w : Int), (-(lst w : Int), ((fmt w).2.2.1, (top w, ())))), ()))) ?_ ?_
  · rw [ilt_iff]
    by_cases h : pw < 0
    · obtain ⟨k, hk⟩ : ∃ k : Nat, pw = -(k : Int) := ⟨(-pw).toNat, by omega⟩
      have hkl := dig_len_pow k
      have := len_dig_mul p (2 ^ k)
      rw [decide_eq_true h, cond_true, ineg_eq (by omega) (by omega), hk, Int.neg_neg, hSl _ _ (by omega) (by omega)]
      rw [if_pos h, show s0.toNat = k by omega] at hQ hR
      exact ⟨_, rfl, p * 2 ^ k, q, hq, by omega, by omega, hQ.symm, hR.symm, rfl⟩
    · obtain ⟨k, hk⟩ : ∃ k : Nat, pw = (k : Int) := ⟨pw.toNat, by omega⟩
      have hkl := dig_len_pow k
      have := len_dig_mul q (2 ^ k)
      rw [decide_eq_false h, cond_false, hk, hSl _ _ (by omega) (by omega)]
      rw [if_neg h, hk, Int.toNat_natCast] at hQ hR
      exact ⟨_, rfl, p, q * 2 ^ k, Nat.mul_ne_zero hq (pow2_ne k), by omega, by omega, hQ.symm, hR.symm, rfl⟩
  rintro _ ⟨t, u, hu, ht1, hu1, htu, htr, rfl⟩
  simp only
  rw [hD _ _ (by omega) (by omega) hu, htu, htr]
  simp only [Option.bind_some]
  have g1 : scQ p q s0 < 2 ^ (frw w + 2) := scQ_lt hq (by omega)
  have g3 : 2 ^ (frw w + 2) ≤ 2 ^ 54 := Nat.pow_le_pow_right (by decide) (by omega)
  simp only [Nat.reducePow] at g3
  have g5 : (dig (scQ p q s0)).length ≤ 4 := dig_len_le.2 (by omega)
  refine jb_goal (fun o => ∃ m ex, o = some (m, (ex, ())) ∧ IsTr w (mkRat p q) m ex) (fun st => ∃ s : Int, s ≤ lst w ∧ -16600 ≤ s ∧ scQ p q s < 2 ^ (frw w + 1) ∧ (s = lst w ∨ 2 ^ frw w ≤ scQ p q s) ∧
      st = ((dig (scQ p q s), (w, (-s, ((), (decide (scR p q s = 0), (0, (false, ()))))))), (((frw w : Int), (-(lst w : Int), ((fmt w).2.2.1, (top w, ())))), ()))) ?_ ?_
  · rw [hB _ (by omega)]
    simp only [Option.bind_some, ilt_iff, len_zero_dig]
    by_cases h : (frw w : Int) + 1 < (bl (scQ p q s0) : Int)
    · have h8 : ¬ scQ p q s0 < 2 ^ (frw w + 1) := fun hh => by have := bl_le.2 hh; omega
      have hQ0 : scQ p q s0 ≠ 0 := fun h0 => h8 (by rw [h0]; exact Nat.pow_pos (by decide))
      have hlen := dig_len_pos hQ0
      rw [decide_eq_true h, cond_true]
      refine ⟨_, ?_, s0 - 1, by omega, by omega, scQ_lt hq (by omega), .inr ?_, rfl⟩
      rotate_left
      · rw [scQ_half]
        rw [Nat.pow_succ] at h8
        omega
      refine (jb_of (p := ((dig (scQ p q s0), (pw, (w, ((), (decide (scR p q (s0 - 1) = 0), (0, (false, ()))))))), (((frw w : Int), (-(lst w : Int), ((fmt w).2.2.1, (top w, ())))), ()))) ?_ _).trans ?_
      · have hhalf := scR_half (p := p) hq s0
        by_cases hr0 : scR p q s0 = 0
        · rw [decide_eq_true hr0, cond_true, ok_of (inB_true (by omega) (by rw [len_eq]; omega))]
          have e1 : List.getD (dig (scQ p q s0)) (Int.toNat 0) 0 = ((scQ p q s0 % 65536 : Nat) : Int) := by
            show at_ _ 0 = _
            rw [dig_at]; simp
          have e2 : iand .i64 ((scQ p q s0 % 65536 : Nat) : Int) 1 = ((scQ p q s0 % 65536 : Nat) : Int) % 2 := iand_mask (k := 1) (by omega) (by omega) (by omega)
          rw [e1, e2]
          have e3 : ((((scQ p q s0 % 65536 : Nat) : Int) % 2 == 0) : Bool) = decide (scR p q (s0 - 1) = 0) := by
            rw [show ((((scQ p q s0 % 65536 : Nat) : Int) % 2 == 0) : Bool) = decide (((scQ p q s0 % 65536 : Nat) : Int) % 2 = 0) from rfl]
            refine decide_eq_decide.2 ?_
            rw [hhalf]
            constructor
            · intro h; exact ⟨hr0, by omega⟩
            · intro h; have := h.2; omega
          rw [e3]
        · rw [decide_eq_false hr0, cond_false, decide_eq_false (fun h => hr0 (hhalf.1 h).1)]
      · simp only
        have hshr := hSr (scQ p q s0) 1 (by omega) (by omega) (by omega)
        have e1 : (-((1 : Nat) : Int)) = -1 := rfl
        rw [e1, Nat.pow_one, ← scQ_half] at hshr
        rw [hshr]
        simp only [Option.bind_some]
        rw [iadd_eq (by omega) (by omega), show pw + 1 = -(s0 - 1) by omega]
    · rw [decide_eq_false h, cond_false]
      exact ⟨_, rfl, s0, hs1, by omega, bl_le.1 (by omega), hs4, by rw [hpw']⟩
  rintro _ ⟨s, k1, k2, k3, k4, rfl⟩
  simp only
  have hU2 : 2 ^ (frw w + 1) ≤ 2 ^ 53 := Nat.pow_le_pow_right (by decide) (by omega)
  simp only [Nat.reducePow] at hU2
  have hlen : (dig (scQ p q s)).length ≤ 4 := dig_len_le.2 (by omega)
  have hmk := hMk w (-s) (scQ p q s) hw k3 (by omega) (k4.imp (fun h => by omega) id) (by omega)
  have hfin := tr_make hw hq k1 k3 k4 (decide (scR p q s = 0)) rfl
  generalize scQ p q s = Q at *
  generalize decide (scR p q s = 0) = ex at *
  refine iter_goal (fun o => ∃ m ex, o = some (m, (ex, ())) ∧ IsTr w (mkRat p q) m ex) (fun st => ∃ i : Nat, i ≤ (dig Q).length ∧ st = (((i : Int), (((dig Q).length : Int), (dig Q, (((Q % 65536 ^ i : Nat) : Int), (w, (-s, ((), (ex, (0, (false, ())))))))))), (((frw w : Int), (-(lst w : Int), ((fmt w).2.2.1, (top w, ())))), ())))
    (fun st => (dig Q).length - st.1.1.toNat) (fun r : Int × (Bool × Unit) => ∃ m ex, r = (m, (ex, ())) ∧ IsTr w (mkRat p q) m ex) ?_ (by simp only; omega) ⟨0, by omega, by rw [Nat.pow_zero, Nat.mod_one]; rfl⟩ ?_
  rotate_left
  · rintro r ⟨m, re, rfl, h⟩
    exact ⟨m, re, rfl, h⟩
  rintro rec _ ⟨i, hi, rfl⟩ ih
  simp only [ilt_iff, len_eq]
  by_cases h : i < (dig Q).length
  · have hp16 : (65536 : Nat) ^ i = 2 ^ (16 * i) := pow_base i
    have hi3 : i ≤ 3 := by omega
    have hd : Q / 65536 ^ i % 65536 < 65536 := Nat.mod_lt _ (by decide)
    have hp48 : (65536 : Nat) ^ i ≤ 65536 ^ 3 := Nat.pow_le_pow_right (by decide) hi3
    rw [decide_eq_true (show (i : Int) < ((dig Q).length : Int) by omega), cond_true, ok_of (inB_true (by omega) (by omega)), imul_eq (by omega) (by omega), show ile 0 (16 * (i : Int)) = true by simp; omega, ok_true, Int.toNat_natCast, getD_at, dig_at, wrapu64 (by omega) (by omega)]
    have e0 : (16 * (i : Int)) = ((16 * i : Nat) : Int) := by omega
    have hm48 : Q / 65536 ^ i % 65536 * 65536 ^ i ≤ 65535 * 65536 ^ 3 := Nat.mul_le_mul (by omega) hp48
    rw [e0, ishlu_eq (by omega) (by rw [← hp16]; omega), ← hp16, ioru_eq (by have := Nat.mod_le Q (65536 ^ i); omega) (by omega), iadd_eq (by omega) (by omega)]
    refine ih _ ⟨i + 1, by omega, ?_⟩ (by simp only; omega)
    have h9 := Nat.two_pow_add_eq_or_of_lt (show Q % 65536 ^ i < 2 ^ (16 * i) by rw [← hp16]; exact Nat.mod_lt _ (Nat.pow_pos (by decide))) (Q / 65536 ^ i % 65536)
    rw [← hp16, Nat.mul_comm] at h9
    rw [Nat.or_comm, ← h9, mod_succ, Nat.add_comm (Q % 65536 ^ i)]
    rfl
  · have hie : i = (dig Q).length := by omega
    subst hie
    rw [decide_eq_false (by omega), cond_false, Nat.mod_eq_of_lt (dig_lt_pow Q), hmk]
    simp only [Option.bind_some]
    by_cases hm : (((-s + lst w).toNat * 2 ^ frw w + Q : Nat) : Int) < top w
    · simp only [if_pos hm] at hfin
      rw [if_pos hm]
      exact ⟨_, rfl, _, _, rfl, hfin⟩
    · simp only [if_neg hm] at hfin
      rw [if_neg hm]
      simp only [Bool.not_false, cond_true]
      rw [isub_eq (by omega) (by omega)]
      exact ⟨_, rfl, _, _, rfl, hfin⟩
end Go.Px.Seat

/- Floats next to a number, limits: the program's. Seat ZD. -/
namespace Go.Px.Seat
open Go Pm
set_option linter.unusedVariables false
variable {B : Run}
theorem k_around : Ev fun n => ∀ (w : Int) (r : Rat), wd w = true → short 1024 r → ∃ d u, c_i_around ((C B0).run n) w (fb r) (ft r) (fq r) = some (d, (u, ())) ∧ IsDn w r d ∧ IsDn w (-r) (-u) := by
  refine k_truncated.succ fun n hn hT w r hw hr => ?_
  rw [run_succ, e_i_around]
  unfold p_i_around
  obtain ⟨r1, r2⟩ := hr
  simp only [ft, fq] at r1 r2 ⊢
  obtain ⟨m, ex, h1, h2⟩ := hT w (fb r) r.num.natAbs r.den hw r.den_nz (by omega) (by omega)
  rw [h1]
  simp only [Option.bind_some]
  have htn := top_nonneg w
  have hm := h2.1
  have hm2 := h2.2.1
  have e1 : iadd .i64 m 1 = m + 1 := iadd_eq (by omega) (by omega)
  have e2 : ineg .i64 m = -m := ineg_eq (by omega) (by omega)
  have e3 : ineg .i64 (m + 1) = -(m + 1) := ineg_eq (by omega) (by omega)
  have hd := dn_pos hw h2
  have hn' := dn_neg (r := -mkRat (r.num.natAbs : Int) r.den) hw (by rw [Rat.neg_neg]; exact h2)
  have hself := mk_self r
  cases hb : fb r
  · rw [hb] at hself
    have hr' : mkRat (r.num.natAbs : Int) r.den = r := hself
    rw [hr'] at hd hn'
    cases ex <;> simp only [Bool.not_true, Bool.not_false, cond_true, cond_false, jb_inr, e1]
    · exact ⟨_, _, rfl, hd, by simpa using hn'⟩
    · exact ⟨_, _, rfl, hd, by simpa using hn'⟩
  · rw [hb, mk_negate] at hself
    have hr' : -mkRat (r.num.natAbs : Int) r.den = r := hself
    have hr2 := congrArg Neg.neg hr'
    rw [Rat.neg_neg] at hr2
    rw [hr2] at hd
    rw [hr'] at hn'
    cases ex <;> simp only [Bool.not_true, Bool.not_false, cond_true, cond_false, jb_inr, e1, e2, e3]
    · exact ⟨_, _, rfl, by simpa using hn', by simpa using hd⟩
    · exact ⟨_, _, rfl, by simpa using hn', by simpa using hd⟩
theorem k_limitOf : Ev fun n => ∀ w o : Int, fin w o → c_i_limitOf ((C B0).run n) w o = some (0, outF (fv w o)) := by
  refine ((k_BitTop (B := B0)).and k_value).succ fun n hn ⟨hT, hV⟩ w o hf => ?_
  rw [run_succ, e_i_limitOf]
  unfold p_i_limitOf
  have htn := top_nonneg w
  obtain ⟨h1, h2, h3⟩ := hf
  rw [hT]
  simp only [Option.bind_some, ineg_top]
  rw [beq_f (by omega), cond_false, beq_f (by omega), cond_false, hV w o ⟨h1, h2, h3⟩]
  rfl
theorem k_floats : Ev fun n => ∀ (w : Int) (r : Rat), wd w = true → short 1024 r → ∃ d u, c_i_limit_floats ((C B0).run n) 0 (fb r) (ft r) (fq r) w = some (d, (u, ())) ∧ IsDn w r d ∧ IsDn w (-r) (-u) := by
  refine k_around.succ fun n hn hA w r hw hr => ?_
  rw [run_succ, e_i_limit_floats]
  unfold p_i_limit_floats
  obtain ⟨d, u, h1, h2, h3⟩ := hA w r hw hr
  rw [show ((0 : Int) != 0) = false from rfl, cond_false, h1]
  exact ⟨d, u, rfl, h2, h3⟩
end Go.Px.Seat

/- Sums of spans: the program's. Seat ZD. -/
namespace Pm
open Go.Px.Seat
theorem lst_le (w : Int) : lst w ≤ 1074 := by unfold lst; split <;> omega
theorem fits_fv {w o : Int} (h : fin w o) : fits (fv w o) := by
  have hl := lst_le w
  have h1 : (fI w o).natAbs < 65536 ^ 256 := Nat.lt_of_lt_of_le (fI_lt2 h) (Nat.le_of_lt (two_lt (by decide)))
  exact fits_mkI (pow2_ne _) h1 (two_lt (by omega))
theorem fits_add {w x y : Int} (hx : fin w x) (hy : fin w y) : fits (fv w x + fv w y) := by
  have hl := lst_le w
  rw [fv, fv, mk_same (pow2_ne _)]
  have h1 := fI_lt2 hx
  have h2 := fI_lt2 hy
  refine fits_mkI (pow2_ne _) ?_ (two_lt (by omega))
  have h3 : 2 ^ bigE * 128 < 65536 ^ 256 := lt_two_of (B7 (Nat.le_refl _)) (by decide)
  omega
theorem mk_short {a : Int} {q k : Nat} (hq : q ≠ 0) (h1 : (dig a.natAbs).length ≤ k) (h2 : (dig q).length ≤ k) : short k (mkRat a q) := by
  have e : a = sg (decide (a < 0)) a.natAbs := by
    by_cases h : a < 0
    · rw [decide_eq_true h]; simp only [sg, if_true]; omega
    · rw [decide_eq_false h]; simp only [sg, Bool.false_eq_true, if_false]; omega
  unfold short
  rw [e, mk_rt hq, mk_rd hq]
  exact ⟨Nat.le_trans (dig_len_mono (Nat.div_le_self ..)) h1, Nat.le_trans (dig_len_mono (Nat.div_le_self ..)) h2⟩
end Pm
namespace Go.Px.Seat
open Go Pm
set_option linter.unusedVariables false
variable {B : Run}
theorem both_of2 {w : Int} {a b : Sp} (h1 : spk w a = true) (h2 : spk w b = true) (h4 : a.1 = true) (h5 : b.1 = true) : both w a b = true := by
  unfold both; rw [h1, h2, h4, h5]; rfl
theorem short_mono {k l : Nat} {r : Rat} (h : short k r) (hk : k ≤ l) : short l r := ⟨Nat.le_trans h.1 hk, Nat.le_trans h.2 hk⟩
theorem k_SpanAdd1 : Ev fun n => ∀ w x y : Int, fin w x → fin w y → c_i_SpanAdd_1 ((C B0).run n) x y w = some (0, (fb (fv w x + fv w y), (ft (fv w x + fv w y), (fq (fv w x + fv w y), (w, ()))))) := by
  refine (k_limitOf.and k_Fadd).succ fun n hn ⟨hL, hA⟩ w x y hx hy => ?_
  rw [run_succ, e_i_SpanAdd_1]
  unfold p_i_SpanAdd_1
  rw [hL w x hx, hL w y hy]
  simp only [Option.bind_some, outF]
  rw [show ((0 : Int) != 0) = false from rfl, cond_false, cond_false, hA _ _ (short_mono (fits_short (fits_fv hx)) (by omega)) (short_mono (fits_short (fits_fv hy)) (by omega))]
  rfl
theorem k_SpanAdd : Ev fun n => ∀ w a1 a2 b1 b2 : Int, pok w a1 a2 = true → pok w b1 b2 = true → fin w a1 → fin w a2 → fin w b1 → fin w b2 →
    ∃ lo hi, c_i_SpanAdd ((C B0).run n) w true a1 a2 true b1 b2 = some (sp lo hi) ∧ IsDn w (fv w a1 + fv w b1) lo ∧ IsDn w (-(fv w a2 + fv w b2)) (-hi) := by
  refine ((k_full (B := B0)).and (k_SpanAdd1.and (k_floats.and (k_some (B := B0))))).succ fun n hn ⟨hF, hS, hFl, hSo⟩ w a1 a2 b1 b2 pa pb ha1 ha2 hb1 hb2 => ?_
  rw [run_succ, e_i_SpanAdd]
  unfold p_i_SpanAdd
  have e2 : [(true, (a1, (a2, ()))), (true, (b1, (b2, ())))] = [sp a1 a2, sp b1 b2] := rfl
  have hfull : ([sp a1 a2, sp b1 b2].all fun s => s.1 && spk w s) = true := by
    rw [full_two]; exact both_of2 (a := sp a1 a2) (b := sp b1 b2) pa pb rfl rfl
  rw [e2, hF _ _ (by simp), hfull]
  simp only [Option.bind_some, Bool.not_true, cond_false]
  obtain ⟨d1, u1, h1, h2, h3⟩ := hFl w _ ha1.1 (short_mono (fits_short (fits_add ha1 hb1)) (by omega))
  obtain ⟨d2, u2, h4, h5, h6⟩ := hFl w _ ha1.1 (short_mono (fits_short (fits_add ha2 hb2)) (by omega))
  rw [hS w a1 b1 ha1 hb1]
  simp only [Option.bind_some]
  rw [show (((w == w) && true) && true) = true by simp, ok_true, h1]
  simp only [Option.bind_some]
  rw [hS w a2 b2 ha2 hb2]
  simp only [Option.bind_some]
  rw [show (((w == w) && true) && true) = true by simp, ok_true, h4]
  simp only [Option.bind_some]
  rw [hSo]
  exact ⟨d1, u2, rfl, h2, h6⟩
end Go.Px.Seat

/- Differences and products of spans: the program's. Seat ZD. -/
namespace Pm
open Go.Px.Seat
theorem fin_neg {w o : Int} (h : fin w o) : fin w (-o) := by
  obtain ⟨h1, h2, h3⟩ := h
  exact ⟨h1, by omega, by omega⟩
theorem pok_neg {w a b : Int} (h : pok w a b = true) : pok w (-b) (-a) = true := by
  obtain ⟨h1, h2, h3, h4, h5, h6⟩ := pok_iff.1 h
  exact pok_iff.2 ⟨h1, by omega, by omega, by omega, by omega, by omega⟩
theorem short_mulf {w x y : Int} (hx : fin w x) (hy : fin w y) : short 1024 (fv w x * fv w y) := by
  rw [fv, fv, Rat.mkRat_mul_mkRat]
  have l1 : (dig (fI w x).natAbs).length ≤ 256 := dig_len_le.2 (Nat.lt_of_lt_of_le (fI_lt2 hx) (Nat.le_of_lt (two_lt (by decide))))
  have l2 : (dig (fI w y).natAbs).length ≤ 256 := dig_len_le.2 (Nat.lt_of_lt_of_le (fI_lt2 hy) (Nat.le_of_lt (two_lt (by decide))))
  have l3 : (dig (2 ^ lst w)).length ≤ 256 := by
    have := lst_le w
    exact Nat.le_trans (dig_len_pow _) (by omega)
  have m1 := len_dig_mul (fI w x).natAbs (fI w y).natAbs
  have m2 := len_dig_mul (2 ^ lst w) (2 ^ lst w)
  refine mk_short (Nat.mul_ne_zero (pow2_ne _) (pow2_ne _)) ?_ (by omega)
  rw [Int.natAbs_mul]
  omega
end Pm
namespace Go.Px.Seat
open Go Pm
set_option linter.unusedVariables false
variable {B : Run}
theorem k_times : Ev fun n => ∀ r s : Rat, short 33554432 r → short 33554432 s → c_i_limit_times ((C B0).run n) 0 (fb r) (ft r) (fq r) 0 (fb s) (ft s) (fq s) = some (0, outF (r * s)) := by
  refine k_Fmul.succ fun n hn hM r s hr hs => ?_
  rw [run_succ, e_i_limit_times]
  unfold p_i_limit_times
  simp only [show ((0 : Int) != 0) = false from rfl, cond_false, jb_inr]
  rw [hM r s hr hs]
  rfl
theorem k_SpanNeg : Ev fun n => ∀ w a b : Int, pok w a b = true → c_i_SpanNeg ((C B0).run n) w true a b = some (sp (-b) (-a)) := by
  refine ((k_full (B := B0)).and (k_some (B := B0))).succ fun n hn ⟨hF, hSo⟩ w a b h => ?_
  rw [run_succ, e_i_SpanNeg]
  unfold p_i_SpanNeg
  obtain ⟨h1, h2, h3, h4, h5, h6⟩ := pok_iff.1 h
  have htn := top_nonneg w
  have e2 : [(true, (a, (b, ())))] = [sp a b] := rfl
  have hfull : ([sp a b].all fun s => s.1 && spk w s) = true := by
    simp only [List.all_cons, List.all_nil, Bool.and_true]
    exact h
  rw [e2, hF _ _ (by simp), hfull]
  simp only [Option.bind_some, Bool.not_true, cond_false]
  rw [ineg_eq (by omega) (by omega), ineg_eq (by omega) (by omega), hSo]
  rfl
theorem k_SpanSub : Ev fun n => ∀ w a1 a2 b1 b2 : Int, pok w a1 a2 = true → pok w b1 b2 = true → fin w a1 → fin w a2 → fin w b1 → fin w b2 →
    ∃ lo hi, c_i_SpanSub ((C B0).run n) w true a1 a2 true b1 b2 = some (sp lo hi) ∧ IsDn w (fv w a1 - fv w b2) lo ∧ IsDn w (-(fv w a2 - fv w b1)) (-hi) := by
  refine (k_SpanNeg.and k_SpanAdd).succ fun n hn ⟨hN, hA⟩ w a1 a2 b1 b2 pa pb ha1 ha2 hb1 hb2 => ?_
  rw [run_succ, e_i_SpanSub]
  unfold p_i_SpanSub
  obtain ⟨lo, hi, h1, h2, h3⟩ := hA w a1 a2 (-b2) (-b1) pa (pok_neg pb) ha1 ha2 (fin_neg hb2) (fin_neg hb1)
  rw [hN w b1 b2 pb]
  simp only [Option.bind_some, sp] at h1 ⊢
  rw [h1]
  rw [fv_neg, ← Rat.sub_eq_add_neg] at h2
  rw [fv_neg, ← Rat.sub_eq_add_neg] at h3
  exact ⟨lo, hi, rfl, h2, h3⟩
end Go.Px.Seat

/- The least and the greatest of some numbers, rounded outward. No program here. -/
namespace Pm
/-- o goes from the float below the least of S to the float above the greatest -/
def Best (w : Int) (S : List Rat) (o : Sp) : Prop := o.1 = true ∧ (∃ r ∈ S, (∀ s ∈ S, r ≤ s) ∧ IsDn w r o.2.1) ∧ (∃ r ∈ S, (∀ s ∈ S, s ≤ r) ∧ IsDn w (-r) (-o.2.2.1))
theorem Best.one {w d u : Int} {r : Rat} (h1 : IsDn w r d) (h2 : IsDn w (-r) (-u)) : Best w [r] (sp d u) :=
  ⟨rfl, ⟨r, by simp, fun s hs => by rw [List.mem_singleton.1 hs]; exact Rat.le_refl, h1⟩, ⟨r, by simp, fun s hs => by rw [List.mem_singleton.1 hs]; exact Rat.le_refl, h2⟩⟩
theorem Best.more {w d u : Int} {s : Rat} {S : List Rat} {o : Sp} (h : Best w S o) (h1 : IsDn w s d) (h2 : IsDn w (-s) (-u)) : Best w (s :: S) (sp (min o.2.1 d) (max o.2.2.1 u)) := by
  obtain ⟨_, ⟨r, hr, hle, hd⟩, ⟨r', hr', hge, hu⟩⟩ := h
  refine ⟨rfl, ?_, ?_⟩
  · rcases (Rat.le_total : r ≤ s ∨ s ≤ r) with hrs | hrs
    · refine ⟨r, List.mem_cons_of_mem _ hr, fun x hx => ?_, ?_⟩
      · rcases List.mem_cons.1 hx with rfl | hx
        · exact hrs
        · exact hle x hx
      · have := hd.mono h1 hrs
        show IsDn w r (min o.2.1 d)
        rw [Int.min_eq_left this]; exact hd
    · refine ⟨s, List.mem_cons_self .., fun x hx => ?_, ?_⟩
      · rcases List.mem_cons.1 hx with rfl | hx
        · exact Rat.le_refl
        · exact Rat.le_trans hrs (hle x hx)
      · have := h1.mono hd hrs
        show IsDn w s (min o.2.1 d)
        rw [Int.min_eq_right this]; exact h1
  · rcases (Rat.le_total : s ≤ r' ∨ r' ≤ s) with hrs | hrs
    · refine ⟨r', List.mem_cons_of_mem _ hr', fun x hx => ?_, ?_⟩
      · rcases List.mem_cons.1 hx with rfl | hx
        · exact hrs
        · exact hge x hx
      · have := hu.mono h2 (by grind)
        show IsDn w (-r') (-(max o.2.2.1 u))
        rw [Int.max_eq_left (by omega)]; exact hu
    · refine ⟨s, List.mem_cons_self .., fun x hx => ?_, ?_⟩
      · rcases List.mem_cons.1 hx with rfl | hx
        · exact Rat.le_refl
        · exact Rat.le_trans (hge x hx) hrs
      · have := h2.mono hu (by grind)
        show IsDn w (-s) (-(max o.2.2.1 u))
        rw [Int.max_eq_right (by omega)]; exact h2
end Pm

/- Products of spans: the program's. Seat ZD. -/
namespace Go.Px.Seat
open Go Pm
set_option linter.unusedVariables false
variable {B : Run}
def Bst (w : Int) (S : List Rat) (o : Sp) : Prop := (S = [] ∧ o = spn) ∨ Best w S o
theorem k_SpanMul : Ev fun n => ∀ w a1 a2 b1 b2 : Int, pok w a1 a2 = true → pok w b1 b2 = true → fin w a1 → fin w a2 → fin w b1 → fin w b2 →
    ∃ o, c_i_SpanMul ((C B0).run n) w true a1 a2 true b1 b2 = some o ∧ Best w [fv w a2 * fv w b2, fv w a2 * fv w b1, fv w a1 * fv w b2, fv w a1 * fv w b1] o := by
  refine ((k_full (B := B0)).and (k_limitOf.and (k_times.and (k_floats.and (k_some (B := B0)))))).succ fun n hn ⟨hF, hL, hT, hFl, hSo⟩ w a1 a2 b1 b2 pa pb ha1 ha2 hb1 hb2 => ?_
  rw [run_succ, e_i_SpanMul]
  unfold p_i_SpanMul
  have e2 : [(true, (a1, (a2, ()))), (true, (b1, (b2, ())))] = [sp a1 a2, sp b1 b2] := rfl
  have hfull : ([sp a1 a2, sp b1 b2].all fun s => s.1 && spk w s) = true := by
    rw [full_two]; exact both_of2 (a := sp a1 a2) (b := sp b1 b2) pa pb rfl rfl
  rw [e2, hF _ _ (by simp), hfull]
  simp only [Option.bind_some, Bool.not_true, cond_false]
  let S : Nat → List Rat := fun i => if i = 0 then [] else if i = 1 then [fv w a1 * fv w b2, fv w a1 * fv w b1] else [fv w a2 * fv w b2, fv w a2 * fv w b1, fv w a1 * fv w b2, fv w a1 * fv w b1]
  refine iter_ex (fun st => ∃ (i : Nat) (o : Sp) (z : Sp), i ≤ 2 ∧ Bst w (S i) o ∧ st = (((i : Int), ((2 : Int), ((), ((), (w, ((), ((), ()))))))), ([a1, a2], ((true, (b1, (b2, ()))), ((o.1, (o.2.1, (o.2.2.1, ()))), ((z.1, (z.2.1, (z.2.2.1, ()))), ()))))))
    (fun st => (2 - st.1.1).toNat) (fun r => Best w (S 2) r) ?_ n _ (by simp only; omega) ⟨0, spn, spn, by omega, .inl ⟨rfl, rfl⟩, rfl⟩
  rintro rec _ ⟨i, o, z, hi, ho, rfl⟩ ih
  simp only [ilt_iff, len_eq]
  by_cases h : i < 2
  · obtain ⟨x, hx, hfx, hSx⟩ : ∃ x, List.getD [a1, a2] i 0 = x ∧ fin w x ∧ S (i + 1) = fv w x * fv w b2 :: fv w x * fv w b1 :: S i := by
      have : i = 0 ∨ i = 1 := by omega
      rcases this with rfl | rfl
      · exact ⟨a1, rfl, ha1, rfl⟩
      · exact ⟨a2, rfl, ha2, rfl⟩
    rw [decide_eq_true (show (i : Int) < 2 by omega), cond_true, ok_of (inB_true (by omega) (by simp; omega)), Int.toNat_natCast, hx]
    let T : Nat → List Rat := fun j => if j = 0 then S i else if j = 1 then fv w x * fv w b1 :: S i else fv w x * fv w b2 :: fv w x * fv w b1 :: S i
    refine iter_ex (fun st => ∃ (j : Nat) (o : Sp), j ≤ 2 ∧ Bst w (T j) o ∧ st = (((j : Int), ((2 : Int), ((), (w, (x, ((), ((i : Int), ((2 : Int), ((), ((), ((), ()))))))))))), ([b1, b2], ((o.1, (o.2.1, (o.2.2.1, ()))), ([a1, a2], ((true, (b1, (b2, ()))), ((z.1, (z.2.1, (z.2.2.1, ()))), ())))))))
      (fun st => (2 - st.1.1).toNat) (fun r => Best w (S 2) r) ?_ n _ (by simp only; omega) ⟨0, o, by omega, ho, rfl⟩
    rintro rec1 _ ⟨j, o, hj, ho, rfl⟩ ih1
    simp only [ilt_iff, len_eq]
    by_cases h1 : j < 2
    · obtain ⟨y, hy, hfy, hTy⟩ : ∃ y, List.getD [b1, b2] j 0 = y ∧ fin w y ∧ T (j + 1) = fv w x * fv w y :: T j := by
        have : j = 0 ∨ j = 1 := by omega
        rcases this with rfl | rfl
        · exact ⟨b1, rfl, hb1, rfl⟩
        · exact ⟨b2, rfl, hb2, rfl⟩
      obtain ⟨d, u, g1, g2, g3⟩ := hFl w _ hfx.1 (short_mulf hfx hfy)
      rw [decide_eq_true (show (j : Int) < 2 by omega), cond_true, ok_of (inB_true (by omega) (by simp; omega)), Int.toNat_natCast, hy, hL w x hfx, hL w y hfy]
      simp only [Option.bind_some, outF]
      rw [hT _ _ (short_mono (fits_short (fits_fv hfx)) (by omega)) (short_mono (fits_short (fits_fv hfy)) (by omega))]
      simp only [Option.bind_some, outF]
      rw [g1]
      simp only [Option.bind_some]
      have hj1 : iadd .i64 (j : Int) 1 = (j : Int) + 1 := iadd_eq (by omega) (by omega)
      rcases ho with ⟨ho1, rfl⟩ | ho
      · simp only [spn, Bool.not_false, cond_true]
        rw [hSo]
        simp only [Option.bind_some, jb_inr, sp]
        rw [hSo]
        simp only [Option.bind_some, sp]
        refine ih1 _ ⟨j + 1, sp d u, by omega, .inr ?_, ?_⟩ (by simp only; omega)
        · rw [hTy, ho1]; exact Best.one g2 g3
        · have m1 : imin d d = d := by unfold imin; omega
          have m2 : imax u u = u := by unfold imax; omega
          rw [m1, m2, hj1]; rfl
      · have h01 := ho.1
        rw [h01]
        simp only [Bool.not_true, cond_false, jb_inr]
        rw [hSo]
        simp only [Option.bind_some, sp]
        refine ih1 _ ⟨j + 1, sp (min o.2.1 d) (max o.2.2.1 u), by omega, .inr ?_, ?_⟩ (by simp only; omega)
        · rw [hTy]; exact Best.more ho g2 g3
        · rw [hj1]; rfl
    · have hj2 : j = 2 := by omega
      subst hj2
      rw [decide_eq_false (by omega), cond_false, iadd_eq (by omega) (by omega)]
      refine ih _ ⟨i + 1, o, z, by omega, ?_, rfl⟩ (by simp only; omega)
      rw [hSx]; exact ho
  · have hi2 : i = 2 := by omega
    subst hi2
    rw [decide_eq_false (by omega), cond_false]
    refine ⟨_, rfl, ?_⟩
    rcases ho with ⟨h1, _⟩ | ho
    · cases h1
    · exact ho
end Go.Px.Seat

/- Helpers of the law on tight spans. Seat ZD. -/
namespace Go.Px.Seat
open Go Pm
set_option linter.unusedVariables false
variable {B : Run}
theorem k_sFloatFracNo : Ev fun n => ∀ w o : Int, ¬ fin w o → c_s_FloatFrac ((C B).run n) w o = some (false, ([], ([], (false, ())))) := by
  refine (k_sPartNo (B := B)).succ fun n hn hP w o h => ?_
  rw [run_succ, e_s_FloatFrac]
  unfold p_s_FloatFrac
  rw [hP w o h]
  rfl
/-- what `psBound` answers of a float that is the one -/
theorem k_psDn : Ev fun n => ∀ (w o : Int) (r : Rat), wd w = true → fits r → IsDn w r o → c_w_psBound ((C B).run n) w o (fb r) (ft r) (fq r) false = some (true, ()) := by
  refine (k_psBound (B := B)).mono fun n hP w o r hw hr h => ?_
  obtain ⟨m, h1, h2⟩ := hP w o r false hw hr
  rw [if_neg (by simp)] at h2
  rw [h1, h2.unique h]
  simp
theorem k_psUp : Ev fun n => ∀ (w o : Int) (r : Rat), wd w = true → fits r → IsDn w (-r) (-o) → c_w_psBound ((C B).run n) w o (fb r) (ft r) (fq r) true = some (true, ()) := by
  refine (k_psBound (B := B)).mono fun n hP w o r hw hr h => ?_
  obtain ⟨m, h1, h2⟩ := hP w o r true hw hr
  rw [if_pos rfl] at h2
  have := h2.unique h
  rw [h1, show m = o by omega]
  simp
end Go.Px.Seat

/- The law on tight spans: the loop at its end. Seat ZD. -/
namespace Go.Px.Seat
open Go Pm
set_option linter.unusedVariables false
variable {B : Run}
/-- a fraction as one of a list -/
def inF (r : Rat) : Bool × (List Int × (List Int × Unit)) := (fb r, (ft r, (fq r, ())))
/-- the least and the greatest so far -/
def mnF (r s : Rat) : Rat := if s < r then s else r
def mxF (r s : Rat) : Rat := if r < s then s else r
theorem cmp_lt (s r : Rat) : (cmpR s r == (-1)) = decide (s < r) := by
  unfold cmpR
  by_cases h : s < r
  · rw [if_pos h, decide_eq_true h]; rfl
  · rw [if_neg h, decide_eq_false h]
    split <;> rfl
theorem cmp_gt (s r : Rat) : (cmpR s r == 1) = decide (r < s) := by
  unfold cmpR
  by_cases h : s < r
  · rw [if_pos h, decide_eq_false (by grind)]; rfl
  · rw [if_neg h]
    by_cases h2 : r < s
    · rw [if_pos h2, decide_eq_true h2]; rfl
    · rw [if_neg h2, decide_eq_false h2]; rfl
theorem mnF_or (r s : Rat) : mnF r s = r ∨ mnF r s = s := by unfold mnF; split <;> simp
theorem mxF_or (r s : Rat) : mxF r s = r ∨ mxF r s = s := by unfold mxF; split <;> simp
theorem mnF_le (r s : Rat) : mnF r s ≤ r ∧ mnF r s ≤ s := by unfold mnF; split <;> constructor <;> grind
theorem mxF_ge (r s : Rat) : r ≤ mxF r s ∧ s ≤ mxF r s := by unfold mxF; split <;> constructor <;> grind
/-- of four numbers, as `Best` has them -/
theorem best_mn {w : Int} {p q r s : Rat} {o : Sp} (h : Best w [s, r, q, p] o) : IsDn w (mnF (mnF (mnF p q) r) s) o.2.1 ∧ IsDn w (-(mxF (mxF (mxF p q) r) s)) (-o.2.2.1) := by
  obtain ⟨_, ⟨x, hx, hle, hd⟩, ⟨y, hy, hge, hu⟩⟩ := h
  simp only [List.mem_cons, List.not_mem_nil, or_false] at hx hy
  have a1 := mnF_le p q
  have a2 := mnF_le (mnF p q) r
  have a3 := mnF_le (mnF (mnF p q) r) s
  have b1 := mnF_or p q
  have b2 := mnF_or (mnF p q) r
  have b3 := mnF_or (mnF (mnF p q) r) s
  have c1 := mxF_ge p q
  have c2 := mxF_ge (mxF p q) r
  have c3 := mxF_ge (mxF (mxF p q) r) s
  have d1 := mxF_or p q
  have d2 := mxF_or (mxF p q) r
  have d3 := mxF_or (mxF (mxF p q) r) s
  have l1 := hle s (by simp)
  have l2 := hle r (by simp)
  have l3 := hle q (by simp)
  have l4 := hle p (by simp)
  have g1 := hge s (by simp)
  have g2 := hge r (by simp)
  have g3 := hge q (by simp)
  have g4 := hge p (by simp)
  have e1 : mnF (mnF (mnF p q) r) s = x := by
    generalize mnF (mnF (mnF p q) r) s = m3 at *
    generalize mnF (mnF p q) r = m2 at *
    generalize mnF p q = m1 at *
    clear c1 c2 c3 d1 d2 d3 g1 g2 g3 g4 hd hu hy hle hge
    refine Rat.le_antisymm ?_ ?_
    · rcases hx with rfl | rfl | rfl | rfl <;> grind
    · rcases b3 with h | h <;> rcases b2 with h' | h' <;> rcases b1 with h'' | h'' <;> grind
  have e2 : mxF (mxF (mxF p q) r) s = y := by
    generalize mxF (mxF (mxF p q) r) s = m3 at *
    generalize mxF (mxF p q) r = m2 at *
    generalize mxF p q = m1 at *
    clear a1 a2 a3 b1 b2 b3 l1 l2 l3 l4 hd hu hx hle hge e1
    refine Rat.le_antisymm ?_ ?_
    · rcases d3 with h | h <;> rcases d2 with h' | h' <;> rcases d1 with h'' | h'' <;> grind
    · rcases hy with rfl | rfl | rfl | rfl <;> grind
  rw [e1, e2]
  exact ⟨hd, hu⟩
end Go.Px.Seat

/- The law on tight spans: what its function comes to. Seat ZD. -/
namespace Go.Px.Seat
open Go Pm
set_option linter.unusedVariables false
variable {B : Run}
theorem inF1 (x : Rat) : (inF x).1 = fb x := rfl
theorem inF2 (x : Rat) : (inF x).2.1 = ft x := rfl
theorem inF3 (x : Rat) : (inF x).2.2.1 = fq x := rfl
theorem fits_sub {w x y : Int} (hx : fin w x) (hy : fin w y) : fits (fv w x - fv w y) := by
  rw [Rat.sub_eq_add_neg, ← fv_neg]
  exact fits_add hx (fin_neg hy)
theorem k_FnSpanTight : Ev fun n => ∀ l m : List Int, byt l → byt m → c_w_FnSpanTight ((C B0).run n) l m = some (true, ()) := by
  refine ((k_Fine (B := B0)).and ((k_FineOf (B := B0)).and ((k_sFloatFrac (B := B0)).and ((k_sFloatFracNo (B := B0)).and (k_SpanAdd.and ((k_sFracAdd (B := B0)).and ((k_psDn (B := B0)).and ((k_psUp (B := B0)).and (k_SpanSub.and ((k_sFracSub (B := B0)).and (k_SpanMul.and ((k_sFracMul (B := B0)).and (k_sFracCmp (B := B0)))))))))))))).succ
    fun n hn ⟨hF, hFO, hFF, hFN, hA, hfA, hDn, hUp, hS, hfS, hM, hfM, hC⟩ l m hl hm => ?_
  rw [run_succ, e_w_FnSpanTight]
  unfold p_w_FnSpanTight
  simp only [ilt_iff, len_eq]
  by_cases q1 : (1048576 : Int) < (l.length : Int)
  · rw [decide_eq_true q1]; rfl
  rw [decide_eq_false q1, cond_false, jb_inr]
  simp only
  by_cases q2 : (1048576 : Int) < (m.length : Int)
  · rw [decide_eq_true q2]; rfl
  rw [decide_eq_false q2, cond_false]
  obtain ⟨w, a1, a2, f, x1, x2, x3, x4, x5⟩ := hF l hl (by omega)
  obtain ⟨b1, b2, g, y1, y2, y3, y4⟩ := hFO w m x2 hm (by omega)
  rw [x1]
  simp only [Option.bind_some]
  rw [y1]
  simp only [Option.bind_some]
  have ff : ∀ o, ∃ (t : Bool) (c : Bool) (u v : List Int), c_s_FloatFrac ((C B0).run n) w o = some (c, (u, (v, (t, ())))) ∧ (t = true → fin w o ∧ c = fb (fv w o) ∧ u = ft (fv w o) ∧ v = fq (fv w o)) := by
    intro o
    by_cases h : fin w o
    · exact ⟨true, _, _, _, (hFF w o h).2, fun _ => ⟨h, rfl, rfl, rfl⟩⟩
    · exact ⟨false, _, _, _, hFN w o h, fun h => by cases h⟩
  obtain ⟨t1, c1, u1, v1, z1, k1⟩ := ff a1
  obtain ⟨t2, c2, u2, v2, z2, k2⟩ := ff a2
  obtain ⟨t3, c3, u3, v3, z3, k3⟩ := ff b1
  obtain ⟨t4, c4, u4, v4, z4, k4⟩ := ff b2
  rw [z1, z2, z3, z4]
  simp only [Option.bind_some]
  cases t1
  · rfl
  cases t2
  · rfl
  cases t3
  · rfl
  cases t4
  · rfl
  obtain ⟨f1, rfl, rfl, rfl⟩ := k1 rfl
  obtain ⟨f2, rfl, rfl, rfl⟩ := k2 rfl
  obtain ⟨f3, rfl, rfl, rfl⟩ := k3 rfl
  obtain ⟨f4, rfl, rfl, rfl⟩ := k4 rfl
  clear ff z1 z2 z3 z4 k1 k2 k3 k4
  simp only [Bool.not_true, cond_false, jb_inr]
  obtain ⟨lo1, hi1, s1, s2, s3⟩ := hA w a1 a2 b1 b2 x3 y2 f1 f2 f3 f4
  rw [s1]
  simp only [Option.bind_some, sp]
  rw [hfA _ _ (fits_fv f1) (fits_fv f3), resF_fits (fits_add f1 f3)]
  simp only [Option.bind_some]
  rw [hfA _ _ (fits_fv f2) (fits_fv f4), resF_fits (fits_add f2 f4)]
  simp only [Option.bind_some, cond_true, Bool.not_true, cond_false]
  rw [hDn w lo1 _ x2 (fits_add f1 f3) s2, hUp w hi1 _ x2 (fits_add f2 f4) s3]
  simp only [Option.bind_some, Bool.not_true, cond_false, jb_inr]
  clear s1 s2 s3
  obtain ⟨lo2, hi2, s4, s5, s6⟩ := hS w a1 a2 b1 b2 x3 y2 f1 f2 f3 f4
  rw [s4]
  simp only [Option.bind_some, sp]
  rw [hfS _ _ (fits_fv f1) (fits_fv f4), resF_fits (fits_sub f1 f4)]
  simp only [Option.bind_some]
  rw [hfS _ _ (fits_fv f2) (fits_fv f3), resF_fits (fits_sub f2 f3)]
  simp only [Option.bind_some, cond_true, Bool.not_true, cond_false]
  rw [hDn w lo2 _ x2 (fits_sub f1 f4) s5, hUp w hi2 _ x2 (fits_sub f2 f3) s6]
  simp only [Option.bind_some, Bool.not_true, cond_false, jb_inr]
  clear s4 s5 s6
  obtain ⟨o, s7, s8⟩ := hM w a1 a2 b1 b2 x3 y2 f1 f2 f3 f4
  rw [s7]
  simp only [Option.bind_some]
  rw [hfM _ _ (fits_fv f1) (fits_fv f3), hfM _ _ (fits_fv f1) (fits_fv f4), hfM _ _ (fits_fv f2) (fits_fv f3), hfM _ _ (fits_fv f2) (fits_fv f4)]
  simp only [Option.bind_some]
  by_cases m1 : fits (fv w a1 * fv w b1)
  rotate_left
  · rw [resF_not m1]; rfl
  by_cases m2 : fits (fv w a1 * fv w b2)
  rotate_left
  · rw [resF_fits m1, resF_not m2]; rfl
  by_cases m3 : fits (fv w a2 * fv w b1)
  rotate_left
  · rw [resF_fits m1, resF_fits m2, resF_not m3]; rfl
  by_cases m4 : fits (fv w a2 * fv w b2)
  rotate_left
  · rw [resF_fits m1, resF_fits m2, resF_fits m3, resF_not m4]; rfl
  rw [resF_fits m1, resF_fits m2, resF_fits m3, resF_fits m4]
  simp only [Bool.not_true, cond_false, jb_inr]
  obtain ⟨d1, d2⟩ := best_mn s8
  generalize fv w a1 * fv w b1 = r1 at *
  generalize fv w a1 * fv w b2 = r2 at *
  generalize fv w a2 * fv w b1 = r3 at *
  generalize fv w a2 * fv w b2 = r4 at *
  let LO : Nat → Rat := fun i => if i ≤ 1 then r1 else if i = 2 then mnF r1 r2 else if i = 3 then mnF (mnF r1 r2) r3 else mnF (mnF (mnF r1 r2) r3) r4
  let HI : Nat → Rat := fun i => if i ≤ 1 then r1 else if i = 2 then mxF r1 r2 else if i = 3 then mxF (mxF r1 r2) r3 else mxF (mxF (mxF r1 r2) r3) r4
  refine iter_const (fun st => ∃ (i : Nat) (lo hi : Rat), i ≤ 4 ∧ 1 ≤ i ∧ fits lo ∧ fits hi ∧ lo = LO i ∧ hi = HI i ∧
    st = (((i : Int), ((), ((), ((), ((), (w, (false, ()))))))), ([inF r1, inF r2, inF r3, inF r4], ((fb lo, (ft lo, (fq lo, ()))), ((fb hi, (ft hi, (fq hi, ()))), ((o.1, (o.2.1, (o.2.2.1, ()))), ())))))) (fun st => (4 - st.1.1).toNat) _ ?_ n _ (by simp only; omega)
    ⟨1, r1, r1, by omega, by omega, m1, m1, rfl, rfl, rfl⟩
  rintro rec _ ⟨i, lo, hi, hi4, hi1, flo, fhi, hlo, hhi, rfl⟩ ih
  simp only [ilt_iff, len_eq]
  by_cases h : i < 4
  · obtain ⟨x, hx, hfx, e1, e2⟩ : ∃ x, List.getD [inF r1, inF r2, inF r3, inF r4] i (false, ([], ([], ()))) = inF x ∧ fits x ∧ LO (i + 1) = mnF (LO i) x ∧ HI (i + 1) = mxF (HI i) x := by
      have : i = 1 ∨ i = 2 ∨ i = 3 := by omega
      rcases this with rfl | rfl | rfl
      · exact ⟨r2, rfl, m2, rfl, rfl⟩
      · exact ⟨r3, rfl, m3, rfl, rfl⟩
      · exact ⟨r4, rfl, m4, rfl, rfl⟩
    have hin : inB (i : Int) (([inF r1, inF r2, inF r3, inF r4].length : Nat) : Int) = true := inB_true (by omega) (by simp; omega)
    rw [decide_eq_true (show (i : Int) < 4 by omega), cond_true]
    simp only [hin, ok_true, Int.toNat_natCast, hx, inF1, inF2, inF3]
    rw [hC x lo hfx flo]
    simp only [Option.bind_some, cmp_lt]
    refine jb_goal (fun o' => o' = some (true, ())) (fun st => ∃ lo' hi', fits lo' ∧ fits hi' ∧ lo' = LO (i + 1) ∧ hi' = HI (i + 1) ∧ st = (((i : Int), ((), ((), ((), ((), (w, (false, ()))))))), ([inF r1, inF r2, inF r3, inF r4], ((fb lo', (ft lo', (fq lo', ()))), ((fb hi', (ft hi', (fq hi', ()))), ((o.1, (o.2.1, (o.2.2.1, ()))), ())))))) ?_ ?_
    · have l1 : LO (i + 1) = if x < lo then x else lo := by rw [e1, ← hlo]; rfl
      have l2 : HI (i + 1) = if hi < x then x else hi := by rw [e2, ← hhi]; rfl
      rw [l1, l2]
      by_cases h1 : x < lo
      · simp only [h1, decide_true, cond_true, jb_inr, hin, ok_true, Int.toNat_natCast, hx, inF1, inF2, inF3, if_true]
        rw [hC x hi hfx fhi]
        simp only [Option.bind_some, cmp_gt]
        by_cases h2 : hi < x
        · simp only [h2, decide_true, cond_true, if_true]
          exact ⟨_, rfl, x, x, hfx, hfx, rfl, rfl, rfl⟩
        · simp only [h2, decide_false, cond_false, if_false]
          exact ⟨_, rfl, x, hi, hfx, fhi, rfl, rfl, rfl⟩
      · simp only [h1, decide_false, cond_false, jb_inr, hin, ok_true, Int.toNat_natCast, hx, inF1, inF2, inF3, if_false]
        rw [hC x hi hfx fhi]
        simp only [Option.bind_some, cmp_gt]
        by_cases h2 : hi < x
        · simp only [h2, decide_true, cond_true, if_true]
          exact ⟨_, rfl, lo, x, flo, hfx, rfl, rfl, rfl⟩
        · simp only [h2, decide_false, cond_false, if_false]
          exact ⟨_, rfl, lo, hi, flo, fhi, rfl, rfl, rfl⟩
    · rintro _ ⟨lo', hi', flo', fhi', hlo', hhi', rfl⟩
      simp only
      rw [iadd_eq (by omega) (by omega)]
      exact ih _ ⟨i + 1, lo', hi', by omega, by omega, flo', fhi', hlo', hhi', rfl⟩ (by simp only; omega)
  · have hi5 : i = 4 := by omega
    subst hi5
    rw [decide_eq_false (by omega), cond_false]
    have e1 : lo = mnF (mnF (mnF r1 r2) r3) r4 := hlo
    have e2 : hi = mxF (mxF (mxF r1 r2) r3) r4 := hhi
    rw [← e1] at d1
    rw [← e2] at d2
    rw [s8.1, cond_true, hDn w _ _ x2 flo d1]
    simp only [Option.bind_some, cond_true]
    rw [hUp w _ _ x2 fhi d2]
    rfl
end Go.Px.Seat
