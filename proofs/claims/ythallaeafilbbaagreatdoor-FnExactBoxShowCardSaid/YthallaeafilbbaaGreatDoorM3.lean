/- PmJ .. PmSf (what FnExactFloatShow's claim keeps of them) -/
import Derived.Test.YthallaeafilbbaaGreatDoorM2
set_option linter.unusedVariables false

set_option linter.unusedVariables false
/- Numbers: the program's division. -/
namespace Pm
/-- a digit by the value -/
theorem at_val {l : List Int} (h : Dg l) (j : Nat) : at_ l j = (((val l).toNat / 65536 ^ j % 65536 : Nat) : Int) := by
  by_cases hj : j < l.length
  · have h1 : val l = val (l.take j) + ((65536 ^ j : Nat) : Int) * val (l.drop j) := by
      conv => lhs; rw [← List.take_append_drop j l]
      rw [val_append, List.length_take, Nat.min_eq_left (by omega)]
    have h2 : l.drop j = at_ l j :: l.drop (j + 1) := by
      rw [List.drop_eq_getElem_cons hj]
      simp [at_, List.getD_eq_getElem?_getD, List.getElem?_eq_getElem hj]
    have h3 := val_lt (Dg_take h j)
    rw [List.length_take, Nat.min_eq_left (by omega)] at h3
    have h4 := val_nonneg (Dg_take h j)
    have h5 := val_nonneg (Dg_drop h j)
    have h6 := val_nonneg (Dg_drop h (j + 1))
    obtain ⟨r1, r2⟩ := at_range h j
    have h7 : val (l.drop j) = at_ l j + 65536 * val (l.drop (j + 1)) := by rw [h2]; rfl
    obtain ⟨a, ha⟩ : ∃ a : Nat, val (l.take j) = a := ⟨(val (l.take j)).toNat, by omega⟩
    obtain ⟨b, hb⟩ : ∃ b : Nat, val (l.drop j) = b := ⟨(val (l.drop j)).toNat, by omega⟩
    have h8 : (val l).toNat = a + 65536 ^ j * b := by
      rw [h1, ha, hb]
      have : ((a : Int) + ((65536 ^ j : Nat) : Int) * (b : Int)) = ((a + 65536 ^ j * b : Nat) : Int) := by rw [Int.natCast_add, Int.natCast_mul]
      rw [this, Int.toNat_natCast]
    have ha' : a < 65536 ^ j := by rw [ha] at h3; exact_mod_cast h3
    rw [h8, Nat.add_mul_div_left _ _ (Nat.pow_pos (by decide)), Nat.div_eq_of_lt ha', Nat.zero_add]
    omega
  · rw [at_out (by omega)]
    have h1 := val_lt h
    have h2 := val_nonneg h
    have : (val l).toNat < 65536 ^ j := by
      have h3 : (val l).toNat < 65536 ^ l.length := by
        have : ((val l).toNat : Int) < ((65536 ^ l.length : Nat) : Int) := by rw [Int.toNat_of_nonneg h2]; exact h1
        exact_mod_cast this
      exact Nat.lt_of_lt_of_le h3 (Nat.pow_le_pow_right (by decide) (by omega))
    rw [Nat.div_eq_of_lt this]; rfl
/-- the facts that a trial quotient rests on -/
structure Trial (W Y N : Nat) : Prop where
  n2 : 2 ≤ N
  lt : W < Y * 65536
  hi : Y < 65536 ^ N
  lo : 32768 ≤ Y / 65536 ^ (N - 1)
section
variable {W Y N : Nat}
theorem Trial.y0 (h : Trial W Y N) : 0 < Y := by
  rcases Nat.eq_zero_or_pos Y with h0 | h0
  · have := h.lo; rw [h0] at this; simp at this
  · exact h0
theorem Trial.vt (h : Trial W Y N) : Y / 65536 ^ (N - 1) < 65536 := by
  have := h.n2
  rw [Nat.div_lt_iff_lt_mul (Nat.pow_pos (by decide)), Nat.mul_comm, ← Nat.pow_succ, show (N - 1).succ = N by omega]
  exact h.hi
theorem Trial.q (h : Trial W Y N) : W / Y < 65536 := (Nat.div_lt_iff_lt_mul h.y0).2 (by rw [Nat.mul_comm]; exact h.lt)
theorem Trial.top (h : Trial W Y N) : W / 65536 ^ (N - 1) < (Y / 65536 ^ (N - 1) + 1) * 65536 := by
  rw [Nat.div_lt_iff_lt_mul (Nat.pow_pos (by decide))]
  have h1 := Nat.lt_div_mul_add (a := Y) (b := 65536 ^ (N - 1)) (Nat.pow_pos (by decide))
  have h2 := h.lt
  have h3 : Y < (Y / 65536 ^ (N - 1) + 1) * 65536 ^ (N - 1) := by rw [Nat.add_mul, Nat.one_mul]; exact h1
  calc W < Y * 65536 := h2
    _ ≤ (Y / 65536 ^ (N - 1) + 1) * 65536 ^ (N - 1) * 65536 := Nat.mul_le_mul_right _ (Nat.le_of_lt h3)
    _ = (Y / 65536 ^ (N - 1) + 1) * 65536 * 65536 ^ (N - 1) := by rw [Nat.mul_assoc, Nat.mul_assoc, Nat.mul_comm (65536 ^ (N - 1))]
theorem Trial.w3 (h : Trial W Y N) : W / 65536 ^ (N - 2) = W / 65536 ^ (N - 1) * 65536 + W / 65536 ^ (N - 2) % 65536 := by
  have := h.n2
  have h1 : W / 65536 ^ (N - 1) = W / 65536 ^ (N - 2) / 65536 := by rw [Nat.div_div_eq_div_mul, ← Nat.pow_succ, show (N - 2).succ = N - 1 by omega]
  rw [h1]; omega
theorem Trial.y2 (h : Trial W Y N) : Y / 65536 ^ (N - 2) = Y / 65536 ^ (N - 1) * 65536 + Y / 65536 ^ (N - 2) % 65536 := by
  have := h.n2
  have h1 : Y / 65536 ^ (N - 1) = Y / 65536 ^ (N - 2) / 65536 := by rw [Nat.div_div_eq_div_mul, ← Nat.pow_succ, show (N - 2).succ = N - 1 by omega]
  rw [h1]; omega
/-- what is too much is told -/
theorem Trial.over (h : Trial W Y N) {q : Nat} (hq : W / 65536 ^ (N - 2) < q * (Y / 65536 ^ (N - 2))) : W / Y < q := by
  rw [Nat.div_lt_iff_lt_mul h.y0]
  have h1 := Nat.lt_div_mul_add (a := W) (b := 65536 ^ (N - 2)) (Nat.pow_pos (by decide))
  have h2 : (W / 65536 ^ (N - 2) + 1) * 65536 ^ (N - 2) ≤ q * (Y / 65536 ^ (N - 2)) * 65536 ^ (N - 2) := Nat.mul_le_mul_right _ hq
  have h3 : Y / 65536 ^ (N - 2) * 65536 ^ (N - 2) ≤ Y := Nat.div_mul_le_self ..
  have h4 : q * (Y / 65536 ^ (N - 2)) * 65536 ^ (N - 2) ≤ q * Y := by rw [Nat.mul_assoc]; exact Nat.mul_le_mul_left _ h3
  rw [Nat.add_mul, Nat.one_mul] at h2
  omega
/-- what is not told is too much by one at most -/
theorem Trial.under (h : Trial W Y N) {q : Nat} (hq : q * (Y / 65536 ^ (N - 2)) ≤ W / 65536 ^ (N - 2)) (hB : q ≤ 65536) : q ≤ W / Y + 1 := by
  rcases Nat.lt_or_ge (W / Y + 1) q with h0 | h0
  · exfalso
    have e1 : W < (q - 1) * Y := by
      have := Nat.lt_div_mul_add (a := W) (b := Y) h.y0
      have h2 : (W / Y + 1) * Y ≤ (q - 1) * Y := Nat.mul_le_mul_right _ (by omega)
      rw [Nat.add_mul, Nat.one_mul] at h2
      omega
    have e2 : Y < (Y / 65536 ^ (N - 2) + 1) * 65536 ^ (N - 2) := by
      have := Nat.lt_div_mul_add (a := Y) (b := 65536 ^ (N - 2)) (Nat.pow_pos (by decide))
      rw [Nat.add_mul, Nat.one_mul]; exact this
    have e3 : W < (q - 1) * (Y / 65536 ^ (N - 2) + 1) * 65536 ^ (N - 2) := by
      rw [Nat.mul_assoc]
      exact Nat.lt_of_lt_of_le e1 (Nat.mul_le_mul_left _ (Nat.le_of_lt e2))
    have e4 : W / 65536 ^ (N - 2) < (q - 1) * (Y / 65536 ^ (N - 2) + 1) := (Nat.div_lt_iff_lt_mul (Nat.pow_pos (by decide))).2 e3
    have hy := h.y2
    have hl := h.lo
    have e5 : 2147483648 ≤ Y / 65536 ^ (N - 2) := by
      generalize Y / 65536 ^ (N - 1) = vt at *
      generalize Y / 65536 ^ (N - 2) = Y2 at *
      omega
    generalize Y / 65536 ^ (N - 2) = Y2 at *
    generalize W / Y = qs at *
    obtain ⟨p, rfl⟩ : ∃ p, q = p + 1 := ⟨q - 1, by omega⟩
    simp only [Nat.add_sub_cancel] at e4
    rw [Nat.mul_add, Nat.mul_one] at e4
    rw [Nat.add_mul, Nat.one_mul] at hq
    omega
  · exact h0
theorem Trial.first (h : Trial W Y N) : W / Y ≤ W / 65536 ^ (N - 1) / (Y / 65536 ^ (N - 1)) :=
  have := h.lo
  guess_ge' h.y0 (by omega) 
where guess_ge' {r y k : Nat} (hy : 0 < y) (ht : y / 65536 ^ k ≠ 0) : r / y ≤ (r / 65536 ^ k) / (y / 65536 ^ k) := by
        rw [Nat.le_div_iff_mul_le (Nat.pos_of_ne_zero ht), Nat.le_div_iff_mul_le (Nat.pow_pos (by decide))]
        have h1 : y / 65536 ^ k * 65536 ^ k ≤ y := Nat.div_mul_le_self ..
        have h2 : r / y * y ≤ r := Nat.div_mul_le_self ..
        calc r / y * (y / 65536 ^ k) * 65536 ^ k = r / y * (y / 65536 ^ k * 65536 ^ k) := Nat.mul_assoc ..
          _ ≤ r / y * y := Nat.mul_le_mul_left _ h1
          _ ≤ r := h2
end
end Pm
namespace Pm
section
variable {W Y N : Nat}
theorem Trial.exit1 (h : Trial W Y N) {q r : Nat} (he : q * (Y / 65536 ^ (N - 1)) + r = W / 65536 ^ (N - 1)) (hq : q < 65536)
    (hc : q * (Y / 65536 ^ (N - 2) % 65536) ≤ r * 65536 + W / 65536 ^ (N - 2) % 65536) : q ≤ W / Y + 1 := by
  refine h.under ?_ (by omega)
  rw [h.y2, h.w3, ← he]
  generalize Y / 65536 ^ (N - 1) = vt at *
  generalize Y / 65536 ^ (N - 2) % 65536 = v2 at *
  generalize W / 65536 ^ (N - 2) % 65536 = u2 at *
  have : q * (vt * 65536 + v2) = q * vt * 65536 + q * v2 := by rw [Nat.mul_add, Nat.mul_assoc]
  rw [this]
  clear this he h
  generalize q * v2 = z at *
  generalize q * vt = z2 at *
  rw [Nat.add_mul]
  omega
theorem Trial.cond1 (h : Trial W Y N) {q r : Nat} (he : q * (Y / 65536 ^ (N - 1)) + r = W / 65536 ^ (N - 1))
    (hc : r * 65536 + W / 65536 ^ (N - 2) % 65536 < q * (Y / 65536 ^ (N - 2) % 65536)) : W / Y < q := by
  refine h.over ?_
  rw [h.y2, h.w3, ← he]
  generalize Y / 65536 ^ (N - 1) = vt at *
  generalize Y / 65536 ^ (N - 2) % 65536 = v2 at *
  generalize W / 65536 ^ (N - 2) % 65536 = u2 at *
  have : q * (vt * 65536 + v2) = q * vt * 65536 + q * v2 := by rw [Nat.mul_add, Nat.mul_assoc]
  rw [this]
  clear this he h
  generalize q * v2 = z at *
  generalize q * vt = z2 at *
  rw [Nat.add_mul, Nat.add_assoc]
  exact Nat.add_lt_add_left hc _
theorem Trial.exit2 (h : Trial W Y N) {q r : Nat} (he : q * (Y / 65536 ^ (N - 1)) + r = W / 65536 ^ (N - 1)) (hr : 65536 ≤ r) : q < 65536 ∧ q ≤ W / Y + 1 := by
  have ht := h.top
  have hl := h.lo
  have hy := h.y2
  have hw := h.w3
  have hq : q < 65536 := Nat.lt_of_not_le fun h1 => by
    have h2 : 65536 * (Y / 65536 ^ (N - 1)) ≤ q * (Y / 65536 ^ (N - 1)) := Nat.mul_le_mul_right _ h1
    clear hy hw
    generalize Y / 65536 ^ (N - 1) = vt at *
    generalize W / 65536 ^ (N - 1) = top at *
    generalize q * vt = z at *
    omega
  refine ⟨hq, h.under ?_ (by omega)⟩
  rw [hy, hw, ← he]
  have hv2 : Y / 65536 ^ (N - 2) % 65536 < 65536 := Nat.mod_lt _ (by decide)
  generalize Y / 65536 ^ (N - 1) = vt at *
  generalize Y / 65536 ^ (N - 2) % 65536 = v2 at *
  generalize W / 65536 ^ (N - 2) % 65536 = u2 at *
  have e1 : q * (vt * 65536 + v2) = q * vt * 65536 + q * v2 := by rw [Nat.mul_add, Nat.mul_assoc]
  have e2 : q * v2 ≤ 4294967296 := Nat.mul_le_mul (show q ≤ 65536 by omega) (show v2 ≤ 65536 by omega)
  rw [e1]
  generalize q * v2 = z at *
  generalize q * vt = z2 at *
  omega
theorem Trial.q0 (h : Trial W Y N) : W / 65536 ^ (N - 1) / (Y / 65536 ^ (N - 1)) ≤ 65537 := by
  have ht := h.top
  have hl := h.lo
  generalize Y / 65536 ^ (N - 1) = vt at *
  generalize W / 65536 ^ (N - 1) = top at *
  have : top / vt < 65538 := (Nat.div_lt_iff_lt_mul (by omega)).2 (by omega)
  omega
end
theorem t_zero {P lp v t : Int} (h1 : 0 ≤ lp) (h2 : lp < P) (h3 : lp + t * P = v) (h4 : 0 ≤ v) (h5 : v < P) : t = 0 := by
  rcases Int.lt_trichotomy t 0 with h | h | h
  · have := Int.mul_le_mul_of_nonneg_right (show t ≤ -1 by omega) (show 0 ≤ P by omega)
    omega
  · exact h
  · have := Int.mul_le_mul_of_nonneg_right (show 1 ≤ t by omega) (show 0 ≤ P by omega)
    omega
theorem t_neg {P lp v t : Int} (h1 : 0 ≤ lp) (h2 : lp < P) (h3 : lp + t * P = v) (h4 : v < 0) : t < 0 := by
  rcases Int.lt_or_le t 0 with h | h
  · exact h
  · have := Int.mul_nonneg h (show 0 ≤ P by omega)
    omega
theorem val_split {l : List Int} {p : Nat} (hp : p < l.length) (hz : ∀ j, p < j → at_ l j = 0) : val l = val (l.take p) + at_ l p * ((65536 ^ p : Nat) : Int) := by
  rw [val_of_zeros (l := l) (k := p + 1) (fun j hj => hz j (by omega)), val_take_succ l p hp]
theorem take_lt {l : List Int} (h : Dg l) {p : Nat} (hp : p ≤ l.length) : 0 ≤ val (l.take p) ∧ val (l.take p) < ((65536 ^ p : Nat) : Int) := by
  have := val_lt (Dg_take h p)
  rw [List.length_take, Nat.min_eq_left hp] at this
  exact ⟨val_nonneg (Dg_take h p), this⟩
theorem shift_div (W low k i : Nat) (h : low < 65536 ^ k) : (W * 65536 ^ k + low) / 65536 ^ (k + i) = W / 65536 ^ i := by
  rw [Nat.pow_add, ← Nat.div_div_eq_div_mul, Nat.mul_comm W, Nat.mul_add_div (Nat.pow_pos (by decide)), Nat.div_eq_of_lt h, Nat.add_zero]
end Pm
namespace Go.Px.Seat
open Go Pm
set_option linter.unusedVariables false
theorem ring_ab {vl U c d P V ym v q r : Int} (h5 : vl + c * (V * P) = v + ym * V) (h8 : q * 65536 + r = U + d + c) : vl + (r - U) * (V * P) + q * (65536 * (V * P)) = v + (ym + d * P) * V := by
  have : r = U + d + c - q * 65536 := by omega
  subst this
  grind
theorem ring_ms {v q ym V u bo P xd U d nb : Int} (h : v + q * ym * V = u + bo * (V * P)) (hx : xd = U - bo - q * d + 65536 * nb) : v + (xd - U) * (V * P) + q * (ym + d * P) * V = u + nb * (65536 * (V * P)) := by
  subst hx
  grind
theorem ior16 {a b : Nat} (ha : a < 65536) (hb : b < 65536) : ior .i64 (ishl .i64 (a : Int) 16) (b : Int) = ((a * 65536 + b : Nat) : Int) := by
  have h1 : ishl .i64 (a : Int) 16 = ((a * 65536 : Nat) : Int) := by
    have := ishl_eq (x := (a : Int)) (k := 16) (by decide) (by omega) (by omega)
    rw [show ((16 : Nat) : Int) = 16 from rfl] at this
    rw [this]; omega
  rw [h1, ior_eq (by omega) (by omega), Nat.or_comm, or_add (t := 16) (by simpa using hb) (by simp only [Nat.reducePow]; omega), Nat.add_comm]
set_option maxHeartbeats 4000000 in
theorem k_natDiv : Ev fun n => ∀ x y : Nat, (dig x).length ≤ 134217728 → (dig y).length ≤ 134217728 → y ≠ 0 → c_i_natDiv ((C B0).run n) (dig x) (dig y) = some (dig (x / y), (dig (x % y), ())) := by
  refine ((k_natCmp (B := B0)).and ((k_trim (B := B0)).and ((k_Len (B := B0)).and ((k_natShl (B := B0)).and (k_natShr.and k_Clone))))).succ
    fun n hn ⟨hCmp, hTrim, hLen, hShl, hShr, hClone⟩ x y hx hyl hy => ?_
  rw [run_succ, e_i_natDiv]
  unfold p_i_natDiv
  have hypos := dig_len_pos hy
  rw [hCmp x y (by omega) (by omega)]
  simp only [Option.bind_some, ilt_iff]
  by_cases hlt : x < y
  · simp only [cmp3, if_pos hlt, show (-1 : Int) < 0 by omega, decide_true, cond_true]
    rw [Nat.div_eq_of_lt hlt, Nat.mod_eq_of_lt hlt, dig_zero]
  have hge : y ≤ x := by omega
  have hc3 : ¬ cmp3 x y < 0 := by unfold cmp3; rw [if_neg (by omega)]; split <;> omega
  simp only [hc3, decide_false, cond_false, len_eq]
  by_cases h1 : (dig y).length = 1
  · simp only [h1, show (((1 : Nat) : Int) == 1) = true from rfl, cond_true]
    have hyB : y < 65536 := by have := dig_len_le.1 (Nat.le_of_eq h1); omega
    have hyd : List.getD (dig y) (Int.toNat 0) 0 = (y : Int) := by
      rw [show Int.toNat 0 = 0 from rfl, getD_at, dig_at, Nat.pow_zero, Nat.div_one, Nat.mod_eq_of_lt hyB]
    generalize hL : (dig x).length = L at *
    rw [ok_of (mkOk_true (by omega) (by omega) (by omega)), isub_eq (by omega) (by omega), Int.toNat_natCast]
    refine iter_const (fun p => ∃ (k : Nat) (o : List Int), p = ((((k : Int) - 1), (((x / 65536 ^ k % y : Nat) : Int), (dig x, ((), (dig y, ((), ((), ()))))))), (o, ())) ∧ k ≤ L ∧ o.length = L ∧ Dg o ∧
        val o = ((x / 65536 ^ k / y * 65536 ^ k : Nat) : Int) ∧ ∀ j, j < k → at_ o j = 0) (fun p => (p.1.1 + 1).toNat) _ ?_ n _ (by simp only; omega)
        ⟨L, List.replicate L 0, ?_, by omega, by simp, Dg_replicate _, ?_, fun j _ => by
          simp only [at_, List.getD_eq_getElem?_getD, List.getElem?_replicate]
          split <;> rfl⟩
    · rintro rec _ ⟨k, o, rfl, h1, h2, h3, h4, h5⟩ ih
      simp only [ile_iff]
      cases k with
      | zero =>
        simp only [show ¬ (0 : Int) ≤ ((0 : Nat) : Int) - 1 by omega, decide_false, cond_false, Nat.pow_zero, Nat.div_one]
        have hm : x % y < y := Nat.mod_lt _ (by omega)
        rw [hTrim _ (by omega)]
        simp only [Option.bind_some]
        rw [hTrim _ (by simp)]
        simp only [Option.bind_some, strip_dig h3, h4, Nat.pow_zero, Nat.div_one, Nat.mul_one, Int.toNat_natCast]
        rw [strip_dig (Dg_one (by omega))]
        simp only [val, Int.mul_zero, Int.add_zero, Int.toNat_natCast]
      | succ k =>
        have e1 : ((k + 1 : Nat) : Int) - 1 = (k : Int) := by omega
        obtain ⟨s1, s2⟩ := div_step x y k (by omega)
        have hr : x / 65536 ^ (k + 1) % y < y := Nat.mod_lt _ (by omega)
        have hq : (x / 65536 ^ (k + 1) % y * 65536 + x / 65536 ^ k % 65536) / y < 65536 := by
          rw [Nat.div_lt_iff_lt_mul (by omega)]
          have : (x / 65536 ^ (k + 1) % y + 1) * 65536 ≤ y * 65536 := Nat.mul_le_mul_right _ hr
          have : x / 65536 ^ k % 65536 < 65536 := Nat.mod_lt _ (by decide)
          rw [Nat.mul_comm 65536 y]
          omega
        simp only [e1, show (0 : Int) ≤ (k : Int) by omega, decide_true, cond_true, Int.toNat_natCast]
        rw [hyd, getD_at, dig_at]
        rw [ok_of (inB_true (by omega) (by omega)), ok_of (inB_true (by omega) (by omega)), ok_of (nz (by omega)), ok_of (inB_true (by omega) (by omega)), ok_of (nz (by omega)), ok_of (inB_true (by omega) (by simp only [h2]; omega))]
        generalize hR : x / 65536 ^ (k + 1) % y = Rr at *
        generalize hD : x / 65536 ^ k % 65536 = D at *
        have hD' : D < 65536 := by omega
        rw [ior16 (by omega) hD', irem_eq (by omega), iquo_eq (by omega) (by omega) (by omega), isub_eq (by omega) (by omega)]
        refine ih _ ⟨k, o.set k (((Rr * 65536 + D) / y : Nat) : Int), ?_, by omega, by simp [h2], Dg_set h3 ⟨Int.natCast_nonneg _, by omega⟩, ?_, fun j hj => ?_⟩ (by simp only; omega)
        · rw [s2]
          simp
        · rw [val_set _ _ _ (by omega), h4, h5 k (by omega), s1, Nat.add_mul, Nat.pow_succ]
          simp only [Int.natCast_add, Int.natCast_mul]
          grind
        · rw [at_set _ _ _ _ (by omega), if_neg (by omega)]
          exact h5 j (by omega)
    · have : x / 65536 ^ L = 0 := Nat.div_eq_of_lt (dig_len_le.1 (by omega))
      rw [this]; simp
    · have : x / 65536 ^ L = 0 := Nat.div_eq_of_lt (dig_len_le.1 (by omega))
      rw [this, val_replicate_zero]; simp
  -- the long way
  have hc1 : (((dig y).length : Int) == 1) = false := beq_eq_false_iff_ne.2 (by omega)
  simp only [hc1, cond_false]
  have hlyx : (dig y).length ≤ (dig x).length := dig_len_mono hge
  have hbly := bl_dig hy
  rw [isub_eq (by omega) (by omega), show (((dig y).length : Int) - 1).toNat = (dig y).length - 1 by omega, getD_at, dig_at]
  generalize hT : y / 65536 ^ ((dig y).length - 1) % 65536 = T at *
  have hT0 : T ≠ 0 := by
    have := dig_last hy
    rw [dig_at, hT] at this
    omega
  have hTB : T < 65536 := by omega
  have hbT : bl T ≤ 16 := bl_le.2 (by omega)
  have hbT0 : bl T ≠ 0 := mt bl_eq_zero.1 hT0
  rw [ok_of (inB_true (by omega) (by omega)), wrapu64 (by omega) (by omega), hLen T (by omega)]
  simp only [Option.bind_some]
  rw [isub_eq (by omega) (by omega), show (16 : Int) - (bl T : Int) = ((16 - bl T : Nat) : Int) by omega, hShl y _ (by omega) (by omega)]
  simp only [Option.bind_some]
  rw [hShl x _ (by omega) (by omega)]
  simp only [Option.bind_some]
  have hq : x * 2 ^ (16 - bl T) / (y * 2 ^ (16 - bl T)) = x / y := Nat.mul_div_mul_right _ _ (Nat.pow_pos (by decide))
  have hrr : x * 2 ^ (16 - bl T) % (y * 2 ^ (16 - bl T)) / 2 ^ (16 - bl T) = x % y := by rw [Nat.mul_mod_mul_right, Nat.mul_div_cancel _ (Nat.pow_pos (by decide))]
  have hYN : y * 2 ^ (16 - bl T) < 65536 ^ (dig y).length := by
    rw [pow_base]
    have h2 := bl_lt y
    have h3 : y * 2 ^ (16 - bl T) < 2 ^ bl y * 2 ^ (16 - bl T) := Nat.mul_lt_mul_of_pos_right h2 (Nat.pow_pos (by decide))
    rw [← Nat.pow_add, show bl y + (16 - bl T) = 16 * (dig y).length by omega] at h3
    exact h3
  have hYlo : 32768 ≤ y * 2 ^ (16 - bl T) / 65536 ^ ((dig y).length - 1) := by
    rw [Nat.le_div_iff_mul_le (Nat.pow_pos (by decide)), pow_base]
    have h2 := bl_ge hy
    have h3 : 2 ^ (bl y - 1) * 2 ^ (16 - bl T) ≤ y * 2 ^ (16 - bl T) := Nat.mul_le_mul_right _ h2
    rw [← Nat.pow_add, show bl y - 1 + (16 - bl T) = 15 + 16 * ((dig y).length - 1) by omega, Nat.pow_add] at h3
    exact h3
  have hX0 : x * 2 ^ (16 - bl T) ≠ 0 := Nat.mul_ne_zero (by omega) (Nat.ne_of_gt (Nat.pow_pos (by decide)))
  have hXx : (dig x).length ≤ (dig (x * 2 ^ (16 - bl T))).length := dig_len_mono (Nat.le_mul_of_pos_right _ (Nat.pow_pos (by decide)))
  have hXx2 : (dig (x * 2 ^ (16 - bl T))).length ≤ (dig x).length + 1 := len_mul_le (Nat.le_refl _) (dig_len_le.2 (by
    have : (2 : Nat) ^ (16 - bl T) ≤ 2 ^ 15 := Nat.pow_le_pow_right (by decide) (by omega)
    omega))
  have hYy : (dig y).length ≤ (dig (y * 2 ^ (16 - bl T))).length := dig_len_mono (Nat.le_mul_of_pos_right _ (Nat.pow_pos (by decide)))
  have hYl : (dig (y * 2 ^ (16 - bl T))).length = (dig y).length := by
    have := dig_len_le.2 hYN
    omega
  rw [← hq, ← hrr]
  generalize hXX : x * 2 ^ (16 - bl T) = X at *
  generalize hYY : y * 2 ^ (16 - bl T) = Y at *
  generalize hsh : 16 - bl T = sh at *
  generalize hLX : (dig X).length = LX at *
  generalize hN : (dig y).length = N at *
  clear hq hrr
  have hY0 : 0 < Y := by
    rcases Nat.eq_zero_or_pos Y with h | h
    · rw [h] at hYlo; simp at hYlo
    · exact h
  rw [hClone _ (fun h => hX0 (dig_eq_nil.1 h)) (by omega)]
  simp only [Option.bind_some]
  rw [ok_of (aok_true (by simp; omega))]
  -- room is enough
  have hu0 : Dg (dig X ++ [0]) := Dg_append (dig_Dg X) (Dg_one (by omega))
  have hu1 : val (dig X ++ [0]) = X := by rw [val_append, val_dig]; simp [val]
  have hu2 : (dig X ++ [0]).length = LX + 1 := by simp [hLX]
  generalize dig X ++ [0] = u0 at *
  refine iter_const (fun p => p = (((), (dig x, ((N : Int), (dig Y, ((sh : Int), ((), ((), ()))))))), (u0, ()))) (fun _ => 0) _ ?_ n _ (by show 0 < n; omega) (by rw [hYl])
  rintro rec _ rfl _
  simp only [hu2]
  rw [iadd_eq (by omega) (by omega)]
  simp only [show ¬ (((LX + 1 : Nat) : Int) < ((dig x).length : Int) + 1) by omega, decide_false, cond_false]
  rw [isub_eq (x := ((LX + 1 : Nat) : Int)) (by omega) (by omega), ok_of (mkOk_true (by omega) (by omega) (by omega)), isub_eq (by omega) (by omega), show (((LX + 1 : Nat) : Int) - (N : Int)) = ((LX + 1 - N : Nat) : Int) by omega, Int.toNat_natCast]
  generalize hM : LX + 1 - N = M at *
  have hXM : X / 65536 ^ M < Y := by
    have h2 := dig_lt_pow X
    rw [hLX, show LX = M + (N - 1) by omega, Nat.pow_add] at h2
    have h3 : X / 65536 ^ M < 65536 ^ (N - 1) := (Nat.div_lt_iff_lt_mul (Nat.pow_pos (by decide))).2 (by rw [Nat.mul_comm]; exact h2)
    have h4 : 65536 ^ (N - 1) ≤ Y := by
      have := (Nat.le_div_iff_mul_le (Nat.pow_pos (by decide) : 0 < 65536 ^ (N - 1))).1 (show 1 ≤ Y / 65536 ^ (N - 1) by omega)
      omega
    omega
  refine iter_const (fun p => ∃ (k : Nat) (u o : List Int), p = ((((k : Int) - 1), ((), ((N : Int), (dig Y, ((), ((sh : Int), ((), ((), ())))))))), (u, (o, ()))) ∧ k ≤ M ∧ u.length = LX + 1 ∧ Dg u ∧
      val u = ((X / 65536 ^ k % Y * 65536 ^ k + X % 65536 ^ k : Nat) : Int) ∧ o.length = M ∧ Dg o ∧ val o = ((X / 65536 ^ k / Y * 65536 ^ k : Nat) : Int) ∧ ∀ j, j < k → at_ o j = 0) (fun p => (p.1.1 + 1).toNat) _ ?_ n _ (by simp only; omega)
      ⟨M, u0, List.replicate M 0, rfl, by omega, hu2, hu0, ?_, by simp, Dg_replicate _, ?_, fun j _ => by
        simp only [at_, List.getD_eq_getElem?_getD, List.getElem?_replicate]
        split <;> rfl⟩
  case refine_2 =>
    rw [Nat.mod_eq_of_lt hXM, hu1]
    have := Nat.div_add_mod X (65536 ^ M)
    rw [Nat.mul_comm] at this
    omega
  case refine_3 => rw [Nat.div_eq_of_lt hXM, val_replicate_zero]; simp
  rintro rec2 _ ⟨k, u, o, rfl, g1, g2, g3, g4, g5, g6, g7, g8⟩ ih
  simp only [ile_iff]
  cases k with
  | zero =>
    simp only [show ¬ (0 : Int) ≤ ((0 : Nat) : Int) - 1 by omega, decide_false, cond_false]
    rw [hTrim _ (by omega)]
    simp only [Option.bind_some]
    rw [hTrim _ (by omega)]
    simp only [Option.bind_some, strip_dig g6, strip_dig g3, g4, g7, Nat.pow_zero, Nat.div_one, Nat.mul_one, Int.toNat_natCast, Nat.mod_one, Nat.add_zero]
    have hXY : (dig (X % Y)).length ≤ LX := by rw [← hLX]; exact dig_len_mono (Nat.mod_le ..)
    rw [ineg_eq (by omega) (by omega)]
    by_cases hs0 : sh = 0
    · subst hs0
      have := hShl (X % Y) 0 (by omega) (by omega)
      rw [show (-((0 : Nat) : Int)) = ((0 : Nat) : Int) by omega, this]
      simp
    · rw [hShr _ _ (by omega) (by omega) (by omega)]
      rfl
  | succ k =>
    have e1 : ((k + 1 : Nat) : Int) - 1 = (k : Int) := by omega
    simp only [e1, show (0 : Int) ≤ (k : Int) by omega, decide_true, cond_true]
    -- the part that is divided now
    obtain ⟨s1, s2⟩ := div_step X Y k hY0
    have hRlt : X / 65536 ^ (k + 1) % Y < Y := Nat.mod_lt _ hY0
    have hmodk : X % 65536 ^ (k + 1) = X % 65536 ^ k + X / 65536 ^ k % 65536 * 65536 ^ k := mod_succ X k
    have hlow : X % 65536 ^ k < 65536 ^ k := Nat.mod_lt _ (Nat.pow_pos (by decide))
    generalize hR : X / 65536 ^ (k + 1) % Y = Rr at *
    generalize hQ : X / 65536 ^ (k + 1) / Y = Q1 at *
    generalize hD : X / 65536 ^ k % 65536 = D at *
    have hD' : D < 65536 := by omega
    generalize hLow : X % 65536 ^ k = low at *
    obtain ⟨W, hW⟩ : ∃ W, W = Rr * 65536 + D := ⟨_, rfl⟩
    rw [← hW] at s1 s2
    have hV : (val u).toNat = W * 65536 ^ k + low := by
      rw [g4, Int.toNat_natCast, hmodk, hW, Nat.pow_succ, Nat.add_mul, Nat.mul_assoc, Nat.mul_comm 65536 (65536 ^ k)]
      omega
    have hV' : val u = ((W * 65536 ^ k + low : Nat) : Int) := by
      have := val_nonneg g3
      omega
    have hT : Trial W Y N := ⟨by omega, by omega, hYN, hYlo⟩
    have hW1 : W < 65536 ^ (N + 1) := by
      rw [Nat.pow_succ]
      exact Nat.lt_of_lt_of_le hT.lt (Nat.mul_le_mul_right _ (Nat.le_of_lt hYN))
    have hau : ∀ i, at_ u (k + i) = ((W / 65536 ^ i % 65536 : Nat) : Int) := fun i => by rw [at_val g3, hV, shift_div W low k i hlow]
    have haY : ∀ i, at_ (dig Y) i = ((Y / 65536 ^ i % 65536 : Nat) : Int) := fun i => dig_at i Y
    have hvt := hT.vt
    have hvtm : Y / 65536 ^ (N - 1) % 65536 = Y / 65536 ^ (N - 1) := Nat.mod_eq_of_lt hvt
    have hWN : W / 65536 ^ N < 65536 := (Nat.div_lt_iff_lt_mul (Nat.pow_pos (by decide))).2 (by rw [Nat.mul_comm, ← Nat.pow_succ]; exact hW1)
    have htop : W / 65536 ^ N % 65536 * 65536 + W / 65536 ^ (N - 1) % 65536 = W / 65536 ^ (N - 1) := by
      have h1 : W / 65536 ^ N = W / 65536 ^ (N - 1) / 65536 := by rw [Nat.div_div_eq_div_mul, ← Nat.pow_succ, show (N - 1).succ = N by omega]
      rw [h1] at hWN ⊢
      generalize W / 65536 ^ (N - 1) = Z at *
      omega
    have j1 : iadd .i64 (k : Int) (N : Int) = ((k + N : Nat) : Int) := by rw [iadd_eq (by omega) (by omega)]; omega
    have j2 : isub .i64 ((k + N : Nat) : Int) 1 = ((k + (N - 1) : Nat) : Int) := by rw [isub_eq (by omega) (by omega)]; omega
    have j3 : isub .i64 (N : Int) 1 = ((N - 1 : Nat) : Int) := by rw [isub_eq (by omega) (by omega)]; omega
    have j4 : isub .i64 ((k + N : Nat) : Int) 2 = ((k + (N - 2) : Nat) : Int) := by rw [isub_eq (by omega) (by omega)]; omega
    have j5 : isub .i64 (N : Int) 2 = ((N - 2 : Nat) : Int) := by rw [isub_eq (by omega) (by omega)]; omega
    simp only [j1, j2, j3, Int.toNat_natCast, getD_at, hau, haY, hvtm, g2, hYl]
    have hvt0 : Y / 65536 ^ (N - 1) ≠ 0 := by omega
    have hb1 : W / 65536 ^ N % 65536 < 65536 := Nat.mod_lt _ (by decide)
    have hb2 : W / 65536 ^ (N - 1) % 65536 < 65536 := Nat.mod_lt _ (by decide)
    have hb3 : W / 65536 ^ (N - 2) % 65536 < 65536 := Nat.mod_lt _ (by decide)
    have hb4 : Y / 65536 ^ (N - 2) % 65536 < 65536 := Nat.mod_lt _ (by decide)
    rw [ior16 hb1 hb2, htop]
    rw [ok_of (inB_true (by omega) (by omega)), ok_of (inB_true (by omega) (by omega)), ok_of (inB_true (by omega) (by omega)), ok_of (nz (by exact_mod_cast hvt0)), ok_of (inB_true (by omega) (by omega)), ok_of (nz (by exact_mod_cast hvt0))]
    -- the trial quotient
    have htopb : W / 65536 ^ (N - 1) < 4294967296 := by omega
    have hq0v : iquo .i64 ((W / 65536 ^ (N - 1) : Nat) : Int) ((Y / 65536 ^ (N - 1) : Nat) : Int) = ((W / 65536 ^ (N - 1) / (Y / 65536 ^ (N - 1)) : Nat) : Int) := by
      rw [iquo_eq (by omega) (by omega) (by omega)]; rfl
    have hr0v : irem .i64 ((W / 65536 ^ (N - 1) : Nat) : Int) ((Y / 65536 ^ (N - 1) : Nat) : Int) = ((W / 65536 ^ (N - 1) % (Y / 65536 ^ (N - 1)) : Nat) : Int) := by
      rw [irem_eq (by omega)]; rfl
    rw [hq0v, hr0v]
    refine jb_iter_ex (fun p => ∃ q r : Nat, p = (((q : Int), (dig Y, ((N : Int), ((r : Int), ((), ((k : Int), ((), ((sh : Int), ((), ((), ())))))))))), (u, (o, ()))) ∧ q * (Y / 65536 ^ (N - 1)) + r = W / 65536 ^ (N - 1) ∧ W / Y ≤ q ∧ q ≤ 65537 ∧ r < 65536)
      (fun p => p.1.1.toNat) (fun r => ∃ q : Nat, r = .inr ((dig Y, ((), ((k : Int), ((q : Int), ((N : Int), ((), ((sh : Int), ((), ((), ()))))))))), (u, (o, ()))) ∧ W / Y ≤ q ∧ q ≤ W / Y + 1 ∧ q < 65536) ?_ ?_ ?_ ?_
    · rintro rec3 _ ⟨q, r, rfl, a1, a2, a3, a4⟩ ih3
      have hqlt := hT.q
      simp only [j1, j3, j4, j5, Int.toNat_natCast, getD_at, hau, haY, hvtm, g2, hYl, jb_cond, jb_ok, jb_inr]
      -- one round
      have more : W / Y < q → ∃ r', (ok (inB ((N - 1 : Nat) : Int) (N : Int)) (bif ile 65536 (iadd .i64 (r : Int) ((Y / 65536 ^ (N - 1) : Nat) : Int)) then
            some (.inr ((dig Y, ((), ((k : Int), ((isub .i64 (q : Int) 1), ((N : Int), ((), ((sh : Int), ((), ((), ()))))))))), (u, (o, ()))))
          else rec3 (((isub .i64 (q : Int) 1), (dig Y, ((N : Int), ((iadd .i64 (r : Int) ((Y / 65536 ^ (N - 1) : Nat) : Int)), ((), ((k : Int), ((), ((sh : Int), ((), ((), ())))))))))), (u, (o, ())))) : Option _) = some r' ∧
          ∃ q : Nat, r' = .inr ((dig Y, ((), ((k : Int), ((q : Int), ((N : Int), ((), ((sh : Int), ((), ((), ()))))))))), (u, (o, ()))) ∧ W / Y ≤ q ∧ q ≤ W / Y + 1 ∧ q < 65536 := by
        intro hlt
        have hq1 : 1 ≤ q := Nat.lt_of_le_of_lt (Nat.zero_le _) hlt
        have hqs : W / Y ≤ q - 1 := Nat.le_sub_one_of_lt hlt
        have he : (q - 1) * (Y / 65536 ^ (N - 1)) + (r + Y / 65536 ^ (N - 1)) = W / 65536 ^ (N - 1) := by
          obtain ⟨z, rfl⟩ : ∃ z, q = z + 1 := ⟨q - 1, by omega⟩
          rw [← a1, Nat.add_sub_cancel, Nat.add_mul, Nat.one_mul]
          omega
        have e3 : isub .i64 (q : Int) 1 = ((q - 1 : Nat) : Int) := by rw [isub_eq (by omega) (by omega)]; omega
        have e4 : iadd .i64 (r : Int) ((Y / 65536 ^ (N - 1) : Nat) : Int) = ((r + Y / 65536 ^ (N - 1) : Nat) : Int) := by
          generalize Y / 65536 ^ (N - 1) = vt at *
          rw [iadd_eq (by omega) (by omega)]; omega
        rw [ok_of (inB_true (by omega) (by omega)), e3, e4]
        simp only [ile_iff]
        by_cases hr' : 65536 ≤ r + Y / 65536 ^ (N - 1)
        · rw [decide_eq_true (show (65536 : Int) ≤ ((r + Y / 65536 ^ (N - 1) : Nat) : Int) by omega), cond_true]
          obtain ⟨f1, f2⟩ := hT.exit2 he hr'
          exact ⟨_, rfl, q - 1, rfl, hqs, f2, f1⟩
        · rw [decide_eq_false (show ¬ (65536 : Int) ≤ ((r + Y / 65536 ^ (N - 1) : Nat) : Int) by omega), cond_false]
          exact ih3 _ ⟨q - 1, r + Y / 65536 ^ (N - 1), rfl, he, hqs, by omega, by omega⟩ (by simp only; omega)
      simp only [ile_iff] at more ⊢
      by_cases hqB : 65536 ≤ q
      · simp only [show (65536 : Int) ≤ (q : Int) by omega, decide_true, cond_true]
        exact more (by generalize W / Y = qs at *; omega)
      · simp only [show ¬ (65536 : Int) ≤ (q : Int) by omega, decide_false, cond_false]
        rw [ok_of (inB_true (by omega) (by omega)), ok_of (inB_true (by omega) (by omega)), ior16 a4 hb3]
        have hmul : imul .i64 (q : Int) ((Y / 65536 ^ (N - 2) % 65536 : Nat) : Int) = ((q * (Y / 65536 ^ (N - 2) % 65536) : Nat) : Int) := by
          have h0 : q * (Y / 65536 ^ (N - 2) % 65536) ≤ 4294967296 := Nat.mul_le_mul (show q ≤ 65536 by omega) (show Y / 65536 ^ (N - 2) % 65536 ≤ 65536 by omega)
          have hc : (q : Int) * ((Y / 65536 ^ (N - 2) % 65536 : Nat) : Int) = ((q * (Y / 65536 ^ (N - 2) % 65536) : Nat) : Int) := by rw [Int.natCast_mul]
          generalize q * (Y / 65536 ^ (N - 2) % 65536) = z at *
          rw [imul_eq (by rw [hc]; omega) (by rw [hc]; omega), hc]
        rw [hmul]
        by_cases hc : r * 65536 + W / 65536 ^ (N - 2) % 65536 < q * (Y / 65536 ^ (N - 2) % 65536)
        · rw [decide_eq_true (Int.ofNat_lt.2 hc), cond_true]
          exact more (hT.cond1 a1 hc)
        · rw [decide_eq_false (mt Int.ofNat_lt.1 hc), cond_false]
          exact ⟨_, rfl, q, rfl, a2, hT.exit1 a1 (by omega) (by omega), by omega⟩
    · have := hT.q0
      simp only [Int.toNat_natCast]
      generalize W / 65536 ^ (N - 1) / (Y / 65536 ^ (N - 1)) = z at *
      omega
    · refine ⟨W / 65536 ^ (N - 1) / (Y / 65536 ^ (N - 1)), W / 65536 ^ (N - 1) % (Y / 65536 ^ (N - 1)), rfl, ?_, hT.first, hT.q0, ?_⟩
      · rw [Nat.mul_comm]; exact Nat.div_add_mod ..
      · exact Nat.lt_trans (Nat.mod_lt _ (by omega)) hvt
    rintro _ ⟨q, rfl, hqa, hqb, hqB⟩
    refine ⟨_, rfl, ?_⟩
    simp only []
    have hqs := hT.q
    -- multiplied and taken off
    have hzero : ∀ j, k + N < j → at_ u j = 0 := fun j hj => by
      obtain ⟨i, rfl⟩ : ∃ i, j = k + i := ⟨j - k, by omega⟩
      rw [hau, Nat.div_eq_of_lt (Nat.lt_of_lt_of_le hW1 (Nat.pow_le_pow_right (by decide) (by omega)))]; rfl
    rw [hYl]
    refine iter_const (fun p => ∃ (i bo : Nat) (v : List Int), p = (((i : Int), ((N : Int), (dig Y, ((), ((k : Int), ((bo : Int), ((q : Int), ((N : Int), (dig Y, ((), ((sh : Int), ((), ((), ()))))))))))))), (v, (o, ()))) ∧ i ≤ N ∧ bo < 65536 ∧ Dg v ∧ v.length = LX + 1 ∧
        val v + (q : Int) * ((Y % 65536 ^ i : Nat) : Int) * ((65536 ^ k : Nat) : Int) = val u + (bo : Int) * ((65536 ^ (k + i) : Nat) : Int) ∧ ∀ j, k + i ≤ j → at_ v j = at_ u j) (fun p => N - p.1.1.toNat) _ ?_ n _ (by simp only; omega)
        ⟨0, 0, u, rfl, by omega, by omega, g3, g2, by simp [Nat.mod_one], fun _ _ => rfl⟩
    rintro rec4 _ ⟨i, bo, v, rfl, b1, b2, b3, b4, b5, b6⟩ ih4
    by_cases hi : i < N
    · simp only [show (i : Int) < (N : Int) by omega, decide_true, cond_true, Int.toNat_natCast, haY, hYl, b4]
      have j6 : iadd .i64 (k : Int) (i : Int) = ((k + i : Nat) : Int) := by rw [iadd_eq (by omega) (by omega)]; omega
      rw [ok_of (inB_true (by omega) (by omega)), j6, ok_of (inB_true (by omega) (by omega)), Int.toNat_natCast]
      obtain ⟨r1, r2⟩ := at_range b3 (k + i)
      generalize hUU : at_ v (k + i) = U at *
      generalize hd : Y / 65536 ^ i % 65536 = d at *
      have hd' : d < 65536 := by omega
      have hqd : q * d ≤ 65535 * 65535 := Nat.mul_le_mul (by omega) (by omega)
      have hcast : (q : Int) * (d : Int) = ((q * d : Nat) : Int) := by rw [Int.natCast_mul]
      rw [imul_eq (by rw [hcast]; omega) (by rw [hcast]; omega), hcast, isub_eq (x := U) (by omega) (by omega), isub_eq (x := U - bo) (by omega) (by omega)]
      -- one digit
      have step : ∀ (xd : Int) (nb : Nat), xd = U - bo - ((q * d : Nat) : Int) + 65536 * nb → 0 ≤ xd → xd < 65536 → nb < 65536 →
          rec4 (((iadd .i64 (i : Int) 1), ((N : Int), (dig Y, ((), ((k : Int), ((nb : Int), ((q : Int), ((N : Int), (dig Y, ((), ((sh : Int), ((), ((), ()))))))))))))), (v.set (k + i) xd, (o, ()))) = some (dig (X / Y), (dig (X % Y / 2 ^ sh), ())) := by
        intro xd nb hx1 hx2 hx3 hx4
        rw [iadd_eq (by omega) (by omega)]
        refine ih4 _ ⟨i + 1, nb, v.set (k + i) xd, by simp, by omega, hx4, Dg_set b3 ⟨hx2, hx3⟩, by simp [b4], ?_, fun j hj => ?_⟩ (by simp only; omega)
        · rw [val_set _ _ _ (by omega), hUU, mod_succ, hd]
          have h7 : ((65536 ^ (k + (i + 1)) : Nat) : Int) = 65536 * (((65536 ^ k : Nat) : Int) * ((65536 ^ i : Nat) : Int)) := by
            rw [← Int.natCast_mul, ← Nat.pow_add, ← Nat.add_assoc, Nat.pow_succ, Nat.mul_comm]; omega
          have h9 : ((65536 ^ (k + i) : Nat) : Int) = ((65536 ^ k : Nat) : Int) * ((65536 ^ i : Nat) : Int) := by rw [← Int.natCast_mul, ← Nat.pow_add]
          rw [h7, h9]
          rw [h9] at b5
          rw [← hcast] at hx1
          simp only [Int.natCast_add, Int.natCast_mul] at b5 ⊢
          exact ring_ms b5 hx1
        · rw [at_set _ _ _ _ (by omega), if_neg (by omega)]
          exact b6 j (by omega)
      have j7 : ∀ z : Int, iadd .i64 (k : Int) (i : Int) = z → z.toNat = k + i := fun z hz => by rw [← hz, j6, Int.toNat_natCast]
      generalize hqdz : ((q * d : Nat) : Int) = qd at *
      have hqd0 : 0 ≤ qd := by omega
      have hqd1 : qd ≤ 4294836225 := by omega
      by_cases hneg : U - bo - qd < 0
      · refine (jb_of (p := (((), ((k : Int), ((i : Int), ((U - bo - qd + (-(U - bo - qd) + 65535) / 65536 * 65536), ((i : Int), ((N : Int), (dig Y, ((((-(U - bo - qd) + 65535) / 65536).toNat : Int), ((q : Int), ((N : Int), (dig Y, ((), ((sh : Int), ((), ((), ()))))))))))))))), (v, (o, ())))) ?_ _).trans ?_
        · have e5 : iquo .i64 (isub .i64 (iadd .i64 (ineg .i64 (U - bo - qd)) 65536) 1) 65536 = (-(U - bo - qd) + 65535) / 65536 := by
            rw [ineg_eq (by omega) (by omega), iadd_eq (by omega) (by omega), isub_eq (by omega) (by omega), iquo_eq (by omega) (by omega) (by omega)]
            congr 1
            omega
          rw [decide_eq_true hneg, cond_true, e5, imul_eq (by omega) (by omega), iadd_eq (by omega) (by omega), show ((((-(U - bo - qd) + 65535) / 65536).toNat : Nat) : Int) = (-(U - bo - qd) + 65535) / 65536 by omega]
        · simp only [b4]
          rw [j6, ok_of (inB_true (by omega) (by omega)), Int.toNat_natCast]
          exact step _ _ (by omega) (by omega) (by omega) (by omega)
      · refine (jb_of (p := (((), ((k : Int), ((i : Int), ((U - bo - qd), ((i : Int), ((N : Int), (dig Y, (((0 : Nat) : Int), ((q : Int), ((N : Int), (dig Y, ((), ((sh : Int), ((), ((), ()))))))))))))))), (v, (o, ())))) ?_ _).trans ?_
        · rw [decide_eq_false hneg, cond_false]; rfl
        · simp only [b4]
          rw [j6, ok_of (inB_true (by omega) (by omega)), Int.toNat_natCast]
          exact step _ 0 (by omega) (by omega) (by omega) (by omega)
    · have hi : i = N := by omega
      rw [hi] at b5 b6 ⊢
      rw [Nat.mod_eq_of_lt hYN] at b5
      simp only [show ¬ (N : Int) < (N : Int) by omega, decide_false, cond_false, j1, Int.toNat_natCast, b4, List.length_set]
      rw [ok_of (inB_true (by omega) (by omega)), ok_of (inB_true (by omega) (by omega)), jb_ok, ok_of (inB_true (by omega) (by omega)), jb_cond]
      have hc0 : at_ v (k + N) = ((W / 65536 ^ N % 65536 : Nat) : Int) := by rw [b6 _ (Nat.le_refl _), hau]
      have hc0b : W / 65536 ^ N % 65536 < 65536 := Nat.mod_lt _ (by decide)
      have hz2 : ∀ j, k + N < j → at_ v j = 0 := fun j hj => by rw [b6 j (by omega)]; exact hzero j hj
      have hsp := val_split (l := v) (p := k + N) (by omega) hz2
      obtain ⟨lp1, lp2⟩ := take_lt b3 (p := k + N) (by omega)
      rw [hc0] at hsp ⊢
      generalize W / 65536 ^ N % 65536 = c0 at *
      rw [isub_eq (by omega) (by omega), at_set _ _ _ _ (by omega), if_pos rfl]
      have hkN : ((65536 ^ (k + N) : Nat) : Int) = ((65536 ^ k : Nat) : Int) * ((65536 ^ N : Nat) : Int) := by rw [← Int.natCast_mul, ← Nat.pow_add]
      have hdm := Nat.div_add_mod W Y
      have hml : W % Y < Y := Nat.mod_lt _ hY0
      -- what is left
      have hrest : ((W % Y * 65536 ^ k + low : Nat) : Int) < ((65536 ^ (k + N) : Nat) : Int) := by
        refine Int.ofNat_lt.2 ?_
        have h1 : (W % Y + 1) * 65536 ^ k ≤ Y * 65536 ^ k := Nat.mul_le_mul_right _ hml
        have h2 : Y * 65536 ^ k ≤ 65536 ^ N * 65536 ^ k := Nat.mul_le_mul_right _ (Nat.le_of_lt hYN)
        rw [Nat.add_mul, Nat.one_mul] at h1
        rw [Nat.pow_add, Nat.mul_comm (65536 ^ k)]
        omega
      have hlp : val (v.take (k + N)) + ((c0 : Int) - bo) * ((65536 ^ (k + N) : Nat) : Int) = ((W * 65536 ^ k + low : Nat) : Int) - (q : Int) * (Y : Int) * ((65536 ^ k : Nat) : Int) := by
        rw [hV'] at b5
        generalize ((65536 ^ (k + N) : Nat) : Int) = P at *
        generalize ((65536 ^ k : Nat) : Int) = V at *
        generalize ((W * 65536 ^ k + low : Nat) : Int) = V0 at *
        grind
      have hWc : ((W * 65536 ^ k + low : Nat) : Int) = (((Y * (W / Y) : Nat) : Int) + ((W % Y : Nat) : Int)) * ((65536 ^ k : Nat) : Int) + (low : Int) := by
        rw [← Int.natCast_add, hdm, Int.natCast_add, Int.natCast_mul]
      have hlk : (low : Int) < ((65536 ^ k : Nat) : Int) := Int.ofNat_lt.2 hlow
      -- what goes on
      have go : ∀ (F : List Int), Dg F → F.length = LX + 1 → val F = ((W % Y * 65536 ^ k + low : Nat) : Int) →
          ok (inB (k : Int) (o.length : Int)) (rec2 (((isub .i64 (k : Int) 1), ((), ((N : Int), (dig Y, ((), ((sh : Int), ((), ((), ())))))))), (F, ((List.set o (Int.toNat (k : Int)) ((W / Y : Nat) : Int)), ())))) = some (dig (X / Y), (dig (X % Y / 2 ^ sh), ())) := by
        intro F f1 f2 f3
        rw [ok_of (inB_true (by omega) (by simp only [g5]; omega)), isub_eq (by omega) (by omega), Int.toNat_natCast]
        refine ih _ ⟨k, F, o.set k ((W / Y : Nat) : Int), rfl, by omega, f2, f1, ?_, by simp [g5], Dg_set g6 ⟨Int.natCast_nonneg _, by
          have := Int.ofNat_lt.2 hqs
          exact this⟩, ?_, fun j hj => ?_⟩ (by simp only; omega)
        · rw [f3, s2, hLow]
        · rw [val_set _ _ _ (by omega), g7, g8 k (by omega), s1, Nat.add_mul, Nat.pow_succ]
          simp only [Int.natCast_add, Int.natCast_mul]
          grind
        · rw [at_set _ _ _ _ (by omega), if_neg (by omega)]
          exact g8 j (by omega)
      by_cases hqq : q = W / Y
      · -- just right
        have ht : (c0 : Int) - bo = 0 := by
          refine t_zero lp1 lp2 hlp ?_ ?_
          · rw [hWc, hqq, Int.natCast_mul]
            have : (0 : Int) ≤ ((W % Y : Nat) : Int) * ((65536 ^ k : Nat) : Int) := Int.mul_nonneg (Int.natCast_nonneg _) (Int.natCast_nonneg _)
            generalize ((65536 ^ k : Nat) : Int) = V at *
            generalize ((W % Y : Nat) : Int) = m at *
            generalize ((W / Y : Nat) : Int) = qq at *
            have e : (↑Y * qq + m) * V + ↑low - qq * ↑Y * V = m * V + low := by grind
            rw [e]
            omega
          · rw [hWc, hqq]
            refine Int.lt_of_le_of_lt (Int.le_of_eq ?_) hrest
            simp only [Int.natCast_add, Int.natCast_mul]
            grind
        rw [ht] at hlp ⊢
        simp only [ilt_iff, show ¬ ((0 : Int) < 0) by omega, decide_false, cond_false, jb_inr]
        have e1 := go (v.set (k + N) 0) (Dg_set b3 (by omega)) (by simp [b4]) (by
          rw [val_set _ _ _ (by omega), hc0]
          rw [Int.zero_mul, Int.add_zero, hWc, hqq] at hlp
          rw [hsp, hlp]
          simp only [Int.natCast_add, Int.natCast_mul]
          grind)
        rw [← hqq] at e1
        exact e1
      · -- one too much
        have hq1 : q = W / Y + 1 := by
          generalize W / Y = z at *
          omega
        have ht : (c0 : Int) - bo < 0 := by
          refine t_neg lp1 lp2 hlp ?_
          rw [hWc, hq1]
          have h1 : ((W % Y : Nat) : Int) - (Y : Int) ≤ -1 := by
            have := Int.ofNat_lt.2 hml
            omega
          have h2 := Int.mul_le_mul_of_nonneg_right h1 (Int.natCast_nonneg (65536 ^ k))
          simp only [Int.natCast_add, Int.natCast_mul] at *
          generalize ((65536 ^ k : Nat) : Int) = V at *
          generalize ((W % Y : Nat) : Int) = m at *
          generalize ((W / Y : Nat) : Int) = qq at *
          have e : (↑Y * qq + m) * V + ↑low - (qq + ((1 : Nat) : Int)) * ↑Y * V = (m - Y) * V + low := by grind
          rw [e]
          omega
        rw [decide_eq_true ht, cond_true, hYl]
        have hq2 : isub .i64 (q : Int) 1 = ((W / Y : Nat) : Int) := by
          rw [hq1]
          generalize W / Y = z at *
          rw [isub_eq (by omega) (by omega)]
          omega
        rw [hq2]
        refine jb_iter_ex (fun p => ∃ (i c : Nat) (l : List Int), p = (((i : Int), ((N : Int), (dig Y, ((), ((k : Int), ((c : Int), ((N : Int), ((), (((W / Y : Nat) : Int), (dig Y, ((sh : Int), ((), ((), ()))))))))))))), (l.set (k + N) ((c0 : Int) - bo), (o, ()))) ∧ i ≤ N ∧ c ≤ 1 ∧ Dg l ∧ l.length = LX + 1 ∧
            val l + (c : Int) * ((65536 ^ (k + i) : Nat) : Int) = val v + ((Y % 65536 ^ i : Nat) : Int) * ((65536 ^ k : Nat) : Int) ∧ ∀ j, k + N ≤ j → at_ l j = at_ v j) (fun p => N - p.1.1.toNat)
          (fun r => ∃ F : List Int, r = .inr (((), ((k : Int), (((W / Y : Nat) : Int), ((), ((N : Int), (dig Y, ((sh : Int), ((), ((), ()))))))))), (o, (F, ()))) ∧ Dg F ∧ F.length = LX + 1 ∧ val F = ((W % Y * 65536 ^ k + low : Nat) : Int)) ?_ ?_ ?_ ?_
        · rintro rec5 _ ⟨i, c, l, rfl, a1, a2, a3, a4, a5, a6⟩ ih5
          by_cases hi : i < N
          · simp only [show (i : Int) < (N : Int) by omega, decide_true, cond_true, Int.toNat_natCast, haY, hYl, List.length_set, a4]
            have j6 : iadd .i64 (k : Int) (i : Int) = ((k + i : Nat) : Int) := by rw [iadd_eq (by omega) (by omega)]; omega
            rw [j6, Int.toNat_natCast, at_set _ _ _ _ (by omega), if_neg (by omega)]
            obtain ⟨r1, r2⟩ := at_range a3 (k + i)
            obtain ⟨U, hU⟩ : ∃ U : Nat, at_ l (k + i) = U := ⟨(at_ l (k + i)).toNat, by omega⟩
            have hd' : Y / 65536 ^ i % 65536 < 65536 := Nat.mod_lt _ (by decide)
            generalize hd : Y / 65536 ^ i % 65536 = d at *
            rw [hU, iadd_eq (x := (U : Int)) (by omega) (by omega), iadd_eq (x := (U : Int) + d) (by omega) (by omega), iand_base (by omega) (by omega)]
            have hsh1 : ∀ z : Int, ishr .i64 z 16 = z / 65536 := fun z => ishr_eq (k := 16) (by decide)
            rw [hsh1, ok_of (inB_true (by omega) (by omega)), ok_of (inB_true (by omega) (by omega)), ok_of (inB_true (by omega) (by omega)), iadd_eq (by omega) (by omega)]
            refine ih5 _ ⟨i + 1, (U + d + c) / 65536, l.set (k + i) (((U + d + c) % 65536 : Nat) : Int), ?_, by omega, by omega, Dg_set a3 (by omega), by simp [a4], ?_, fun j hj => ?_⟩ (by simp only; omega)
            · rw [List.set_comm _ _ (show k + N ≠ k + i by omega)]
              congr 2
            · rw [val_set _ _ _ (by omega), hU, mod_succ, hd]
              have h7 : ((65536 ^ (k + (i + 1)) : Nat) : Int) = 65536 * (((65536 ^ k : Nat) : Int) * ((65536 ^ i : Nat) : Int)) := by
                rw [← Int.natCast_mul, ← Nat.pow_add, ← Nat.add_assoc, Nat.pow_succ, Nat.mul_comm]; omega
              have h9 : ((65536 ^ (k + i) : Nat) : Int) = ((65536 ^ k : Nat) : Int) * ((65536 ^ i : Nat) : Int) := by rw [← Int.natCast_mul, ← Nat.pow_add]
              have h8 : (((U + d + c) / 65536 : Nat) : Int) * 65536 + (((U + d + c) % 65536 : Nat) : Int) = (U : Int) + d + c := by omega
              rw [h7, h9]
              rw [h9] at a5
              simp only [Int.natCast_add, Int.natCast_mul] at a5 h8 ⊢
              exact ring_ab a5 h8
            · rw [at_set _ _ _ _ (by omega), if_neg (by omega)]
              exact a6 j hj
          · have hi : i = N := by omega
            rw [hi] at a5 ⊢
            rw [Nat.mod_eq_of_lt hYN] at a5
            simp only [show ¬ (N : Int) < (N : Int) by omega, decide_false, cond_false, j1, Int.toNat_natCast, List.length_set, a4]
            rw [ok_of (inB_true (by omega) (by omega)), ok_of (inB_true (by omega) (by omega)), at_set _ _ _ _ (by omega), if_pos rfl, List.set_set, iadd_eq (by omega) (by omega)]
            have hz3 : ∀ j, k + N < j → at_ l j = 0 := fun j hj => by rw [a6 j (by omega)]; exact hz2 j hj
            have hc3 : at_ l (k + N) = (c0 : Int) := by rw [a6 _ (Nat.le_refl _), hc0]
            have hsp3 := val_split (l := l) (p := k + N) (by omega) hz3
            obtain ⟨m1, m2⟩ := take_lt a3 (p := k + N) (by omega)
            rw [hc3] at hsp3
            have hfin : val (l.take (k + N)) + ((c0 : Int) - bo + c) * ((65536 ^ (k + N) : Nat) : Int) = ((W % Y * 65536 ^ k + low : Nat) : Int) := by
              rw [hWc, hq1] at hlp
              simp only [Int.natCast_add, Int.natCast_mul] at hlp a5 ⊢
              generalize ((65536 ^ (k + N) : Nat) : Int) = P at *
              generalize ((65536 ^ k : Nat) : Int) = V at *
              generalize ((W % Y : Nat) : Int) = m at *
              generalize ((W / Y : Nat) : Int) = qq at *
              grind
            have ht0 := t_zero m1 m2 hfin (Int.natCast_nonneg _) hrest
            rw [ht0]
            refine ⟨_, rfl, l.set (k + N) 0, rfl, Dg_set a3 (by omega), by simp [a4], ?_⟩
            rw [val_set _ _ _ (by omega), hc3]
            rw [ht0, Int.zero_mul, Int.add_zero] at hfin
            rw [hsp3, hfin, Int.zero_sub, Int.neg_mul]
            omega
        · simp only; omega
        · exact ⟨0, 0, v, rfl, by omega, by omega, b3, b4, by simp [Nat.mod_one], fun _ _ => rfl⟩
        · rintro _ ⟨F, rfl, f1, f2, f3⟩
          exact ⟨_, rfl, go F f1 f2 f3⟩
end Go.Px.Seat

/- Fractions as rational numbers. No program here. -/
namespace Pm

def fb (r : Rat) : Bool := decide (r.num < 0)
def ft (r : Rat) : List Int := dig r.num.natAbs
def fq (r : Rat) : List Int := dig r.den
def fits (r : Rat) : Prop := r.num.natAbs < 65536 ^ 256 ∧ r.den < 65536 ^ 256
instance (r : Rat) : Decidable (fits r) := inferInstanceAs (Decidable (_ ∧ _))
def sg (b : Bool) (p : Nat) : Int := if b then -(p : Int) else p
def fok (b : Bool) (l m : List Int) : Bool := nok l && (nok m && (!m.isEmpty && (!(l.isEmpty && b) && (Nat.gcd (val l).toNat (val m).toNat == 1))))
def cmpR (r s : Rat) : Int := if r < s then -1 else if s < r then 1 else 0

theorem sg_natAbs (b : Bool) (p : Nat) : (sg b p).natAbs = p := by cases b <;> simp [sg]
theorem sg_neg {b : Bool} {p : Nat} (h : p ≠ 0) : decide (sg b p < 0) = b := by
  cases b <;> simp [sg] <;> omega
theorem sg_zero (b : Bool) : sg b 0 = 0 := by cases b <;> rfl
theorem mk_num {b : Bool} {p q : Nat} (hq : q ≠ 0) : (mkRat (sg b p) q).num = sg b (p / Nat.gcd p q) := by
  rw [Rat.num_mkRat, if_neg hq, sg_natAbs, Nat.gcd_comm]
  cases b
  · simp [sg]
  · simp only [sg, if_true]
    rw [Int.neg_ediv_of_dvd (Int.natCast_dvd_natCast.2 (Nat.gcd_dvd_left p q))]
    simp
theorem mk_den {b : Bool} {p q : Nat} (hq : q ≠ 0) : (mkRat (sg b p) q).den = q / Nat.gcd p q := by
  rw [Rat.den_mkRat, if_neg hq, sg_natAbs, Nat.gcd_comm]
theorem div_gcd_ne {p q : Nat} (hp : p ≠ 0) : p / Nat.gcd p q ≠ 0 := by
  have h := Nat.div_pos (Nat.le_of_dvd (Nat.pos_of_ne_zero hp) (Nat.gcd_dvd_left p q)) (Nat.gcd_pos_of_pos_left _ (Nat.pos_of_ne_zero hp))
  omega
theorem mk_rb {b : Bool} {p q : Nat} (hp : p ≠ 0) (hq : q ≠ 0) : fb (mkRat (sg b p) q) = b := by
  rw [fb, mk_num hq]; exact sg_neg (div_gcd_ne hp)
theorem mk_rt {b : Bool} {p q : Nat} (hq : q ≠ 0) : ft (mkRat (sg b p) q) = dig (p / Nat.gcd p q) := by
  rw [ft, mk_num hq, sg_natAbs]
theorem mk_rd {b : Bool} {p q : Nat} (hq : q ≠ 0) : fq (mkRat (sg b p) q) = dig (q / Nat.gcd p q) := by rw [fq, mk_den hq]
theorem fq_ne (r : Rat) : fq r ≠ [] := fun h => r.den_nz (dig_eq_nil.1 h)
theorem ft_nil {r : Rat} : ft r = [] ↔ r = 0 := by
  rw [ft, dig_eq_nil, Int.natAbs_eq_zero, Rat.num_eq_zero]
theorem gcd_one (r : Rat) : Nat.gcd r.num.natAbs r.den = 1 := r.reduced
theorem fok_fr (r : Rat) : fok (fb r) (ft r) (fq r) = decide (fits r) := by
  have h1 : (fq r).isEmpty = false := by simpa using fq_ne r
  have h2 : ((ft r).isEmpty && fb r) = false := by
    by_cases h : r = 0
    · subst h; simp [fb]
    · have : (ft r).isEmpty = false := by simpa using mt ft_nil.1 h
      rw [this]; rfl
  unfold fok
  rw [h1, h2]
  unfold ft fq
  rw [nok_dig, nok_dig, val_dig, val_dig, Int.toNat_natCast, Int.toNat_natCast, gcd_one]
  rw [Bool.eq_iff_iff]
  simp only [fits, Bool.not_false, Bool.true_and, beq_self_eq_true, Bool.and_true, Bool.and_eq_true, decide_eq_true_eq]
  exact (decide_eq_true_iff (p := _ ∧ _)).symm
theorem fok_iff {b : Bool} {l m : List Int} : fok b l m = true ↔ ∃ r, fits r ∧ b = fb r ∧ l = ft r ∧ m = fq r := by
  constructor
  · intro h
    simp only [fok, Bool.and_eq_true, Bool.not_eq_true', beq_iff_eq] at h
    obtain ⟨h1, h2, h3, h4, h5⟩ := h
    obtain ⟨p, hp, rfl⟩ := nok_iff.1 h1
    obtain ⟨q, hq, rfl⟩ := nok_iff.1 h2
    rw [val_dig, val_dig, Int.toNat_natCast, Int.toNat_natCast] at h5
    have hq0 : q ≠ 0 := fun h => by subst h; simp at h3
    refine ⟨mkRat (sg b p) q, ?_, ?_, ?_, ?_⟩
    · unfold fits
      rw [mk_num hq0, mk_den hq0, sg_natAbs, h5, Nat.div_one, Nat.div_one]
      exact ⟨hp, hq⟩
    · by_cases hp0 : p = 0
      · subst hp0
        simp at h4
        subst h4
        simp [fb, sg_zero]
      · exact (mk_rb hp0 hq0).symm
    · rw [mk_rt hq0, h5, Nat.div_one]
    · rw [mk_rd hq0, h5, Nat.div_one]
  · rintro ⟨r, h1, rfl, rfl, rfl⟩
    rw [fok_fr]; simpa using h1
theorem fits_len {r : Rat} (h : fits r) : (ft r).length ≤ 256 ∧ (fq r).length ≤ 256 := ⟨dig_len_le.2 h.1, dig_len_le.2 h.2⟩
end Pm

/- Fractions: the reference's functions. -/
namespace Go.Px.Seat
open Go Pm
set_option linter.unusedVariables false
variable {B : Run}

theorem len_zero_iff (l : List Int) : (len l == 0) = l.isEmpty := by
  cases l <;> simp [len]
  omega
theorem k_sOne : Ev fun n => ∀ g : Nat, c_s_l6One ((C B).run n) (dig g) = some (decide (g = 1), ()) := by
  refine Ev.triv.succ fun n hn _ g => ?_
  rw [run_succ, e_s_l6One]
  unfold p_s_l6One
  simp only [jb_cond, jb_ok, jb_inr, len_eq]
  by_cases h1 : (dig g).length = 1
  · rw [h1]
    simp only [show (((1 : Nat) : Int) == 1) = true from rfl, cond_true]
    have hg : g < 65536 := by have := dig_len_le.1 (Nat.le_of_eq h1); omega
    rw [ok_of (inB_true (by omega) (by omega)), show Int.toNat 0 = 0 from rfl, getD_at, dig_at, Nat.pow_zero, Nat.div_one, Nat.mod_eq_of_lt hg]
    congr 2
    by_cases h : g = 1
    · subst h; rfl
    · simp [h]; omega
  · have : (((dig g).length : Int) == 1) = false := beq_eq_false_iff_ne.2 (by omega)
    simp only [this, cond_false]
    congr 2
    refine (decide_eq_false fun h => h1 ?_).symm
    subst h
    rw [dig_of_lt (by omega) (by omega)]; rfl
theorem k_sFracOk : Ev fun n => ∀ (b : Bool) (l m : List Int), c_s_FracOk ((C B).run n) b l m = some (fok b l m, ()) := by
  refine ((k_sNatOk (B := B)).and ((k_sGcd (B := B)).and (k_sOne (B := B)))).succ fun n hn ⟨hOk, hGcd, hOne⟩ b l m => ?_
  rw [run_succ, e_s_FracOk]
  unfold p_s_FracOk
  rw [hOk, hOk]
  simp only [Option.bind_some, len_zero_iff]
  cases h1 : nok l
  · simp [fok, h1]
  · cases h2 : nok m
    · simp [fok, h1, h2]
    · obtain ⟨p, hp, rfl⟩ := nok_iff.1 h1
      obtain ⟨q, hq, rfl⟩ := nok_iff.1 h2
      have hpl := dig_len_le.2 hp
      have hql := dig_len_le.2 hq
      simp only [Bool.not_true, cond_false]
      cases h3 : (dig q).isEmpty
      · simp only [cond_false]
        have key : ∀ t : Bool, t = ((dig p).isEmpty && b) → (bif t then some (false, ()) else (c_s_l5Gcd ((C B).run n) (dig p) (dig q)).bind fun x => (c_s_l6One ((C B).run n) x.1).bind fun x => some (x.1, ())) = some (fok b (dig p) (dig q), ()) := by
          rintro t rfl
          unfold fok
          rw [h1, h2, h3]
          cases h4 : ((dig p).isEmpty && b)
          · rw [hGcd p q (by omega) (by omega)]
            simp only [Option.bind_some, cond_false]
            rw [hOne, val_dig, val_dig, Int.toNat_natCast, Int.toNat_natCast]
            rfl
          · rfl
        cases h4 : (dig p).isEmpty
        · simp only [cond_false, jb_inr]
          exact key false (by rw [h4]; rfl)
        · simp only [cond_true, jb_inr]
          exact key b (by rw [h4]; rfl)
      · simp [fok, h1, h2, h3]
/-- what a fraction and whether it is one are told as -/
def resF (r : Rat) : Bool × (List Int × (List Int × (Bool × Unit))) := if fits r then (fb r, (ft r, (fq r, (true, ())))) else (false, ([], ([], (false, ()))))
end Go.Px.Seat

/- Fractions: the program's functions. -/
namespace Go.Px.Seat
open Go Pm
set_option linter.unusedVariables false

theorem k_natGcd : Ev fun n => ∀ x y : Nat, (dig x).length ≤ 134217728 → (dig y).length ≤ 134217728 → c_i_natGcd ((C B0).run n) (dig x) (dig y) = some (dig (Nat.gcd x y), ()) := by
  refine k_natDiv.succ fun n hn hDiv x y hx hy => ?_
  rw [run_succ, e_i_natGcd]
  unfold p_i_natGcd
  refine iter_const (fun p => ∃ a b : Nat, p = ((dig b, (dig a, ((), ()))), ()) ∧ (dig a).length ≤ 134217728 ∧ (dig b).length ≤ 134217728 ∧ Nat.gcd a b = Nat.gcd x y) (fun q => gm (val q.1.2.1).toNat (val q.1.1).toNat) _ ?_ n _ ?_ ⟨x, y, rfl, hx, hy, rfl⟩
  · rintro rec _ ⟨a, b, rfl, h1, h2, h3⟩ ih
    simp only [ilt_iff, len_eq]
    by_cases hb : b = 0
    · subst hb
      simp only [dig_zero, List.length_nil, show ¬ (0 : Int) < ((0 : Nat) : Int) by omega, decide_false, cond_false]
      rw [← h3, Nat.gcd_zero_right]
    · have hpos := dig_len_pos hb
      simp only [show (0 : Int) < ((dig b).length : Int) by omega, decide_true, cond_true]
      rw [hDiv a b h1 h2 hb]
      simp only [Option.bind_some]
      refine ih _ ⟨b, a % b, rfl, h2, ?_, ?_⟩ ?_
      · have := dig_len_mono (Nat.le_of_lt (Nat.mod_lt a (Nat.pos_of_ne_zero hb))); omega
      · rw [← h3, Nat.gcd_comm a b, Nat.gcd_rec b a, Nat.gcd_comm]
      · simp only [val_dig, Int.toNat_natCast]
        exact gm_step hb
  · simp only [val_dig, Int.toNat_natCast]
    have h1 := bl_len x
    have h2 := bl_len y
    have h3 : gm x y ≤ bl x + bl y + 1 := by unfold gm; split <;> omega
    omega
theorem getD_some {α : Type} {l : List α} {i : Nat} (d : α) (h : i < l.length) : l[i]? = some (l.getD i d) := by
  rw [List.getD_eq_getElem?_getD, List.getElem?_eq_getElem h]; rfl
section
variable {B : Run}
end
theorem lt_len_iff (l : List Int) : ilt 0 (len l) = !l.isEmpty := by
  cases l <;> simp [len, ilt]
def sgnR (r : Rat) : Int := if r < 0 then -1 else if r = 0 then 0 else 1
section
variable {B : Run}
end
section
variable {B : Run}
end
end Go.Px.Seat

/- Floats and spans as numbers. No program here. -/
namespace Pm

def wd (w : Int) : Bool := decide (w = 32 ∨ w = 64)
def top (w : Int) : Int := if w = 32 then 2139095040 else if w = 64 then 9218868437227405312 else 0
def bok (w o : Int) : Bool := wd w && decide (-top w ≤ o ∧ o ≤ top w)
def pok (w lo hi : Int) : Bool := bok w lo && (bok w hi && decide (lo ≤ hi ∧ lo < top w ∧ -top w < hi))
abbrev Sp := Bool × (Int × (Int × Unit))
def sp (lo hi : Int) : Sp := (true, (lo, (hi, ())))
def spn : Sp := (false, (0, (0, ())))
def spk (w : Int) (s : Sp) : Bool := if s.1 = true then pok w s.2.1 s.2.2.1 else wd w && decide (s.2.1 = 0 ∧ s.2.2.1 = 0)
def both (w : Int) (a b : Sp) : Bool := (spk w a && spk w b) && (a.1 && b.1)
def meet (w : Int) (a b : Sp) : Sp := if both w a b = true ∧ max a.2.1 b.2.1 ≤ min a.2.2.1 b.2.2.1 then sp (max a.2.1 b.2.1) (min a.2.2.1 b.2.2.1) else spn
theorem top_nonneg (w : Int) : 0 ≤ top w ∧ top w ≤ 9218868437227405312 := by unfold top; split <;> (try split) <;> omega
theorem bok_iff {w o : Int} : bok w o = true ↔ wd w = true ∧ -top w ≤ o ∧ o ≤ top w := by simp [bok]
/-! ### Values -/
def frw (w : Int) : Nat := if w = 32 then 23 else 52
def lst (w : Int) : Nat := if w = 32 then 149 else 1074
/-- the value of a float from 0 on, in least floats -/
def fN (F m : Nat) : Nat := if m / 2 ^ F = 0 then m % 2 ^ F else (m % 2 ^ F + 2 ^ F) * 2 ^ (m / 2 ^ F - 1)
theorem fN_succ (F m : Nat) : fN F m < fN F (m + 1) := by
  have hU : 0 < 2 ^ F := Nat.pow_pos (by decide)
  unfold fN
  generalize 2 ^ F = U at *
  have h1 := Nat.div_add_mod m U
  have h2 := Nat.mod_lt m hU
  by_cases h : m % U + 1 < U
  · have e1 : (m + 1) / U = m / U := by
      conv => lhs; rw [← h1]
      rw [Nat.add_assoc, Nat.mul_add_div hU, Nat.div_eq_of_lt h, Nat.add_zero]
    have e2 : (m + 1) % U = m % U + 1 := by
      conv => lhs; rw [← h1]
      rw [Nat.add_assoc, Nat.mul_add_mod, Nat.mod_eq_of_lt h]
    rw [e1, e2]
    split
    · omega
    · exact Nat.mul_lt_mul_of_pos_right (by omega) (Nat.pow_pos (by decide))
  · have h3 : m % U + 1 = U := by omega
    have e0 : m + 1 = U * (m / U + 1) := by rw [Nat.mul_add, Nat.mul_one]; omega
    have e1 : (m + 1) / U = m / U + 1 := by rw [e0, Nat.mul_div_cancel_left _ hU]
    have e2 : (m + 1) % U = 0 := by rw [e0, Nat.mul_mod_right]
    rw [e1, e2]
    clear e0 e1 e2 h1
    generalize m / U = d at *
    rw [if_neg (show ¬ d + 1 = 0 by omega), Nat.zero_add, Nat.add_sub_cancel]
    split
    · rename_i h0
      rw [h0, Nat.pow_zero]; omega
    · rename_i h0
      obtain ⟨e, he⟩ : ∃ e, d = e + 1 := ⟨d - 1, by omega⟩
      rw [he, Nat.add_sub_cancel, Nat.pow_succ, Nat.mul_comm (2 ^ e) 2, ← Nat.mul_assoc]
      exact Nat.mul_lt_mul_of_pos_right (by omega) (Nat.pow_pos (by decide))
theorem fN_mono (F : Nat) : ∀ {a b : Nat}, a < b → fN F a < fN F b
  | a, b + 1, h => by
    rcases Nat.lt_or_ge a b with h1 | h1
    · exact Nat.lt_trans (fN_mono F h1) (fN_succ F b)
    · have : a = b := by omega
      subst this; exact fN_succ F a
theorem fN_lt {F a b : Nat} : fN F a < fN F b ↔ a < b := by
  constructor
  · intro h
    rcases Nat.lt_trichotomy a b with h1 | h1 | h1
    · exact h1
    · subst h1; omega
    · have := fN_mono F h1; omega
  · exact fN_mono F
theorem fN_zero (F : Nat) : fN F 0 = 0 := by simp [fN]
/-- the value of a float, in least floats -/
def fI (w o : Int) : Int := if o < 0 then -(fN (frw w) o.natAbs : Int) else fN (frw w) o.natAbs
theorem fI_lt {w a b : Int} : fI w a < fI w b ↔ a < b := by
  unfold fI
  have h1 := @fN_lt (frw w) a.natAbs b.natAbs
  have h2 := @fN_lt (frw w) b.natAbs a.natAbs
  have h3 := @fN_lt (frw w) 0 b.natAbs
  have h4 := @fN_lt (frw w) 0 a.natAbs
  rw [fN_zero] at h3 h4
  split <;> split <;> omega
theorem fI_le {w a b : Int} : fI w a ≤ fI w b ↔ a ≤ b := by
  have := @fI_lt w b a
  omega
def fv (w o : Int) : Rat := mkRat (fI w o) (2 ^ lst w)
theorem pow2_ne (k : Nat) : (2 : Nat) ^ k ≠ 0 := Nat.ne_of_gt (Nat.pow_pos (by decide))
theorem mk_lt {a b : Int} {q : Nat} (h : q ≠ 0) : mkRat a q < mkRat b q ↔ a < b := by
  have hq : (0 : Rat) < (q : Rat) := Rat.natCast_pos.2 (Nat.pos_of_ne_zero h)
  rw [Rat.mkRat_eq_div, Rat.mkRat_eq_div, Rat.div_lt_iff hq, Rat.div_mul_cancel (by grind), Rat.intCast_lt_intCast]
theorem mk_le {a b : Int} {q : Nat} (h : q ≠ 0) : mkRat a q ≤ mkRat b q ↔ a ≤ b := by
  have h1 := @mk_lt b a q h
  have h2 := @Rat.not_lt (mkRat b q) (mkRat a q)
  rw [h1] at h2
  constructor
  · intro h3; have := h2.2 h3; omega
  · intro h3; exact h2.1 (by omega)
theorem fv_le {w a b : Int} : fv w a ≤ fv w b ↔ a ≤ b := by rw [fv, fv, mk_le (pow2_ne _), fI_le]
/-- is a number in a span's bounds? -/
def inn (w lo hi : Int) (f : Rat) : Bool := (decide (lo = -top w) || decide (fv w lo ≤ f)) && (decide (hi = top w) || decide (f ≤ fv w hi))
/-! ### Relations -/
def relS (w rel : Int) (a b : Sp) : Int :=
  if (spk w a && (spk w b && decide (rel = 1 ∨ rel = 2 ∨ rel = 3))) = false then 0
  else if (a.1 && b.1) = false then -1
  else
    let x := if rel = 2 then b else a
    let y := if rel = 2 then a else b
    if rel = 3 then if (meet w a b).1 = false then -1 else if a.2.1 = a.2.2.1 ∧ a.2.1 = b.2.1 ∧ a.2.2.1 = b.2.2.1 then 1 else 0
    else if x.2.2.1 ≤ y.2.1 then 1 else if y.2.2.1 < x.2.1 then -1 else 0
end Pm

/- Widths, pairs, spans: the program's and the reference's. -/
namespace Go.Px.Seat
open Go Pm
set_option linter.unusedVariables false
variable {B : Run}
theorem ineg_top (w : Int) : ineg .i64 (top w) = -top w := by
  have := top_nonneg w
  exact ineg_eq (by omega) (by omega)
theorem k_sWidth : Ev fun n => ∀ w : Int, c_s_l1Width ((C B).run n) w = some (wd w, ()) := by
  refine Ev.triv.succ fun n hn _ w => ?_
  rw [run_succ, e_s_l1Width]
  unfold p_s_l1Width
  simp only [jb_cond, jb_inr]
  by_cases h : w = 32
  · subst h; rfl
  · rw [beq_f h, cond_false, wd]
    by_cases h2 : w = 64
    · subst h2; rfl
    · rw [beq_f h2]; simp [h, h2]
theorem k_sTop' : Ev fun n => ∀ w : Int, c_s_BitTop ((C B).run n) w = some (top w, ()) := by
  refine Ev.triv.succ fun n hn _ w => ?_
  rw [run_succ, e_s_BitTop]
  unfold p_s_BitTop top
  by_cases h : w = 32
  · subst h; rfl
  · rw [beq_f h, cond_false, if_neg h]
    by_cases h2 : w = 64
    · subst h2; rfl
    · rw [beq_f h2, cond_false, if_neg h2]
theorem k_sBitOk : Ev fun n => ∀ w o : Int, c_s_BitOk ((C B).run n) w o = some (bok w o, ()) := by
  refine ((k_sWidth (B := B)).and (k_sTop' (B := B))).succ fun n hn ⟨hW, hT⟩ w o => ?_
  rw [run_succ, e_s_BitOk]
  unfold p_s_BitOk
  rw [hW, hT]
  simp only [Option.bind_some, ile_iff, ineg_top]
  unfold bok
  cases wd w
  · simp
  · by_cases h : -top w ≤ o <;> simp [h]
/-! the program's -/
def fmt (w : Int) : Int × (Int × (Int × (Int × (Bool × Unit)))) := if w = 32 then (23, ((-149), (127, (2139095040, (true, ()))))) else if w = 64 then (52, ((-1074), (1023, (9218868437227405312, (true, ()))))) else (0, (0, (0, (0, (false, ())))))
theorem fmt_top (w : Int) : (fmt w).2.2.2.1 = top w := by unfold fmt top; split <;> (try split) <;> rfl
theorem fmt_wd (w : Int) : (fmt w).2.2.2.2.1 = wd w := by
  unfold fmt wd
  split
  · rename_i h; simp [h]
  · split
    · rename_i h; simp [h]
    · rename_i h1 h2; simp [h1, h2]
theorem k_fmt : Ev fun n => ∀ w : Int, c_i_formatOf ((C B).run n) w = some (fmt w) := by
  refine Ev.triv.succ fun n hn _ w => ?_
  rw [run_succ, e_i_formatOf]
  unfold p_i_formatOf fmt
  by_cases h : w = 32
  · subst h; rfl
  · rw [beq_f h, cond_false, if_neg h]
    by_cases h2 : w = 64
    · subst h2; rfl
    · rw [beq_f h2, cond_false, if_neg h2]
theorem k_BitTop : Ev fun n => ∀ w : Int, c_i_BitTop ((C B).run n) w = some (top w, ()) := by
  refine (k_fmt (B := B)).succ fun n hn hF w => ?_
  rw [run_succ, e_i_BitTop]
  unfold p_i_BitTop
  rw [hF]
  simp only [Option.bind_some, fmt_top]
theorem k_BitOk : Ev fun n => ∀ w o : Int, c_i_BitOk ((C B).run n) w o = some (bok w o, ()) := by
  refine ((k_fmt (B := B)).and (k_in (B := B))).succ fun n hn ⟨hF, hI⟩ w o => ?_
  rw [run_succ, e_i_BitOk]
  unfold p_i_BitOk
  rw [hF]
  simp only [Option.bind_some, fmt_top, fmt_wd, ineg_top]
  rw [hI]
  unfold bok
  cases wd w <;> simp
end Go.Px.Seat

/- Values of floats: the reference's. -/
namespace Pm
theorem mk_lt2 {a b : Int} {q1 q2 : Nat} (h1 : q1 ≠ 0) (h2 : q2 ≠ 0) : mkRat a q1 < mkRat b q2 ↔ a * q2 < b * q1 := by
  rw [← Rat.mkRat_mul_right (n := a) (d := q1) h2, ← Rat.mkRat_mul_right (n := b) (d := q2) h1, Nat.mul_comm q2 q1, mk_lt (Nat.mul_ne_zero h1 h2)]
theorem cmpR_mk {a b : Int} {q1 q2 : Nat} (h1 : q1 ≠ 0) (h2 : q2 ≠ 0) : cmpR (mkRat a q1) (mkRat b q2) = if a * q2 < b * q1 then -1 else if b * q1 < a * q2 then 1 else 0 := by
  unfold cmpR
  simp only [mk_lt2 h1 h2, mk_lt2 h2 h1]
/-- a float's digits -/
def sz (w o : Int) : Nat := if o.natAbs / 2 ^ frw w = 0 then o.natAbs % 2 ^ frw w else o.natAbs % 2 ^ frw w + 2 ^ frw w
/-- and how far they are shifted from the least -/
def shf (w o : Int) : Nat := o.natAbs / 2 ^ frw w - 1
theorem sz_shf (w o : Int) : fN (frw w) o.natAbs = sz w o * 2 ^ shf w o := by
  unfold fN sz shf
  split
  · rename_i h
    rw [h]; simp
  · rfl
theorem frw_le (w : Int) : frw w ≤ 52 := by unfold frw; split <;> omega
theorem sz_lt (w o : Int) : sz w o < 9007199254740992 := by
  have h1 := frw_le w
  have h2 : 2 ^ frw w ≤ 2 ^ 52 := Nat.pow_le_pow_right (by decide) h1
  have h3 := Nat.mod_lt o.natAbs (show 0 < 2 ^ frw w from Nat.pow_pos (by decide))
  unfold sz
  simp only [Nat.reducePow] at h2
  split <;> omega
/-- finite floats -/
def fin (w o : Int) : Prop := wd w = true ∧ -top w < o ∧ o < top w
theorem shf_lt {w o : Int} (h : fin w o) : shf w o < 2046 := by
  obtain ⟨h1, h2, h3⟩ := h
  unfold shf
  have : o.natAbs / 2 ^ frw w < 2047 := by
    rw [Nat.div_lt_iff_lt_mul (Nat.pow_pos (by decide))]
    have hw := of_decide_eq_true h1
    rcases hw with hw | hw <;> subst hw <;> simp only [frw, top, if_true, if_false, show ¬ ((64 : Int) = 32) by omega, Nat.reducePow] at * <;> omega
  omega
theorem shf_sub {w o : Int} (h : fin w o) : shf w o ≤ lst w + 971 := by
  obtain ⟨h1, h2, h3⟩ := h
  have hw := of_decide_eq_true h1
  rcases hw with hw | hw
  · subst hw
    have : o.natAbs / 2 ^ 23 < 255 := by
      rw [Nat.div_lt_iff_lt_mul (Nat.pow_pos (by decide))]
      simp only [top, if_true] at *
      omega
    simp only [shf, frw, lst, if_true]
    omega
  · subst hw
    have : o.natAbs / 2 ^ 52 < 2047 := by
      rw [Nat.div_lt_iff_lt_mul (Nat.pow_pos (by decide))]
      simp only [top, show ¬ ((64 : Int) = 32) by omega, if_false, if_true] at *
      omega
    simp only [shf, frw, lst, show ¬ ((64 : Int) = 32) by omega, if_false]
    omega
theorem fI_sg (w o : Int) : fI w o = sg (decide (o < 0)) (sz w o * 2 ^ shf w o) := by
  unfold fI
  rw [sz_shf]
  by_cases h : o < 0
  · rw [if_pos h, decide_eq_true h]; rfl
  · rw [if_neg h, decide_eq_false h]; rfl
theorem dig_len_pow (k : Nat) : (dig (2 ^ k)).length ≤ k / 16 + 1 := by
  rw [dig_len_le, pow_base]
  exact Nat.pow_lt_pow_right (by decide) (by omega)
end Pm
namespace Go.Px.Seat
open Go Pm
set_option linter.unusedVariables false
variable {B : Run}
theorem k_sFrac : Ev fun n => ∀ w : Int, c_s_l1Frac ((C B).run n) w = some ((frw w : Int), ()) := by
  refine Ev.triv.succ fun n hn _ w => ?_
  rw [run_succ, e_s_l1Frac]
  unfold p_s_l1Frac frw
  by_cases h : w = 32
  · subst h; rfl
  · rw [beq_f h, cond_false, if_neg h]; rfl
theorem k_sLeast : Ev fun n => ∀ w : Int, c_s_l1Least ((C B).run n) w = some (-(lst w : Int), ()) := by
  refine Ev.triv.succ fun n hn _ w => ?_
  rw [run_succ, e_s_l1Least]
  unfold p_s_l1Least lst
  by_cases h : w = 32
  · subst h; rfl
  · rw [beq_f h, cond_false, if_neg h]; rfl
theorem shl_one (k : Nat) (h : k ≤ 62) : ishl .i64 1 (k : Int) = ((2 ^ k : Nat) : Int) := by
  have h62 : (2 : Nat) ^ k ≤ 2 ^ 62 := Nat.pow_le_pow_right (by decide) h
  have e : (1 : Int) * 2 ^ k = ((2 ^ k : Nat) : Int) := by simp
  simp only [Nat.reducePow] at h62
  generalize (2 ^ k : Nat) = p at *
  rw [ishl_eq (by omega) (by rw [e]; omega) (by rw [e]; omega), e]
theorem k_sPart : Ev fun n => ∀ w o : Int, fin w o → c_s_BitPartOf ((C B).run n) w o = some (decide (o < 0), ((sz w o : Int), ((-(lst w : Int) + (shf w o : Int)), (true, ())))) := by
  refine ((k_sBitOk (B := B)).and ((k_sTop' (B := B)).and ((k_sLeast (B := B)).and (k_sFrac (B := B))))).succ fun n hn ⟨hB, hT, hL, hF⟩ w o hf => ?_
  rw [run_succ, e_s_BitPartOf]
  unfold p_s_BitPartOf
  obtain ⟨h1, h2, h3⟩ := hf
  have hb : bok w o = true := bok_iff.2 ⟨h1, by omega, by omega⟩
  have htn := top_nonneg w
  rw [hB, hb, hT]
  simp only [Option.bind_some, Bool.not_true, cond_false, beq_f (show ¬ o = top w by omega), ineg_top, beq_f (show ¬ o = -top w by omega), jb_inr]
  rw [hL]
  simp only [Option.bind_some, ilt_iff]
  refine (jb_of (p := ((w, ((o.natAbs : Int), ((), ((), (false, ()))))), ((decide (o < 0), (0, (-(lst w : Int), ()))), ((false, (0, (0, ()))), ())))) ?_ _).trans ?_
  · by_cases h : o < 0
    · simp only [h, decide_true, cond_true]
      rw [ineg_eq (by omega) (by omega), show -o = (o.natAbs : Int) by omega]
    · simp only [h, decide_false, cond_false]
      rw [show o = (o.natAbs : Int) by omega]
      rfl
  simp only []
  rw [hF]
  have hfl := frw_le w
  simp only [Option.bind_some]
  rw [wrapu64 (by omega) (by omega), shl_one _ (by omega), ok_of (by simp)]
  have hU : 0 < 2 ^ frw w := Nat.pow_pos (by decide)
  have hU2 : 2 ^ frw w ≤ 2 ^ 52 := Nat.pow_le_pow_right (by decide) hfl
  simp only [Nat.reducePow] at hU2
  unfold sz shf
  generalize hUU : 2 ^ frw w = U at *
  rw [ok_of (nz (by omega)), ok_of (nz (by omega)), iquo_eq (by omega) (by omega) (by omega), irem_eq (by omega)]
  have hm : o.natAbs % U < U := Nat.mod_lt _ hU
  have hll : lst w ≤ 1074 := by unfold lst; split <;> omega
  have e1 : (o.natAbs : Int) / (U : Int) = ((o.natAbs / U : Nat) : Int) := by norm_cast
  have e2 : (o.natAbs : Int) % (U : Int) = ((o.natAbs % U : Nat) : Int) := by norm_cast
  rw [e1, e2]
  have hdl : o.natAbs / U ≤ o.natAbs := Nat.div_le_self ..
  generalize o.natAbs / U = d at *
  generalize o.natAbs % U = r at *
  by_cases hd : d = 0
  · subst hd
    simp only [show ¬ (0 : Int) < ((0 : Nat) : Int) by omega, decide_false, cond_false, jb_inr, if_true]
    rw [wrapu64 (by omega) (by omega)]
    simp
  · simp only [show (0 : Int) < (d : Int) by omega, decide_true, cond_true, jb_inr, hd, if_false]
    rw [wrapu64 (x := (r : Int)) (by omega) (by omega), wrapu64 (x := (U : Int)) (by omega) (by omega), iadd, wrapu64 (by omega) (by omega), iadd_eq (by omega) (by omega), isub_eq (by omega) (by omega)]
    have e3 : (r : Int) + (U : Int) = ((r + U : Nat) : Int) := by omega
    have e4 : -(lst w : Int) + (d : Int) - 1 = -(lst w : Int) + ((d - 1 : Nat) : Int) := by omega
    rw [e3, e4]
theorem k_sOfF : Ev fun n => ∀ w o : Int, fin w o → ∃ p q : Nat, c_s_l8Of ((C B).run n) w o = some (decide (o < 0), (dig p, (dig q, ()))) ∧ q ≠ 0 ∧ mkRat (sg (decide (o < 0)) p) q = fv w o ∧ (dig p).length ≤ 128 ∧ (dig q).length ≤ 128 ∧ (p = 0 ↔ o = 0) := by
  refine ((k_sPart (B := B)).and ((k_sNatOf (B := B)).and ((k_sPow2 (B := B)).and (k_sMul (B := B))))).succ fun n hn ⟨hP, hO, hP2, hM⟩ w o hf => ?_
  rw [run_succ, e_s_l8Of]
  unfold p_s_l8Of
  rw [hP w o hf]
  have hs := sz_lt w o
  have hsh := shf_lt hf
  have hsh2 := shf_sub hf
  have hll : lst w ≤ 1074 := by unfold lst; split <;> omega
  have hval : fI w o = sg (decide (o < 0)) (sz w o * 2 ^ shf w o) := fI_sg w o
  have hz : sz w o = 0 ↔ o = 0 := by
    have h1 := @fI_lt w o 0
    have h2 := @fI_lt w 0 o
    have h0 : fI w 0 = 0 := by simp [fI, fN_zero]
    rw [h0, hval] at h1 h2
    have hp : 2 ^ shf w o ≠ 0 := pow2_ne _
    constructor
    · intro h
      rw [h, Nat.zero_mul, sg_zero] at h1 h2
      omega
    · intro h
      have h00 : fI w o = 0 := by rw [h, h0]
      rw [h00] at hval
      have : sz w o * 2 ^ shf w o = 0 := by
        have := congrArg Int.natAbs hval
        rw [sg_natAbs] at this
        simpa using this.symm
      rcases Nat.mul_eq_zero.1 this with h3 | h3
      · exact h3
      · exact absurd h3 hp
  simp only [Option.bind_some]
  rw [hO _ (by omega)]
  simp only [Option.bind_some, ile_iff]
  have hszl : (dig (sz w o)).length ≤ 4 := dig_len_le.2 (by omega)
  by_cases hp : lst w ≤ shf w o
  · obtain ⟨k, hk⟩ : ∃ k, shf w o = lst w + k := ⟨shf w o - lst w, by omega⟩
    have e1 : -(lst w : Int) + (shf w o : Int) = (k : Int) := by omega
    rw [e1]
    simp only [show (0 : Int) ≤ (k : Int) by omega, decide_true, cond_true]
    rw [hP2 k (by omega)]
    have hkl : (dig (2 ^ k)).length ≤ 61 := Nat.le_trans (dig_len_pow k) (by omega)
    simp only [Option.bind_some]
    rw [hM _ _ (by omega) (by omega)]
    simp only [Option.bind_some, jb_inr]
    have hone : [(1 : Int)] = dig 1 := (dig_of_lt (d := 1) (by omega) (by omega)).symm
    rw [hone]
    refine ⟨sz w o * 2 ^ k, 1, rfl, by omega, ?_, ?_, by rw [dig_of_lt (by omega) (by omega)]; simp, ?_⟩
    · rw [fv, hval, hk, Nat.pow_add, Nat.mul_left_comm]
      have h2 : sg (decide (o < 0)) (2 ^ lst w * (sz w o * 2 ^ k)) = ((2 ^ lst w : Nat) : Int) * sg (decide (o < 0)) (sz w o * 2 ^ k) := by
        cases decide (o < 0)
        · simp only [sg, Bool.false_eq_true, if_false]; rw [Int.natCast_mul]
        · simp only [sg, if_true]; rw [Int.natCast_mul, Int.mul_neg]
      rw [h2, ← Rat.mkRat_mul_left (n := sg (decide (o < 0)) (sz w o * 2 ^ k)) (d := 1) (pow2_ne (lst w)), Nat.mul_one]
    · have := len_dig_mul (sz w o) (2 ^ k); omega
    · rw [Nat.mul_eq_zero, ← hz]
      have := pow2_ne k
      constructor
      · intro h; exact h.resolve_right this
      · intro h; exact .inl h
  · obtain ⟨k, hk⟩ : ∃ k, lst w = shf w o + k := ⟨lst w - shf w o, by omega⟩
    have e1 : -(lst w : Int) + (shf w o : Int) = -(k : Int) := by omega
    rw [e1]
    simp only [show ¬ (0 : Int) ≤ -(k : Int) by omega, decide_false, cond_false]
    rw [ineg_eq (by omega) (by omega), Int.neg_neg, hP2 k (by omega)]
    simp only [Option.bind_some, jb_inr]
    refine ⟨sz w o, 2 ^ k, rfl, pow2_ne k, ?_, by omega, ?_, hz⟩
    · rw [fv, hval, hk]
      have h2 : sg (decide (o < 0)) (sz w o * 2 ^ shf w o) = sg (decide (o < 0)) (sz w o) * ((2 ^ shf w o : Nat) : Int) := by
        cases decide (o < 0)
        · simp only [sg, Bool.false_eq_true, if_false]; rw [Int.natCast_mul]
        · simp only [sg, if_true]; rw [Int.natCast_mul, Int.neg_mul]
      rw [h2, Nat.pow_add, Nat.mul_comm (2 ^ shf w o), Rat.mkRat_mul_right (pow2_ne _)]
    · exact Nat.le_trans (dig_len_pow k) (by omega)
theorem k_sCmpN : Ev fun n => ∀ (b1 b2 : Bool) (p1 q1 p2 q2 : Nat), q1 ≠ 0 → q2 ≠ 0 → (dig p1).length ≤ 134217728 → (dig q1).length ≤ 134217728 → (dig p2).length ≤ 134217728 → (dig q2).length ≤ 134217728 →
    c_s_l8Cmp ((C B).run n) b1 (dig p1) (dig q1) b2 (dig p2) (dig q2) = some (cmpR (mkRat (sg b1 p1) q1) (mkRat (sg b2 p2) q2), ()) := by
  refine ((k_sMul (B := B)).and (k_sCmp (B := B))).succ fun n hn ⟨hM, hC⟩ b1 b2 p1 q1 p2 q2 h1 h2 l1 l2 l3 l4 => ?_
  rw [run_succ, e_s_l8Cmp]
  unfold p_s_l8Cmp
  have m1 := len_dig_mul p1 q2
  have m2 := len_dig_mul p2 q1
  rw [hM _ _ (by omega) (by omega)]
  simp only [Option.bind_some]
  rw [hM _ _ (by omega) (by omega)]
  simp only [Option.bind_some, len_zero_iff, lt_len_iff]
  rw [cmpR_mk h1 h2]
  have e1 : sg b1 p1 * q2 = sg b1 (p1 * q2) := by cases b1 <;> simp [sg, Int.neg_mul]
  have e2 : sg b2 p2 * q1 = sg b2 (p2 * q1) := by cases b2 <;> simp [sg, Int.neg_mul]
  rw [e1, e2]
  generalize p1 * q2 = x at *
  generalize p2 * q1 = y at *
  have hx : (dig x).isEmpty = decide (x = 0) := by
    by_cases h : x = 0
    · subst h; simp
    · rw [decide_eq_false h]; simpa using mt dig_eq_nil.1 h
  have hy : (dig y).isEmpty = decide (y = 0) := by
    by_cases h : y = 0
    · subst h; simp
    · rw [decide_eq_false h]; simpa using mt dig_eq_nil.1 h
  rw [hx, hy]
  have hc1 := hC x y (by omega) (by omega)
  have hc2 := hC y x (by omega) (by omega)
  by_cases hx0 : x = 0
  · subst hx0
    by_cases hy0 : y = 0
    · subst hy0; cases b1 <;> cases b2 <;> simp [sg]
    · rw [dig_zero] at hc1
      cases b1 <;> cases b2 <;> simp [hy, hy0, sg, hc1, cmp3] <;> (repeat' split) <;> first | rfl | omega
  · by_cases hy0 : y = 0
    · subst hy0
      rw [dig_zero] at hc1
      cases b1 <;> cases b2 <;> simp [hx, hx0, sg, hc1, cmp3] <;> (repeat' split) <;> first | rfl | omega
    · cases b1 <;> cases b2 <;> simp [hx, hy, hx0, hy0, sg, hc1, hc2, cmp3] <;> (repeat' split) <;> first | rfl | omega
end Go.Px.Seat

/- Spans that hold numbers; sizes and rounding: the reference's. -/
namespace Pm
theorem fits_mk {b : Bool} {p q : Nat} (hq : q ≠ 0) (hp : p < 65536 ^ 256) (hq' : q < 65536 ^ 256) : fits (mkRat (sg b p) q) := by
  unfold fits
  rw [mk_num hq, mk_den hq, sg_natAbs]
  exact ⟨Nat.lt_of_le_of_lt (Nat.div_le_self ..) hp, Nat.lt_of_le_of_lt (Nat.div_le_self ..) hq'⟩
/-- a number against a scale of twos -/
def scQ (p q : Nat) (s : Int) : Nat := if 0 ≤ s then p * 2 ^ s.toNat / q else p / (q * 2 ^ (-s).toNat)
def scR (p q : Nat) (s : Int) : Nat := if 0 ≤ s then p * 2 ^ s.toNat % q else p % (q * 2 ^ (-s).toNat)
end Pm
namespace Go.Px.Seat
open Go Pm
set_option linter.unusedVariables false
variable {B : Run}
end Go.Px.Seat

/- Sizes and rounding: the reference's. -/
namespace Go.Px.Seat
open Go Pm
set_option linter.unusedVariables false
variable {B : Run}
/-- where the search for a size begins -/
def sz0 (w : Int) (p q : Nat) : Int := min ((frw w : Int) + 1 - bl p + bl q) (lst w)
end Go.Px.Seat

/- The draws: what a reader of bytes gives. -/
namespace Go.Px.Seat
open Go Pm
set_option linter.unusedVariables false
variable {B : Run}
/-- what a reader has to be -/
def rdr (b : List Int) : Prop := (∀ x ∈ b, 0 ≤ x ∧ x < 256) ∧ b.length ≤ 2000
end Go.Px.Seat

/- A number drawn inside a span. -/
namespace Pm
theorem fits_mkI {a : Int} {q : Nat} (hq : q ≠ 0) (hp : a.natAbs < 65536 ^ 256) (hq' : q < 65536 ^ 256) : fits (mkRat a q) := by
  have : a = sg (decide (a < 0)) a.natAbs := by
    by_cases h : a < 0
    · rw [decide_eq_true h]; simp only [sg, if_true]; omega
    · rw [decide_eq_false h]; simp only [sg, Bool.false_eq_true, if_false]; omega
  rw [this]
  exact fits_mk hq hp hq'
theorem pow_lt2 {a b : Nat} (h : a < b) : 2 ^ a < 2 ^ b := Nat.pow_lt_pow_right (by decide) h
theorem pow_le2 {a b : Nat} (h : a ≤ b) : 2 ^ a ≤ 2 ^ b := Nat.pow_le_pow_right (by decide) h
theorem pow_prod {A B x y : Nat} (hx : x ≤ 2 ^ A) (hy : y ≤ 2 ^ B) : x * y ≤ 2 ^ (A + B) := by
  have := Nat.mul_le_mul hx hy
  rwa [← Nat.pow_add] at this
theorem lt_pow_of {x A C : Nat} (h : x ≤ 2 ^ A) (hA : A < C) : x < 2 ^ C := Nat.lt_of_le_of_lt h (pow_lt2 hA)
theorem two_lt {k : Nat} (h : k < 4096) : 2 ^ k < 65536 ^ 256 := by
  exact Nat.lt_of_lt_of_eq (pow_lt2 (b := 16 * 256) (by omega)) (pow_base 256).symm
/-- no finite float has more bits, in least floats -/
def bigE : Nat := 2100
theorem fI_lt2 {w o : Int} (h : fin w o) : (fI w o).natAbs < 2 ^ bigE := by
  rw [fI_sg, sg_natAbs]
  have h1 := sz_lt w o
  have h2 := shf_lt h
  have h3 := pow_le2 (Nat.le_of_lt h2)
  have h4 : sz w o < 2 ^ 53 := h1
  have h5 := pow_prod (Nat.le_of_lt h4) h3
  exact lt_pow_of h5 (by decide)
end Pm
namespace Go.Px.Seat
open Go Pm
set_option linter.unusedVariables false
variable {B : Run}
/-- how a draw inside a span ends -/
def inO (b : List Int) (p : Int) (w x y : Int) (o : Option (Bool × (List Int × (List Int × (List Int × (Int × Unit)))))) : Prop :=
  ∃ r p', o = some (fb r, (ft r, (fq r, (b, (p', ()))))) ∧ fits r ∧ fv w x ≤ r ∧ r ≤ fv w y ∧ p ≤ p' ∧ p' ≤ p + 50
end Go.Px.Seat

/- Draws: a span and a number in it. -/
namespace Go.Px.Seat
open Go Pm
set_option linter.unusedVariables false
variable {B : Run}
def byt (l : List Int) : Prop := ∀ x ∈ l, 0 ≤ x ∧ x < 256
end Go.Px.Seat
