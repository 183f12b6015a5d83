/- PmA PmB PmC PmD PmE (what FnExactFloatShow's claim keeps of them) -/
import Derived.Test.YthallaeafilbbaaGreatDoorS3
import Derived.Test.YthallaeafilbbaaGreatDoorA5
import Derived.Laws.BitsLemmas
set_option linter.unusedVariables false

set_option linter.unusedVariables false
/- Digits: whole numbers as lists of digits to the base 65536. No program here. -/
namespace Pm

/-- the digits of a number, the least first -/
def dig (n : Nat) : List Int := if n = 0 then [] else ((n % 65536 : Nat) : Int) :: dig (n / 65536)
termination_by n
def val : List Int → Int
  | [] => 0
  | d :: r => d + 65536 * val r
def Dg (l : List Int) : Prop := ∀ d ∈ l, 0 ≤ d ∧ d < 65536
/-- digits told from a place on -/
def at_ (l : List Int) (i : Nat) : Int := l.getD i 0

@[simp] theorem dig_zero : dig 0 = [] := by rw [dig]; rfl
theorem dig_pos {n : Nat} (h : n ≠ 0) : dig n = ((n % 65536 : Nat) : Int) :: dig (n / 65536) := by rw [dig, if_neg h]
theorem dig_Dg : ∀ n, Dg (dig n) := by
  intro n
  induction n using Nat.strongRecOn with
  | _ n ih =>
    by_cases h : n = 0
    · subst h; simp [Dg]
    · rw [dig_pos h]
      intro d hd
      rcases List.mem_cons.1 hd with rfl | hd
      · omega
      · exact ih (n / 65536) (by omega) d hd
theorem val_dig : ∀ n : Nat, val (dig n) = n := by
  intro n
  induction n using Nat.strongRecOn with
  | _ n ih =>
    by_cases h : n = 0
    · subst h; simp [val]
    · rw [dig_pos h, val, ih (n / 65536) (by omega)]; omega
theorem dig_inj {a b : Nat} (h : dig a = dig b) : a = b := by
  have := congrArg val h
  rw [val_dig, val_dig] at this
  omega
theorem val_nonneg : ∀ {l : List Int}, Dg l → 0 ≤ val l
  | [], _ => by simp [val]
  | d :: r, h => by
    have h1 := h d (List.mem_cons_self ..)
    have h2 := val_nonneg (l := r) fun x hx => h x (List.mem_cons_of_mem _ hx)
    simp only [val]; omega
theorem val_lt : ∀ {l : List Int}, Dg l → val l < ((65536 ^ l.length : Nat) : Int)
  | [], _ => by simp [val]
  | d :: r, h => by
    have h1 := h d (List.mem_cons_self ..)
    have h2 := val_lt (l := r) fun x hx => h x (List.mem_cons_of_mem _ hx)
    simp only [val, List.length_cons]
    have : (65536 ^ (r.length + 1) : Nat) = 65536 * 65536 ^ r.length := by rw [Nat.pow_succ, Nat.mul_comm]
    rw [this]
    omega
theorem dig_eq_nil {n : Nat} : dig n = [] ↔ n = 0 := by
  constructor
  · intro h
    by_cases hn : n = 0
    · exact hn
    · rw [dig_pos hn] at h; cases h
  · rintro rfl; simp
theorem dig_len_le : ∀ {k n : Nat}, (dig n).length ≤ k ↔ n < 65536 ^ k := by
  intro k
  induction k with
  | zero => intro n; simp [dig_eq_nil]
  | succ k ih =>
    intro n
    by_cases h : n = 0
    · subst h; simp; exact Nat.pow_pos (by decide)
    · rw [dig_pos h, List.length_cons, Nat.succ_le_succ_iff, ih, Nat.pow_succ]
      omega
theorem dig_len_pos {n : Nat} (h : n ≠ 0) : 0 < (dig n).length := by rw [dig_pos h]; simp
theorem dig_lt_pow (n : Nat) : n < 65536 ^ (dig n).length := dig_len_le.1 (Nat.le_refl _)
theorem dig_ge_pow {n : Nat} (h : n ≠ 0) : 65536 ^ ((dig n).length - 1) ≤ n := by
  have h1 := dig_len_pos h
  rcases Nat.lt_or_ge n (65536 ^ ((dig n).length - 1)) with h2 | h2
  · have := dig_len_le.2 h2; omega
  · exact h2
theorem dig_len_mono {a b : Nat} (h : a ≤ b) : (dig a).length ≤ (dig b).length := dig_len_le.2 (Nat.lt_of_le_of_lt h (dig_lt_pow b))
theorem lt_of_dig_len {a b : Nat} (h : (dig a).length < (dig b).length) : a < b := by
  rcases Nat.lt_or_ge a b with h1 | h1
  · exact h1
  · have := dig_len_mono h1; omega
theorem dig_at : ∀ (i n : Nat), at_ (dig n) i = ((n / 65536 ^ i % 65536 : Nat) : Int)
  | i, n => by
    by_cases h : n = 0
    · subst h; simp [at_]
    · rw [dig_pos h]
      cases i with
      | zero => simp [at_]
      | succ i =>
        have := dig_at i (n / 65536)
        simp only [at_, List.getD_cons_succ] at this ⊢
        rw [this, Nat.div_div_eq_div_mul, Nat.pow_succ, Nat.mul_comm (65536 ^ i)]
theorem dig_drop : ∀ (k n : Nat), (dig n).drop k = dig (n / 65536 ^ k)
  | 0, n => by simp
  | k + 1, n => by
    by_cases h : n = 0
    · subst h; simp
    · rw [dig_pos h, List.drop_succ_cons, dig_drop k, Nat.div_div_eq_div_mul, Nat.pow_succ, Nat.mul_comm (65536 ^ k)]
/-- the last digit is not 0 -/
theorem dig_last {n : Nat} (h : n ≠ 0) : at_ (dig n) ((dig n).length - 1) ≠ 0 := by
  rw [dig_at]
  have h1 := dig_ge_pow h
  have h2 := dig_lt_pow n
  have h3 := dig_len_pos h
  generalize (dig n).length = L at *
  obtain ⟨k, rfl⟩ : ∃ k, L = k + 1 := ⟨L - 1, by omega⟩
  simp only [Nat.add_sub_cancel] at h1 ⊢
  rw [Nat.pow_succ] at h2
  have hp : 0 < 65536 ^ k := Nat.pow_pos (by decide)
  have h4 : n / 65536 ^ k < 65536 := (Nat.div_lt_iff_lt_mul hp).2 (by rw [Nat.mul_comm]; omega)
  have h5 : 1 ≤ n / 65536 ^ k := (Nat.le_div_iff_mul_le hp).2 (by omega)
  rw [Nat.mod_eq_of_lt h4]
  omega
theorem Dg.tail {d : Int} {l : List Int} (h : Dg (d :: l)) : Dg l := fun x hx => h x (List.mem_cons_of_mem _ hx)
theorem at_range {l : List Int} (h : Dg l) (i : Nat) : 0 ≤ at_ l i ∧ at_ l i < 65536 := by
  simp only [at_]
  rw [List.getD_eq_getElem?_getD]
  cases hl : l[i]? with
  | none => simp
  | some x => exact h x (List.mem_of_getElem? hl)
theorem at_out {l : List Int} {i : Nat} (h : l.length ≤ i) : at_ l i = 0 := by
  simp only [at_]
  rw [List.getD_eq_getElem?_getD, List.getElem?_eq_none h]; rfl
/-- digits without needless noughts are the digits of their value -/
theorem dig_val : ∀ {l : List Int}, Dg l → (l ≠ [] → at_ l (l.length - 1) ≠ 0) → dig (val l).toNat = l
  | [], _, _ => by simp [val]
  | d :: r, h, hl => by
    have h1 := h d (List.mem_cons_self ..)
    have hv := val_nonneg h.tail
    have ih := dig_val h.tail (fun hr => by
      have := hl (by simp)
      rw [List.length_cons] at this
      have h2 : 0 < r.length := List.length_pos_iff.2 hr
      have h3 : (r.length + 1 - 1) = (r.length - 1) + 1 := by omega
      rw [h3] at this
      simpa [at_] using this)
    have hne : (val (d :: r)).toNat ≠ 0 := by
      simp only [val]
      intro h0
      have hd : d = 0 := by omega
      have hr : val r = 0 := by omega
      cases r with
      | nil => exact hl (by simp) (by simp [at_, hd])
      | cons e r =>
        rw [hr] at ih
        simp at ih
    rw [dig_pos hne]
    congr 1
    · simp only [val]; omega
    · have : (val (d :: r)).toNat / 65536 = (val r).toNat := by simp only [val]; omega
      rw [this, ih]
/-- needless noughts off -/
def strip : List Int → List Int
  | [] => []
  | d :: r => match strip r with
    | [] => if d = 0 then [] else [d]
    | e :: s => d :: e :: s
theorem strip_dig : ∀ {l : List Int}, Dg l → strip l = dig (val l).toNat
  | [], _ => by simp [strip, val]
  | d :: r, h => by
    have ih := strip_dig h.tail
    have h1 := h d (List.mem_cons_self ..)
    have hv := val_nonneg h.tail
    simp only [strip]
    split
    · rename_i hs
      rw [hs] at ih
      have h0 : (val r).toNat = 0 := dig_eq_nil.1 ih.symm
      have hr : val r = 0 := by omega
      split
      · rename_i hd; simp [val, hd, hr]
      · rename_i hd
        have hne : (val (d :: r)).toNat ≠ 0 := by simp only [val]; omega
        have e1 : (val (d :: r)).toNat % 65536 = d.toNat := by simp only [val, hr]; omega
        have e2 : (val (d :: r)).toNat / 65536 = 0 := by simp only [val, hr]; omega
        rw [dig_pos hne, e1, e2, dig_zero]
        congr 1; omega
    · rename_i e s hs
      rw [hs] at ih
      have hr : (val r).toNat ≠ 0 := fun h0 => by rw [h0, dig_zero] at ih; cases ih
      have hne : (val (d :: r)).toNat ≠ 0 := by simp only [val]; omega
      rw [dig_pos hne, ih]
      congr 1
      · simp only [val]; omega
      · congr 1; simp only [val]; omega
theorem strip_append_zero : ∀ (l : List Int), strip (l ++ [0]) = strip l
  | [] => by simp [strip]
  | d :: r => by simp only [List.cons_append, strip]; rw [strip_append_zero r]
theorem strip_of_last : ∀ {l : List Int}, l ≠ [] → at_ l (l.length - 1) ≠ 0 → strip l = l
  | [], h, _ => absurd rfl h
  | [d], _, h => by simp [strip, at_] at h ⊢; simp [h]
  | d :: e :: r, _, h => by
    have := strip_of_last (l := e :: r) (by simp) (by
      simp only [List.length_cons, Nat.add_sub_cancel] at h ⊢
      simpa [at_] using h)
    rw [strip, this]
/-- with its last nought off -/
theorem strip_take {l : List Int} {k : Nat} (hk : k + 1 ≤ l.length) (h : at_ l k = 0) : strip (l.take (k + 1)) = strip (l.take k) := by
  have : l.take (k + 1) = l.take k ++ [0] := by
    rw [List.take_add_one]
    have h1 : l[k]? = some l[k] := List.getElem?_eq_getElem (by omega)
    simp only [at_, List.getD_eq_getElem?_getD, h1, Option.getD_some] at h
    rw [h1, h]; rfl
  rw [this, strip_append_zero]
theorem val_append : ∀ (l m : List Int), val (l ++ m) = val l + ((65536 ^ l.length : Nat) : Int) * val m
  | [], m => by simp [val]
  | d :: r, m => by
    simp only [List.cons_append, val, val_append r m, List.length_cons]
    have : (65536 ^ (r.length + 1) : Nat) = 65536 * 65536 ^ r.length := by rw [Nat.pow_succ, Nat.mul_comm]
    rw [this]
    grind
theorem val_set : ∀ (l : List Int) (i : Nat) (v : Int), i < l.length → val (l.set i v) = val l + (v - at_ l i) * ((65536 ^ i : Nat) : Int)
  | [], _, _, h => by simp at h
  | d :: r, 0, v, _ => by simp [val, at_]; omega
  | d :: r, i + 1, v, h => by
    have ih := val_set r i v (by simpa using h)
    simp only [List.set_cons_succ, val, ih, at_, List.getD_cons_succ]
    have : (65536 ^ (i + 1) : Nat) = 65536 * 65536 ^ i := by rw [Nat.pow_succ, Nat.mul_comm]
    rw [this]
    grind
theorem val_replicate_zero : ∀ n, val (List.replicate n 0) = 0
  | 0 => rfl
  | n + 1 => by simp [List.replicate_succ, val, val_replicate_zero n]
theorem Dg_replicate (n : Nat) : Dg (List.replicate n 0) := fun d hd => by
  have := List.eq_of_mem_replicate hd; omega
theorem Dg_set {l : List Int} {i : Nat} {v : Int} (h : Dg l) (hv : 0 ≤ v ∧ v < 65536) : Dg (l.set i v) := fun d hd => by
  rcases List.mem_or_eq_of_mem_set hd with h1 | rfl
  · exact h d h1
  · exact hv
theorem Dg_append {l m : List Int} (h1 : Dg l) (h2 : Dg m) : Dg (l ++ m) := fun d hd => (List.mem_append.1 hd).elim (h1 d) (h2 d)
theorem Dg_take {l : List Int} (h : Dg l) (k : Nat) : Dg (l.take k) := fun d hd => h d (List.mem_of_mem_take hd)
theorem Dg_drop {l : List Int} (h : Dg l) (k : Nat) : Dg (l.drop k) := fun d hd => h d (List.mem_of_mem_drop hd)
theorem Dg_one {v : Int} (hv : 0 ≤ v ∧ v < 65536) : Dg [v] := fun d hd => by rw [List.mem_singleton.1 hd]; exact hv
theorem at_set (l : List Int) (i j : Nat) (v : Int) (h : i < l.length) : at_ (l.set i v) j = if i = j then v else at_ l j := by
  simp only [at_, List.getD_eq_getElem?_getD, List.getElem?_set]
  split
  · simp [h]
  · rfl
theorem val_take_succ (l : List Int) (k : Nat) (h : k < l.length) : val (l.take (k + 1)) = val (l.take k) + at_ l k * ((65536 ^ k : Nat) : Int) := by
  rw [List.take_add_one, List.getElem?_eq_getElem h]
  simp only [Option.toList_some]
  rw [val_append, List.length_take, Nat.min_eq_left (by omega)]
  simp only [val, at_, List.getD_eq_getElem?_getD, List.getElem?_eq_getElem h, Option.getD_some]
  grind
/-- if all digits from a place on are 0 -/
theorem val_of_zeros : ∀ {l : List Int} {k : Nat}, (∀ j, k ≤ j → at_ l j = 0) → val l = val (l.take k)
  | [], k, _ => by simp
  | d :: r, 0, h => by
    have h0 : d = 0 := by simpa [at_] using h 0 (Nat.le_refl _)
    have := val_of_zeros (l := r) (k := 0) (fun j _ => by simpa [at_] using h (j + 1) (by omega))
    simp only [List.take_zero, val] at this ⊢
    omega
  | d :: r, k + 1, h => by
    have := val_of_zeros (l := r) (k := k) (fun j hj => by simpa [at_] using h (j + 1) (by omega))
    simp only [List.take_succ_cons, val, this]
theorem dig_of_lt {d : Nat} (h : d < 65536) (h0 : d ≠ 0) : dig d = [(d : Int)] := by
  rw [dig_pos h0, show d / 65536 = 0 by omega, dig_zero, Nat.mod_eq_of_lt h]
theorem len_dig_mul (a b : Nat) : (dig (a * b)).length ≤ (dig a).length + (dig b).length := by
  rw [dig_len_le, Nat.pow_add]
  exact Nat.mul_lt_mul'' (dig_lt_pow a) (dig_lt_pow b)
end Pm
namespace Pm
/-- a list of digits that is long enough for its value -/
theorem dig_of {l : List Int} {v : Nat} (h : Dg l) (hv : val l = v) (hl : l = [] ∨ 65536 ^ (l.length - 1) ≤ v) : l = dig v := by
  have : (val l).toNat = v := by omega
  rw [← this]
  refine (dig_val h fun hne h0 => ?_).symm
  rcases hl with hl | hl
  · exact hne hl
  · have hpos := List.length_pos_iff.2 hne
    have h1 : val l = val (l.take (l.length - 1)) := val_of_zeros (k := l.length - 1) fun j hj => by
      by_cases hj' : j = l.length - 1
      · rw [hj', h0]
      · exact at_out (by omega)
    have h2 := val_lt (Dg_take h (l.length - 1))
    rw [List.length_take, Nat.min_eq_left (by omega)] at h2
    omega
theorem dig_one {d : Nat} (h : d < 65536) (h0 : d ≠ 0) : [(d : Int)] = dig d := (dig_of_lt h h0).symm
theorem take_dig_succ {x i : Nat} (h : i < (dig x).length) : (dig x).take (i + 1) = (dig x).take i ++ [((x / 65536 ^ i % 65536 : Nat) : Int)] := by
  rw [List.take_add_one, List.getElem?_eq_getElem h, ← dig_at]
  simp [at_, List.getD_eq_getElem?_getD, List.getElem?_eq_getElem h]
theorem mod_succ (x i : Nat) : x % 65536 ^ (i + 1) = x % 65536 ^ i + x / 65536 ^ i % 65536 * 65536 ^ i := by
  rw [Nat.pow_succ, Nat.mod_mul, Nat.mul_comm (65536 ^ i)]
/-- how many bits a number has -/
def bl (x : Nat) : Nat := if x = 0 then 0 else bl (x / 2) + 1
termination_by x
@[simp] theorem bl_zero : bl 0 = 0 := by rw [bl]; rfl
theorem bl_pos {x : Nat} (h : x ≠ 0) : bl x = bl (x / 2) + 1 := by rw [bl, if_neg h]
theorem bl_le : ∀ {k x : Nat}, bl x ≤ k ↔ x < 2 ^ k
  | 0, x => by
    by_cases h : x = 0
    · subst h; simp
    · rw [bl_pos h]; simp; omega
  | k + 1, x => by
    by_cases h : x = 0
    · subst h; simp; exact Nat.pow_pos (by decide)
    · rw [bl_pos h, Nat.succ_le_succ_iff, bl_le, Nat.pow_succ]; omega
theorem bl_lt (x : Nat) : x < 2 ^ bl x := bl_le.1 (Nat.le_refl _)
theorem bl_eq_zero {x : Nat} : bl x = 0 ↔ x = 0 := by
  constructor
  · intro h
    have := bl_le.1 (Nat.le_of_eq h)
    simpa using this
  · rintro rfl; simp
theorem bl_ge {x : Nat} (h : x ≠ 0) : 2 ^ (bl x - 1) ≤ x := by
  rcases Nat.lt_or_ge x (2 ^ (bl x - 1)) with h1 | h1
  · have := bl_le.2 h1
    have := mt bl_eq_zero.1 h
    omega
  · exact h1
theorem bl_shift (x k : Nat) (h : x / 2 ^ k ≠ 0) : bl x = k + bl (x / 2 ^ k) := by
  have key : ∀ j, bl x ≤ j ↔ k + bl (x / 2 ^ k) ≤ j := fun j => by
    by_cases hj : k ≤ j
    · obtain ⟨i, rfl⟩ : ∃ i, j = k + i := ⟨j - k, by omega⟩
      rw [bl_le, Nat.add_le_add_iff_left, bl_le, Nat.div_lt_iff_lt_mul (Nat.pow_pos (by decide)), Nat.pow_add, Nat.mul_comm]
    · constructor
      · intro hb
        rw [bl_le] at hb
        exfalso
        apply h
        rw [Nat.div_eq_of_lt]
        exact Nat.lt_of_lt_of_le hb (Nat.pow_le_pow_right (by decide) (by omega))
      · intro hb; omega
  have h1 := (key (k + bl (x / 2 ^ k))).2 (Nat.le_refl _)
  have h2 := (key (bl x)).1 (Nat.le_refl _)
  omega
theorem pow_base (k : Nat) : (65536 : Nat) ^ k = 2 ^ (16 * k) := by rw [Nat.pow_mul]
theorem bl_dig {x : Nat} (h : x ≠ 0) : bl x = 16 * ((dig x).length - 1) + bl (x / 65536 ^ ((dig x).length - 1) % 65536) := by
  have h1 := dig_ge_pow h
  have h2 := dig_lt_pow x
  have h3 := dig_len_pos h
  generalize (dig x).length = L at *
  obtain ⟨k, rfl⟩ : ∃ k, L = k + 1 := ⟨L - 1, by omega⟩
  simp only [Nat.add_sub_cancel] at h1 ⊢
  rw [Nat.pow_succ] at h2
  have hp : 0 < 65536 ^ k := Nat.pow_pos (by decide)
  have h4 : x / 65536 ^ k < 65536 := (Nat.div_lt_iff_lt_mul hp).2 (by rw [Nat.mul_comm]; omega)
  have h5 : 1 ≤ x / 65536 ^ k := (Nat.le_div_iff_mul_le hp).2 (by omega)
  rw [Nat.mod_eq_of_lt h4]
  rw [pow_base] at *
  exact bl_shift x (16 * k) (by omega)
/-- is it a number of at most 256 digits? -/
def nok (l : List Int) : Bool := decide (l.length ≤ 256) && (l.all (fun d => decide (0 ≤ d) && decide (d < 65536)) && (l.isEmpty || at_ l (l.length - 1) != 0))
theorem nok_iff {l : List Int} : nok l = true ↔ ∃ x, x < 65536 ^ 256 ∧ l = dig x := by
  constructor
  · intro h
    simp only [nok, Bool.and_eq_true, decide_eq_true_eq, List.all_eq_true, Bool.or_eq_true, List.isEmpty_iff, bne_iff_ne] at h
    obtain ⟨h1, h2, h3⟩ := h
    have hd := dig_val (l := l) h2 fun hne => h3.resolve_left hne
    refine ⟨(val l).toNat, ?_, hd.symm⟩
    rw [← dig_len_le, hd]; exact h1
  · rintro ⟨x, hx, rfl⟩
    simp only [nok, Bool.and_eq_true, decide_eq_true_eq, List.all_eq_true, Bool.or_eq_true, List.isEmpty_iff, bne_iff_ne]
    refine ⟨dig_len_le.2 hx, dig_Dg x, ?_⟩
    by_cases h : x = 0
    · subst h; simp
    · exact .inr (dig_last h)
theorem nok_dig (x : Nat) : nok (dig x) = decide (x < 65536 ^ 256) := by
  by_cases h : x < 65536 ^ 256
  · rw [nok_iff.2 ⟨x, h, rfl⟩]; simp [h]
  · cases hn : nok (dig x)
    · exact (decide_eq_false h).symm
    · obtain ⟨y, hy, he⟩ := nok_iff.1 hn
      exact absurd (dig_inj he ▸ hy) h
theorem dig_pow_mul {x : Nat} (k : Nat) (h : x ≠ 0) : List.replicate k 0 ++ dig x = dig (x * 65536 ^ k) := by
  refine dig_of (Dg_append (Dg_replicate k) (dig_Dg x)) ?_ (.inr ?_)
  · rw [val_append, val_replicate_zero, val_dig, List.length_replicate, Int.natCast_mul, Int.mul_comm]; omega
  · rw [List.length_append, List.length_replicate]
    have h1 := dig_ge_pow h
    have h3 := dig_len_pos h
    rw [show k + (dig x).length - 1 = ((dig x).length - 1) + k by omega, Nat.pow_add]
    exact Nat.mul_le_mul_right _ h1
/-- how many rounds Euclid takes at most -/
def gm (a b : Nat) : Nat := bl a + bl b + (if a < b then 1 else 0)
theorem bl_mono {a b : Nat} (h : a ≤ b) : bl a ≤ bl b := bl_le.2 (Nat.lt_of_le_of_lt h (bl_lt b))
theorem bl_half {a b : Nat} (h : 2 * a ≤ b) (hb : b ≠ 0) : bl a < bl b := by
  rw [bl_pos hb]
  have : bl a ≤ bl (b / 2) := bl_mono (by omega)
  omega
theorem gm_step {a b : Nat} (hb : b ≠ 0) : gm b (a % b) < gm a b := by
  have h1 : a % b < b := Nat.mod_lt _ (by omega)
  unfold gm
  rw [if_neg (show ¬ b < a % b by omega)]
  by_cases h : a < b
  · rw [if_pos h, Nat.mod_eq_of_lt h]; omega
  · rw [if_neg h]
    have h2 : 2 * (a % b) ≤ a := by
      have := Nat.div_add_mod a b
      have h3 : 1 ≤ a / b := (Nat.le_div_iff_mul_le (by omega)).2 (by omega)
      have h4 : b * 1 ≤ b * (a / b) := Nat.mul_le_mul_left _ h3
      omega
    have := bl_half h2 (by omega)
    omega
theorem bl_len (x : Nat) : bl x ≤ 16 * (dig x).length := by
  rw [bl_le, ← pow_base]; exact dig_lt_pow x
end Pm

/- Rules for the words in which functions are told. -/
namespace Go.Px
open Go Pm

/-- A loop that comes to the same whatever its state. -/
theorem iter_const {P R : Type} {F : (P → Option R) → P → Option R} (I : P → Prop) (m : P → Nat) (r : Option R)
    (step : ∀ rec p, I p → (∀ q, I q → m q < m p → rec q = r) → F rec p = r) : ∀ n p, m p < n → I p → iter F n p = r
  | 0, _, h, _ => absurd h (Nat.not_lt_zero _)
  | n + 1, p, h, hI => step (iter F n) p hI fun q hq hm => iter_const I m r step n q (by omega) hq
/-- A loop of whose end something holds. -/
theorem iter_ex {P R : Type} {F : (P → Option R) → P → Option R} (I : P → Prop) (m : P → Nat) (Q : R → Prop)
    (step : ∀ rec p, I p → (∀ q, I q → m q < m p → ∃ r, rec q = some r ∧ Q r) → ∃ r, F rec p = some r ∧ Q r) : ∀ n p, m p < n → I p → ∃ r, iter F n p = some r ∧ Q r
  | 0, _, h, _ => absurd h (Nat.not_lt_zero _)
  | n + 1, p, h, hI => step (iter F n) p hI fun q hq hm => iter_ex I m Q step n q (by omega) hq
/-- What holds from some depth on. -/
def Ev (p : Nat → Prop) : Prop := ∃ N, ∀ n, N ≤ n → p n
theorem Ev.and {p q : Nat → Prop} (h : Ev p) (h' : Ev q) : Ev fun n => p n ∧ q n :=
  let ⟨a, h⟩ := h; let ⟨b, h'⟩ := h'; ⟨max a b, fun n hn => ⟨h n (by omega), h' n (by omega)⟩⟩
theorem Ev.mono {p q : Nat → Prop} (h : Ev p) (hq : ∀ n, p n → q n) : Ev q := let ⟨a, h⟩ := h; ⟨a, fun n hn => hq n (h n hn)⟩
theorem Ev.succ {p q : Nat → Prop} (h : Ev p) (hq : ∀ n, 1152921504606846976 ≤ n → p n → q (n + 1)) : Ev q := by
  obtain ⟨a, h⟩ := h
  refine ⟨max a 1152921504606846976 + 1, fun n hn => ?_⟩
  obtain ⟨k, rfl⟩ : ∃ k, n = k + 1 := ⟨n - 1, by omega⟩
  exact hq k (by omega) (h k (by omega))
theorem Ev.triv : Ev fun _ => True := ⟨0, fun _ _ => trivial⟩

section
variable {P R α : Type}
@[simp] theorem ok_true (x : Option R) : ok true x = x := rfl
theorem ok_of {c : Bool} (h : c = true) (x : Option R) : ok c x = x := by rw [h]; rfl
@[simp] theorem jb_inr (p : P) (f : P → Option R) : jb (some (.inr p)) f = f p := rfl
@[simp] theorem jb_inl (r : R) (f : P → Option R) : jb (some (.inl r)) f = some r := rfl
theorem nz {x : Int} (h : x ≠ 0) : (!(x == 0)) = true := by simp [h]
theorem beq_f {x y : Int} (h : ¬ x = y) : (x == y) = false := by simpa using h
theorem jb_of {x : Option (R ⊕ P)} {p : P} (h : x = some (.inr p)) (f : P → Option R) : jb x f = f p := by rw [h]; rfl
@[simp] theorem jb_cond (c : Bool) (x y : Option (R ⊕ P)) (f : P → Option R) : jb (cond c x y) f = cond c (jb x f) (jb y f) := by cases c <;> rfl
@[simp] theorem jb_ok (c : Bool) (x : Option (R ⊕ P)) (f : P → Option R) : jb (ok c x) f = ok c (jb x f) := by cases c <;> rfl
@[simp] theorem il_some (r : R) : il (P := P) (some r) = some (.inl r) := rfl
@[simp] theorem ilt_iff (x y : Int) : ilt x y = decide (x < y) := rfl
@[simp] theorem ile_iff (x y : Int) : ile x y = decide (x ≤ y) := rfl
theorem len_eq (l : List α) : len l = (l.length : Int) := rfl
theorem slen_eq (l : ByteArray) : slen l = (l.size : Int) := rfl
theorem inB_true {i n : Int} (h : 0 ≤ i) (h' : i < n) : inB i n = true := by simp [inB, h, h']
theorem sliceOk_true {a b n : Int} (h : 0 ≤ a) (h' : a ≤ b) (h'' : b ≤ n) : sliceOk a b n = true := by simp [sliceOk, h, h', h'']
theorem mkOk_true {n m : Int} {k : Nat} (h : 0 ≤ n) (h' : n ≤ m) (h'' : m * k ≤ 140737488355328) : mkOk n m k = true := by simp [mkOk, h, h', h'']
theorem aok_true {l : List α} {k : Nat} (h : l.length * k ≤ 140737488355328) : aok l k = true := by
  have : ((l.length : Nat) : Int) * (k : Int) ≤ 140737488355328 := by
    rw [← Int.natCast_mul]
    omega
  unfold aok
  exact decide_eq_true this
theorem wrap64 {x : Int} (h : -9223372036854775808 ≤ x) (h' : x < 9223372036854775808) : IntKind.i64.wrap x = x := by
  rw [IntKind.wrap_i64]; omega
theorem iadd_eq {x y : Int} (h : -9223372036854775808 ≤ x + y) (h' : x + y < 9223372036854775808) : iadd .i64 x y = x + y := wrap64 h h'
theorem isub_eq {x y : Int} (h : -9223372036854775808 ≤ x - y) (h' : x - y < 9223372036854775808) : isub .i64 x y = x - y := wrap64 h h'
theorem imul_eq {x y : Int} (h : -9223372036854775808 ≤ x * y) (h' : x * y < 9223372036854775808) : imul .i64 x y = x * y := wrap64 h h'
theorem ineg_eq {x : Int} (h : -9223372036854775808 < x) (h' : x < 9223372036854775808) : ineg .i64 x = -x := by
  rw [ineg, wrap64] <;> omega
theorem iquo_eq {x y : Int} (h : 0 ≤ x) (h0 : x < 9223372036854775808) (h' : 0 < y) : iquo .i64 x y = x / y := by
  rw [iquo, Int.tdiv_eq_ediv_of_nonneg h, wrap64]
  · have := Int.ediv_nonneg h (Int.le_of_lt h'); omega
  · exact Int.lt_of_le_of_lt (Int.ediv_le_self _ h) h0
theorem irem_eq {k : IntKind} {x y : Int} (h : 0 ≤ x) : irem k x y = x % y := by rw [irem, Int.tmod_eq_emod_of_nonneg h]
theorem wrapu64 {x : Int} (h : 0 ≤ x) (h' : x < 18446744073709551616) : IntKind.u64.wrap x = x := by
  simp only [IntKind.wrap, IntKind.bits, IntKind.signed]
  simp
  omega
theorem iquou_eq {x y : Int} (h : 0 ≤ x) (h0 : x < 18446744073709551616) (h' : 0 < y) : iquo .u64 x y = x / y := by
  rw [iquo, Int.tdiv_eq_ediv_of_nonneg h, wrapu64]
  · exact Int.ediv_nonneg h (Int.le_of_lt h')
  · exact Int.lt_of_le_of_lt (Int.ediv_le_self _ h) h0
/-- shifts -/
theorem ishl_eq {x : Int} {k : Nat} (hk : k ≤ 64) (h : -9223372036854775808 ≤ x * 2 ^ k) (h' : x * 2 ^ k < 9223372036854775808) : ishl .i64 x (k : Int) = x * 2 ^ k := by
  have : min ((k : Int)).toNat (IntKind.bits .i64) = k := by simp [IntKind.bits]; omega
  rw [ishl, this, wrap64 h h']
theorem ishr_eq {x : Int} {k : Nat} (hk : k ≤ 64) : ishr .i64 x (k : Int) = x / 2 ^ k := by
  have : min ((k : Int)).toNat (IntKind.bits .i64) = k := by simp [IntKind.bits]; omega
  rw [ishr, this, Int.fdiv_eq_ediv_of_nonneg]
  exact Int.pow_nonneg (by decide)
theorem ishru_eq {x : Int} {k : Nat} (hk : k ≤ 64) : ishr .u64 x (k : Int) = x / 2 ^ k := by
  have : min ((k : Int)).toNat (IntKind.bits .u64) = k := by simp [IntKind.bits]; omega
  rw [ishr, this, Int.fdiv_eq_ediv_of_nonneg]
  exact Int.pow_nonneg (by decide)
/-- the low bits -/
theorem iand_mask {x : Int} {k : Nat} (hk : k ≤ 62) (h : 0 ≤ x) (h' : x < 9223372036854775808) : iand .i64 x (2 ^ k - 1) = x % 2 ^ k := by
  have hp : (0 : Int) < 2 ^ k := Int.pow_pos (by decide)
  have h62 : (2 : Int) ^ k ≤ 2 ^ 62 := by
    have : (2 : Nat) ^ k ≤ 2 ^ 62 := Nat.pow_le_pow_right (by decide) hk
    exact_mod_cast this
  have e1 : (BitVec.ofInt 64 x).toNat = x.toNat := by
    simp [BitVec.toNat_ofInt]; omega
  have e2 : (BitVec.ofInt 64 (2 ^ k - 1)).toNat = 2 ^ k - 1 := by
    simp only [BitVec.toNat_ofInt]
    have h1 : 1 ≤ 2 ^ k := Nat.one_le_two_pow
    have h4 : ((2 : Int) ^ k) = ((2 ^ k : Nat) : Int) := by norm_cast
    have : ((2 : Int) ^ k - 1) = ((2 ^ k - 1 : Nat) : Int) := by
      rw [h4]; omega
    rw [this]
    have h3 : (2 ^ k - 1 : Nat) < 2 ^ 64 := by
      have : (2 : Nat) ^ k ≤ 2 ^ 62 := Nat.pow_le_pow_right (by decide) hk
      omega
    omega
  have e3 : (BitVec.ofInt 64 x &&& BitVec.ofInt 64 (2 ^ k - 1)).toNat = x.toNat % 2 ^ k := by
    rw [BitVec.toNat_and, e1, e2, Nat.and_two_pow_sub_one_eq_mod]
  show IntKind.i64.wrap (((BitVec.ofInt 64 x &&& BitVec.ofInt 64 (2 ^ k - 1)).toNat : Nat) : Int) = _
  rw [e3]
  have e4 : ((x.toNat % 2 ^ k : Nat) : Int) = x % 2 ^ k := by
    have : (x.toNat : Int) = x := Int.toNat_of_nonneg h
    rw [Int.natCast_emod, this]; norm_cast
  rw [e4]
  have := Int.emod_nonneg x (Int.ne_of_gt hp)
  have := Int.emod_lt_of_pos x hp
  exact wrap64 (by omega) (by omega)
theorem iand_base {x : Int} (h : 0 ≤ x) (h' : x < 9223372036854775808) : iand .i64 x 65535 = x % 65536 := iand_mask (k := 16) (by decide) h h'
theorem jb_iter_ex {P' : Type} {F : (P → Option (R ⊕ P')) → P → Option (R ⊕ P')} (I : P → Prop) (m : P → Nat) (Q : R ⊕ P' → Prop) {n : Nat} {p : P} {f : P' → Option R} {res : Option R}
    (step : ∀ rec p, I p → (∀ q, I q → m q < m p → ∃ r, rec q = some r ∧ Q r) → ∃ r, F rec p = some r ∧ Q r) (hm : m p < n) (hI : I p) (hQ : ∀ r, Q r → ∃ p', r = .inr p' ∧ f p' = res) : jb (iter F n p) f = res := by
  obtain ⟨r, h1, h2⟩ := iter_ex I m Q step n p hm hI
  obtain ⟨p', rfl, h3⟩ := hQ r h2
  rw [h1]; exact h3
end
end Go.Px

/- Numbers: the program's and the reference's functions on digits, part 1. -/
namespace Go.Px.Seat
open Go Pm
set_option linter.unusedVariables false
variable {B : Run}
theorem run_succ (n : Nat) : (C B).run (n + 1) = (C B).step ((C B).run n) n := rfl
theorem getD_at (l : List Int) (i : Nat) : List.getD l i 0 = at_ l i := rfl

theorem k_trim : Ev fun n => ∀ l : List Int, l.length ≤ 1099511627776 → c_i_trim ((C B).run n) l = some (strip l, ()) := by
  refine Ev.triv.succ fun n hn _ l hl => ?_
  rw [run_succ, e_i_trim]
  unfold p_i_trim
  refine iter_const (fun p => ∃ k, p.1.1 = l.take k ∧ k ≤ l.length ∧ strip (l.take k) = strip l) (fun p => p.1.1.length) _ ?_ n _ (by simp only; omega) ⟨l.length, by simp⟩
  rintro rec ⟨⟨a, _, _⟩, _⟩ ⟨k, h1, h2, h3⟩ ih
  simp only at h1
  subst h1
  have hlen : (l.take k).length = k := by simp; omega
  simp only [jb_cond, jb_ok, jb_inr, jb_inl, len_eq, hlen, ilt_iff]
  by_cases hk : 0 < k
  · have e1 : isub .i64 (k : Int) 1 = ((k - 1 : Nat) : Int) := by rw [isub_eq] <;> omega
    simp only [show (0 : Int) < (k : Int) by omega, decide_true, cond_true, e1]
    rw [ok_of (inB_true (by omega) (by omega))]
    have e2 : List.getD (l.take k) (Int.toNat ((k - 1 : Nat) : Int)) 0 = at_ l (k - 1) := by
      rw [Int.toNat_natCast]
      simp only [at_, List.getD_eq_getElem?_getD, List.getElem?_take]
      rw [if_pos (by omega)]
    rw [e2]
    by_cases hz : at_ l (k - 1) = 0
    · simp only [hz, beq_self_eq_true, cond_true]
      rw [ok_of (sliceOk_true (by omega) (by omega) (by omega))]
      refine ih _ ⟨k - 1, ?_, by omega, ?_⟩ ?_
      · simp [List.take_take]
      · rw [← h3]
        obtain ⟨j, rfl⟩ : ∃ j, k = j + 1 := ⟨k - 1, by omega⟩
        exact (strip_take (by omega) hz).symm
      · simp [List.take_take]
        omega
    · simp only [show (at_ l (k - 1) == 0) = false by simpa using hz, cond_false]
      rw [← h3, strip_of_last]
      · intro h0
        rw [h0] at hlen
        simp at hlen; omega
      · rw [hlen]
        have : at_ (l.take k) (k - 1) = at_ l (k - 1) := by
          simp only [at_, List.getD_eq_getElem?_getD, List.getElem?_take]
          rw [if_pos (by omega)]
        rw [this]; exact hz
  · have hk0 : k = 0 := by omega
    subst hk0
    simp only [show ¬ (0 : Int) < ((0 : Nat) : Int) by omega, decide_false, cond_false]
    rw [← h3]; simp [strip]

theorem k_sTrim : Ev fun n => ∀ l : List Int, l.length ≤ 1099511627776 → c_s_l5Trim ((C B).run n) l = some (strip l, ()) := by
  refine Ev.triv.succ fun n hn _ l hl => ?_
  rw [run_succ, e_s_l5Trim]
  unfold p_s_l5Trim
  refine iter_const (fun p => ∃ k : Nat, p = (((k : Int), (l, ((), ()))), ()) ∧ k ≤ l.length ∧ strip (l.take k) = strip l) (fun p => p.1.1.toNat) _ ?_ n _ (by simp only [len_eq]; omega) ⟨l.length, rfl, by omega, by simp⟩
  rintro rec _ ⟨k, rfl, h2, h3⟩ ih
  have hlen : (l.take k).length = k := by simp; omega
  simp only [jb_cond, jb_ok, jb_inr, len_eq, ilt_iff]
  have copy : (k ≠ 0 → at_ l (k - 1) ≠ 0) → iter (P := ((Int × (Int × (Unit × (List Int × (Unit × Unit))))) × (List Int × Unit))) (fun rec_1 ((i5, (n3_2, (_, (a0_2, (_, _))))), (o0, _)) =>
          bif (ilt i5 n3_2) then
            ok (inB i5 (len a0_2)) <|
            ok (aok (o0 ++ [(List.getD a0_2 (Int.toNat i5) 0)]) 8) <|
            rec_1 (((iadd .i64 i5 1), (n3_2, ((), (a0_2, ((), ()))))), ((o0 ++ [(List.getD a0_2 (Int.toNat i5) 0)]), ()))
          else
          some (o0, ())) n ((0, ((k : Int), ((), (l, ((), ()))))), ([], ())) = some (strip l, ()) := by
    intro hne
    have hs : l.take k = strip l := by
      rw [← h3]
      by_cases h0 : k = 0
      · subst h0; simp [strip]
      · rw [strip_of_last]
        · intro h; rw [h] at hlen; simp at hlen; omega
        · rw [hlen]
          have : at_ (l.take k) (k - 1) = at_ l (k - 1) := by
            simp only [at_, List.getD_eq_getElem?_getD, List.getElem?_take]
            rw [if_pos (by omega)]
          rw [this]; exact hne h0
    refine iter_const (fun p => ∃ i : Nat, p = (((i : Int), ((k : Int), ((), (l, ((), ()))))), (l.take i, ())) ∧ i ≤ k) (fun p => k - p.1.1.toNat) _ ?_ n _ (by simp only; omega) ⟨0, by simp, by omega⟩
    rintro rec _ ⟨i, rfl, hi⟩ ih
    simp only [ilt_iff, len_eq]
    by_cases hik : i < k
    · simp only [show (i : Int) < (k : Int) by omega, decide_true, cond_true]
      rw [ok_of (inB_true (by omega) (by omega)), ok_of (aok_true (by simp; omega))]
      have e1 : iadd .i64 (i : Int) 1 = ((i + 1 : Nat) : Int) := by rw [iadd_eq] <;> omega
      refine ih _ ⟨i + 1, ?_, by omega⟩ ?_
      · rw [e1, Int.toNat_natCast, List.take_add_one]
        simp [List.getD_eq_getElem?_getD, List.getElem?_eq_getElem (show i < l.length by omega)]
      · simp only [e1]; omega
    · have : i = k := by omega
      subst this
      simp only [show ¬ (i : Int) < (i : Int) by omega, decide_false, cond_false, hs]
  by_cases hk : 0 < k
  · have e1 : isub .i64 (k : Int) 1 = ((k - 1 : Nat) : Int) := by rw [isub_eq] <;> omega
    simp only [show (0 : Int) < (k : Int) by omega, decide_true, cond_true, e1]
    rw [ok_of (inB_true (by omega) (by omega)), Int.toNat_natCast, getD_at]
    by_cases hz : at_ l (k - 1) = 0
    · simp only [hz, beq_self_eq_true, cond_true]
      refine ih _ ⟨k - 1, rfl, by omega, ?_⟩ (by simp only; omega)
      rw [← h3]
      obtain ⟨j, rfl⟩ : ∃ j, k = j + 1 := ⟨k - 1, by omega⟩
      exact (strip_take (by omega) hz).symm
    · simp only [show (at_ l (k - 1) == 0) = false by simpa using hz, cond_false]
      exact copy fun _ => hz
  · have hk0 : k = 0 := by omega
    subst hk0
    simp only [show ¬ (0 : Int) < ((0 : Nat) : Int) by omega, decide_false, cond_false]
    exact copy fun h => absurd rfl h

/-! Comparison -/
def cmp3 (x y : Nat) : Int := if x < y then -1 else if y < x then 1 else 0
theorem cmp_step {x y k : Nat} (h : x / 65536 ^ (k + 1) = y / 65536 ^ (k + 1)) :
    (x / 65536 ^ k % 65536 < y / 65536 ^ k % 65536 → x < y) ∧ (x / 65536 ^ k % 65536 = y / 65536 ^ k % 65536 → x / 65536 ^ k = y / 65536 ^ k) := by
  have e1 : ∀ z : Nat, z / 65536 ^ (k + 1) = z / 65536 ^ k / 65536 := fun z => by rw [Nat.div_div_eq_div_mul, Nat.pow_succ]
  rw [e1, e1] at h
  generalize hx : x / 65536 ^ k = X at *
  generalize hy : y / 65536 ^ k = Y at *
  refine ⟨fun hlt => ?_, fun heq => by omega⟩
  have : X < Y := by omega
  rw [← hx, ← hy] at this
  exact Nat.lt_of_not_le fun hle => by
    have := Nat.div_le_div_right (c := 65536 ^ k) hle
    omega
theorem k_natCmp : Ev fun n => ∀ x y : Nat, (dig x).length ≤ 1099511627776 → (dig y).length ≤ 1099511627776 → c_i_natCmp ((C B).run n) (dig x) (dig y) = some (cmp3 x y, ()) := by
  refine Ev.triv.succ fun n hn _ x y hx hy => ?_
  rw [run_succ, e_i_natCmp]
  unfold p_i_natCmp
  simp only [len_eq]
  by_cases hl : (dig x).length = (dig y).length
  · simp only [hl, bne_self_eq_false, cond_false]
    refine iter_const (fun p => ∃ k : Nat, p = ((((k : Int) - 1), (dig x, (dig y, (0, ())))), ()) ∧ k ≤ (dig y).length ∧ x / 65536 ^ k = y / 65536 ^ k) (fun p => (p.1.1 + 1).toNat) _ ?_ n _ ?_ ⟨(dig y).length, ?_, by omega, ?_⟩
    · rintro rec _ ⟨k, rfl, h1, h2⟩ ih
      simp only [ile_iff]
      cases k with
      | zero =>
        simp only [show ¬ (0 : Int) ≤ ((0 : Nat) : Int) - 1 by omega, decide_false, cond_false]
        have : x = y := by simpa using h2
        simp [cmp3, this]
      | succ k =>
        have e1 : ((k + 1 : Nat) : Int) - 1 = (k : Int) := by omega
        simp only [e1, show (0 : Int) ≤ (k : Int) by omega, decide_true, cond_true]
        rw [ok_of (inB_true (by omega) (by omega)), ok_of (inB_true (by omega) (by omega))]
        simp only [Int.toNat_natCast, getD_at, dig_at]
        obtain ⟨c1, c2⟩ := cmp_step h2
        obtain ⟨c3, _⟩ := cmp_step h2.symm
        by_cases he : x / 65536 ^ k % 65536 = y / 65536 ^ k % 65536
        · simp only [he, bne_self_eq_false, cond_false]
          refine ih _ ⟨k, ?_, by omega, c2 he⟩ ?_
          · rw [isub_eq] <;> omega
          · simp only
            rw [isub_eq] <;> omega
        · have hb : (((x / 65536 ^ k % 65536 : Nat) : Int) != ((y / 65536 ^ k % 65536 : Nat) : Int)) = true := bne_iff_ne.2 fun h => he (Int.ofNat.inj h)
          simp only [hb, cond_true]
          rw [ok_of (inB_true (by omega) (by omega)), ok_of (inB_true (by omega) (by omega)), isub_eq (by omega) (by omega)]
          congr 2
          rcases Nat.lt_or_ge (x / 65536 ^ k % 65536) (y / 65536 ^ k % 65536) with h | h
          · have := c1 h
            rw [cmp3, if_pos this, imax, imin]; omega
          · have := c3 (by omega)
            rw [cmp3, if_neg (by omega), if_pos this, imax, imin]; omega
    · simp only
      rw [isub_eq] <;> omega
    · rw [isub_eq] <;> omega
    · rw [Nat.div_eq_of_lt (by rw [← hl]; exact dig_lt_pow x), Nat.div_eq_of_lt (dig_lt_pow y)]
  · have hb : (((dig x).length : Int) != ((dig y).length : Int)) = true := by simpa using fun h => hl (by omega)
    simp only [hb, cond_true]
    rw [isub_eq (by omega) (by omega)]
    congr 2
    rcases Nat.lt_or_ge (dig x).length (dig y).length with h | h
    · have := lt_of_dig_len h
      rw [cmp3, if_pos this, imax, imin]; omega
    · have := lt_of_dig_len (a := y) (b := x) (by omega)
      rw [cmp3, if_neg (by omega), if_pos this, imax, imin]; omega
theorem k_sCmp : Ev fun n => ∀ x y : Nat, (dig x).length ≤ 1099511627776 → (dig y).length ≤ 1099511627776 → c_s_l5Cmp ((C B).run n) (dig x) (dig y) = some (cmp3 x y, ()) := by
  refine Ev.triv.succ fun n hn _ x y hx hy => ?_
  rw [run_succ, e_s_l5Cmp]
  unfold p_s_l5Cmp
  simp only [len_eq, ilt_iff]
  by_cases h1 : (dig x).length < (dig y).length
  · have := lt_of_dig_len h1
    simp only [show ((dig x).length : Int) < ((dig y).length : Int) by omega, decide_true, cond_true]
    rw [cmp3, if_pos this]
  · simp only [show ¬ ((dig x).length : Int) < ((dig y).length : Int) by omega, decide_false, cond_false]
    by_cases h2 : (dig y).length < (dig x).length
    · have := lt_of_dig_len h2
      simp only [show ((dig y).length : Int) < ((dig x).length : Int) by omega, decide_true, cond_true]
      rw [cmp3, if_neg (by omega), if_pos this]
    · simp only [show ¬ ((dig y).length : Int) < ((dig x).length : Int) by omega, decide_false, cond_false]
      have hl : (dig x).length = (dig y).length := by omega
      refine iter_const (fun p => ∃ k : Nat, p = ((((k : Int) - 1), (dig x, (dig y, (0, ())))), ()) ∧ k ≤ (dig y).length ∧ x / 65536 ^ k = y / 65536 ^ k) (fun p => (p.1.1 + 1).toNat) _ ?_ n _ ?_ ⟨(dig y).length, ?_, by omega, ?_⟩
      · rintro rec _ ⟨k, rfl, h1, h2⟩ ih
        cases k with
        | zero =>
          simp only [ile_iff, show ¬ (0 : Int) ≤ ((0 : Nat) : Int) - 1 by omega, decide_false, cond_false]
          have : x = y := by simpa using h2
          simp [cmp3, this]
        | succ k =>
          have e1 : ((k + 1 : Nat) : Int) - 1 = (k : Int) := by omega
          simp only [ile_iff, e1, show (0 : Int) ≤ (k : Int) by omega, decide_true, cond_true]
          rw [ok_of (inB_true (by omega) (by omega)), ok_of (inB_true (by omega) (by omega)), ok_of (inB_true (by omega) (by omega)), ok_of (inB_true (by omega) (by omega))]
          simp only [Int.toNat_natCast, getD_at, dig_at]
          obtain ⟨c1, c2⟩ := cmp_step h2
          obtain ⟨c3, _⟩ := cmp_step h2.symm
          by_cases h : x / 65536 ^ k % 65536 < y / 65536 ^ k % 65536
          · have := c1 h
            simp only [show ((x / 65536 ^ k % 65536 : Nat) : Int) < ((y / 65536 ^ k % 65536 : Nat) : Int) by omega, decide_true, cond_true]
            rw [cmp3, if_pos this]
          · simp only [show ¬ ((x / 65536 ^ k % 65536 : Nat) : Int) < ((y / 65536 ^ k % 65536 : Nat) : Int) by omega, decide_false, cond_false]
            by_cases h' : y / 65536 ^ k % 65536 < x / 65536 ^ k % 65536
            · have := c3 h'
              simp only [show ((y / 65536 ^ k % 65536 : Nat) : Int) < ((x / 65536 ^ k % 65536 : Nat) : Int) by omega, decide_true, cond_true]
              rw [cmp3, if_neg (by omega), if_pos this]
            · simp only [show ¬ ((y / 65536 ^ k % 65536 : Nat) : Int) < ((x / 65536 ^ k % 65536 : Nat) : Int) by omega, decide_false, cond_false]
              refine ih _ ⟨k, ?_, by omega, c2 (by omega)⟩ ?_
              · rw [isub_eq] <;> omega
              · simp only
                rw [isub_eq] <;> omega
      · simp only
        rw [isub_eq] <;> omega
      · rw [isub_eq (by omega) (by omega), hl]
      · rw [Nat.div_eq_of_lt (by rw [← hl]; exact dig_lt_pow x), Nat.div_eq_of_lt (dig_lt_pow y)]
end Go.Px.Seat

/- Numbers: the reference's functions on digits. -/
namespace Go.Px.Seat
open Go Pm
set_option linter.unusedVariables false
variable {B : Run}

theorem k_sNatOf : Ev fun n => ∀ x : Nat, x < 18446744073709551616 → c_s_NatOf ((C B).run n) (x : Int) = some (dig x, ()) := by
  refine Ev.triv.succ fun n hn _ x hx => ?_
  have hlen : (dig x).length ≤ 4 := dig_len_le.2 (by omega)
  rw [run_succ, e_s_NatOf]
  unfold p_s_NatOf
  refine iter_const (fun p => ∃ i : Nat, p = ((((x / 65536 ^ i : Nat) : Int), ((), ((), ()))), ((dig x).take i, ())) ∧ i ≤ (dig x).length) (fun p => 5 - p.2.1.length) _ ?_ n _ (by simp only; omega) ⟨0, by simp, by omega⟩
  rintro rec _ ⟨i, rfl, hi⟩ ih
  simp only [ilt_iff]
  by_cases h : x / 65536 ^ i = 0
  · rw [h]
    simp only [show ¬ (0 : Int) < ((0 : Nat) : Int) by omega, decide_false, cond_false]
    have : (dig x).length ≤ i := by
      rw [dig_len_le]
      exact (Nat.div_eq_zero_iff_lt (Nat.pow_pos (by decide))).1 h
    rw [List.take_of_length_le this]
  · have hpos : (0 : Int) < ((x / 65536 ^ i : Nat) : Int) := Int.natCast_pos.2 (Nat.pos_of_ne_zero h)
    simp only [hpos, decide_true, cond_true]
    have hil : i < (dig x).length := by
      rcases Nat.lt_or_ge i (dig x).length with h1 | h1
      · exact h1
      · exact absurd (Nat.div_eq_of_lt (dig_len_le.1 h1)) h
    have hb : x / 65536 ^ i ≤ x := Nat.div_le_self ..
    have e1 : IntKind.wrap .i64 (irem .u64 ((x / 65536 ^ i : Nat) : Int) 65536) = ((x / 65536 ^ i % 65536 : Nat) : Int) := by
      rw [irem_eq (by omega), wrap64 (by omega) (by omega)]; omega
    have e2 : iquo .u64 ((x / 65536 ^ i : Nat) : Int) 65536 = ((x / 65536 ^ (i + 1) : Nat) : Int) := by
      rw [iquou_eq (by omega) (by omega) (by omega), Nat.pow_succ, ← Nat.div_div_eq_div_mul]; omega
    rw [e1, e2, ← take_dig_succ hil]
    rw [ok_of (aok_true (by simp only [List.length_take]; omega))]
    refine ih _ ⟨i + 1, rfl, by omega⟩ ?_
    simp only [List.length_take]; omega
theorem k_sAt : Ev fun n => ∀ (l : List Int) (i : Nat), c_s_l5At ((C B).run n) l (i : Int) = some (at_ l i, ()) := by
  refine Ev.triv.succ fun n hn _ l i => ?_
  rw [run_succ, e_s_l5At]
  unfold p_s_l5At
  simp only [ilt_iff, len_eq]
  by_cases h : i < l.length
  · simp only [show (i : Int) < (l.length : Int) by omega, decide_true, cond_true]
    rw [ok_of (inB_true (by omega) (by omega)), Int.toNat_natCast, getD_at]
  · simp only [show ¬ (i : Int) < (l.length : Int) by omega, decide_false, cond_false]
    rw [at_out (by omega)]
theorem k_sNatOk : Ev fun n => ∀ l : List Int, c_s_NatOk ((C B).run n) l = some (nok l, ()) := by
  refine Ev.triv.succ fun n hn _ l => ?_
  rw [run_succ, e_s_NatOk]
  unfold p_s_NatOk
  simp only [ilt_iff, len_eq]
  by_cases hl : 256 < l.length
  · simp only [show (256 : Int) < (l.length : Int) by omega, decide_true, cond_true]
    simp [nok]; omega
  · simp only [show ¬ (256 : Int) < (l.length : Int) by omega, decide_false, cond_false]
    have hall : ∀ i : Nat, (l.drop i).all (fun d => decide (0 ≤ d) && decide (d < 65536)) = true → True := fun _ _ => trivial
    have hnok : nok l = ((l.all fun d => decide (0 ≤ d) && decide (d < 65536)) && (l.isEmpty || at_ l (l.length - 1) != 0)) := by
      simp [nok]; omega
    refine iter_const (fun p => ∃ i : Nat, p = (((i : Int), (l, (false, ()))), ()) ∧ i ≤ l.length ∧ (l.take i).all (fun d => decide (0 ≤ d) && decide (d < 65536)) = true) (fun p => l.length - p.1.1.toNat) _ ?_ n _ (by simp only; omega) ⟨0, by simp, by omega, by simp⟩
    rintro rec _ ⟨i, rfl, hi, ha⟩ ih
    simp only [jb_cond, jb_ok, jb_inr]
    by_cases hil : i < l.length
    · simp only [show (i : Int) < (l.length : Int) by omega, decide_true, cond_true]
      rw [ok_of (inB_true (by omega) (by omega)), ok_of (inB_true (by omega) (by omega))]
      simp only [Int.toNat_natCast, getD_at]
      have hx : l[i]? = some (at_ l i) := by simp [at_, List.getD_eq_getElem?_getD, List.getElem?_eq_getElem hil]
      have hmem : at_ l i ∈ l := List.mem_of_getElem? hx
      have hbad : (decide (0 ≤ at_ l i) && decide (at_ l i < 65536)) = false → nok l = false := fun h => by
        rw [hnok]
        have : l.all (fun d => decide (0 ≤ d) && decide (d < 65536)) = false := List.all_eq_false.2 ⟨_, hmem, by rw [h]; simp⟩
        rw [this]; rfl
      by_cases h1 : at_ l i < 0
      · simp only [h1, decide_true, cond_true]
        rw [hbad (by simp; omega)]
      · simp only [h1, decide_false, cond_false]
        by_cases h2 : 65536 ≤ at_ l i
        · simp only [ile_iff, h2, decide_true, cond_true]
          rw [hbad (by simp; omega)]
        · simp only [ile_iff, h2, decide_false, cond_false]
          rw [iadd_eq (by omega) (by omega)]
          refine ih _ ⟨i + 1, by simp, by omega, ?_⟩ (by simp only; omega)
          rw [List.take_add_one, hx, List.all_append, ha]
          simp; omega
    · have hil : i = l.length := by omega
      subst hil
      simp only [show ¬ ((l.length : Nat) : Int) < (l.length : Int) by omega, decide_false, cond_false]
      rw [List.take_length] at ha
      rw [hnok, ha, Bool.true_and]
      by_cases h0 : l = []
      · subst h0; rfl
      · have hpos := List.length_pos_iff.2 h0
        have e1 : ((l.length : Int) == 0) = false := by simpa using h0
        rw [e1, cond_false, isub_eq (by omega) (by omega), ok_of (inB_true (by omega) (by omega)), show ((l.length : Int) - 1).toNat = l.length - 1 by omega, getD_at]
        simp [h0]
theorem k_sAdd : Ev fun n => ∀ x y : Nat, (dig x).length ≤ 1073741824 → (dig y).length ≤ 1073741824 → c_s_l5Add ((C B).run n) (dig x) (dig y) = some (dig (x + y), ()) := by
  refine (k_sAt (B := B)).succ fun n hn hAt x y hx hy => ?_
  rw [run_succ, e_s_l5Add]
  unfold p_s_l5Add
  generalize hN : max (dig x).length (dig y).length = N
  refine (jb_of (p := (((N : Int), (dig x, (dig y, ((), ())))), ())) ?_ _).trans ?_
  · simp only [ilt_iff, len_eq]
    by_cases h : (dig x).length < (dig y).length
    · simp only [show ((dig x).length : Int) < ((dig y).length : Int) by omega, decide_true, cond_true]
      rw [show (dig y).length = N by omega]
    · simp only [show ¬ ((dig x).length : Int) < ((dig y).length : Int) by omega, decide_false, cond_false]
      rw [show (dig x).length = N by omega]
  refine iter_const (fun p => ∃ (i c : Nat) (o : List Int), p = (((i : Int), ((N : Int), (dig x, (dig y, ((c : Int), ((), ((), ()))))))), (o, ())) ∧ i ≤ N ∧ o.length = i ∧ c ≤ 1 ∧ Dg o ∧
        val o + (c : Int) * ((65536 ^ i : Nat) : Int) = ((x % 65536 ^ i + y % 65536 ^ i : Nat) : Int)) (fun p => N - p.1.1.toNat) _ ?_ n _ (by simp only; omega) ⟨0, 0, [], by simp, by omega, rfl, by omega, by simp [Dg], by simp [val, Nat.mod_one]⟩
  rintro rec _ ⟨i, c, o, rfl, h1, h2, h3, h4, h5⟩ ih
  simp only [ilt_iff]
  by_cases hi : i < N
  · simp only [show (i : Int) < (N : Int) by omega, decide_true, cond_true, hAt, Option.bind_some, dig_at]
    generalize hX : x / 65536 ^ i % 65536 = X
    generalize hY : y / 65536 ^ i % 65536 = Y
    have hX' : X < 65536 := by omega
    have hY' : Y < 65536 := by omega
    rw [iadd_eq (x := (X : Int)) (by omega) (by omega), iadd_eq (by omega) (by omega), irem_eq (by omega), iquo_eq (by omega) (by omega) (by omega), iadd_eq (by omega) (by omega)]
    rw [ok_of (aok_true (by simp; omega))]
    refine ih _ ⟨i + 1, (X + Y + c) / 65536, o ++ [(((X + Y + c) % 65536 : Nat) : Int)], ?_, by omega, by simp [h2], by omega, Dg_append h4 (Dg_one (by omega)), ?_⟩ (by simp only; omega)
    · congr 2
    · rw [val_append, h2, mod_succ, mod_succ, hX, hY]
      simp only [val]
      have h7 : ((65536 ^ (i + 1) : Nat) : Int) = 65536 * ((65536 ^ i : Nat) : Int) := by rw [Nat.pow_succ, Nat.mul_comm]; omega
      have h8 : (((X + Y + c) / 65536 : Nat) : Int) * 65536 + (((X + Y + c) % 65536 : Nat) : Int) = (X : Int) + Y + c := by omega
      rw [h7]
      simp only [Int.natCast_add, Int.natCast_mul] at h5 h8 ⊢
      generalize ((65536 ^ i : Nat) : Int) = W at *
      grind
  · have hi : i = N := by omega
    subst hi
    simp only [show ¬ (i : Int) < (i : Int) by omega, decide_false, cond_false]
    have hxm : x % 65536 ^ i = x := Nat.mod_eq_of_lt (dig_len_le.1 (by omega))
    have hym : y % 65536 ^ i = y := Nat.mod_eq_of_lt (dig_len_le.1 (by omega))
    rw [hxm, hym] at h5
    by_cases hc : c = 0
    · subst hc
      simp only [show ¬ (0 : Int) < ((0 : Nat) : Int) by omega, decide_false, cond_false, jb_inr]
      congr 2
      refine dig_of h4 (by omega) ?_
      by_cases ho : o = []
      · exact .inl ho
      · right
        have hop := List.length_pos_iff.2 ho
        rw [h2]
        rcases Nat.lt_or_ge (dig x).length (dig y).length with h6 | h6
        · have hy0 : y ≠ 0 := fun h => by rw [h] at h6; simp at h6
          have := dig_ge_pow hy0
          rw [show (dig y).length = i by omega] at this
          omega
        · have hx0 : x ≠ 0 := fun h => by
            rw [h, dig_zero, List.length_nil] at h6 hN
            omega
          have := dig_ge_pow hx0
          rw [show (dig x).length = i by omega] at this
          omega
    · have : c = 1 := by omega
      subst this
      rw [Int.natCast_one, Int.one_mul] at h5
      simp only [show (0 : Int) < ((1 : Nat) : Int) by omega, decide_true, cond_true, jb_ok, jb_inr]
      rw [ok_of (aok_true (by simp; omega))]
      congr 2
      refine dig_of (Dg_append h4 (Dg_one (by omega))) ?_ (.inr ?_)
      · rw [val_append, h2]
        simp only [val]
        omega
      · rw [List.length_append, h2]
        simp only [List.length_cons, List.length_nil, Nat.zero_add, Nat.add_sub_cancel]
        have := val_nonneg h4
        omega

theorem k_sSub : Ev fun n => ∀ x y : Nat, y ≤ x → (dig x).length ≤ 1073741824 → c_s_l5Sub ((C B).run n) (dig x) (dig y) = some (dig (x - y), ()) := by
  refine ((k_sAt (B := B)).and (k_sTrim (B := B))).succ fun n hn ⟨hAt, hTrim⟩ x y hxy hx => ?_
  rw [run_succ, e_s_l5Sub]
  unfold p_s_l5Sub
  refine iter_const (fun p => ∃ (i c : Nat) (o : List Int), p = (((i : Int), (dig x, (dig y, ((c : Int), ((), ((), ())))))), (o, ())) ∧ i ≤ (dig x).length ∧ o.length = i ∧ c ≤ 1 ∧ Dg o ∧
        val o + ((y % 65536 ^ i : Nat) : Int) = ((x % 65536 ^ i : Nat) : Int) + (c : Int) * ((65536 ^ i : Nat) : Int)) (fun p => (dig x).length - p.1.1.toNat) _ ?_ n _ (by simp only; omega) ⟨0, 0, [], by simp, by omega, rfl, by omega, by simp [Dg], by simp [val, Nat.mod_one]⟩
  rintro rec _ ⟨i, c, o, rfl, h1, h2, h3, h4, h5⟩ ih
  simp only [ilt_iff, len_eq]
  by_cases hi : i < (dig x).length
  · simp only [show (i : Int) < ((dig x).length : Int) by omega, decide_true, cond_true, hAt, Option.bind_some, Int.toNat_natCast, getD_at, dig_at]
    rw [ok_of (inB_true (by omega) (by omega))]
    generalize hX : x / 65536 ^ i % 65536 = X
    generalize hY : y / 65536 ^ i % 65536 = Y
    have hX' : X < 65536 := by omega
    have hY' : Y < 65536 := by omega
    rw [isub_eq (x := (X : Int)) (by omega) (by omega), isub_eq (by omega) (by omega)]
    have step : ∀ (v c' : Nat), (v : Int) = (X : Int) - Y - c + 65536 * c' → c' ≤ 1 → v < 65536 →
        rec (((iadd .i64 (i : Int) 1), (dig x, (dig y, ((c' : Int), ((), ((), ())))))), ((o ++ [(v : Int)]), ())) = some (dig (x - y), ()) := fun v c' hv hc hv2 => by
      rw [iadd_eq (by omega) (by omega)]
      refine ih _ ⟨i + 1, c', o ++ [(v : Int)], by simp, by omega, by simp [h2], hc, Dg_append h4 (Dg_one (by omega)), ?_⟩ (by simp only; omega)
      rw [val_append, h2, mod_succ, mod_succ, hX, hY]
      simp only [val]
      have h7 : ((65536 ^ (i + 1) : Nat) : Int) = 65536 * ((65536 ^ i : Nat) : Int) := by rw [Nat.pow_succ, Nat.mul_comm]; omega
      rw [h7]
      simp only [Int.natCast_add, Int.natCast_mul] at h5 ⊢
      generalize ((65536 ^ i : Nat) : Int) = W at *
      rw [hv]
      grind
    by_cases hlt : (X : Int) - Y - c < 0
    · simp only [hlt, decide_true, cond_true, jb_inr]
      rw [iadd_eq (by omega) (by omega), ok_of (aok_true (by simp; omega))]
      obtain ⟨v, hv⟩ : ∃ v : Nat, (v : Int) = (X : Int) - Y - c + 65536 := ⟨((X : Int) - Y - c + 65536).toNat, by omega⟩
      rw [← hv]
      exact step v 1 (by omega) (by omega) (by omega)
    · simp only [hlt, decide_false, cond_false, jb_inr]
      rw [ok_of (aok_true (by simp; omega))]
      obtain ⟨v, hv⟩ : ∃ v : Nat, (v : Int) = (X : Int) - Y - c := ⟨((X : Int) - Y - c).toNat, by omega⟩
      rw [← hv]
      exact step v 0 (by omega) (by omega) (by omega)
  · have hi : i = (dig x).length := by omega
    simp only [show ¬ (i : Int) < ((dig x).length : Int) by omega, decide_false, cond_false]
    rw [hTrim _ (by omega)]
    simp only [Option.bind_some]
    have hxm : x % 65536 ^ i = x := Nat.mod_eq_of_lt (dig_len_le.1 (by omega))
    have hym : y % 65536 ^ i = y := Nat.mod_eq_of_lt (Nat.lt_of_le_of_lt hxy (dig_len_le.1 (by omega)))
    rw [hxm, hym] at h5
    have hvl := val_lt h4
    rw [h2] at hvl
    have hc : c = 0 := by
      rcases Nat.lt_or_ge 0 c with hc | hc
      · have : c = 1 := by omega
        subst this
        rw [Int.natCast_one, Int.one_mul] at h5
        omega
      · omega
    subst hc
    rw [strip_dig h4]
    congr 3
    rw [Int.natCast_zero, Int.zero_mul] at h5
    omega

theorem k_sMul : Ev fun n => ∀ x y : Nat, (dig x).length ≤ 1073741824 → (dig y).length ≤ 1073741824 → c_s_l5Mul ((C B).run n) (dig x) (dig y) = some (dig (x * y), ()) := by
  refine (k_sTrim (B := B)).succ fun n hn hTrim x y hx hy => ?_
  rw [run_succ, e_s_l5Mul]
  unfold p_s_l5Mul
  simp only [len_eq]
  generalize hLx : (dig x).length = Lx at *
  generalize hLy : (dig y).length = Ly at *
  rw [iadd_eq (by omega) (by omega), ok_of (mkOk_true (by omega) (by omega) (by omega)), show ((Lx : Int) + Ly).toNat = Lx + Ly by omega]
  refine iter_const (fun p => ∃ (i : Nat) (o : List Int), p = (((i : Int), (dig x, (dig y, ((), ((), ()))))), (o, ())) ∧ i ≤ Lx ∧ o.length = Lx + Ly ∧ Dg o ∧
      val o = ((x % 65536 ^ i * y : Nat) : Int) ∧ ∀ j, i + Ly ≤ j → at_ o j = 0) (fun p => Lx - p.1.1.toNat) _ ?_ n _ (by simp only; omega)
      ⟨0, _, rfl, by omega, by simp, Dg_replicate _, by rw [val_replicate_zero]; simp [Nat.mod_one], fun j _ => by
        simp only [at_, List.getD_eq_getElem?_getD, List.getElem?_replicate]
        split <;> rfl⟩
  rintro rec _ ⟨i, o, rfl, h1, h2, h3, h4, h5⟩ ih
  simp only [ilt_iff, hLx, hLy]
  by_cases hi : i < Lx
  · simp only [show (i : Int) < (Lx : Int) by omega, decide_true, cond_true]
    refine iter_const (fun p => ∃ (j c : Nat) (o : List Int), p = (((j : Int), (dig y, ((), ((i : Int), (dig x, ((c : Int), ((), ()))))))), (o, ())) ∧ j ≤ Ly ∧ c < 65536 ∧ o.length = Lx + Ly ∧ Dg o ∧
        val o + (c : Int) * ((65536 ^ (i + j) : Nat) : Int) = ((x % 65536 ^ i * y + (x / 65536 ^ i % 65536) * (y % 65536 ^ j) * 65536 ^ i : Nat) : Int) ∧ ∀ k, i + Ly ≤ k → at_ o k = 0) (fun p => Ly - p.1.1.toNat) _ ?_ n _ (by simp only; omega)
        ⟨0, 0, o, rfl, by omega, by omega, h2, h3, by rw [h4]; simp [Nat.mod_one], h5⟩
    rintro rec' _ ⟨j, c, o, rfl, g1, g2, g3, g4, g5, g6⟩ ih'
    simp only [ilt_iff, hLy]
    by_cases hj : j < Ly
    · simp only [show (j : Int) < (Ly : Int) by omega, decide_true, cond_true]
      rw [iadd_eq (x := (i : Int)) (by omega) (by omega), show ((i : Int) + j).toNat = i + j by omega, Int.toNat_natCast, Int.toNat_natCast]
      simp only [getD_at, dig_at, hLx, g3]
      rw [ok_of (inB_true (by omega) (by omega)), ok_of (inB_true (by omega) (by omega)), ok_of (inB_true (by omega) (by omega)), ok_of (inB_true (by omega) (by omega))]
      obtain ⟨r1, r2⟩ := at_range g4 (i + j)
      obtain ⟨q, hq⟩ : ∃ q : Nat, at_ o (i + j) = q := ⟨(at_ o (i + j)).toNat, by omega⟩
      generalize hX : x / 65536 ^ i % 65536 = X at *
      generalize hY : y / 65536 ^ j % 65536 = Y at *
      have hX' : X < 65536 := by omega
      have hY' : Y < 65536 := by omega
      have hXY : X * Y ≤ 65535 * 65535 := Nat.mul_le_mul (by omega) (by omega)
      have hcast : (X : Int) * (Y : Int) = ((X * Y : Nat) : Int) := by rw [Int.natCast_mul]
      rw [hq, imul_eq (by rw [hcast]; omega) (by rw [hcast]; omega), hcast]
      rw [iadd_eq (x := (q : Int)) (by omega) (by omega), iadd_eq (x := (q : Int) + _) (by omega) (by omega), irem_eq (by omega), iquo_eq (by omega) (by omega) (by omega), iadd_eq (by omega) (by omega)]
      generalize hs : q + X * Y + c = s
      have hs' : (q : Int) + ((X * Y : Nat) : Int) + (c : Int) = (s : Int) := by omega
      have hs2 : s < 4294967296 := by omega
      rw [hs']
      refine ih' _ ⟨j + 1, s / 65536, o.set (i + j) (((s % 65536 : Nat)) : Int), ?_, by omega, by omega, by simp [g3], Dg_set g4 (by omega), ?_, fun k hk => ?_⟩ (by simp only; omega)
      · congr 2
      · rw [val_set _ _ _ (by omega), hq, mod_succ, hY]
        have h7 : ((65536 ^ (i + (j + 1)) : Nat) : Int) = 65536 * ((65536 ^ (i + j) : Nat) : Int) := by rw [← Nat.add_assoc, Nat.pow_succ, Nat.mul_comm]; omega
        have h8 : ((s / 65536 : Nat) : Int) * 65536 + ((s % 65536 : Nat) : Int) = (s : Int) := by omega
        have h9 : ((65536 ^ (i + j) : Nat) : Int) = ((65536 ^ i : Nat) : Int) * ((65536 ^ j : Nat) : Int) := by rw [← Int.natCast_mul, ← Nat.pow_add]
        rw [h7]
        rw [Int.natCast_mul] at hs'
        simp only [Int.natCast_add, Int.natCast_mul] at g5 ⊢
        rw [h9] at g5 ⊢
        generalize ((65536 ^ i : Nat) : Int) = W at *
        generalize ((65536 ^ j : Nat) : Int) = V at *
        generalize ((s / 65536 : Nat) : Int) = sd at *
        generalize ((s % 65536 : Nat) : Int) = sm at *
        grind
      · rw [at_set _ _ _ _ (by omega), if_neg (by omega)]
        exact g6 k hk
    · have hj : j = Ly := by omega
      subst hj
      simp only [show ¬ (j : Int) < (j : Int) by omega, decide_false, cond_false]
      rw [iadd_eq (x := (i : Int)) (by omega) (by omega), ok_of (inB_true (by omega) (by simp only [g3]; omega)), iadd_eq (by omega) (by omega), show ((i : Int) + (j : Int)).toNat = i + j by omega]
      refine ih _ ⟨i + 1, o.set (i + j) (c : Int), by simp, by omega, by simp [g3], Dg_set g4 (by omega), ?_, fun k hk => ?_⟩ (by simp only; omega)
      · rw [val_set _ _ _ (by omega), g6 _ (by omega), mod_succ]
        have hym : y % 65536 ^ j = y := Nat.mod_eq_of_lt (dig_len_le.1 (by omega))
        rw [hym] at g5
        simp only [Int.natCast_add, Int.natCast_mul] at g5 ⊢
        grind
      · rw [at_set _ _ _ _ (by omega), if_neg (by omega)]
        exact g6 k (by omega)
  · have hi : i = Lx := by omega
    subst hi
    simp only [show ¬ (i : Int) < (i : Int) by omega, decide_false, cond_false]
    rw [hTrim _ (by omega)]
    simp only [Option.bind_some]
    rw [strip_dig h3, h4]
    have hxm : x % 65536 ^ i = x := Nat.mod_eq_of_lt (dig_len_le.1 (by omega))
    rw [hxm, Int.toNat_natCast]
end Go.Px.Seat

/- Numbers: the reference's functions on digits, division. -/
namespace Go.Px.Seat
open Go Pm
set_option linter.unusedVariables false
variable {B : Run}

theorem len_mul_le {x y a b : Nat} (hx : (dig x).length ≤ a) (hy : (dig y).length ≤ b) : (dig (x * y)).length ≤ a + b := by
  have := len_dig_mul x y; omega
theorem k_sTimes : Ev fun n => ∀ x d : Nat, (dig x).length ≤ 1073741824 → d < 65536 → c_s_l5Times ((C B).run n) (dig x) (d : Int) = some (dig (x * d), ()) := by
  refine (k_sMul (B := B)).succ fun n hn hMul x d hx hd => ?_
  rw [run_succ, e_s_l5Times]
  unfold p_s_l5Times
  by_cases h : d = 0
  · subst h; simp
  · have e1 : ((d : Int) == 0) = false := by simpa using h
    rw [e1, cond_false, dig_one hd h, hMul x d hx (by rw [dig_of_lt hd h]; simp)]
    rfl
theorem div_step (x d k : Nat) (hd : 0 < d) : x / 65536 ^ k / d = x / 65536 ^ (k + 1) / d * 65536 + (x / 65536 ^ (k + 1) % d * 65536 + x / 65536 ^ k % 65536) / d ∧
    x / 65536 ^ k % d = (x / 65536 ^ (k + 1) % d * 65536 + x / 65536 ^ k % 65536) % d := by
  have e1 : x / 65536 ^ (k + 1) = x / 65536 ^ k / 65536 := by rw [Nat.div_div_eq_div_mul, Nat.pow_succ]
  rw [e1]
  generalize x / 65536 ^ k = X
  have h1 := Nat.div_add_mod X 65536
  have h2 := Nat.div_add_mod (X / 65536) d
  have e2 : X = (X / 65536 % d * 65536 + X % 65536) + d * (X / 65536 / d * 65536) := by
    generalize X / 65536 = Y at *
    generalize Y / d = q at *
    generalize Y % d = r at *
    rw [← h2] at h1
    grind
  constructor
  · conv => lhs; rw [e2]
    rw [Nat.add_mul_div_left _ _ hd, Nat.add_comm]
  · conv => lhs; rw [e2]
    rw [Nat.add_mul_mod_self_left]
theorem k_sDivSmall : Ev fun n => ∀ x d : Nat, (dig x).length ≤ 1073741824 → 0 < d → d < 2147483648 → c_s_l5DivSmall ((C B).run n) (dig x) (d : Int) = some (dig (x / d), (((x % d : Nat) : Int), ())) := by
  refine (k_sTrim (B := B)).succ fun n hn hTrim x d hx hd hd2 => ?_
  rw [run_succ, e_s_l5DivSmall]
  unfold p_s_l5DivSmall
  simp only [len_eq]
  generalize hL : (dig x).length = L at *
  rw [ok_of (mkOk_true (by omega) (by omega) (by omega)), isub_eq (by omega) (by omega), Int.toNat_natCast]
  refine iter_const (fun p => ∃ (k : Nat) (o : List Int), p = ((((k : Int) - 1), (((x / 65536 ^ k % d : Nat) : Int), (dig x, ((), ((d : Int), ((), (0, ()))))))), (o, ())) ∧ k ≤ L ∧ o.length = L ∧ Dg o ∧
      val o = ((x / 65536 ^ k / d * 65536 ^ k : Nat) : Int) ∧ ∀ j, j < k → at_ o j = 0) (fun p => (p.1.1 + 1).toNat) _ ?_ n _ (by simp only; omega)
      ⟨L, List.replicate L 0, ?_, by omega, by simp, Dg_replicate _, ?_, fun j _ => by
        simp only [at_, List.getD_eq_getElem?_getD, List.getElem?_replicate]
        split <;> rfl⟩
  · rintro rec _ ⟨k, o, rfl, h1, h2, h3, h4, h5⟩ ih
    simp only [ile_iff]
    cases k with
    | zero =>
      simp only [show ¬ (0 : Int) ≤ ((0 : Nat) : Int) - 1 by omega, decide_false, cond_false]
      rw [hTrim _ (by omega)]
      simp only [Option.bind_some, strip_dig h3, h4, Nat.pow_zero, Nat.div_one, Nat.mul_one, Int.toNat_natCast]
    | succ k =>
      have e1 : ((k + 1 : Nat) : Int) - 1 = (k : Int) := by omega
      obtain ⟨s1, s2⟩ := div_step x d k hd
      have hr : x / 65536 ^ (k + 1) % d < d := Nat.mod_lt _ hd
      have hq : (x / 65536 ^ (k + 1) % d * 65536 + x / 65536 ^ k % 65536) / d < 65536 := by
        rw [Nat.div_lt_iff_lt_mul hd]
        have : (x / 65536 ^ (k + 1) % d + 1) * 65536 ≤ d * 65536 := Nat.mul_le_mul_right _ hr
        have : x / 65536 ^ k % 65536 < 65536 := Nat.mod_lt _ (by decide)
        rw [Nat.mul_comm 65536 d]
        omega
      simp only [e1, show (0 : Int) ≤ (k : Int) by omega, decide_true, cond_true, Int.toNat_natCast, getD_at, dig_at]
      rw [ok_of (inB_true (by omega) (by omega)), ok_of (nz (by omega)), ok_of (inB_true (by omega) (by simp only [h2]; omega)), ok_of (nz (by omega))]
      have hs3 : x / 65536 ^ k / d = x / 65536 ^ (k + 1) / d * 65536 + (x / 65536 ^ (k + 1) % d * 65536 + x / 65536 ^ k % 65536) / d := s1
      generalize hR : x / 65536 ^ (k + 1) % d = Rr at *
      generalize hD : x / 65536 ^ k % 65536 = D at *
      have hD' : D < 65536 := by omega
      rw [imul_eq (by omega) (by omega), iadd_eq (by omega) (by omega), irem_eq (by omega), iquo_eq (by omega) (by omega) (by omega), isub_eq (by omega) (by omega)]
      refine ih _ ⟨k, o.set k (((Rr * 65536 + D) / d : Nat) : Int), ?_, by omega, by simp [h2], Dg_set h3 ⟨Int.natCast_nonneg _, by omega⟩, ?_, fun j hj => ?_⟩ (by simp only; omega)
      · rw [s2]
        simp
      · rw [val_set _ _ _ (by omega), h4, h5 k (by omega), hs3, Nat.add_mul, Nat.pow_succ]
        simp only [Int.natCast_add, Int.natCast_mul]
        grind
      · rw [at_set _ _ _ _ (by omega), if_neg (by omega)]
        exact h5 j (by omega)
  · have : x / 65536 ^ L = 0 := Nat.div_eq_of_lt (dig_len_le.1 (by omega))
    rw [this]; simp
  · have : x / 65536 ^ L = 0 := Nat.div_eq_of_lt (dig_len_le.1 (by omega))
    rw [this, val_replicate_zero]; simp

theorem k_sShl : Ev fun n => ∀ x k : Nat, (dig x).length ≤ 1073741824 → k ≤ 1073741824 → c_s_l5Shl ((C B).run n) (dig x) (k : Int) = some (dig (x * 65536 ^ k), ()) := by
  refine Ev.triv.succ fun n hn _ x k hx hk => ?_
  rw [run_succ, e_s_l5Shl]
  unfold p_s_l5Shl
  simp only [len_eq]
  by_cases h0 : x = 0
  · subst h0; simp
  · have hpos := dig_len_pos h0
    have e1 : (((dig x).length : Int) == 0) = false := by simpa using h0 ∘ dig_eq_nil.1
    rw [e1, cond_false, ok_of (mkOk_true (by omega) (by omega) (by omega)), Int.toNat_natCast]
    refine iter_const (fun p => ∃ i : Nat, p = (((i : Int), (dig x, ((), ((), ())))), (List.replicate k 0 ++ (dig x).take i, ())) ∧ i ≤ (dig x).length) (fun p => (dig x).length - p.1.1.toNat) _ ?_ n _ (by simp only; omega) ⟨0, by simp, by omega⟩
    rintro rec _ ⟨i, rfl, hi⟩ ih
    simp only [ilt_iff]
    by_cases hil : i < (dig x).length
    · simp only [show (i : Int) < ((dig x).length : Int) by omega, decide_true, cond_true, Int.toNat_natCast, getD_at, dig_at]
      rw [ok_of (inB_true (by omega) (by omega)), List.append_assoc, ← take_dig_succ hil, ok_of (aok_true (by simp; omega)), iadd_eq (by omega) (by omega)]
      exact ih _ ⟨i + 1, by simp, by omega⟩ (by simp only; omega)
    · have : i = (dig x).length := by omega
      simp only [show ¬ (i : Int) < ((dig x).length : Int) by omega, decide_false, cond_false]
      rw [List.take_of_length_le (by omega), dig_pow_mul k h0]
theorem k_sTop : Ev fun n => ∀ (l : List Int) (k : Nat), l.length ≤ 1073741824 → k ≤ 1073741824 → c_s_l5Top ((C B).run n) l (k : Int) = some (l.drop k, ()) := by
  refine Ev.triv.succ fun n hn _ l k hl hk => ?_
  rw [run_succ, e_s_l5Top]
  unfold p_s_l5Top
  simp only [len_eq]
  refine iter_const (fun p => ∃ i : Nat, p = ((((k + i : Nat) : Int), (l, ((), ((), ())))), ((l.drop k).take i, ())) ∧ (i = 0 ∨ k + i ≤ l.length)) (fun p => l.length + k - p.1.1.toNat) _ ?_ n _ (by simp only; omega) ⟨0, by simp, by omega⟩
  rintro rec _ ⟨i, rfl, hi⟩ ih
  simp only [ilt_iff]
  by_cases hil : k + i < l.length
  · simp only [show ((k + i : Nat) : Int) < (l.length : Int) by omega, decide_true, cond_true, Int.toNat_natCast, getD_at]
    have e1 : (l.drop k).take i ++ [at_ l (k + i)] = (l.drop k).take (i + 1) := by
      rw [List.take_add_one, List.getElem?_drop, List.getElem?_eq_getElem hil]
      simp [at_, List.getD_eq_getElem?_getD, List.getElem?_eq_getElem hil]
    rw [ok_of (inB_true (by omega) (by omega)), e1, ok_of (aok_true (by simp; omega)), iadd_eq (by omega) (by omega)]
    exact ih _ ⟨i + 1, by congr 2, by omega⟩ (by simp only; omega)
  · simp only [show ¬ ((k + i : Nat) : Int) < (l.length : Int) by omega, decide_false, cond_false]
    rw [List.take_of_length_le (by simp; omega)]
theorem k_sPow2 : Ev fun n => ∀ k : Nat, k ≤ 1073741824 → c_s_l5Pow2 ((C B).run n) (k : Int) = some (dig (2 ^ k), ()) := by
  refine (k_sShl (B := B)).succ fun n hn hShl k hk => ?_
  rw [run_succ, e_s_l5Pow2]
  unfold p_s_l5Pow2
  have h16 : (2 : Nat) ^ (k % 16) < 65536 := by
    have : (2 : Nat) ^ (k % 16) ≤ 2 ^ 15 := Nat.pow_le_pow_right (by decide) (by omega)
    omega
  have hne : (2 : Nat) ^ (k % 16) ≠ 0 := Nat.ne_of_gt (Nat.pow_pos (by decide))
  have e1 : IntKind.wrap .u64 (irem .i64 (k : Int) 16) = ((k % 16 : Nat) : Int) := by
    rw [irem_eq (by omega), wrapu64 (by omega) (by omega)]; omega
  have e3 : (1 : Int) * 2 ^ (k % 16) = ((2 ^ (k % 16) : Nat) : Int) := by simp
  have e2 : ishl .i64 1 (((k % 16 : Nat)) : Int) = ((2 ^ (k % 16) : Nat) : Int) := by
    generalize (2 ^ (k % 16) : Nat) = p at *
    rw [ishl_eq (by omega) (by rw [e3]; omega) (by rw [e3]; omega), e3]
  rw [e1, e2, iquo_eq (by omega) (by omega) (by omega), ok_of (by simp; omega), dig_one h16 hne]
  have e4 : (k : Int) / 16 = ((k / 16 : Nat) : Int) := by omega
  rw [e4, hShl _ _ (by rw [dig_of_lt h16 hne]; simp) (by omega)]
  simp only [Option.bind_some]
  rw [pow_base, ← Nat.pow_add, show k % 16 + 16 * (k / 16) = k by omega]
/-! Division, long -/
theorem guess_ge {r y k : Nat} (hy : 0 < y) (hk : 2 ≤ k) (hyk : y < 65536 ^ k) (hr : r < y * 65536) (ht : y / 65536 ^ (k - 1) ≠ 0) :
    r / y ≤ (r / 65536 ^ (k - 1)) / (y / 65536 ^ (k - 1)) := by
  rw [Nat.le_div_iff_mul_le (Nat.pos_of_ne_zero ht), Nat.le_div_iff_mul_le (Nat.pow_pos (by decide))]
  have h1 : y / 65536 ^ (k - 1) * 65536 ^ (k - 1) ≤ y := Nat.div_mul_le_self ..
  have h2 : r / y * y ≤ r := Nat.div_mul_le_self ..
  calc r / y * (y / 65536 ^ (k - 1)) * 65536 ^ (k - 1) = r / y * (y / 65536 ^ (k - 1) * 65536 ^ (k - 1)) := Nat.mul_assoc ..
    _ ≤ r / y * y := Nat.mul_le_mul_left _ h1
    _ ≤ r := h2
theorem k_sDiv : Ev fun n => ∀ x y : Nat, (dig x).length ≤ 268435456 → (dig y).length ≤ 268435456 → y ≠ 0 → c_s_l5Div ((C B).run n) (dig x) (dig y) = some (dig (x / y), (dig (x % y), ())) := by
  refine ((k_sCmp (B := B)).and ((k_sTrim (B := B)).and ((k_sDivSmall (B := B)).and ((k_sNatOf (B := B)).and ((k_sTimes (B := B)).and ((k_sTop (B := B)).and ((k_sShl (B := B)).and ((k_sAdd (B := B)).and ((k_sAt (B := B)).and (k_sSub (B := B))))))))))).succ
    fun n hn ⟨hCmp, hTrim, hDS, hOf, hTimes, hTop, hShl, hAdd, hAt, hSub⟩ x y hx hyl0 hy => ?_
  rw [run_succ, e_s_l5Div]
  unfold p_s_l5Div
  have hypos := dig_len_pos hy
  rcases Nat.lt_or_ge x y with hlt | hge
  · rw [hCmp x y (by omega) (by omega), hTrim _ (by omega)]
    simp only [Option.bind_some, cmp3, if_pos hlt, ilt_iff, show (-1 : Int) < 0 by omega, decide_true, cond_true]
    rw [strip_dig (dig_Dg x), val_dig, Int.toNat_natCast, Nat.div_eq_of_lt hlt, Nat.mod_eq_of_lt hlt, dig_zero]
  · have hyl : (dig y).length ≤ (dig x).length := dig_len_mono hge
    rw [hCmp x y (by omega) (by omega)]
    have hc3 : ¬ cmp3 x y < 0 := by unfold cmp3; rw [if_neg (by omega)]; split <;> omega
    simp only [Option.bind_some, ilt_iff, hc3, decide_false, cond_false, len_eq]
    by_cases h1 : (dig y).length = 1
    · simp only [h1, show (((1 : Nat) : Int) == 1) = true from rfl, cond_true]
      have hyB : y < 65536 := by have := dig_len_le.1 (Nat.le_of_eq h1); omega
      rw [ok_of (inB_true (by omega) (by omega)), show Int.toNat 0 = 0 from rfl, getD_at, dig_at, Nat.pow_zero, Nat.div_one, Nat.mod_eq_of_lt hyB, hDS x y (by omega) (by omega) (by omega)]
      have hm : x % y < y := Nat.mod_lt _ (by omega)
      simp only [Option.bind_some]
      rw [wrapu64 (by omega) (by omega), hOf _ (by omega)]
      rfl
    · have hc1 : (((dig y).length : Int) == 1) = false := beq_eq_false_iff_ne.2 (by omega)
      simp only [hc1, cond_false]
      -- the highest digit
      rw [isub_eq (by omega) (by omega), show (((dig y).length : Int) - 1).toNat = (dig y).length - 1 by omega, getD_at, dig_at]
      generalize hT : y / 65536 ^ ((dig y).length - 1) % 65536 = T
      have hT0 : T ≠ 0 := by
        have := dig_last hy
        rw [dig_at, hT] at this
        omega
      have hTB : T < 65536 := by omega
      rw [ok_of (inB_true (by omega) (by omega)), iadd_eq (by omega) (by omega), ok_of (nz (by omega)), iquo_eq (by omega) (by omega) (by omega)]
      generalize hup : 65536 / (T + 1) = up
      have hupI : (65536 : Int) / ((T : Int) + 1) = (up : Int) := by rw [← hup]; simp only [Int.natCast_ediv, Int.natCast_add]; rfl
      have hup1 : 1 ≤ up := by rw [← hup, Nat.le_div_iff_mul_le (by omega)]; omega
      have hup2 : up < 65536 := by rw [← hup, Nat.div_lt_iff_lt_mul (by omega)]; omega
      rw [hupI, hTimes x up (by omega) hup2]
      simp only [Option.bind_some]
      rw [hTimes y up (by omega) hup2]
      simp only [Option.bind_some]
      have hq : x * up / (y * up) = x / y := Nat.mul_div_mul_right _ _ (by omega)
      have hrr : x * up % (y * up) = x % y * up := Nat.mul_mod_mul_right ..
      have hlX : (dig (x * up)).length ≤ (dig x).length + 1 := len_mul_le (Nat.le_refl _) (dig_len_le.2 (by omega))
      have hlY : (dig (y * up)).length ≤ (dig y).length + 1 := len_mul_le (Nat.le_refl _) (dig_len_le.2 (by omega))
      have hlY2 : (dig y).length ≤ (dig (y * up)).length := dig_len_mono (Nat.le_mul_of_pos_right _ (by omega))
      have hYX : (dig (y * up)).length ≤ (dig (x * up)).length := dig_len_mono (Nat.mul_le_mul_right _ hge)
      have hY0 : y * up ≠ 0 := Nat.mul_ne_zero hy (by omega)
      rw [← hq]
      have hfin : dig (x % y) = dig (x * up % (y * up) / up) := by rw [hrr, Nat.mul_div_cancel _ (by omega)]
      rw [hfin]
      clear hfin hrr hq
      generalize hXX : x * up = X at *
      generalize hYY : y * up = Y at *
      generalize hLX : (dig X).length = LX at *
      generalize hLY : (dig Y).length = N at *
      have hN2 : 2 ≤ N := by omega
      have hYtop := dig_last hY0
      rw [hLY, dig_at] at hYtop
      have hYN : Y < 65536 ^ N := by rw [← hLY]; exact dig_lt_pow Y
      have hYd : Y / 65536 ^ (N - 1) < 65536 := by
        rw [Nat.div_lt_iff_lt_mul (Nat.pow_pos (by decide)), Nat.mul_comm, ← Nat.pow_succ, show (N - 1).succ = N by omega]
        exact hYN
      rw [Nat.mod_eq_of_lt hYd] at hYtop
      have hYtop' : Y / 65536 ^ (N - 1) ≠ 0 := fun h => hYtop (by rw [h]; rfl)
      generalize hyt : Y / 65536 ^ (N - 1) = yt at *
      rw [isub_eq (x := (LX : Int)) (by omega) (by omega), iadd_eq (by omega) (by omega), ok_of (mkOk_true (by omega) (by omega) (by omega)), show ((LX : Int) - N + 1) = ((LX - N + 1 : Nat) : Int) by omega, hTop _ _ (by omega) (by omega)]
      simp only [Option.bind_some]
      rw [dig_drop, Int.toNat_natCast]
      generalize hM : LX - N + 1 = M at *
      have hXM : X / 65536 ^ M < Y := by
        have h1 := dig_ge_pow hY0
        rw [hLY] at h1
        have h2 := dig_lt_pow X
        rw [hLX, show LX = M + (N - 1) by omega, Nat.pow_add] at h2
        have h3 : X / 65536 ^ M < 65536 ^ (N - 1) := (Nat.div_lt_iff_lt_mul (Nat.pow_pos (by decide))).2 (by rw [Nat.mul_comm]; exact h2)
        omega
      refine iter_const (fun p => ∃ (k : Nat) (o : List Int), p = ((((k : Int) - 1), (dig (X / 65536 ^ k % Y), (dig X, ((N : Int), (dig Y, ((), ((up : Int), ((), ((), ()))))))))), (o, ())) ∧ k ≤ M ∧ o.length = M ∧ Dg o ∧
          val o = ((X / 65536 ^ k / Y * 65536 ^ k : Nat) : Int) ∧ ∀ j, j < k → at_ o j = 0) (fun p => (p.1.1 + 1).toNat) _ ?_ n _ (by simp only; omega)
          ⟨M, List.replicate M 0, ?_, by omega, by simp, Dg_replicate _, ?_, fun j _ => by
            simp only [at_, List.getD_eq_getElem?_getD, List.getElem?_replicate]
            split <;> rfl⟩
      · rintro rec _ ⟨k, o, rfl, g1, g2, g3, g4, g5⟩ ih
        simp only [ile_iff]
        cases k with
        | zero =>
          simp only [show ¬ (0 : Int) ≤ ((0 : Nat) : Int) - 1 by omega, decide_false, cond_false, Nat.pow_zero, Nat.div_one]
          have hl : (dig (X % Y)).length ≤ LX := by rw [← hLX]; exact dig_len_mono (Nat.mod_le ..)
          rw [hDS _ up (by omega) (by omega) (by omega)]
          simp only [Option.bind_some]
          rw [hTrim _ (by omega)]
          simp only [Option.bind_some, strip_dig g3, g4, Nat.pow_zero, Nat.div_one, Nat.mul_one, Int.toNat_natCast]
        | succ k =>
          have e1 : ((k + 1 : Nat) : Int) - 1 = (k : Int) := by omega
          obtain ⟨s1, s2⟩ := div_step X Y k (by omega)
          have hRlt : X / 65536 ^ (k + 1) % Y < Y := Nat.mod_lt _ (by omega)
          generalize hR : X / 65536 ^ (k + 1) % Y = Rr at *
          generalize hD : X / 65536 ^ k % 65536 = D at *
          have hD' : D < 65536 := by omega
          have hRl : (dig Rr).length ≤ N := by rw [← hLY]; exact dig_len_mono (by omega)
          simp only [e1, show (0 : Int) ≤ (k : Int) by omega, decide_true, cond_true, Int.toNat_natCast, getD_at, dig_at, hD]
          rw [show (1 : Int) = ((1 : Nat) : Int) from rfl, hShl _ _ (by omega) (by omega)]
          simp only [Option.bind_some, Nat.pow_one]
          rw [ok_of (inB_true (by omega) (by omega)), wrapu64 (by omega) (by omega), hOf _ (by omega)]
          simp only [Option.bind_some]
          have hDl : (dig D).length ≤ 1 := dig_len_le.2 (by omega)
          have hRBl : (dig (Rr * 65536)).length ≤ N + 1 := by
            rw [dig_len_le, Nat.pow_succ]
            have := dig_len_le.1 hRl
            omega
          rw [hAdd _ _ (by omega) (by omega)]
          simp only [Option.bind_some]
          obtain ⟨R', hR'⟩ : ∃ R', R' = Rr * 65536 + D := ⟨_, rfl⟩
          rw [← hR'] at s1 s2 ⊢
          have hR'Y : R' < Y * 65536 := by omega
          have hR'l : (dig R').length ≤ N + 1 := by
            rw [dig_len_le, Nat.pow_succ]
            exact Nat.lt_of_lt_of_le hR'Y (Nat.mul_le_mul_right _ (by omega))
          rw [hTrim _ (by omega), strip_dig (dig_Dg R'), val_dig, Int.toNat_natCast]
          simp only [Option.bind_some, hAt]
          rw [Int.natCast_one, isub_eq (x := (N : Int)) (by omega) (by omega), show ((N : Int) - 1) = ((N - 1 : Nat) : Int) by omega, hAt, Int.toNat_natCast]
          simp only [Option.bind_some, dig_at]
          rw [hyt, Nat.mod_eq_of_lt hYd, ok_of (inB_true (by omega) (by omega)), ok_of (nz (by omega))]
          have hpair : R' / 65536 ^ N % 65536 * 65536 + R' / 65536 ^ (N - 1) % 65536 = R' / 65536 ^ (N - 1) := by
            have h1 : R' / 65536 ^ N = R' / 65536 ^ (N - 1) / 65536 := by rw [Nat.div_div_eq_div_mul, ← Nat.pow_succ, show (N - 1).succ = N by omega]
            have h2 : R' / 65536 ^ N < 65536 := by
              rw [Nat.div_lt_iff_lt_mul (Nat.pow_pos (by decide)), Nat.mul_comm, ← Nat.pow_succ]
              exact dig_len_le.1 hR'l
            rw [h1] at h2 ⊢
            generalize R' / 65536 ^ (N - 1) = Z at *
            omega
          have hg := guess_ge (r := R') (y := Y) (k := N) (by omega) hN2 hYN hR'Y (by rw [hyt]; exact hYtop')
          rw [hyt] at hg
          have hq' : R' / Y < 65536 := (Nat.div_lt_iff_lt_mul (by omega)).2 (by rw [Nat.mul_comm]; exact hR'Y)
          generalize hA : R' / 65536 ^ N % 65536 = A1 at *
          generalize hA2 : R' / 65536 ^ (N - 1) % 65536 = A2 at *
          have hA1 : A1 < 65536 := by omega
          have hA2' : A2 < 65536 := by omega
          rw [imul_eq (by omega) (by omega), iadd_eq (by omega) (by omega), iquo_eq (by omega) (by omega) (by omega)]
          have hquo : ((A1 : Int) * 65536 + A2) / (yt : Int) = ((R' / 65536 ^ (N - 1) / yt : Nat) : Int) := by
            rw [← hpair, Int.natCast_ediv]; rfl
          rw [hquo]
          generalize hG : R' / 65536 ^ (N - 1) / yt = Gg at *
          refine (jb_of (p := ((dig Y, (((min Gg 65535 : Nat) : Int), (dig R', ((), ((k : Int), (dig X, ((N : Int), ((up : Int), ((), ((), ())))))))))), (o, ()))) ?_ _).trans ?_
          · by_cases hgg : 65536 ≤ Gg
            · simp only [show (65536 : Int) ≤ (Gg : Int) by omega, decide_true, cond_true]
              rw [show min Gg 65535 = 65535 by omega]; rfl
            · simp only [show ¬ (65536 : Int) ≤ (Gg : Int) by omega, decide_false, cond_false]
              rw [show min Gg 65535 = Gg by omega]
          · have hg0 : R' / Y ≤ min Gg 65535 := by omega
            have hg1 : min Gg 65535 < 65536 := by omega
            generalize min Gg 65535 = g0 at *
            simp only []
            rw [hTimes Y g0 (by omega) hg1]
            simp only [Option.bind_some]
            refine iter_const (fun p => ∃ g : Nat, p = ((dig (Y * g), (dig R', (dig Y, ((g : Int), ((), ((k : Int), (dig X, ((N : Int), ((up : Int), ((), ((), ()))))))))))), (o, ())) ∧ R' / Y ≤ g ∧ g < 65536) (fun p => p.1.2.2.2.1.toNat) _ ?_ n _ (by simp only; omega) ⟨g0, rfl, hg0, hg1⟩
            rintro rec' _ ⟨g, rfl, j1, j2⟩ ih'
            have hpl : (dig (Y * g)).length ≤ N + 1 := len_mul_le (by omega) (dig_len_le.2 (by omega))
            simp only []
            rw [hCmp _ _ (by omega) (by omega)]
            simp only [Option.bind_some]
            by_cases hgt : R' < Y * g
            · have hc : cmp3 (Y * g) R' = 1 := by rw [cmp3, if_neg (by omega), if_pos hgt]
              simp only [hc, show (0 : Int) < 1 by omega, decide_true, cond_true]
              have hg1 : 1 ≤ g := by
                rcases Nat.eq_zero_or_pos g with h | h
                · rw [h] at hgt; omega
                · exact h
              rw [hSub _ _ (Nat.le_mul_of_pos_right _ hg1) (by omega)]
              simp only [Option.bind_some]
              rw [isub_eq (by omega) (by omega)]
              have hlt : R' / Y < g := (Nat.div_lt_iff_lt_mul (by omega)).2 (by rw [Nat.mul_comm]; exact hgt)
              refine ih' _ ⟨g - 1, ?_, by omega, by omega⟩ (by simp only; omega)
              rw [Nat.mul_sub, Nat.mul_one]
              congr 5
              omega
            · have hc : ¬ (0 : Int) < cmp3 (Y * g) R' := by unfold cmp3; split <;> (try split) <;> omega
              simp only [hc, decide_false, cond_false]
              have hgq : g = R' / Y := by
                have : g ≤ R' / Y := (Nat.le_div_iff_mul_le (by omega)).2 (by rw [Nat.mul_comm]; omega)
                omega
              rw [ok_of (inB_true (by omega) (by simp only [g2]; omega)), hSub _ _ (by omega) (by omega)]
              simp only [Option.bind_some]
              have hmod : R' - Y * g = R' % Y := by
                have := Nat.div_add_mod R' Y
                rw [← hgq] at this
                omega
              rw [hmod, isub_eq (by omega) (by omega), Int.toNat_natCast]
              refine ih _ ⟨k, o.set k (g : Int), ?_, by omega, by simp [g2], Dg_set g3 (by omega), ?_, fun j hj => ?_⟩ (by simp only; omega)
              · rw [s2]
              · rw [val_set _ _ _ (by omega), g4, g5 k (by omega), s1, ← hgq, Nat.add_mul, Nat.pow_succ]
                simp only [Int.natCast_add, Int.natCast_mul]
                grind
              · rw [at_set _ _ _ _ (by omega), if_neg (by omega)]
                exact g5 j (by omega)
      · rw [Nat.mod_eq_of_lt hXM]
        congr 2
        omega
      · rw [Nat.div_eq_of_lt hXM, val_replicate_zero]; simp
theorem k_sGcd : Ev fun n => ∀ x y : Nat, (dig x).length ≤ 268435456 → (dig y).length ≤ 268435456 → c_s_l5Gcd ((C B).run n) (dig x) (dig y) = some (dig (Nat.gcd x y), ()) := by
  refine ((k_sTrim (B := B)).and (k_sDiv (B := B))).succ fun n hn ⟨hTrim, hDiv⟩ x y hx hy => ?_
  rw [run_succ, e_s_l5Gcd]
  unfold p_s_l5Gcd
  rw [hTrim _ (by omega), hTrim _ (by omega), strip_dig (dig_Dg x), strip_dig (dig_Dg y), val_dig, val_dig, Int.toNat_natCast, Int.toNat_natCast]
  simp only [Option.bind_some]
  have key : ∀ (m : Nat) (a b : Nat), gm a b ≤ m → ∀ p, p = ((dig b, (dig a, ((), ()))), ()) → gm a b = (fun q : (List Int × (List Int × (Unit × Unit))) × Unit => gm (val q.1.2.1).toNat (val q.1.1).toNat) p := by
    rintro m a b _ p rfl
    simp [val_dig]
  refine iter_const (fun p => ∃ a b : Nat, p = ((dig b, (dig a, ((), ()))), ()) ∧ (dig a).length ≤ 268435456 ∧ (dig b).length ≤ 268435456 ∧ Nat.gcd a b = Nat.gcd x y) (fun q => gm (val q.1.2.1).toNat (val q.1.1).toNat) _ ?_ n _ ?_ ⟨x, y, rfl, hx, hy, rfl⟩
  · rintro rec _ ⟨a, b, rfl, h1, h2, h3⟩ ih
    simp only [ilt_iff, len_eq]
    by_cases hb : b = 0
    · subst hb
      simp only [dig_zero, List.length_nil, show ¬ (0 : Int) < ((0 : Nat) : Int) by omega, decide_false, cond_false]
      rw [← h3, Nat.gcd_zero_right]
    · have hpos := dig_len_pos hb
      simp only [show (0 : Int) < ((dig b).length : Int) by omega, decide_true, cond_true]
      rw [hDiv a b h1 h2 hb]
      simp only [Option.bind_some]
      refine ih _ ⟨b, a % b, rfl, h2, ?_, ?_⟩ ?_
      · have := dig_len_mono (Nat.le_of_lt (Nat.mod_lt a (Nat.pos_of_ne_zero hb))); omega
      · rw [← h3, Nat.gcd_comm a b, Nat.gcd_rec b a, Nat.gcd_comm]
      · simp only [val_dig, Int.toNat_natCast]
        exact gm_step hb
  · simp only [val_dig, Int.toNat_natCast]
    have h1 := bl_len x
    have h2 := bl_len y
    have h3 : gm x y ≤ bl x + bl y + 1 := by unfold gm; split <;> omega
    omega
end Go.Px.Seat
