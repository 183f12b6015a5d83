/- PqA .. PqE (what FnExactFloatShow's claim keeps of them) -/
import Derived.Test.YthallaeafilbbaaGreatDoorM3
set_option linter.unusedVariables false

set_option linter.unusedVariables false
/- Decimal digits, powers of ten: plain. -/
namespace Pm
open Go.Px.Seat
theorem dec_small {n : Nat} (h : n < 10) : dec n = [48 + n] := by rw [dec, dif_pos h]
theorem dec_big {n : Nat} (h : ¬ n < 10) : dec n = dec (n / 10) ++ [48 + n % 10] := by rw [dec, dif_neg h]
theorem dec_bytes : ∀ n : Nat, ∀ x ∈ dec n, 48 ≤ x ∧ x ≤ 57 := by
  intro n
  induction n using Nat.strongRecOn with
  | _ n ih =>
    intro x hx
    by_cases h : n < 10
    · rw [dec_small h, List.mem_singleton] at hx; omega
    · rw [dec_big h] at hx
      rcases List.mem_append.1 hx with hx | hx
      · exact ih _ (by omega) x hx
      · rw [List.mem_singleton] at hx; omega
theorem dec_pos (n : Nat) : 1 ≤ (dec n).length := by
  by_cases h : n < 10
  · rw [dec_small h]; simp
  · rw [dec_big h]; simp
theorem dec_le : ∀ (d n : Nat), 1 ≤ d → n < 10 ^ d → (dec n).length ≤ d
  | 0, _, h, _ => absurd h (by decide)
  | 1, n, _, h => by
    rw [dec_small (by omega)]; simp
  | d + 2, n, _, h => by
    by_cases hs : n < 10
    · rw [dec_small hs]; simp
    · rw [dec_big hs, List.length_append, List.length_singleton]
      have := dec_le (d + 1) (n / 10) (by omega) (by
        rw [Nat.div_lt_iff_lt_mul (by decide)]
        rw [Nat.pow_succ] at h
        exact h)
      omega
theorem dec_ge : ∀ (d n : Nat), 10 ^ d ≤ n → d < (dec n).length
  | 0, n, _ => dec_pos n
  | d + 1, n, h => by
    have hp : 0 < 10 ^ d := Nat.pow_pos (by decide)
    rw [Nat.pow_succ] at h
    have hs : ¬ n < 10 := by omega
    rw [dec_big hs, List.length_append, List.length_singleton]
    have := dec_ge d (n / 10) ((Nat.le_div_iff_mul_le (by decide)).2 h)
    omega
theorem dec_len (n : Nat) : n < 10 ^ (dec n).length ∧ (n ≠ 0 → 10 ^ ((dec n).length - 1) ≤ n) := by
  have hp := dec_pos n
  constructor
  · by_cases h : 10 ^ (dec n).length ≤ n
    · exact absurd (dec_ge _ _ h) (by omega)
    · omega
  · intro h0
    by_cases h : n < 10 ^ ((dec n).length - 1)
    · by_cases h1 : (dec n).length = 1
      · rw [h1] at h
        simp only [Nat.sub_self, Nat.pow_zero] at h
        omega
      · have := dec_le _ _ (by omega) h
        omega
    · omega
def dec4 (n : Nat) : List Nat := [48 + n / 1000 % 10, 48 + n / 100 % 10, 48 + n / 10 % 10, 48 + n % 10]
theorem dec_four {x : Nat} (h : 10000 ≤ x) : dec x = dec (x / 10000) ++ dec4 (x % 10000) := by
  rw [dec_big (by omega), dec_big (n := x / 10) (by omega), dec_big (n := x / 10 / 10) (by omega), dec_big (n := x / 10 / 10 / 10) (by omega)]
  rw [show x / 10 / 10 / 10 / 10 = x / 10000 by omega]
  unfold dec4
  rw [show x % 10000 / 1000 % 10 = x / 10 / 10 / 10 % 10 by omega, show x % 10000 / 100 % 10 = x / 10 / 10 % 10 by omega, show x % 10000 / 10 % 10 = x / 10 % 10 by omega, show x % 10000 % 10 = x % 10 by omega]
  simp
theorem dec4_pad {n : Nat} (h : n < 10000) : List.replicate (4 - (dec n).length) 48 ++ dec n = dec4 n := by
  unfold dec4
  by_cases h1 : n < 10
  · rw [dec_small h1, show n / 1000 % 10 = 0 by omega, show n / 100 % 10 = 0 by omega, show n / 10 % 10 = 0 by omega, show n % 10 = n by omega]; rfl
  rw [dec_big h1]
  by_cases h2 : n / 10 < 10
  · rw [dec_small h2, show n / 1000 % 10 = 0 by omega, show n / 100 % 10 = 0 by omega, show n / 10 % 10 = n / 10 by omega]; rfl
  rw [dec_big h2]
  by_cases h3 : n / 10 / 10 < 10
  · rw [dec_small h3, show n / 1000 % 10 = 0 by omega, show n / 100 % 10 = n / 10 / 10 by omega]; rfl
  rw [dec_big h3, dec_small (n := n / 10 / 10 / 10) (by omega), show n / 1000 % 10 = n / 10 / 10 / 10 by omega, show n / 100 % 10 = n / 10 / 10 % 10 by omega]; rfl
theorem dec_bl (n : Nat) : Go.Px.Bl (dec n) := fun x hx => by have := dec_bytes n x hx; omega
/-! powers of ten -/
def tp (k : Int) : Nat := 10 ^ k.toNat
theorem tp_pos (k : Int) : 0 < tp k := Nat.pow_pos (by decide)
/-- p / q is 10 ^ k at least -/
def G (p q : Nat) (k : Int) : Prop := q * tp k ≤ p * tp (-k)
theorem G_iff {p q : Nat} {k : Int} {m n : Nat} (h : (m : Int) - n = k) : G p q k ↔ q * 10 ^ m ≤ p * 10 ^ n := by
  unfold G tp
  by_cases hk : 0 ≤ k
  · obtain ⟨j, rfl⟩ : ∃ j : Nat, k = j := ⟨k.toNat, by omega⟩
    have hm : m = n + j := by omega
    rw [show (-(j : Int)).toNat = 0 by omega, Int.toNat_natCast, Nat.pow_zero, Nat.mul_one, hm, Nat.pow_add, ← Nat.mul_assoc, Nat.mul_right_comm]
    exact (Nat.mul_le_mul_right_iff (Nat.pow_pos (by decide))).symm
  · obtain ⟨j, rfl⟩ : ∃ j : Nat, k = -(j : Int) := ⟨(-k).toNat, by omega⟩
    have hn : n = m + j := by omega
    rw [show (-(j : Int)).toNat = 0 by omega, show (-(-(j : Int))).toNat = j by omega, Nat.pow_zero, Nat.mul_one, hn, Nat.pow_add, ← Nat.mul_assoc, Nat.mul_right_comm]
    exact (Nat.mul_le_mul_right_iff (Nat.pow_pos (by decide))).symm
theorem G_mono {p q : Nat} {j k : Int} (h : G p q k) (hj : j ≤ k) : G p q j := by
  have h1 := (G_iff (p := p) (q := q) (m := k.toNat + (-j).toNat + (-k).toNat) (n := (-j).toNat + 2 * (-k).toNat) (k := k) (by omega)).1 h
  refine (G_iff (p := p) (q := q) (m := j.toNat + 2 * (-k).toNat) (n := (-j).toNat + 2 * (-k).toNat) (k := j) (by omega)).2 (Nat.le_trans ?_ h1)
  exact Nat.mul_le_mul_left _ (Nat.pow_le_pow_right (by decide) (by omega))
theorem G_ratio {p q p' q' : Nat} {k : Int} (hq : q ≠ 0) (hq' : q' ≠ 0) (h : p * q' = p' * q) : G p q k ↔ G p' q' k := by
  unfold G
  have e1 : q * tp k * q' = q' * tp k * q := by rw [Nat.mul_right_comm, Nat.mul_comm q q', Nat.mul_right_comm]
  have e2 : p * tp (-k) * q' = p' * tp (-k) * q := by rw [Nat.mul_right_comm, h, Nat.mul_right_comm]
  rw [← Nat.mul_le_mul_right_iff (show 0 < q' by omega), e1, e2, Nat.mul_le_mul_right_iff (show 0 < q by omega)]
/-- how many tens: 10 ^ k ≤ p / q < 10 ^ (k + 1) -/
def LG (p q : Nat) (k : Int) : Prop := G p q k ∧ ¬ G p q (k + 1)
theorem LG_uniq {p q : Nat} {j k : Int} (h : LG p q j) (h' : LG p q k) : j = k := by
  have h1 : ¬ j < k := fun hl => h.2 (G_mono h'.1 (by omega))
  have h2 : ¬ k < j := fun hl => h'.2 (G_mono h.1 (by omega))
  omega
theorem LG_ratio {p q p' q' : Nat} {k : Int} (hq : q ≠ 0) (hq' : q' ≠ 0) (h : p * q' = p' * q) : LG p q k ↔ LG p' q' k := by
  unfold LG
  rw [G_ratio hq hq' h, G_ratio hq hq' h]
/-- nine digits' worth -/
theorem LG_nine {p q : Nat} {k : Int} (hq : q ≠ 0) (h : LG p q k) : 10 ^ 8 ≤ p * tp (8 - k) / (q * tp (k - 8)) ∧ p * tp (8 - k) / (q * tp (k - 8)) < 10 ^ 9 := by
  have hp : 0 < q * tp (k - 8) := Nat.mul_pos (by omega) (tp_pos _)
  rw [Nat.le_div_iff_mul_le hp, Nat.div_lt_iff_lt_mul hp]
  have h1 := (G_iff (m := (k - 8).toNat + 8) (n := (8 - k).toNat) (by omega)).1 h.1
  have h2 := fun hh => h.2 ((G_iff (p := p) (q := q) (k := k + 1) (m := (k - 8).toNat + 9) (n := (8 - k).toNat) (by omega)).2 hh)
  unfold tp
  rw [Nat.pow_add, ← Nat.mul_assoc] at h1
  rw [Nat.pow_add, ← Nat.mul_assoc] at h2
  constructor
  · rw [Nat.mul_comm]; exact h1
  · rw [Nat.mul_comm (10 ^ 9)]; exact Nat.lt_of_not_le h2
/-- rounded, upward if asked for -/
def rnd (up : Bool) (a b : Nat) : Nat := a / b + if up = true ∧ a % b ≠ 0 then 1 else 0
theorem rnd_ratio {up : Bool} {a b a' b' : Nat} (hb : 0 < b) (hb' : 0 < b') (h : a * b' = a' * b) : rnd up a b = rnd up a' b' := by
  have e1 : a / b = a' / b' := by
    rw [← Nat.mul_div_mul_right a b hb', h, ← Nat.mul_div_mul_right a' b' hb, Nat.mul_comm b b']
  have e2 : a % b = 0 ↔ a' % b' = 0 := by
    have m1 : a % b * b' = a' % b' * b := by
      rw [← Nat.mul_mod_mul_right b' a b, h, Nat.mul_comm b b', Nat.mul_mod_mul_right]
    constructor
    · intro h0
      rw [h0, Nat.zero_mul] at m1
      rcases Nat.mul_eq_zero.1 m1.symm with h1 | h1
      · exact h1
      · omega
    · intro h0
      rw [h0, Nat.zero_mul] at m1
      rcases Nat.mul_eq_zero.1 m1 with h1 | h1
      · exact h1
      · omega
  unfold rnd
  rw [e1]
  simp only [ne_eq, e2]
/-- the text of a number with nine digits, or ten -/
def shown (k : Int) (N : Nat) : List Nat :=
  (dec N).take 1 ++ ((if (((dec N).drop 1).reverse.dropWhile (· == 48)).reverse = [] then [] else 46 :: (((dec N).drop 1).reverse.dropWhile (· == 48)).reverse) ++
    (if k + (((dec N).length : Int) - 9) = 0 then [] else 101 :: itoa (k + (((dec N).length : Int) - 9))))
theorem itoa_bl (x : Int) : Go.Px.Bl (itoa x) := by
  unfold itoa
  split
  · intro y hy
    rcases List.mem_cons.1 hy with rfl | hy
    · decide
    · exact dec_bl _ y hy
  · exact dec_bl _
theorem itoa_len {x : Int} (h : -1000 < x) (h' : x < 1000) : (itoa x).length ≤ 4 := by
  unfold itoa
  split
  · have := dec_le 3 x.natAbs (by decide) (by omega)
    simp only [List.length_cons]; omega
  · have := dec_le 3 x.toNat (by decide) (by omega)
    omega
theorem trim_len (l : List Nat) (c : Nat) : (l.reverse.dropWhile (· == c)).reverse.length ≤ l.length := by
  rw [List.length_reverse]
  have := (List.dropWhile_sublist (p := (· == c)) (l := l.reverse)).length_le
  rw [List.length_reverse] at this
  exact this
end Pm

/- Numbers written in decimals, powers of ten: both sides. -/
namespace Pm
open Go.Px.Seat
theorem dig_ten (k : Nat) : (dig (10 ^ k)).length ≤ k + 1 := by
  rw [dig_len_le]
  have h1 : 10 ^ k ≤ 65536 ^ k := Nat.pow_le_pow_left (by decide) k
  have h2 : 65536 ^ k < 65536 ^ (k + 1) := Nat.pow_lt_pow_right (by decide) (Nat.lt_succ_self k)
  omega
theorem dec_dig (x : Nat) : (dec x).length ≤ 5 * (dig x).length + 1 := by
  refine dec_le _ _ (by omega) ?_
  have h1 := dig_lt_pow x
  have h2 : 65536 ^ (dig x).length ≤ (10 ^ 5) ^ (dig x).length := Nat.pow_le_pow_left (by decide) _
  rw [← Nat.pow_mul] at h2
  have h3 : 10 ^ (5 * (dig x).length) < 10 ^ (5 * (dig x).length + 1) := Nat.pow_lt_pow_right (by decide) (Nat.lt_succ_self _)
  omega
theorem flat_rep (c x : Nat) : (List.replicate c [x]).flatten = List.replicate c x := by
  induction c with
  | zero => rfl
  | succ c ih => rw [List.replicate_succ, List.replicate_succ, List.flatten_cons, ih]; rfl
end Pm
namespace Go.Px.Seat
open Go Pm
set_option linter.unusedVariables false
theorem wrapu8 {x : Int} (h : 0 ≤ x) (h' : x < 256) : IntKind.u8.wrap x = x := by
  simp [IntKind.wrap, IntKind.bits, IntKind.signed]
  omega
theorem ofInts_bs (l : List Nat) : ofInts (l.map Int.ofNat) = bs l := by
  have key : ∀ (l : List Nat) (r : ByteArray), ((l.map Int.ofNat).foldl (fun r n => r.push (UInt8.ofNat n.toNat)) r).data.toList = r.data.toList ++ l.map UInt8.ofNat := by
    intro l
    induction l with
    | nil => intro r; simp
    | cons x l ih =>
      intro r
      rw [List.map_cons, List.foldl_cons, ih, List.map_cons]
      simp
  refine ByteArray.ext (Array.toList_inj.1 ?_)
  unfold ofInts
  rw [key l ByteArray.empty]
  simp [bs]
theorem k_ten : Ev fun n => ∀ k : Nat, k ≤ 10000 → c_i_ten ((C B0).run n) (k : Int) = some (dig (10 ^ k), ()) := by
  refine (k_natMul (B := B0)).succ fun n hn km k hk => ?_
  rw [run_succ, e_i_ten]
  unfold p_i_ten
  refine iter_const (fun p => ∃ i : Nat, p = (((i : Int), ((k : Int), (dig (10 ^ i), ((), ())))), ()) ∧ i ≤ k) (fun p => (20000 - p.1.1).toNat) _ ?_ n _ (by simp only; omega) ⟨0, by rw [Nat.pow_zero, ← dig_one (d := 1) (by decide) (by decide)]; rfl, Nat.zero_le _⟩
  rintro rec _ ⟨i, rfl, hi⟩ ih
  dsimp only
  rw [ilt_iff]
  by_cases h : i < k
  · have hl := dig_ten i
    rw [decide_eq_true (by omega), cond_true, show ([10] : List Int) = dig 10 from dig_one (d := 10) (by decide) (by decide), km _ _ (by omega) (by decide +kernel), ← Nat.pow_succ]
    simp only [Option.bind_some]
    rw [iadd_eq (by omega) (by omega)]
    exact ih _ ⟨i + 1, by simp, by omega⟩ (by simp only; omega)
  · rw [decide_eq_false (by omega), cond_false, show i = k by omega]
theorem k_s7Tens : Ev fun n => ∀ k : Nat, k ≤ 10000 → c_s_l7Tens ((C B0).run n) (k : Int) = some (dig (10 ^ k), ()) := by
  refine (k_sTimes (B := B0)).succ fun n hn km k hk => ?_
  rw [run_succ, e_s_l7Tens]
  unfold p_s_l7Tens
  refine iter_const (fun p => ∃ i : Nat, p = (((i : Int), ((k : Int), (dig (10 ^ i), ((), ())))), ()) ∧ i ≤ k) (fun p => (20000 - p.1.1).toNat) _ ?_ n _ (by simp only; omega) ⟨0, by rw [Nat.pow_zero, ← dig_one (d := 1) (by decide) (by decide)]; rfl, Nat.zero_le _⟩
  rintro rec _ ⟨i, rfl, hi⟩ ih
  dsimp only
  rw [ilt_iff]
  by_cases h : i < k
  · have hl := dig_ten i
    rw [decide_eq_true (by omega), cond_true]
    have := km (10 ^ i) 10 (by omega) (by decide)
    rw [show (((10 : Nat) : Int)) = 10 from rfl] at this
    rw [this, ← Nat.pow_succ]
    simp only [Option.bind_some]
    rw [iadd_eq (by omega) (by omega)]
    exact ih _ ⟨i + 1, by simp, by omega⟩ (by simp only; omega)
  · rw [decide_eq_false (by omega), cond_false, show i = k by omega]
theorem k_s22Tens : Ev fun n => ∀ k : Int, -10000 ≤ k → k ≤ 10000 → c_s_l22Tens ((C B0).run n) k = some (false, (dig (tp k), (dig (tp (-k)), ()))) := by
  refine k_s7Tens.succ fun n hn kt k h1 h2 => ?_
  rw [run_succ, e_s_l22Tens]
  unfold p_s_l22Tens tp
  have e1 : ([1] : List Int) = dig 1 := dig_one (d := 1) (by decide) (by decide)
  rw [ilt_iff]
  by_cases h : k < 0
  · rw [decide_eq_true h, cond_true, ineg_eq (by omega) (by omega), show -k = (((-k).toNat : Nat) : Int) by omega, kt _ (by omega), e1, show k.toNat = 0 by omega]
    rfl
  · rw [decide_eq_false h, cond_false]
    conv => lhs; rw [show k = ((k.toNat : Nat) : Int) by omega]
    rw [kt _ (by omega), e1, show (-k).toNat = 0 by omega]
    rfl
theorem k_natText : Ev fun n => ∀ x : Nat, (dig x).length ≤ 4000 → c_i_natText ((C B0).run n) (dig x) = some (bs (dec x), ()) := by
  refine (k_natDiv.and (k_Itoa.and k_Repeat)).succ fun n hn ⟨kd, ki, kr⟩ x hx => ?_
  rw [run_succ, e_i_natText]
  unfold p_i_natText
  have hdx := dec_dig x
  by_cases hx0 : x = 0
  · subst hx0
    rw [dig_zero, dec_small (by decide)]; rfl
  have hlp := dig_len_pos hx0
  rw [len_eq, beq_f (by omega), cond_false]
  have m0 : (if dig x = [] then 0 else (dec (val (dig x)).toNat).length) < n := by
    rw [val_dig, Int.toNat_natCast]
    split <;> omega
  refine iter_const (fun p => ∃ (a : Nat) (out : List Nat), p = ((dig a, (bs out, (bs [], ()))), ()) ∧ a ≤ x ∧ Bl out ∧ dec x = (if a = 0 then [] else dec a) ++ out) (fun p => if p.1.1 = [] then 0 else (dec (val p.1.1).toNat).length) _ ?_ n _ m0 ⟨x, [], rfl, Nat.le_refl _, fun y hy => (by cases hy), by rw [if_neg hx0, List.append_nil]⟩
  rintro rec _ ⟨a, out, rfl, ha, hb, hd⟩ ih
  dsimp only
  rw [len_eq, ilt_iff]
  by_cases ha0 : a = 0
  · subst ha0
    rw [if_pos rfl, List.nil_append] at hd
    rw [dig_zero, hd]; rfl
  have hal := dig_len_pos ha0
  have hal2 := dig_len_mono ha
  have hmod : a % 10000 < 10000 := Nat.mod_lt _ (by decide)
  rw [if_neg ha0] at hd
  have e10 : ([10000] : List Int) = dig 10000 := dig_one (d := 10000) (by decide) (by decide)
  rw [decide_eq_true (by omega), cond_true, e10, kd a 10000 (by omega) (by rw [← e10]; decide) (by decide)]
  simp only [Option.bind_some]
  rw [jb_of (p := ((((a % 10000 : Nat) : Int), (dig (a / 10000), (bs out, (dig a, (bs [], ()))))), ())) (by
    rw [len_eq, ilt_iff]
    by_cases h0 : a % 10000 = 0
    · rw [h0, dig_zero]; rfl
    · rw [dig_of_lt (by omega) h0]; rfl)]
  dsimp only
  rw [ki _ (by omega) (by omega)]
  have hit : itoa ((a % 10000 : Nat) : Int) = dec (a % 10000) := by
    unfold itoa
    rw [if_neg (by omega), Int.toNat_natCast]
  have hdl := dec_le 4 (a % 10000) (by decide) (by omega)
  have houtl : out.length ≤ (dec x).length := by rw [hd, List.length_append]; omega
  rw [hit]
  simp only [Option.bind_some]
  obtain ⟨part, hpart⟩ : ∃ part, part = if a / 10000 = 0 then dec a else dec4 (a % 10000) := ⟨_, rfl⟩
  have hpl : part.length ≤ 4 := by
    rw [hpart]
    split
    · exact dec_le 4 a (by decide) (by omega)
    · exact Nat.le_refl 4
  have hpb : Bl part := by
    rw [hpart]
    split
    · exact dec_bl _
    · intro y hy
      simp only [dec4, List.mem_cons, List.not_mem_nil, or_false] at hy
      omega
  have hda : dec a = (if a / 10000 = 0 then [] else dec (a / 10000)) ++ part := by
    rw [hpart]
    by_cases h0 : a / 10000 = 0
    · rw [if_pos h0, if_pos h0]; rfl
    · rw [if_neg h0, if_neg h0]; exact dec_four (by omega)
  rw [jb_of (p := ((bs part, (bs out, (dig (a / 10000), (dig a, (bs [], ()))))), ())) (by
    rw [len_eq, ilt_iff]
    by_cases h0 : a / 10000 = 0
    · rw [h0, dig_zero, hpart, if_pos h0, show a % 10000 = a by omega]; rfl
    · have := dig_len_pos h0
      rw [decide_eq_true (by omega), cond_true, bs_len, isub_eq (by omega) (by omega), show (4 : Int) - ((dec (a % 10000)).length : Int) = ((4 - (dec (a % 10000)).length : Nat) : Int) by omega, kr [48] _ (fun y hy => by rw [List.mem_singleton.1 hy]; decide) (by simp; omega) (by omega), flat_rep]
      simp only [Option.bind_some]
      rw [bs_sok, ok_of (decide_eq_true (by rw [List.length_replicate]; omega)), bs_app, dec4_pad hmod, hpart, if_neg h0])]
  dsimp only
  rw [bs_sok, ok_of (decide_eq_true (by omega)), bs_app]
  refine ih _ ⟨a / 10000, part ++ out, rfl, by omega, bl_app.2 ⟨hpb, hb⟩, by rw [hd, hda, List.append_assoc]⟩ ?_
  simp only
  rw [if_neg (show ¬ dig a = [] from fun h => ha0 (dig_eq_nil.1 h)), val_dig, val_dig, Int.toNat_natCast, Int.toNat_natCast]
  have hp := dec_pos a
  split
  · omega
  · rename_i hq
    have hq0 : a / 10000 ≠ 0 := fun h => hq (dig_eq_nil.2 h)
    rw [dec_four (x := a) (by omega), List.length_append]
    show (dec (a / 10000)).length < (dec (a / 10000)).length + 4
    omega
theorem k_sNatText : Ev fun n => ∀ x : Nat, x < 65536 ^ 256 → c_s_NatText ((C B0).run n) (dig x) = some (bs (dec x), ()) := by
  refine ((k_sNatOk (B := B0)).and (k_sDivSmall (B := B0))).succ fun n hn ⟨kn, kd⟩ x hx => ?_
  rw [run_succ, e_s_NatText]
  unfold p_s_NatText
  have hxl : (dig x).length ≤ 256 := dig_len_le.2 hx
  rw [kn, nok_dig, decide_eq_true hx]
  simp only [Option.bind_some]
  rw [Bool.not_true, cond_false]
  have hdx := dec_dig x
  by_cases hx0 : x = 0
  · subst hx0
    rw [dig_zero, dec_small (by decide)]; rfl
  have hlp := dig_len_pos hx0
  rw [len_eq, beq_f (by omega), cond_false]
  have m0 : (if dig x = [] then 0 else (dec (val (dig x)).toNat).length) < n := by
    rw [val_dig, Int.toNat_natCast]
    split <;> omega
  have aok1 : ∀ s : List Int, s.length ≤ 10000 → aok s 1 = true := fun s hs => aok_true (by omega)
  refine iter_const (fun p => ∃ (a : Nat) (E : List Nat), p = ((dig a, ((), (bs [], ()))), ((E.map Int.ofNat).reverse, ())) ∧ a ≤ x ∧ dec x = (if a = 0 then [] else dec a) ++ E) (fun p => if p.1.1 = [] then 0 else (dec (val p.1.1).toNat).length) _ ?_ n _ m0 ⟨x, [], rfl, Nat.le_refl _, by rw [if_neg hx0, List.append_nil]⟩
  rintro rec _ ⟨a, E, rfl, ha, hd⟩ ih
  dsimp only
  have hEl : E.length ≤ (dec x).length := by rw [hd, List.length_append]; omega
  rw [len_eq, ilt_iff]
  by_cases ha0 : a = 0
  · subst ha0
    rw [if_pos rfl, List.nil_append] at hd
    rw [dig_zero, hd]
    simp only [List.length_nil]
    rw [decide_eq_false (by decide), cond_false, len_eq, List.length_reverse, List.length_map, isub_eq (by omega) (by omega)]
    obtain ⟨Z, hZ⟩ : ∃ Z, Z = E.map Int.ofNat := ⟨_, rfl⟩
    have hZl : Z.length = E.length := by rw [hZ, List.length_map]
    rw [← hZ]
    refine iter_const (fun p => ∃ i : Nat, p = (((i : Int) - 1, ((), ((), (bs [], ())))), (Z.take (Z.length - i), (Z.reverse, ()))) ∧ i ≤ Z.length) (fun p => (p.1.1 + 1).toNat) _ ?_ n _ (by simp only; omega) ⟨Z.length, by rw [hZl, Nat.sub_self]; rfl, Nat.le_refl _⟩
    rintro rec2 _ ⟨i, rfl, hi⟩ ih2
    dsimp only
    rw [ile_iff]
    by_cases hi0 : i = 0
    · subst hi0
      rw [decide_eq_false (by omega), cond_false]
      simp only [Nat.sub_zero, List.take_length]
      rw [hZ, ofInts_bs]
    · rw [decide_eq_true (by omega), cond_true, ok_of (inB_true (by omega) (by rw [len_eq, List.length_reverse]; omega)), ok_of (aok1 _ (by rw [List.length_append, List.length_take, List.length_singleton]; omega)), isub_eq (by omega) (by omega)]
      refine ih2 _ ⟨i - 1, ?_, by omega⟩ (by simp only; omega)
      have e1 : ((i : Int) - 1).toNat = i - 1 := by omega
      have e2 : Z.reverse.getD (i - 1) 0 = Z.getD (Z.length - i) 0 := by
        rw [List.getD_eq_getElem?_getD, List.getElem?_reverse (by omega), List.getD_eq_getElem?_getD]
        congr 2
        omega
      rw [e1, e2]
      refine Prod.ext (Prod.ext (by simp only; omega) rfl) (Prod.ext ?_ rfl)
      simp only
      rw [show Z.length - (i - 1) = Z.length - i + 1 by omega, List.take_add_one, List.getD_eq_getElem?_getD]
      rw [List.getElem?_eq_getElem (by omega)]
      rfl
  have hal := dig_len_pos ha0
  have hal2 := dig_len_mono ha
  rw [if_neg ha0] at hd
  have := kd a 10 (by omega) (by decide) (by decide)
  rw [show (((10 : Nat) : Int)) = 10 from rfl] at this
  rw [decide_eq_true (by omega), cond_true, this]
  simp only [Option.bind_some]
  rw [iadd_eq (by omega) (by omega), wrapu8 (by omega) (by omega), ok_of (aok1 _ (by rw [List.length_append, List.length_reverse, List.length_map, List.length_singleton]; omega))]
  refine ih _ ⟨a / 10, (48 + a % 10) :: E, ?_, by omega, ?_⟩ ?_
  · refine Prod.ext rfl (Prod.ext ?_ rfl)
    simp
  · rw [hd]
    by_cases h0 : a < 10
    · rw [dec_small h0, if_pos (by omega), show a % 10 = a by omega]; rfl
    · rw [dec_big h0, if_neg (by omega), List.append_assoc]; rfl
  · simp only
    rw [if_neg (show ¬ dig a = [] from fun h => ha0 (dig_eq_nil.1 h)), val_dig, val_dig, Int.toNat_natCast, Int.toNat_natCast]
    have hp := dec_pos a
    split
    · omega
    · rename_i hq
      have hq0 : a / 10 ≠ 0 := fun h => hq (dig_eq_nil.2 h)
      rw [dec_big (n := a) (by omega), List.length_append]
      show (dec (a / 10)).length < (dec (a / 10)).length + 1
      omega
end Go.Px.Seat

/- Rules for calls that come to something. -/
namespace Go.Px
open Go Pm
/-- It comes to something of which Q holds. -/
def Tot {R : Type} (x : Option R) (Q : R → Prop) : Prop := ∃ r, x = some r ∧ Q r
section
variable {R P α : Type} {Q : R → Prop}
theorem tot_iter {F : (P → Option R) → P → Option R} {n : Nat} {p : P} (I : P → Prop) (m : P → Nat) (hm : m p < n) (hI : I p)
    (step : ∀ rec p, I p → (∀ q, I q → m q < m p → Tot (rec q) Q) → Tot (F rec p) Q) : Tot (iter F n p) Q :=
  iter_ex I m Q step n p hm hI
end
/-- A text of bytes, not longer than so many. -/
def Txt (k : Nat) (s : ByteArray) : Prop := ∃ l, s = bs l ∧ Bl l ∧ l.length ≤ k
theorem Txt.mono {k k' : Nat} {s : ByteArray} (h : Txt k s) (hk : k ≤ k') : Txt k' s := let ⟨l, h1, h2, h3⟩ := h; ⟨l, h1, h2, Nat.le_trans h3 hk⟩
theorem Txt.sok {k k' : Nat} {s t : ByteArray} (h : Txt k s) (h' : Txt k' t) (hk : k + k' ≤ 140737488355328) : sok s t = true := by
  obtain ⟨l, rfl, h2, h3⟩ := h
  obtain ⟨l', rfl, h5, h6⟩ := h'
  rw [bs_sok]
  exact decide_eq_true (by omega)
end Go.Px

/- Numbers shown with nine digits: the reference. -/
namespace Pm
open Go.Px.Seat
theorem tp_len {k : Int} (h : k ≤ 2000) : (dig (tp k)).length ≤ 2001 := by
  unfold tp
  have := dig_ten k.toNat
  omega
theorem tp_one {k : Int} (h : k ≤ 0) : tp k = 1 := by unfold tp; rw [show k.toNat = 0 by omega]
theorem rnd_le {up : Bool} {a b : Nat} : a / b ≤ rnd up a b ∧ rnd up a b ≤ a / b + 1 := by
  unfold rnd
  split <;> omega
theorem shown_len {p q : Nat} {k : Int} {up : Bool} (hq : q ≠ 0) (h : LG p q k) : (dec (rnd up (p * tp (8 - k)) (q * tp (k - 8)))).length = 9 ∨ (dec (rnd up (p * tp (8 - k)) (q * tp (k - 8)))).length = 10 := by
  obtain ⟨h1, h2⟩ := LG_nine hq h
  obtain ⟨h3, h4⟩ := rnd_le (up := up) (a := p * tp (8 - k)) (b := q * tp (k - 8))
  have h5 := dec_ge 8 _ (Nat.le_trans h1 h3)
  have h6 := dec_le 10 (rnd up (p * tp (8 - k)) (q * tp (k - 8))) (by decide) (by omega)
  omega
/-- what is left when noughts at the end are struck -/
theorem trim_step {l : List Nat} : ((l ++ [48]).reverse.dropWhile (· == 48)).reverse = (l.reverse.dropWhile (· == 48)).reverse := by
  rw [List.reverse_append]; rfl
theorem trim_stop {l : List Nat} {c : Nat} (h : c ≠ 48) : ((l ++ [c]).reverse.dropWhile (· == 48)).reverse = l ++ [c] := by
  rw [List.reverse_append, List.reverse_singleton, List.singleton_append, List.dropWhile_cons, if_neg (by simpa using h), List.reverse_cons, List.reverse_reverse]
theorem take_last' {d : List Nat} {m : Nat} (h1 : 1 < m) (h : m ≤ d.length) : (d.take m).drop 1 = (d.take (m - 1)).drop 1 ++ [d.getD (m - 1) 0] := by
  obtain ⟨j, rfl⟩ : ∃ j, m = j + 1 := ⟨m - 1, by omega⟩
  rw [Nat.add_sub_cancel, List.take_add_one, List.getElem?_eq_getElem (by omega), List.drop_append_of_le_length (by rw [List.length_take]; omega), List.getD_eq_getElem?_getD, List.getElem?_eq_getElem (by omega)]
  rfl
end Pm
namespace Go.Px.Seat
open Go Pm
set_option linter.unusedVariables false
theorem tot_LG {p q : Nat} {x : Option (Int × Unit)} {Q : Int × Unit → Prop} (h : Tot x Q) (hQ : ∀ r, Q r → ∃ k, r = (k, ()) ∧ LG p q k ∧ -400 ≤ k ∧ k ≤ 400 := by exact fun r h => h) : ∃ k : Int, x = some (k, ()) ∧ LG p q k ∧ -400 ≤ k ∧ k ≤ 400 := by
  obtain ⟨r, h1, h2⟩ := h
  obtain ⟨k, rfl, h3⟩ := hQ r h2
  exact ⟨k, h1, h3⟩
theorem one_dg : ([1] : List Int) = dig 1 := dig_one (d := 1) (by decide) (by decide)
theorem k_s21Int : Ev fun n => ∀ k : Int, -1000 < k → k < 1000 → c_s_l21Int ((C B0).run n) k = some (bs (itoa k), ()) := by
  have hI : Ev fun n => ∀ k : Int, -1000 < k → k < 1000 → c_s_FracInt ((C B0).run n) k = some (decide (k < 0), (dig k.natAbs, ([1], ()))) := by
    refine (k_sNatOf (B := B0)).succ fun n hn hO k h1 h2 => ?_
    rw [run_succ, e_s_FracInt]
    unfold p_s_FracInt
    rw [ilt_iff]
    by_cases h : k < 0
    · have e : ineg .u64 (IntKind.u64.wrap k) = ((k.natAbs : Nat) : Int) := by
        unfold ineg
        simp only [IntKind.wrap, IntKind.bits, IntKind.signed]
        simp
        omega
      rw [decide_eq_true h, cond_true, e, hO _ (by omega)]
      rfl
    · rw [decide_eq_false h, cond_false, wrapu64 (by omega) (by omega), show k = ((k.natAbs : Nat) : Int) by omega, hO _ (by omega)]
      rfl
  have hT : Ev fun n => ∀ k : Int, -1000 < k → k < 1000 → c_s_FracText ((C B0).run n) (decide (k < 0)) (dig k.natAbs) [1] = some (bs (itoa k), ()) := by
    refine ((k_sFracOk (B := B0)).and (k_sNatText.and (k_sOne (B := B0)))).succ fun n hn ⟨ho, ht, h1'⟩ k h1 h2 => ?_
    rw [run_succ, e_s_FracText]
    unfold p_s_FracText
    have hbig : k.natAbs < 65536 ^ 256 := by
      have : 65536 ^ 1 ≤ 65536 ^ 256 := Nat.pow_le_pow_right (by decide) (by decide)
      omega
    have hf : fok (decide (k < 0)) (dig k.natAbs) [1] = true := by
      refine fok_iff.2 ⟨(k : Rat), ?_, ?_, ?_, ?_⟩
      · refine ⟨by simpa using hbig, ?_⟩
        rw [Rat.den_intCast]
        exact Nat.one_lt_pow (by decide) (by decide)
      · show decide (k < 0) = decide ((k : Rat).num < 0)
        rw [Rat.num_intCast]
      · simp [ft]
      · simp only [fq, Rat.den_intCast]
        exact one_dg
    rw [ho, hf]
    simp only [Option.bind_some]
    rw [Bool.not_true, cond_false, ht _ hbig]
    simp only [Option.bind_some]
    have hl := dec_le 3 k.natAbs (by decide) (by omega)
    rw [jb_of (p := (((), (bs (itoa k), (bs [], ()))), ((decide (k < 0), (dig k.natAbs, ([1], ()))), ()))) (by
      unfold itoa
      by_cases h : k < 0
      · rw [decide_eq_true h, if_pos h, cond_true, bs_sok, ok_of (decide_eq_true (by simp only [List.length_singleton]; omega)), bs_app]; rfl
      · rw [decide_eq_false h, if_neg h, cond_false, show k.toNat = k.natAbs by omega])]
    dsimp only
    rw [one_dg, h1' 1]
    rfl
  refine (hI.and hT).succ fun n hn ⟨hi, ht⟩ k h1 h2 => ?_
  rw [run_succ, e_s_l21Int]
  unfold p_s_l21Int
  rw [hi k h1 h2]
  simp only [Option.bind_some]
  rw [ht k h1 h2]
  rfl
theorem cmp_le (x y : Int) : ile (if x < y then (-1 : Int) else if y < x then 1 else 0) 0 = decide (x ≤ y) := by
  rw [ile_iff]
  refine decide_eq_decide.2 ?_
  split
  · omega
  · split <;> omega
theorem k_s22Power : Ev fun n => ∀ p q : Nat, q ≠ 0 → (dig p).length ≤ 4000 → (dig q).length ≤ 4000 → G p q (-400) → ¬ G p q 401 → ∃ k : Int, c_s_l22Power ((C B0).run n) false (dig p) (dig q) = some (k, ()) ∧ LG p q k ∧ -400 ≤ k ∧ k ≤ 400 := by
  refine (k_s22Tens.and (k_sCmpN (B := B0))).succ fun n hn ⟨kt, kc⟩ p q hq hp hql hlo hhi => ?_
  rw [run_succ, e_s_l22Power]
  unfold p_s_l22Power
  refine (tot_LG (Q := fun r : Int × Unit => ∃ k, r = (k, ()) ∧ LG p q k ∧ -400 ≤ k ∧ k ≤ 400) (tot_iter (fun s => ∃ lo hi : Int, s = ((lo, (hi, ((), (0, ())))), ((false, (dig p, (dig q, ()))), ())) ∧ -400 ≤ lo ∧ lo ≤ hi ∧ hi ≤ 400 ∧ G p q lo ∧ ¬ G p q (hi + 1)) (fun s => (s.1.2.1 - s.1.1).toNat) (by simp only; omega) ⟨-400, 400, rfl, by omega, by omega, by omega, hlo, hhi⟩ ?_))
  rintro rec _ ⟨lo, hi, rfl, h1, h2, h3, h4, h5⟩ ih
  dsimp only
  rw [ilt_iff]
  by_cases hlt : lo < hi
  · rw [decide_eq_true hlt, cond_true, isub_eq (x := hi) (y := lo) (by omega) (by omega), iquo_eq (by omega) (by omega) (by omega), isub_eq (by omega) (by omega)]
    obtain ⟨m, hm⟩ : ∃ m, m = hi - (hi - lo) / 2 := ⟨_, rfl⟩
    rw [← hm, kt m (by omega) (by omega)]
    simp only [Option.bind_some]
    have l1 := tp_len (k := m) (by omega)
    have l2 := tp_len (k := -m) (by omega)
    rw [kc false false _ _ p q (Nat.ne_of_gt (tp_pos _)) hq (by omega) (by omega) (by omega) (by omega), cmpR_mk (Nat.ne_of_gt (tp_pos _)) hq]
    simp only [Option.bind_some]
    rw [cmp_le]
    have hG : (sg false (tp m) * (q : Int) ≤ sg false p * (tp (-m) : Int)) ↔ G p q m := by
      unfold G sg
      simp only [Bool.false_eq_true, if_false]
      rw [Nat.mul_comm q]
      exact_mod_cast Iff.rfl
    by_cases hg : G p q m
    · rw [decide_eq_true (hG.2 hg), cond_true]
      exact ih _ ⟨m, hi, rfl, by omega, by omega, by omega, hg, h5⟩ (by simp only; omega)
    · rw [decide_eq_false (fun h => hg (hG.1 h)), cond_false, isub_eq (by omega) (by omega)]
      exact ih _ ⟨lo, m - 1, rfl, by omega, by omega, by omega, h4, by rw [show m - 1 + 1 = m by omega]; exact hg⟩ (by simp only; omega)
  · rw [decide_eq_false hlt, cond_false]
    have : lo = hi := by omega
    subst this
    exact ⟨_, rfl, lo, rfl, ⟨h4, h5⟩, by omega, by omega⟩
theorem k_s22Size : Ev fun n => ∀ (p q : Nat) (up : Bool) (k : Int), q ≠ 0 → (dig p).length ≤ 4000 → (dig q).length ≤ 4000 → LG p q k → G p q (-400) → ¬ G p q 401 → c_s_l22Size ((C B0).run n) false (dig p) (dig q) up = some (bs (shown k (rnd up (p * tp (8 - k)) (q * tp (k - 8)))), ()) := by
  refine (k_s22Power.and (k_s22Tens.and ((k_sMul (B := B0)).and ((k_sDiv (B := B0)).and ((k_sAdd (B := B0)).and (k_sNatText.and k_s21Int)))))).succ fun n hn ⟨kp, kt, km, kd, ka, kn, ki⟩ p q up k hq hpl hql hk hlo hhi => ?_
  rw [run_succ, e_s_l22Size]
  unfold p_s_l22Size
  obtain ⟨k', hk', hL, hk1, hk2⟩ := kp p q hq hpl hql hlo hhi
  obtain rfl := LG_uniq hk hL
  rw [hk']
  simp only [Option.bind_some]
  have l1 := tp_len (k := 8 - k) (by omega)
  have l2 := tp_len (k := k - 8) (by omega)
  rw [isub_eq (by omega) (by omega), iadd_eq (by omega) (by omega), show k - 9 + 1 = k - 8 by omega, kt _ (by omega) (by omega), show -(k - 8) = 8 - k by omega]
  simp only [Option.bind_some]
  rw [km p _ (by omega) (by omega)]
  simp only [Option.bind_some]
  rw [km q _ (by omega) (by omega)]
  simp only [Option.bind_some]
  have l3 := len_dig_mul p (tp (8 - k))
  have l4 := len_dig_mul q (tp (k - 8))
  have hb0 : 0 < q * tp (k - 8) := Nat.mul_pos (by omega) (tp_pos _)
  rw [kd _ _ (by omega) (by omega) (by omega)]
  simp only [Option.bind_some]
  have h9 := LG_nine hq hk
  have hdl := shown_len (up := up) hq hk
  obtain ⟨A, hA⟩ : ∃ A, A = p * tp (8 - k) := ⟨_, rfl⟩
  obtain ⟨D, hD⟩ : ∃ D, D = q * tp (k - 8) := ⟨_, rfl⟩
  rw [← hA, ← hD] at h9 hdl ⊢
  rw [← hD] at hb0
  have hql2 : (dig (A / D)).length ≤ 10 := dig_len_le.2 (Nat.lt_of_lt_of_le h9.2 (by decide))
  obtain ⟨N, hN⟩ : ∃ N, N = rnd up A D := ⟨_, rfl⟩
  rw [jb_of (p := ((dig N, (k, (bs [], ()))), ())) (by
    rw [jb_of (p := (((up && decide (A % D ≠ 0)), (dig (A / D), (k, (bs [], ())))), ())) (by
      cases up with
      | false => rfl
      | true =>
        rw [cond_true, len_eq, ilt_iff, Bool.true_and]
        by_cases h0 : A % D = 0
        · rw [h0, dig_zero]; rfl
        · have := dig_len_pos h0
          rw [decide_eq_true (by omega), decide_eq_true h0])]
    dsimp only
    rw [hN]
    unfold rnd
    by_cases h0 : up = true ∧ A % D ≠ 0
    · rw [if_pos h0, h0.1, decide_eq_true h0.2, Bool.true_and, cond_true, one_dg, ka _ _ (by omega) (by rw [← one_dg]; decide)]
      rfl
    · rw [if_neg h0, show (up && decide (A % D ≠ 0)) = false from by
        cases up with
        | false => rfl
        | true =>
          rw [Bool.true_and]
          exact decide_eq_false (fun h => h0 ⟨rfl, h⟩)]
      rfl)]
  dsimp only
  have hNle : N ≤ 1000000000 := by
    have := (rnd_le (up := up) (a := A) (b := D)).2
    rw [hN]
    omega
  have hNb : N < 65536 ^ 256 := by
    have : 65536 ^ 2 ≤ 65536 ^ 256 := Nat.pow_le_pow_right (by decide) (by decide)
    omega
  rw [kn N hNb, ← hN]
  rw [← hN] at hdl
  simp only [Option.bind_some]
  have hdb := dec_bl N
  obtain ⟨d, hd⟩ : ∃ d, d = dec N := ⟨_, rfl⟩
  rw [← hd] at hdl hdb ⊢
  have hshown : shown k N = d.take 1 ++ ((if ((d.drop 1).reverse.dropWhile (· == 48)).reverse = [] then [] else 46 :: ((d.drop 1).reverse.dropWhile (· == 48)).reverse) ++ (if k + ((d.length : Int) - 9) = 0 then [] else 101 :: itoa (k + ((d.length : Int) - 9)))) := by
    rw [hd]; rfl
  rw [jb_of (p := ((bs d, (k + ((d.length : Int) - 9), (bs [], ()))), ())) (by
    rw [bs_len, ilt_iff]
    rcases hdl with h | h
    · rw [h, decide_eq_false (by decide), show k + (((9 : Nat) : Int) - 9) = k by omega]; rfl
    · rw [h, decide_eq_true (by decide), cond_true, iadd_eq (by omega) (by omega), show k + (((10 : Nat) : Int) - 9) = k + 1 by omega])]
  dsimp only
  rw [hshown]
  obtain ⟨K, hK⟩ : ∃ K, K = k + ((d.length : Int) - 9) := ⟨_, rfl⟩
  have hKb : -1000 < K ∧ K < 1000 := by rw [hK]; omega
  rw [← hK, bs_len]
  refine iter_const (fun s => ∃ m : Nat, s = (((m : Int), (bs d, (K, (bs [], ())))), ()) ∧ 1 ≤ m ∧ m ≤ d.length ∧ ((d.drop 1).reverse.dropWhile (· == 48)).reverse = (((d.take m).drop 1).reverse.dropWhile (· == 48)).reverse) (fun s => s.1.1.toNat) _ ?_ n _ (by simp only; omega) ⟨d.length, rfl, by omega, Nat.le_refl _, by rw [List.take_length]⟩
  rintro rec _ ⟨m, rfl, hm1, hm2, htr⟩ ih
  dsimp only
  rw [jb_of (p := ((decide (1 < m ∧ d.getD (m - 1) 0 = 48), ((m : Int), (bs d, (K, (bs [], ()))))), ())) (by
    rw [ilt_iff]
    by_cases h1 : 1 < m
    · rw [decide_eq_true (show (1 : Int) < m by omega), cond_true, isub_eq (by omega) (by omega), bs_len, ok_of (inB_true (by omega) (by omega)), show (m : Int) - 1 = ((m - 1 : Nat) : Int) by omega, bs_bt hdb]
      by_cases h48 : d.getD (m - 1) 0 = 48
      · rw [decide_eq_true ⟨h1, h48⟩, h48]; rfl
      · rw [decide_eq_false (fun h => h48 h.2), beq_f (by omega)]
    · rw [decide_eq_false (show ¬ (1 : Int) < m by omega), decide_eq_false (fun h => h1 h.1)]; rfl)]
  dsimp only
  by_cases hgo : 1 < m ∧ d.getD (m - 1) 0 = 48
  · rw [decide_eq_true hgo, cond_true, isub_eq (by omega) (by omega)]
    refine ih _ ⟨m - 1, by simp only [Prod.mk.injEq, and_true]; omega, by omega, by omega, ?_⟩ (by simp only; omega)
    rw [htr, take_last' hgo.1 hm2, hgo.2, trim_step]
  · rw [decide_eq_false hgo, cond_false, bs_len, ok_of (sliceOk_true (by omega) (by omega) (by omega))]
    have ht1 : (d.take 1).length = 1 := by rw [List.length_take]; omega
    have e1 : ByteArray.extract (bs d) (Int.toNat 0) (Int.toNat 1) = bs (d.take 1) := by rw [bs_sub]; rfl
    obtain ⟨rest, hrest⟩ : ∃ rest, rest = ((d.drop 1).reverse.dropWhile (· == 48)).reverse := ⟨_, rfl⟩
    have hr2 : rest = (d.take m).drop 1 := by
      rw [hrest, htr]
      by_cases h1 : 1 < m
      · have h48 : d.getD (m - 1) 0 ≠ 48 := fun h => hgo ⟨h1, h⟩
        rw [take_last' h1 hm2, trim_stop h48]
      · have : m = 1 := by omega
        subst this
        rw [List.drop_eq_nil_of_le (by omega)]; rfl
    have hrl : rest.length = m - 1 := by rw [hr2, List.length_drop, List.length_take]; omega
    rw [← hrest, e1]
    rw [jb_of (p := ((K, (bs (d.take 1 ++ (if rest = [] then [] else 46 :: rest)), (bs [], ()))), ())) (by
      rw [ilt_iff]
      by_cases h1 : 1 < m
      · have hne : rest ≠ [] := fun h => by rw [h] at hrl; simp at hrl; omega
        rw [decide_eq_true (show (1 : Int) < m by omega), cond_true, bs_sok, ok_of (decide_eq_true (by simp only [List.length_singleton]; omega)), ok_of (sliceOk_true (by omega) (by omega) (by omega)), bs_app, bs_sub, show Int.toNat 1 = 1 from rfl, Int.toNat_natCast, ← hr2, bs_sok, ok_of (decide_eq_true (by rw [List.length_append]; simp only [List.length_singleton]; omega)), bs_app, if_neg hne, List.append_assoc]
        rfl
      · have hne : rest = [] := List.length_eq_zero_iff.1 (by omega)
        rw [decide_eq_false (show ¬ (1 : Int) < m by omega), cond_false, if_pos hne, List.append_nil])]
    dsimp only
    have hol : (d.take 1 ++ (if rest = [] then [] else 46 :: rest)).length ≤ 100 := by
      rw [List.length_append]
      split
      · simp; omega
      · simp only [List.length_cons]; omega
    have hil := itoa_len (x := K) hKb.1 hKb.2
    rw [jb_of (p := ((bs (d.take 1 ++ ((if rest = [] then [] else 46 :: rest) ++ (if K = 0 then [] else 101 :: itoa K))), (bs [], ())), ())) (by
      by_cases h0 : K = 0
      · rw [h0, if_pos rfl, List.append_nil]; rfl
      · rw [if_neg h0, show (K != 0) = true from by simpa using h0, cond_true, bs_sok, ok_of (decide_eq_true (by simp only [List.length_singleton]; omega)), ki K hKb.1 hKb.2, bs_app]
        simp only [Option.bind_some]
        rw [bs_sok, ok_of (decide_eq_true (by rw [List.length_append]; simp only [List.length_singleton]; omega)), bs_app]
        simp)]
end Go.Px.Seat

/- Numbers: the program's functions, part 4: of a word, bits, sum. Seat ZD. -/
namespace Go.Px.Seat
open Go Pm
set_option linter.unusedVariables false
variable {B : Run}
theorem iandu_base {x : Int} (h : 0 ≤ x) (h' : x < 18446744073709551616) : iand .u64 x 65535 = x % 65536 := by
  have e1 : (BitVec.ofInt 64 x).toNat = x.toNat := by
    simp [BitVec.toNat_ofInt]; omega
  have e2 : (BitVec.ofInt 64 65535).toNat = 2 ^ 16 - 1 := by decide
  have e3 : (BitVec.ofInt 64 x &&& BitVec.ofInt 64 65535).toNat = x.toNat % 2 ^ 16 := by
    rw [BitVec.toNat_and, e1, e2, Nat.and_two_pow_sub_one_eq_mod]
  show IntKind.u64.wrap (((BitVec.ofInt 64 x &&& BitVec.ofInt 64 65535).toNat : Nat) : Int) = _
  rw [e3, wrapu64 (by omega) (by omega)]
  omega
theorem k_natOf : Ev fun n => ∀ x : Nat, x < 18446744073709551616 → c_i_natOf ((C B).run n) (x : Int) = some (dig x, ()) := by
  refine Ev.triv.succ fun n hn _ x hx => ?_
  have hlen : (dig x).length ≤ 4 := dig_len_le.2 (by omega)
  rw [run_succ, e_i_natOf]
  unfold p_i_natOf
  refine iter_const (fun p => ∃ i : Nat, p = ((((x / 65536 ^ i : Nat) : Int), ((), ((), ()))), ((dig x).take i, ())) ∧ i ≤ (dig x).length) (fun p => 5 - p.2.1.length) _ ?_ n _ (by simp only; omega) ⟨0, by simp, by omega⟩
  rintro rec _ ⟨i, rfl, hi⟩ ih
  simp only [ilt_iff]
  by_cases h : x / 65536 ^ i = 0
  · rw [h]
    simp only [show ¬ (0 : Int) < ((0 : Nat) : Int) by omega, decide_false, cond_false]
    have : (dig x).length ≤ i := by
      rw [dig_len_le]
      exact (Nat.div_eq_zero_iff_lt (Nat.pow_pos (by decide))).1 h
    rw [List.take_of_length_le this]
  · have hpos : (0 : Int) < ((x / 65536 ^ i : Nat) : Int) := Int.natCast_pos.2 (Nat.pos_of_ne_zero h)
    simp only [hpos, decide_true, cond_true]
    have hil : i < (dig x).length := by
      rcases Nat.lt_or_ge i (dig x).length with h1 | h1
      · exact h1
      · exact absurd (Nat.div_eq_of_lt (dig_len_le.1 h1)) h
    have hb : x / 65536 ^ i ≤ x := Nat.div_le_self ..
    have e1 : IntKind.wrap .i64 (iand .u64 ((x / 65536 ^ i : Nat) : Int) 65535) = ((x / 65536 ^ i % 65536 : Nat) : Int) := by
      rw [iandu_base (by omega) (by omega), wrap64 (by omega) (by omega)]; omega
    have e2 : ishr .u64 ((x / 65536 ^ i : Nat) : Int) 16 = ((x / 65536 ^ (i + 1) : Nat) : Int) := by
      have h16 : ((16 : Nat) : Int) = 16 := rfl
      rw [← h16, ishru_eq (by omega), Nat.pow_succ, ← Nat.div_div_eq_div_mul]
      have : (2 : Int) ^ 16 = 65536 := by decide
      rw [this]; omega
    rw [e1, e2, ← take_dig_succ hil]
    rw [ok_of (aok_true (by simp only [List.length_take]; omega))]
    refine ih _ ⟨i + 1, rfl, by omega⟩ ?_
    simp only [List.length_take]; omega
theorem at_copied (xs ys : List Int) (j : Nat) (h : ys.length ≤ xs.length) : at_ (copied xs ys) j = if j < ys.length then at_ ys j else at_ xs j := by
  unfold copied
  rw [List.take_of_length_le h]
  simp only [at_, List.getD_eq_getElem?_getD]
  split
  · rename_i hj
    rw [List.getElem?_append_left hj]
  · rename_i hj
    rw [List.getElem?_append_right (by omega), List.getElem?_drop, show ys.length + (j - ys.length) = j by omega]
theorem copied_len' (xs ys : List Int) : (copied xs ys).length = xs.length := by
  unfold copied
  rw [List.length_append, List.length_take, List.length_drop]
  omega
theorem at_replicate (N j : Nat) : at_ (List.replicate N 0) j = 0 := by
  simp only [at_, List.getD_eq_getElem?_getD, List.getElem?_replicate]
  split <;> rfl
theorem val_copied (N : Nat) (ys : List Int) (h : ys.length ≤ N) : val (copied (List.replicate N 0) ys) = val ys := by
  unfold copied
  rw [List.take_of_length_le (by simpa using h), List.drop_replicate, val_append, val_replicate_zero]
  omega
end Go.Px.Seat

/- Numbers: the program's functions, part 5: sum. Seat ZD. -/
namespace Go.Px.Seat
open Go Pm
set_option linter.unusedVariables false
variable {B : Run}
theorem k_natAdd : Ev fun n => ∀ x y : Nat, (dig x).length ≤ 1073741824 → (dig y).length ≤ 1073741824 → c_i_natAdd ((C B).run n) (dig x) (dig y) = some (dig (x + y), ()) := by
  refine (k_trim (B := B)).succ fun n hn hTrim x y hx hy => ?_
  rw [run_succ, e_i_natAdd]
  unfold p_i_natAdd
  simp only [len_eq]
  have hm : imax ((dig x).length : Int) ((dig y).length : Int) = ((max (dig x).length (dig y).length : Nat) : Int) := by
    unfold imax; omega
  rw [hm]
  obtain ⟨M, hM⟩ : ∃ M, M = max (dig x).length (dig y).length := ⟨_, rfl⟩
  have hMx : (dig x).length ≤ M := by omega
  have hMy : (dig y).length ≤ M := by omega
  rw [← hM, iadd_eq (by omega) (by omega), ok_of (mkOk_true (by omega) (by omega) (by omega)), show ((M : Int) + 1).toNat = M + 1 by omega]
  have hl0 : (copied (List.replicate (M + 1) 0) (dig x)).length = M + 1 := by rw [copied_len', List.length_replicate]
  have hv0 : val (copied (List.replicate (M + 1) 0) (dig x)) = x := by rw [val_copied _ _ (by omega), val_dig]
  have ha0 : ∀ j, at_ (copied (List.replicate (M + 1) 0) (dig x)) j = at_ (dig x) j := fun j => by
    rw [at_copied _ _ _ (by rw [List.length_replicate]; omega), at_replicate]
    split
    · rfl
    · rw [at_out (by omega)]
  refine iter_const (fun p => ∃ (i : Nat) (o : List Int), p = (((i : Int), (((dig y).length : Int), (dig y, ((), ((), ()))))), (o, ())) ∧ i ≤ (dig y).length ∧ o.length = M + 1 ∧ val o = ((x + y % 65536 ^ i : Nat) : Int) ∧
      (∀ j, 0 ≤ at_ o j ∧ at_ o j ≤ 131070) ∧ (∀ j, i ≤ j → at_ o j < 65536) ∧ at_ o M = 0) (fun p => (dig y).length - p.1.1.toNat) _ ?_ n _ (by simp only; omega)
      ⟨0, _, rfl, by omega, hl0, by rw [hv0]; simp [Nat.mod_one], fun j => ?_, fun j _ => ?_, ?_⟩
  rotate_left
  · rw [ha0]; have := at_range (dig_Dg x) j; omega
  · rw [ha0]; exact (at_range (dig_Dg x) j).2
  · rw [ha0, at_out (by omega)]
  rintro rec _ ⟨i, o, rfl, hi, hlo, hvo, hro, hso, hto⟩ ih
  simp only [ilt_iff, len_eq]
  by_cases h : i < (dig y).length
  · rw [decide_eq_true (show (i : Int) < ((dig y).length : Int) by omega), cond_true, ok_of (inB_true (by omega) (by omega)), ok_of (inB_true (by omega) (by omega)), ok_of (inB_true (by omega) (by omega)), Int.toNat_natCast, getD_at, getD_at, dig_at]
    have hai := hso i (Nat.le_refl _)
    have hai0 := (hro i).1
    rw [iadd_eq (x := (i : Int)) (by omega) (by omega), iadd_eq (by omega) (by omega)]
    have hil : i < o.length := by omega
    refine ih _ ⟨i + 1, _, rfl, by omega, by rw [List.length_set]; exact hlo, ?_, fun j => ?_, fun j hj => ?_, ?_⟩ (by simp only; omega)
    · rw [val_set _ _ _ hil, hvo, mod_succ]
      rw [show at_ o i + ((y / 65536 ^ i % 65536 : Nat) : Int) - at_ o i = ((y / 65536 ^ i % 65536 : Nat) : Int) by omega, ← Int.natCast_mul, ← Int.natCast_add, Nat.add_assoc]
    · rw [at_set _ _ _ _ hil]
      split
      · omega
      · exact hro j
    · rw [at_set _ _ _ _ hil, if_neg (by omega)]
      exact hso j (by omega)
    · rw [at_set _ _ _ _ hil, if_neg (by omega)]
      exact hto
  · have hie : i = (dig y).length := by omega
    subst hie
    rw [decide_eq_false (by omega), cond_false, hlo]
    rw [isub_eq (by omega) (by omega), show ((M + 1 : Nat) : Int) - 1 = (M : Int) by omega]
    rw [Nat.mod_eq_of_lt (dig_lt_pow y)] at hvo
    refine iter_const (fun p => ∃ (i : Nat) (o : List Int), p = (((i : Int), ((M : Int), ((), ((), ())))), (o, ())) ∧ i ≤ M ∧ o.length = M + 1 ∧ val o = ((x + y : Nat) : Int) ∧
      (∀ j, 0 ≤ at_ o j ∧ at_ o j ≤ 131072) ∧ (∀ j, j < i → at_ o j < 65536) ∧ (∀ j, i < j → at_ o j ≤ 131070) ∧ (i < M → at_ o M = 0) ∧ at_ o M ≤ 2) (fun p => M - p.1.1.toNat) _ ?_ n _ (by simp only; omega)
      ⟨0, o, rfl, by omega, hlo, hvo, fun j => ⟨(hro j).1, by have := (hro j).2; omega⟩, fun j hj => absurd hj (Nat.not_lt_zero _), fun j _ => (hro j).2, fun _ => hto, by omega⟩
    rintro rec _ ⟨i, o, rfl, hi, hlo, hvo, hro, hlow, hhigh, htop, htop2⟩ ih
    simp only [ilt_iff, len_eq]
    by_cases h : i < M
    · rw [decide_eq_true (show (i : Int) < (M : Int) by omega), cond_true, iadd_eq (by omega) (by omega), ok_of (inB_true (by omega) (by omega)), ok_of (inB_true (by omega) (by omega)), ok_of (inB_true (by omega) (by omega))]
      rw [List.length_set, ok_of (inB_true (by omega) (by omega)), ok_of (inB_true (by omega) (by omega)), show ((i : Int) + 1).toNat = i + 1 by omega, Int.toNat_natCast, getD_at, getD_at, getD_at]
      have ai := hro i
      have ai1 := hro (i + 1)
      have h16 : ishr .i64 (at_ o i) 16 = at_ o i / 65536 := ishr_eq (k := 16) (by omega)
      have hil : i < o.length := by omega
      have hil1 : i + 1 < o.length := by omega
      have hq : at_ o i / 65536 ≤ 2 := by omega
      have hq0 : 0 ≤ at_ o i / 65536 := by omega
      have hhi := hhigh (i + 1) (by omega)
      rw [h16, iadd_eq (by omega) (by omega), at_set _ _ _ _ hil1, if_neg (by omega), iand_base (by omega) (by omega)]
      have hl2 : (o.set (i + 1) (at_ o (i + 1) + at_ o i / 65536)).length = M + 1 := by rw [List.length_set]; exact hlo
      have hat : ∀ j, at_ ((o.set (i + 1) (at_ o (i + 1) + at_ o i / 65536)).set i (at_ o i % 65536)) j = if i = j then at_ o i % 65536 else if i + 1 = j then at_ o (i + 1) + at_ o i / 65536 else at_ o j := fun j => by
        rw [at_set _ _ _ _ (by omega), at_set _ _ _ _ hil1]
      refine ih _ ⟨i + 1, _, by rfl, by omega, by rw [List.length_set]; exact hl2, ?_, fun j => ?_, fun j hj => ?_, fun j hj => ?_, fun hiM => ?_, ?_⟩ (by simp only; omega)
      · rw [val_set _ _ _ (by omega), val_set _ _ _ hil1, hvo, at_set _ _ _ _ hil1, if_neg (by omega)]
        have e := Int.emod_add_mul_ediv (at_ o i) 65536
        generalize at_ o i / 65536 = q at *
        generalize at_ o i % 65536 = r at *
        have : ((65536 ^ (i + 1) : Nat) : Int) = 65536 * ((65536 ^ i : Nat) : Int) := by rw [Nat.pow_succ, Int.natCast_mul, Int.mul_comm]; rfl
        rw [this, show at_ o (i + 1) + q - at_ o (i + 1) = q by omega, show r - at_ o i = -(65536 * q) by omega, Int.neg_mul, Int.mul_assoc, Int.mul_left_comm q]
        omega
      · rw [hat]
        split
        · have := Int.emod_lt_of_pos (at_ o i) (show (0 : Int) < 65536 by omega)
          have := Int.emod_nonneg (at_ o i) (show (65536 : Int) ≠ 0 by omega)
          omega
        · split
          · omega
          · exact hro j
      · rw [hat]
        split
        · exact Int.emod_lt_of_pos _ (by omega)
        · rw [if_neg (by omega)]
          exact hlow j (by omega)
      · rw [hat, if_neg (by omega), if_neg (by omega)]
        exact hhigh j (by omega)
      · rw [hat, if_neg (by omega), if_neg (by omega)]
        exact htop h
      · rw [hat, if_neg (by omega)]
        split
        · rename_i hj
          subst hj
          rw [htop h]
          omega
        · exact htop2
    · have hie : i = M := by omega
      subst hie
      rw [decide_eq_false (by omega), cond_false, hTrim _ (by omega)]
      simp only [Option.bind_some]
      have hDg : Dg o := fun d hd => by
        obtain ⟨j, hj, rfl⟩ := List.getElem_of_mem hd
        have e : o[j] = at_ o j := by simp [at_, List.getD_eq_getElem?_getD, hj]
        rw [e]
        refine ⟨(hro j).1, ?_⟩
        by_cases hji : j < i
        · exact hlow j hji
        · have : j = i := by omega
          subst this
          omega
      rw [strip_dig hDg, hvo, Int.toNat_natCast]
end Go.Px.Seat

/- Numbers: the program's functions, part 6: difference; fractions. Seat ZD. -/
namespace Go.Px.Seat
open Go Pm
set_option linter.unusedVariables false
variable {B : Run}
end Go.Px.Seat

/- Fractions: the program's functions. Seat ZD. -/
namespace Go.Px.Seat
open Go Pm
set_option linter.unusedVariables false
variable {B : Run}
/-- a fraction as it is handed over -/
def outF (r : Rat) : Bool × (List Int × (List Int × Unit)) := (fb r, (ft r, (fq r, ())))
theorem one_dig : [(1 : Int)] = dig 1 := (dig_of_lt (d := 1) (by omega) (by omega)).symm
theorem mk_fb {b : Bool} {p q : Nat} (hq : q ≠ 0) : fb (mkRat (sg b p) q) = (b && decide (p ≠ 0)) := by
  by_cases hp : p = 0
  · subst hp
    rw [sg_zero, Rat.zero_mkRat]
    cases b <;> rfl
  · rw [mk_rb hp hq]
    simp [hp]
theorem k_lowest : Ev fun n => ∀ (b : Bool) (p q : Nat), q ≠ 0 → (dig p).length ≤ 134217728 → (dig q).length ≤ 134217728 → c_i_lowest ((C B0).run n) b (dig p) (dig q) = some (outF (mkRat (sg b p) q)) := by
  refine (k_natGcd.and ((k_natCmp (B := B0)).and k_natDiv)).succ fun n hn ⟨hG, hC, hD⟩ b p q hq hp1 hq1 => ?_
  rw [run_succ, e_i_lowest]
  unfold p_i_lowest
  rw [hG _ _ (by omega) (by omega)]
  simp only [Option.bind_some]
  have hg0 : Nat.gcd p q ≠ 0 := fun h => hq (Nat.eq_zero_of_gcd_eq_zero_right h)
  have hgl : (dig (Nat.gcd p q)).length ≤ (dig q).length := dig_len_mono (Nat.gcd_le_right p (Nat.pos_of_ne_zero hq))
  rw [one_dig, hC _ _ (by omega) (by rw [← one_dig]; simp)]
  simp only [Option.bind_some]
  refine (jb_of (p := ((b, (dig (p / Nat.gcd p q), (dig (q / Nat.gcd p q), ((), ())))), ((false, ((), ((), ()))), ()))) ?_ _).trans ?_
  · by_cases h1 : Nat.gcd p q = 1
    · rw [h1, Nat.div_one, Nat.div_one]
      simp [cmp3]
    · have : cmp3 (Nat.gcd p q) 1 ≠ 0 := by
        unfold cmp3
        split
        · omega
        · split
          · omega
          · omega
      rw [show (cmp3 (Nat.gcd p q) 1 != 0) = true by simpa using this, cond_true, hD _ _ (by omega) (by omega) hg0]
      simp only [Option.bind_some]
      rw [hD _ _ (by omega) (by omega) hg0]
      simp only [Option.bind_some]
  · simp only
    have hlt : ilt 0 (len (dig (p / Nat.gcd p q))) = decide (p ≠ 0) := by
      rw [len_eq, ilt_iff]
      refine decide_eq_decide.2 ⟨fun h h' => ?_, fun h => ?_⟩
      · subst h'; simp at h
      · have := dig_len_pos (div_gcd_ne (q := q) h)
        omega
    rw [hlt]
    unfold outF
    rw [mk_fb hq, mk_rt hq, mk_rd hq]
    cases b <;> rfl
theorem k_whole : Ev fun n => ∀ (b : Bool) (p : Nat), c_i_whole ((C B).run n) b (dig p) = some (outF (mkRat (sg b p) 1)) := by
  refine Ev.triv.succ fun n hn _ b p => ?_
  rw [run_succ, e_i_whole]
  unfold p_i_whole
  have hlt : ilt 0 (len (dig p)) = decide (p ≠ 0) := by
    rw [len_eq, ilt_iff]
    refine decide_eq_decide.2 ⟨fun h h' => ?_, fun h => ?_⟩
    · subst h'; simp at h
    · have := dig_len_pos h
      omega
  rw [hlt]
  unfold outF
  rw [mk_fb (by omega), mk_rt (by omega), mk_rd (by omega), Nat.gcd_one_right, Nat.div_one, ← one_dig]
  cases b <;> rfl
/-- how long a fraction's parts are -/
def short (k : Nat) (r : Rat) : Prop := (ft r).length ≤ k ∧ (fq r).length ≤ k
end Go.Px.Seat

/- The float below a number: what it is, and how it is found. No program here. -/
namespace Pm
open Go.Px.Seat
/-- m is the greatest float from 0 on that is not above r; ex: it is r -/
def IsTr (w : Int) (r : Rat) (m : Int) (ex : Bool) : Prop := 0 ≤ m ∧ m < top w ∧ fv w m ≤ r ∧ (m = top w - 1 ∨ r < fv w (m + 1)) ∧ (ex = true ↔ fv w m = r)
end Pm

/- The reference's floats next to a number. -/
namespace Pm
open Go.Px.Seat
end Pm
namespace Go.Px.Seat
open Go Pm
set_option linter.unusedVariables false
variable {B : Run}
end Go.Px.Seat

/- Rounding: the reference's. Seat ZD. -/
namespace Pm
open Go.Px.Seat
/-- n is the greatest float that is not above r, or the one below all -/
def IsDn (w : Int) (r : Rat) (n : Int) : Prop := -top w ≤ n ∧ n < top w ∧ (n = -top w ∨ fv w n ≤ r) ∧ (n = top w - 1 ∨ r < fv w (n + 1))
theorem IsDn.mono {w : Int} {r s : Rat} {n m : Int} (h : IsDn w r n) (h' : IsDn w s m) (hrs : r ≤ s) : n ≤ m := by
  obtain ⟨a1, a2, a3, a4⟩ := h
  obtain ⟨b1, b2, b3, b4⟩ := h'
  by_cases hnm : n ≤ m
  · exact hnm
  · exfalso
    have h1 := b4.resolve_left (by omega)
    have h2 := a3.resolve_left (by omega)
    have h3 : fv w (m + 1) ≤ fv w n := fv_le.2 (by omega)
    exact Rat.not_le.2 h1 (Rat.le_trans h3 (Rat.le_trans h2 hrs))
end Pm
namespace Go.Px.Seat
open Go Pm
set_option linter.unusedVariables false
variable {B : Run}
end Go.Px.Seat

/- Values of floats: the program's. Seat ZD. -/
namespace Pm
open Go.Px.Seat
theorem fv_big {w o : Int} {k : Nat} (h : shf w o = lst w + k) : fv w o = mkRat (sg (decide (o < 0)) (sz w o * 2 ^ k)) 1 := by
  rw [fv, fI_sg, h, Nat.pow_add, Nat.mul_left_comm]
  have h2 : sg (decide (o < 0)) (2 ^ lst w * (sz w o * 2 ^ k)) = ((2 ^ lst w : Nat) : Int) * sg (decide (o < 0)) (sz w o * 2 ^ k) := by
    cases decide (o < 0)
    · simp only [sg, Bool.false_eq_true, if_false]; rw [Int.natCast_mul]
    · simp only [sg, if_true]; rw [Int.natCast_mul, Int.mul_neg]
  rw [h2, ← Rat.mkRat_mul_left (n := sg (decide (o < 0)) (sz w o * 2 ^ k)) (d := 1) (pow2_ne (lst w)), Nat.mul_one]
theorem fv_small {w o : Int} {k : Nat} (h : lst w = shf w o + k) : fv w o = mkRat (sg (decide (o < 0)) (sz w o)) (2 ^ k) := by
  rw [fv, fI_sg, h]
  have h2 : sg (decide (o < 0)) (sz w o * 2 ^ shf w o) = sg (decide (o < 0)) (sz w o) * ((2 ^ shf w o : Nat) : Int) := by
    cases decide (o < 0)
    · simp only [sg, Bool.false_eq_true, if_false]; rw [Int.natCast_mul]
    · simp only [sg, if_true]; rw [Int.natCast_mul, Int.neg_mul]
  rw [h2, Nat.pow_add, Nat.mul_comm (2 ^ shf w o), Rat.mkRat_mul_right (pow2_ne _)]
end Pm
namespace Go.Px.Seat
open Go Pm
set_option linter.unusedVariables false
variable {B : Run}
theorem fmt_of {w : Int} (h : wd w = true) : fmt w = ((frw w : Int), (-(lst w : Int), ((fmt w).2.2.1, (top w, (true, ()))))) := by
  rcases of_decide_eq_true h with h | h <;> subst h <;> rfl
theorem k_size : Ev fun n => ∀ o : Int, -9223372036854775808 < o → o < 9223372036854775808 → c_i_size ((C B).run n) o = some ((o.natAbs : Int), ()) := by
  refine Ev.triv.succ fun n hn _ o h1 h2 => ?_
  rw [run_succ, e_i_size]
  unfold p_i_size
  rw [ineg_eq h1 h2]
  congr 2
  unfold imax
  omega
theorem k_Part : Ev fun n => ∀ w o : Int, fin w o → c_i_BitPartOf ((C B).run n) w o = some (decide (o < 0), ((sz w o : Int), ((-(lst w : Int) + (shf w o : Int)), (true, ())))) := by
  refine ((k_fmt (B := B)).and ((k_BitOk (B := B)).and (k_size (B := B)))).succ fun n hn ⟨hF, hB, hS⟩ w o hf => ?_
  rw [run_succ, e_i_BitPartOf]
  unfold p_i_BitPartOf
  obtain ⟨h1, h2, h3⟩ := hf
  have htn := top_nonneg w
  have hb : bok w o = true := bok_iff.2 ⟨h1, by omega, by omega⟩
  have hfl := frw_le w
  have hll : lst w ≤ 1074 := by unfold lst; split <;> omega
  rw [hF, fmt_of h1]
  simp only [Option.bind_some]
  rw [hB, hb, hS o (by omega) (by omega)]
  simp only [Option.bind_some, Bool.not_true, cond_false, jb_inr, beq_f (show ¬ (o.natAbs : Int) = top w by omega), ile_iff, ilt_iff]
  have hle : decide (0 ≤ (frw w : Int)) = true := by simp
  rw [hS o (by omega) (by omega)]
  simp only [Option.bind_some, hle, ok_true]
  have hU : 0 < 2 ^ frw w := Nat.pow_pos (by decide)
  have hU2 : 2 ^ frw w ≤ 2 ^ 52 := Nat.pow_le_pow_right (by decide) hfl
  have hcast : ((2 : Int) ^ frw w) = ((2 ^ frw w : Nat) : Int) := by simp
  have e1 : ishr .i64 (o.natAbs : Int) (frw w : Int) = ((o.natAbs / 2 ^ frw w : Nat) : Int) := by
    rw [ishr_eq (by omega), hcast]; norm_cast
  have e2 : iand .i64 (o.natAbs : Int) (isub .i64 (ishl .i64 1 (frw w : Int)) 1) = ((o.natAbs % 2 ^ frw w : Nat) : Int) := by
    have h5 : isub .i64 (ishl .i64 1 (frw w : Int)) 1 = (2 : Int) ^ frw w - 1 := by
      rw [shl_one _ (by omega), hcast]
      simp only [Nat.reducePow] at hU2
      exact isub_eq (by omega) (by omega)
    rw [h5, iand_mask (by omega) (by omega) (by omega), hcast]; norm_cast
  have hm : o.natAbs % 2 ^ frw w < 2 ^ frw w := Nat.mod_lt _ hU
  have e3 : ior .i64 ((o.natAbs % 2 ^ frw w : Nat) : Int) (ishl .i64 1 (frw w : Int)) = ((o.natAbs % 2 ^ frw w + 2 ^ frw w : Nat) : Int) := by
    rw [shl_one _ (by omega)]
    simp only [Nat.reducePow] at hU2
    have h6 := Nat.two_pow_add_eq_or_of_lt hm 1
    rw [Nat.mul_one] at h6
    rw [ior_eq (by omega) (by omega), Nat.or_comm, ← h6, Nat.add_comm]
  rw [e1, e2, e3]
  unfold sz shf
  have hdl : o.natAbs / 2 ^ frw w ≤ o.natAbs := Nat.div_le_self ..
  simp only [Nat.reducePow] at hU2
  generalize 2 ^ frw w = U at *
  generalize o.natAbs / U = d at *
  generalize o.natAbs % U = r at *
  by_cases hd : d = 0
  · subst hd
    simp only [show (((0 : Nat) : Int) == 0) = true from rfl, cond_true, if_true]
    rw [wrapu64 (by omega) (by omega)]
    simp
  · rw [beq_f (by omega), cond_false, if_neg hd, wrapu64 (by omega) (by omega), iadd_eq (by omega) (by omega), isub_eq (by omega) (by omega)]
    congr 4
    omega
theorem k_value : Ev fun n => ∀ w o : Int, fin w o → c_i_value ((C B0).run n) w o = some (outF (fv w o)) := by
  refine ((k_Part (B := B0)).and ((k_natOf (B := B0)).and ((k_natShl (B := B0)).and ((k_whole (B := B0)).and k_lowest)))).succ fun n hn ⟨hP, hO, hS, hW, hL⟩ w o hf => ?_
  rw [run_succ, e_i_value]
  unfold p_i_value
  have hs := sz_lt w o
  have hsh := shf_lt hf
  have hll : lst w ≤ 1074 := by unfold lst; split <;> omega
  rw [hP w o hf]
  simp only [Option.bind_some]
  rw [hO _ (by omega)]
  simp only [Option.bind_some, ile_iff]
  have hszl : (dig (sz w o)).length ≤ 4 := dig_len_le.2 (by omega)
  by_cases hp : lst w ≤ shf w o
  · obtain ⟨k, hk⟩ : ∃ k, shf w o = lst w + k := ⟨shf w o - lst w, by omega⟩
    have e1 : -(lst w : Int) + (shf w o : Int) = (k : Int) := by omega
    rw [e1, decide_eq_true (show (0 : Int) ≤ (k : Int) by omega), cond_true, hS _ _ (by omega) (by omega)]
    simp only [Option.bind_some]
    rw [hW, fv_big hk]
    rfl
  · obtain ⟨k, hk⟩ : ∃ k, lst w = shf w o + k := ⟨lst w - shf w o, by omega⟩
    have e1 : -(lst w : Int) + (shf w o : Int) = -(k : Int) := by omega
    rw [e1, decide_eq_false (show ¬ (0 : Int) ≤ -(k : Int) by omega), cond_false, ineg_eq (by omega) (by omega), Int.neg_neg, one_dig, hS _ _ (by rw [← one_dig]; simp) (by omega)]
    simp only [Option.bind_some, Nat.one_mul]
    have hkl := dig_len_pow k
    rw [hL _ _ _ (pow2_ne k) (by omega) (by omega), fv_small hk]
    rfl
end Go.Px.Seat

/- A float made of its parts: the program's. Seat ZD. -/
namespace Pm
open Go.Px.Seat
end Pm
namespace Go.Px.Seat
open Go Pm
set_option linter.unusedVariables false
variable {B : Run}
end Go.Px.Seat

/- The float below a number: the program's. Seat ZD. -/
namespace Pm
open Go.Px.Seat
end Pm
namespace Go.Px.Seat
open Go Pm
set_option linter.unusedVariables false
variable {B : Run}
end Go.Px.Seat

/- The float below a number: the program's, found. Seat ZD. -/
namespace Go.Px.Seat
open Go Pm
set_option linter.unusedVariables false
variable {B : Run}
end Go.Px.Seat

/- Floats next to a number, limits: the program's. Seat ZD. -/
namespace Go.Px.Seat
open Go Pm
set_option linter.unusedVariables false
variable {B : Run}
end Go.Px.Seat

/- Sums of spans: the program's. Seat ZD. -/
namespace Pm
open Go.Px.Seat
theorem lst_le (w : Int) : lst w ≤ 1074 := by unfold lst; split <;> omega
theorem fits_fv {w o : Int} (h : fin w o) : fits (fv w o) := by
  have hl := lst_le w
  have h1 : (fI w o).natAbs < 65536 ^ 256 := Nat.lt_of_lt_of_le (fI_lt2 h) (Nat.le_of_lt (two_lt (by decide)))
  exact fits_mkI (pow2_ne _) h1 (two_lt (by omega))
end Pm
namespace Go.Px.Seat
open Go Pm
set_option linter.unusedVariables false
variable {B : Run}
end Go.Px.Seat

/- Numbers shown with nine digits: the program; both show alike. -/
namespace Pm
open Go.Px.Seat
theorem LG_ex {p q : Nat} : ∀ (n : Nat) (a : Int), G p q a → ¬ G p q (a + n) → ∃ k, LG p q k ∧ a ≤ k ∧ k < a + n
  | 0, a, h, h' => absurd (by simpa using h) h'
  | n + 1, a, h, h' => by
    by_cases h1 : G p q (a + 1)
    · obtain ⟨k, hk, h2, h3⟩ := LG_ex n (a + 1) h1 (by rw [show a + 1 + (n : Int) = a + ((n + 1 : Nat) : Int) by omega]; exact h')
      exact ⟨k, hk, by omega, by omega⟩
    · exact ⟨a, ⟨h, h1⟩, Int.le_refl _, by omega⟩
theorem two_ten (k : Nat) : 2 ^ (3 * k) ≤ 10 ^ k := by rw [Nat.pow_mul]; exact Nat.pow_le_pow_left (by decide) k
theorem two_ten' {a b : Nat} (h : a ≤ 3 * b) : 2 ^ a ≤ 10 ^ b := Nat.le_trans (Nat.pow_le_pow_right (by decide) h) (two_ten b)
theorem fv_nat {w o : Int} (ho : ¬ o < 0) : fv w o = mkRat ((sz w o * 2 ^ shf w o : Nat) : Int) (2 ^ lst w) := by
  rw [fv, fI_sg, decide_eq_false ho]; rfl
theorem ratio_of {p q p' q' : Nat} (hq : q ≠ 0) (hq' : q' ≠ 0) (h : mkRat (p : Int) q = mkRat (p' : Int) q') : p * q' = p' * q := by
  have := (Rat.mkRat_eq_iff hq hq').1 h
  exact_mod_cast this
theorem G_fv {w o : Int} {p q : Nat} (hf : fin w o) (ho : ¬ o < 0) (hp : p ≠ 0) (hq : q ≠ 0) (h : mkRat (p : Int) q = fv w o) : G p q (-400) ∧ ¬ G p q 401 := by
  rw [fv_nat ho] at h
  have hr := ratio_of hq (pow2_ne _) h
  have hs := sz_lt w o
  have hsh := shf_sub hf
  have hll : lst w ≤ 1074 := by unfold lst; split <;> omega
  rw [G_ratio hq (pow2_ne _) hr, G_ratio hq (pow2_ne _) hr]
  obtain ⟨ba, hba⟩ : ∃ b : Nat, b = 400 := ⟨_, rfl⟩
  obtain ⟨bb, hbb⟩ : ∃ b : Nat, b = 401 := ⟨_, rfl⟩
  rw [G_iff (m := 0) (n := ba) (by omega), G_iff (m := bb) (n := 0) (by omega), Nat.pow_zero, Nat.mul_one, Nat.mul_one]
  have hS : sz w o * 2 ^ shf w o ≠ 0 := fun h0 => by
    rw [h0, Nat.zero_mul] at hr
    rcases Nat.mul_eq_zero.1 hr with h1 | h1
    · exact hp h1
    · exact pow2_ne _ h1
  constructor
  · refine Nat.le_trans (two_ten' (b := ba) (by omega)) ?_
    exact Nat.le_mul_of_pos_left _ (by omega)
  · have h1 : sz w o * 2 ^ shf w o < 2 ^ 53 * 2 ^ (lst w + 971) := by
      have h2 : 2 ^ shf w o ≤ 2 ^ (lst w + 971) := Nat.pow_le_pow_right (by decide) hsh
      refine Nat.lt_of_lt_of_le (Nat.mul_lt_mul_of_pos_right (show sz w o < 2 ^ 53 by omega) (Nat.pow_pos (by decide))) (Nat.mul_le_mul_left _ h2)
    have h3 : 2 ^ 53 * 2 ^ (lst w + 971) ≤ 2 ^ lst w * 10 ^ bb := by
      obtain ⟨e, he⟩ : ∃ e : Nat, e = 1024 := ⟨_, rfl⟩
      rw [← Nat.pow_add, show 53 + (lst w + 971) = lst w + e by omega, Nat.pow_add]
      exact Nat.mul_le_mul_left _ (two_ten' (by omega))
    omega
theorem shown_bl {p q : Nat} {k : Int} {up : Bool} (hq : q ≠ 0) (h : LG p q k) (h1 : -500 ≤ k) (h2 : k ≤ 500) : Go.Px.Bl (shown k (rnd up (p * tp (8 - k)) (q * tp (k - 8)))) ∧ (shown k (rnd up (p * tp (8 - k)) (q * tp (k - 8)))).length ≤ 100 := by
  have hl := shown_len (up := up) hq h
  obtain ⟨N, hN⟩ : ∃ N, N = rnd up (p * tp (8 - k)) (q * tp (k - 8)) := ⟨_, rfl⟩
  rw [← hN] at hl ⊢
  have hb := dec_bl N
  unfold shown
  obtain ⟨d, hd⟩ : ∃ d, d = dec N := ⟨_, rfl⟩
  rw [← hd] at hl hb ⊢
  have hr : ∀ x ∈ ((d.drop 1).reverse.dropWhile (· == 48)).reverse, x < 256 := fun x hx => hb x (List.mem_of_mem_drop (List.mem_reverse.1 ((List.dropWhile_sublist _).mem (List.mem_reverse.1 hx))))
  have htl := trim_len (d.drop 1) 48
  rw [List.length_drop] at htl
  have hK : -1000 < k + ((d.length : Int) - 9) ∧ k + ((d.length : Int) - 9) < 1000 := by omega
  have hil := itoa_len hK.1 hK.2
  constructor
  · refine Go.Px.bl_app.2 ⟨Go.Px.bl_take hb _, Go.Px.bl_app.2 ⟨?_, ?_⟩⟩
    · split
      · intro x hx; cases hx
      · intro x hx
        rcases List.mem_cons.1 hx with rfl | hx
        · decide
        · exact hr x hx
    · split
      · intro x hx; cases hx
      · intro x hx
        rcases List.mem_cons.1 hx with rfl | hx
        · decide
        · exact itoa_bl _ x hx
  · rw [List.length_append, List.length_append, List.length_take]
    split <;> split <;> simp only [List.length_cons, List.length_nil] <;> omega
end Pm
namespace Go.Px.Seat
open Go Pm
set_option linter.unusedVariables false
theorem k_show : Ev fun n => ∀ (b : Bool) (p q : Nat) (up : Bool) (k : Int), p ≠ 0 → q ≠ 0 → (dig p).length ≤ 1000 → (dig q).length ≤ 1000 → LG p q k → -400 ≤ k → k ≤ 400 → c_i_show ((C B0).run n) b (dig p) (dig q) up = some (bs (shown k (rnd up (p * tp (8 - k)) (q * tp (k - 8)))), ()) := by
  refine ((k_natCmp (B := B0)).and ((k_natMul (B := B0)).and (k_natDiv.and ((k_natAdd (B := B0)).and (k_natText.and (k_ten.and (k_TrimRight.and k_Itoa))))))).succ fun n hn ⟨kc, km, kd, ka, kx, kt, kr, ki⟩ b p q up k hp hq hpl hql hk hk1 hk2 => ?_
  rw [run_succ, e_i_show]
  unfold p_i_show
  have e10 : ([10] : List Int) = dig 10 := dig_one (d := 10) (by decide) (by decide)
  have htl : ∀ j, j ≤ 1000 → (dig (p * 10 ^ j)).length ≤ 2001 := fun j hj => by
    have h1 := len_dig_mul p (10 ^ j)
    have h2 := dig_ten j
    omega
  refine iter_const (fun s => ∃ j : Nat, s = ((dig (p * 10 ^ j), (dig q, (-(j : Int), ((), (up, (bs [], ())))))), ((b, (dig p, (dig q, ()))), ())) ∧ j ≤ 400) (fun s => (1000 + s.1.2.2.1).toNat) _ ?_ n _ (by simp only; omega) ⟨0, by rw [Nat.pow_zero, Nat.mul_one]; rfl, by decide⟩
  rintro rec _ ⟨j, rfl, hj⟩ ih
  dsimp only
  have hjl := htl j (by omega)
  rw [kc _ _ (by omega) (by omega)]
  simp only [Option.bind_some]
  have hcmp : ilt (cmp3 (p * 10 ^ j) q) 0 = decide (p * 10 ^ j < q) := by
    rw [ilt_iff]
    unfold cmp3
    refine decide_eq_decide.2 ?_
    split
    · simp [*]
    · split <;> simp [*]
  rw [hcmp]
  by_cases hlt : p * 10 ^ j < q
  · have hG : ¬ G p q (-(j : Int)) := fun h => by
      have := (G_iff (m := 0) (n := j) (by omega)).1 h
      rw [Nat.pow_zero, Nat.mul_one] at this
      omega
    have hjk : k < -(j : Int) := by
      by_cases h : k < -(j : Int)
      · exact h
      · exact absurd (G_mono hk.1 (by omega)) hG
    rw [decide_eq_true hlt, cond_true, e10, km _ _ (by omega) (by rw [← e10]; decide)]
    simp only [Option.bind_some]
    rw [isub_eq (by omega) (by omega)]
    refine ih _ ⟨j + 1, ?_, by omega⟩ (by simp only; omega)
    rw [Nat.mul_assoc, ← Nat.pow_succ, show -(j : Int) - 1 = -((j + 1 : Nat) : Int) by omega]
  · rw [decide_eq_false hlt, cond_false, kd _ _ (by omega) (by omega) hq]
    simp only [Option.bind_some]
    obtain ⟨q1, hq1⟩ : ∃ q1, q1 = p * 10 ^ j / q := ⟨_, rfl⟩
    have hq1l : (dig q1).length ≤ 2001 := Nat.le_trans (dig_len_mono (by rw [hq1]; exact Nat.div_le_self _ _)) hjl
    have hq10 : q1 ≠ 0 := by
      rw [hq1]
      have : 1 ≤ p * 10 ^ j / q := (Nat.le_div_iff_mul_le (by omega)).2 (by omega)
      omega
    rw [← hq1, kx q1 (by omega)]
    simp only [Option.bind_some]
    have hdl := dec_len q1
    have hdp := dec_pos q1
    have hKk : -(j : Int) + (((dec q1).length : Int) - 1) = k := by
      refine LG_uniq ⟨?_, ?_⟩ hk
      · refine (G_iff (m := (dec q1).length - 1) (n := j) (by omega)).2 ?_
        have := hdl.2 hq10
        rw [hq1, Nat.le_div_iff_mul_le (by omega), ← hq1, Nat.mul_comm] at this
        exact this
      · intro h
        have h2 := (G_iff (p := p) (q := q) (m := (dec q1).length) (n := j) (by omega)).1 h
        have h3 := hdl.1
        rw [hq1, Nat.div_lt_iff_lt_mul (by omega), ← hq1] at h3
        rw [Nat.mul_comm q] at h2
        omega
    have hdl2 := dec_dig q1
    rw [bs_len, isub_eq (y := 1) (by omega) (by omega), iadd_eq (by omega) (by omega), hKk, isub_eq (by omega) (by omega), ineg_eq (by omega) (by omega)]
    have l1 := tp_len (k := 8 - k) (by omega)
    have l2 := tp_len (k := k - 8) (by omega)
    have l3 := len_dig_mul p (tp (8 - k))
    have l4 := len_dig_mul q (tp (k - 8))
    rw [jb_of (p := ((dig (p * tp (8 - k)), (dig (q * tp (k - 8)), (up, (k, (bs [], ()))))), ())) (by
      rw [ile_iff]
      by_cases h8 : 0 ≤ 8 - k
      · rw [decide_eq_true h8, cond_true, tp_one (k := k - 8) (by omega), Nat.mul_one]
        have := kt (8 - k).toNat (by omega)
        rw [show (((8 - k).toNat : Nat) : Int) = 8 - k by omega] at this
        rw [this]
        simp only [Option.bind_some]
        rw [km _ _ (by omega) (by unfold tp at l1; omega)]
        rfl
      · rw [decide_eq_false h8, cond_false, tp_one (k := 8 - k) (by omega), Nat.mul_one]
        have := kt (k - 8).toNat (by omega)
        rw [show (((k - 8).toNat : Nat) : Int) = -(8 - k) by omega] at this
        rw [this]
        simp only [Option.bind_some]
        rw [km _ _ (by omega) (by unfold tp at l2; omega)]
        rfl)]
    dsimp only
    have hb0 : 0 < q * tp (k - 8) := Nat.mul_pos (by omega) (tp_pos _)
    rw [kd _ _ (by omega) (by omega) (by omega)]
    simp only [Option.bind_some]
    have h9 := LG_nine hq hk
    have hdl := shown_len (up := up) hq hk
    obtain ⟨A, hA⟩ : ∃ A, A = p * tp (8 - k) := ⟨_, rfl⟩
    obtain ⟨D, hD⟩ : ∃ D, D = q * tp (k - 8) := ⟨_, rfl⟩
    rw [← hA, ← hD] at h9 hdl ⊢
    have hql2 : (dig (A / D)).length ≤ 10 := dig_len_le.2 (Nat.lt_of_lt_of_le h9.2 (by decide))
    obtain ⟨N, hN⟩ : ∃ N, N = rnd up A D := ⟨_, rfl⟩
    rw [jb_of (p := ((dig N, (k, (bs [], ()))), ())) (by
      rw [jb_of (p := (((up && decide (A % D ≠ 0)), (dig (A / D), (k, (bs [], ())))), ())) (by
        cases up with
        | false => rfl
        | true =>
          rw [cond_true, len_eq, ilt_iff, Bool.true_and]
          by_cases h0 : A % D = 0
          · rw [h0, dig_zero]; rfl
          · have := dig_len_pos h0
            rw [decide_eq_true (by omega), decide_eq_true h0])]
      dsimp only
      rw [hN]
      unfold rnd
      by_cases h0 : up = true ∧ A % D ≠ 0
      · rw [if_pos h0, h0.1, decide_eq_true h0.2, Bool.true_and, cond_true, one_dg, ka _ _ (by omega) (by rw [← one_dg]; decide)]
        rfl
      · rw [if_neg h0, show (up && decide (A % D ≠ 0)) = false from by
          cases up with
          | false => rfl
          | true =>
            rw [Bool.true_and]
            exact decide_eq_false (fun h => h0 ⟨rfl, h⟩)]
        rfl)]
    dsimp only
    have hNle : N ≤ 1000000000 := by
      have := (rnd_le (up := up) (a := A) (b := D)).2
      rw [hN]
      omega
    have hNl : (dig N).length ≤ 10 := dig_len_le.2 (Nat.lt_of_le_of_lt hNle (by decide))
    rw [kx N (by omega), ← hN]
    rw [← hN] at hdl
    simp only [Option.bind_some]
    have hdb := dec_bl N
    unfold shown
    obtain ⟨d, hd⟩ : ∃ d, d = dec N := ⟨_, rfl⟩
    rw [← hd] at hdl hdb ⊢
    obtain ⟨K, hK⟩ : ∃ K, K = k + ((d.length : Int) - 9) := ⟨_, rfl⟩
    have hKb : -1000 < K ∧ K < 1000 := by rw [hK]; omega
    obtain ⟨rest, hrest⟩ : ∃ rest, rest = ((d.drop 1).reverse.dropWhile (· == 48)).reverse := ⟨_, rfl⟩
    have hrl := trim_len (d.drop 1) 48
    rw [← hrest, List.length_drop] at hrl
    have hrb : Bl rest := by
      rw [hrest]
      exact fun x hx => hdb x (List.mem_of_mem_drop (List.mem_reverse.1 ((List.dropWhile_sublist _).mem (List.mem_reverse.1 hx))))
    have ht1 : (d.take 1).length = 1 := by rw [List.length_take]; omega
    have e1 : ByteArray.extract (bs d) (Int.toNat 0) (Int.toNat 1) = bs (d.take 1) := by rw [bs_sub]; rfl
    have e2 : ByteArray.extract (bs d) (Int.toNat 1) (Int.toNat ((d.length : Nat) : Int)) = bs (d.drop 1) := by
      rw [bs_sub, Int.toNat_natCast, List.take_length]; rfl
    rw [← hK, ← hrest, bs_len, ok_of (sliceOk_true (by omega) (by omega) (by omega)), e1]
    rw [jb_of (p := ((K, (bs (d.take 1 ++ (if rest = [] then [] else 46 :: rest)), (bs [], ()))), ())) (by
      rw [ok_of (sliceOk_true (by omega) (by omega) (by omega)), e2, kr _ 48 (bl_drop hdb _) (by decide) (by rw [List.length_drop]; omega), ← hrest, isub_eq (by omega) (by omega), iadd_eq (by omega) (by omega), ← hK]
      simp only [Option.bind_some]
      rw [bs_seq hrb (fun x hx => by cases hx)]
      by_cases h0 : rest = []
      · rw [decide_eq_true h0, if_pos h0, List.append_nil]; rfl
      · rw [decide_eq_false h0, if_neg h0, Bool.not_false, cond_true, bs_sok, ok_of (decide_eq_true (by simp only [List.length_singleton]; omega)), bs_app, bs_sok, ok_of (decide_eq_true (by rw [List.length_append]; simp only [List.length_singleton]; omega)), bs_app]
        rfl)]
    dsimp only
    have hol : (d.take 1 ++ (if rest = [] then [] else 46 :: rest)).length ≤ 100 := by
      rw [List.length_append]
      split
      · simp; omega
      · simp only [List.length_cons]; omega
    have hil := itoa_len (x := K) hKb.1 hKb.2
    rw [jb_of (p := ((bs (d.take 1 ++ ((if rest = [] then [] else 46 :: rest) ++ (if K = 0 then [] else 101 :: itoa K))), (bs [], ())), ())) (by
      by_cases h0 : K = 0
      · rw [h0, if_pos rfl, List.append_nil]; rfl
      · rw [if_neg h0, show (K != 0) = true from by simpa using h0, cond_true, ki K (by omega) (by omega)]
        simp only [Option.bind_some]
        rw [bs_sok, ok_of (decide_eq_true (by simp only [List.length_singleton]; omega)), bs_app, bs_sok, ok_of (decide_eq_true (by have e : ([101] ++ itoa K).length = 1 + (itoa K).length := (by rw [List.length_append]; rfl); rw [e]; omega)), bs_app]
        simp)]
end Go.Px.Seat

/- FloatShow: both sides give one text. -/
namespace Go.Px.Seat
open Go Pm
set_option linter.unusedVariables false
theorem bok_neg {w o : Int} (h : bok w o = true) : bok w (-o) = true := by
  obtain ⟨h1, h2, h3⟩ := bok_iff.1 h
  exact bok_iff.2 ⟨h1, by omega, by omega⟩
theorem top_lt (w : Int) : 0 ≤ top w ∧ top w ≤ 9218868437227405312 := by
  unfold top
  split
  · omega
  · split <;> omega
open Classical in
noncomputable def lgOf (p q : Nat) : Int := if h : ∃ k, LG p q k then Classical.choose h else 0
theorem lgOf_eq {p q : Nat} {k : Int} (h : LG p q k) : lgOf p q = k := by
  unfold lgOf
  rw [dif_pos ⟨k, h⟩]
  exact LG_uniq (Classical.choose_spec (⟨k, h⟩ : ∃ k, LG p q k)) h
/-- the text of a number above 0 -/
noncomputable def numTxt (p q : Nat) (up : Bool) : List Nat := shown (lgOf p q) (rnd up (p * tp (8 - lgOf p q)) (q * tp (lgOf p q - 8)))
noncomputable def posTxt (w o : Int) (up : Bool) : List Nat := if o = 0 then [48] else if o = top w then [105, 110, 102] else numTxt (fv w o).num.natAbs (fv w o).den up
/-- the text of a float -/
noncomputable def fsh (w o : Int) (up : Bool) : List Nat := if o < 0 then 45 :: posTxt w (-o) (!up) else posTxt w o up
theorem fsh_pos {w o : Int} {up : Bool} (h : 0 ≤ o) : fsh w o up = posTxt w o up := if_neg (by omega)
theorem fsh_neg {w o : Int} {up : Bool} (h : o < 0) : fsh w o up = 45 :: posTxt w (-o) (!up) := if_pos h
/-- both texts of a float are one -/
def Both (n : Nat) (w o : Int) (up : Bool) : Prop := c_s_FloatShow ((C B0).run n) w o up = some (bs (fsh w o up), ()) ∧ c_i_floatShow ((C B0).run n) w o up = some (bs (fsh w o up), ()) ∧ Bl (fsh w o up) ∧ (fsh w o up).length ≤ 201
theorem k_bothPos : Ev fun n => ∀ (w o : Int) (up : Bool), bok w o = true → 0 ≤ o → Both n w o up ∧ (fsh w o up).length ≤ 200 := by
  refine ((k_sBitOk (B := B0)).and ((k_sTop' (B := B0)).and ((k_BitTop (B := B0)).and ((k_sOfF (B := B0)).and (k_s22Size.and (k_value.and k_show)))))).succ fun n hn ⟨kb, kt, kT, ko, ks, kv, kw⟩ w o up hb h0 => ?_
  obtain ⟨hw, hlo, hhi⟩ := bok_iff.1 hb
  suffices h : c_s_FloatShow ((C B0).run (n + 1)) w o up = some (bs (fsh w o up), ()) ∧ c_i_floatShow ((C B0).run (n + 1)) w o up = some (bs (fsh w o up), ()) ∧ Bl (fsh w o up) ∧ (fsh w o up).length ≤ 200 from ⟨⟨h.1, h.2.1, h.2.2.1, by have := h.2.2.2; omega⟩, h.2.2.2⟩
  rw [run_succ, e_s_FloatShow, e_i_floatShow, fsh_pos h0]
  unfold p_s_FloatShow p_i_floatShow posTxt
  rw [kb, hb]
  simp only [Option.bind_some]
  rw [Bool.not_true, cond_false]
  by_cases hz : o = 0
  · subst hz
    rw [if_pos rfl]
    exact ⟨rfl, rfl, fun x hx => by simp at hx; omega, by decide⟩
  rw [if_neg hz, beq_f hz, cond_false, cond_false, ilt_iff, decide_eq_false (show ¬ o < 0 by omega), cond_false, cond_false, kt, kT]
  simp only [Option.bind_some]
  by_cases ht : o = top w
  · have e : (o == top w) = true := by simpa using ht
    rw [e, if_pos ht]
    exact ⟨rfl, rfl, fun x hx => by simp at hx; omega, by decide⟩
  rw [if_neg ht, beq_f ht, cond_false, cond_false]
  have hf : fin w o := ⟨hw, by omega, by omega⟩
  obtain ⟨p, q, h1, hq, h2, hpl, hql, hp⟩ := ko w o hf
  have hno : ¬ o < 0 := by omega
  rw [decide_eq_false hno] at h1 h2
  have h2 : mkRat (p : Int) q = fv w o := h2
  have hp0 : p ≠ 0 := fun h => hz (hp.1 h)
  obtain ⟨g1, g2⟩ := G_fv hf hno hp0 hq h2
  obtain ⟨k, hk, hk1, hk2⟩ := LG_ex 801 (-400) g1 (by simpa using g2)
  rw [h1, kv w o hf]
  simp only [Option.bind_some]
  have hfit := fits_len (fits_fv hf)
  have hnum : 0 ≤ (fv w o).num := by
    rw [← h2]
    have : (0 : Rat) ≤ mkRat (p : Int) q := by
      rw [← Rat.not_lt]
      intro h
      have := (mk_lt2 (a := (p : Int)) (b := 0) hq (show (1 : Nat) ≠ 0 by decide)).1 (by simpa using h)
      omega
    exact Rat.num_nonneg.2 this
  have hself : fv w o = mkRat (((fv w o).num.natAbs : Nat) : Int) (fv w o).den := by
    rw [show ((((fv w o).num.natAbs : Nat)) : Int) = (fv w o).num by omega, Rat.mkRat_self]
  have hr := ratio_of hq (fv w o).den_nz (h2.trans hself)
  have hn0 : (fv w o).num.natAbs ≠ 0 := fun h => by
    rw [h, Nat.zero_mul] at hr
    rcases Nat.mul_eq_zero.1 hr with h3 | h3
    · exact hp0 h3
    · exact (fv w o).den_nz h3
  rw [ks p q up k hq (by omega) (by omega) hk g1 g2]
  show _ ∧ ((c_i_show _ (fb (fv w o)) (dig (fv w o).num.natAbs) (dig (fv w o).den) up).bind _ = _) ∧ _
  rw [kw _ _ _ up k hn0 (fv w o).den_nz (Nat.le_trans hfit.1 (by decide)) (Nat.le_trans hfit.2 (by decide)) ((LG_ratio hq (fv w o).den_nz hr).1 hk) (by omega) (by omega)]
  have hlg := lgOf_eq ((LG_ratio hq (fv w o).den_nz hr).1 hk)
  unfold numTxt
  rw [hlg]
  have hN : rnd up ((fv w o).num.natAbs * tp (8 - k)) ((fv w o).den * tp (k - 8)) = rnd up (p * tp (8 - k)) (q * tp (k - 8)) := by
    refine rnd_ratio (Nat.mul_pos (Nat.pos_of_ne_zero (fv w o).den_nz) (tp_pos _)) (Nat.mul_pos (by omega) (tp_pos _)) ?_
    rw [Nat.mul_mul_mul_comm, ← hr, Nat.mul_mul_mul_comm]
  rw [hN]
  obtain ⟨s1, s2⟩ := shown_bl (up := up) hq hk (by omega) (by omega)
  exact ⟨rfl, rfl, s1, by omega⟩
theorem k_both : Ev fun n => ∀ (w o : Int) (up : Bool), bok w o = true → Both n w o up := by
  refine (k_bothPos.and (Ev.succ ((k_sBitOk (B := B0)).and k_bothPos) (q := fun n => ∀ (w o : Int) (up : Bool), bok w o = true → o < 0 → Both n w o up) fun n hn ⟨kb, kp⟩ w o up hb h0 => ?_)).mono fun n ⟨h1, h2⟩ w o up hb => ?_
  · obtain ⟨hw, hlo, hhi⟩ := bok_iff.1 hb
    have ht := top_lt w
    obtain ⟨⟨h1, h2, h3, _⟩, h4⟩ := kp w (-o) (!up) (bok_neg hb) (by omega)
    unfold Both
    rw [fsh_pos (by omega)] at h1 h2 h3 h4
    rw [run_succ, e_s_FloatShow, e_i_floatShow, fsh_neg h0]
    unfold p_s_FloatShow p_i_floatShow
    rw [kb, hb]
    simp only [Option.bind_some]
    rw [Bool.not_true, cond_false, beq_f (show ¬ o = 0 by omega), cond_false, cond_false, ilt_iff, decide_eq_true h0, cond_true, cond_true, ineg_eq (by omega) (by omega), h1, h2]
    simp only [Option.bind_some]
    rw [bs_sok, ok_of (decide_eq_true (by simp only [List.length_singleton]; omega)), bs_app]
    refine ⟨rfl, rfl, fun x hx => ?_, by rw [List.length_cons]; omega⟩
    rcases List.mem_cons.1 hx with rfl | hx
    · decide
    · exact h3 x hx
  · by_cases h0 : 0 ≤ o
    · exact (h1 w o up hb h0).1
    · exact h2 w o up hb (by omega)
end Go.Px.Seat
