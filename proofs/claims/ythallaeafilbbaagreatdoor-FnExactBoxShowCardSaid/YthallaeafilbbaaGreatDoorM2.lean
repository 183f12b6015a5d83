/- Own texts, part M2: PeB PtB PtJn PmI0 PeC. -/
import Derived.Test.YthallaeafilbbaaGreatDoorM1
set_option linter.unusedVariables false

/- PmH PtA (what FnExactFloatShow's claim keeps of them) -/
set_option linter.unusedVariables false
/- Numbers: the program's functions, part 2. -/
namespace Pm
theorem bl_log2 {x : Nat} (h : x ≠ 0) : bl x = Nat.log2 x + 1 := by
  have h1 := Nat.lt_log2_self (n := x)
  have h2 := Nat.log2_self_le h
  have h3 : bl x ≤ Nat.log2 x + 1 := bl_le.2 h1
  rcases Nat.lt_or_ge (bl x) (Nat.log2 x + 1) with h4 | h4
  · have := bl_le.1 (show bl x ≤ Nat.log2 x by omega)
    omega
  · omega
theorem or_add {a b t : Nat} (ha : a < 2 ^ t) (hb : b % 2 ^ t = 0) : a ||| b = a + b := by
  have h := Nat.div_add_mod b (2 ^ t)
  rw [hb, Nat.add_zero] at h
  rw [← h, Nat.or_comm, ← Nat.two_pow_add_eq_or_of_lt ha, Nat.add_comm]
theorem val_of_at : ∀ {l : List Int} {z : Nat}, (∀ j, j < l.length → at_ l j = ((z / 65536 ^ j % 65536 : Nat) : Int)) → val l = ((z % 65536 ^ l.length : Nat) : Int) := by
  intro l z h
  have : ∀ k, k ≤ l.length → val (l.take k) = ((z % 65536 ^ k : Nat) : Int) := by
    intro k
    induction k with
    | zero => intro _; simp [val, Nat.mod_one]
    | succ k ih =>
      intro hk
      rw [val_take_succ l k (by omega), ih (by omega), h k (by omega), mod_succ, Int.natCast_add, Int.natCast_mul]
  have := this l.length (Nat.le_refl _)
  rwa [List.take_length] at this
theorem Dg_of_at {l : List Int} {z : Nat} (h : ∀ j, j < l.length → at_ l j = ((z / 65536 ^ j % 65536 : Nat) : Int)) : Dg l := by
  intro d hd
  obtain ⟨i, hi, rfl⟩ := List.getElem_of_mem hd
  have := h i hi
  simp only [at_, List.getD_eq_getElem?_getD, List.getElem?_eq_getElem hi, Option.getD_some] at this
  rw [this]
  omega
def hz (k x : Nat) : Nat := if 2 ^ k ≤ x then x / 2 ^ k else x
def hm (k x : Nat) : Nat := if 2 ^ k ≤ x then k else 0
theorem hm_hz (k x : Nat) : hm k x + bl (hz k x) = bl x := by
  unfold hm hz
  split
  · rename_i h
    have hne : x / 2 ^ k ≠ 0 := by
      have := (Nat.le_div_iff_mul_le (Nat.pow_pos (by decide) : 0 < 2 ^ k)).2 (show 1 * 2 ^ k ≤ x by omega)
      omega
    rw [bl_shift x k hne]
  · rw [Nat.zero_add]
theorem hz_lt {k x : Nat} (h : x < 2 ^ (k + k)) : hz k x < 2 ^ k := by
  unfold hz
  split
  · rw [Nat.pow_add] at h
    exact (Nat.div_lt_iff_lt_mul (Nat.pow_pos (by decide))).2 h
  · omega
theorem hm_le (k x : Nat) : hm k x ≤ k := by unfold hm; split <;> omega
end Pm
namespace Go.Px.Seat
open Go Pm
set_option linter.unusedVariables false
variable {B : Run}
theorem ior_eq {x y : Nat} (hx : x < 9223372036854775808) (hy : y < 9223372036854775808) : ior .i64 (x : Int) (y : Int) = ((x ||| y : Nat) : Int) := by
  have e1 : ∀ z : Nat, z < 9223372036854775808 → (BitVec.ofInt 64 (z : Int)).toNat = z := fun z hz => by
    simp; omega
  have h3 : x ||| y < 2 ^ 63 := Nat.or_lt_two_pow (by omega) (by omega)
  show IntKind.i64.wrap (((BitVec.ofInt 64 (x : Int) ||| BitVec.ofInt 64 (y : Int)).toNat : Nat) : Int) = _
  rw [BitVec.toNat_or, e1 x hx, e1 y hy]
  exact wrap64 (by omega) (by omega)
theorem k_Len64 : Ev fun n => ∀ x : Nat, x < 18446744073709551616 → c_math_bits_Len64 ((C B).run n) (x : Int) = some ((bl x : Int), ()) := by
  refine Ev.triv.succ fun n hn _ x hx => ?_
  rw [run_succ, e_math_bits_Len64]
  unfold p_math_bits_Len64
  generalize hT : bs _ = T
  have hT1 : ∀ i : Fin 256, bt T ((i.val : Nat) : Int) = ((if i.val = 0 then 0 else Nat.log2 i.val + 1 : Nat) : Int) := by
    subst hT
    decide +kernel
  have hT2 : slen T = 256 := by
    subst hT
    decide +kernel
  have hT3 : ∀ i : Nat, i < 256 → bt T (i : Int) = (bl i : Int) := fun i hi => by
    have := hT1 ⟨i, hi⟩
    simp only at this
    rw [this]
    by_cases h : i = 0
    · subst h; simp
    · rw [if_neg h, bl_log2 h]
  have fin : ∀ (m z : Nat), z < 256 → m ≤ 64 → m + bl z = bl x → (ok (inB (IntKind.wrap .u8 (z : Int)) (slen T)) (some ((iadd .i64 (m : Int) (IntKind.wrap .i64 (bt T (IntKind.wrap .u8 (z : Int))))), ())) : Option (Int × Unit)) = some ((bl x : Int), ()) := by
    intro m z hz hm he
    have hw : IntKind.wrap .u8 (z : Int) = (z : Int) := by
      simp only [IntKind.wrap, IntKind.bits, IntKind.signed]
      simp
      omega
    have hb8 : bl z ≤ 8 := bl_le.2 (by omega)
    rw [hw, hT2, ok_of (inB_true (by omega) (by omega)), hT3 z hz, wrap64 (by omega) (by omega), iadd_eq (by omega) (by omega)]
    congr 2
    omega
  have g1 := hz_lt (k := 32) (x := x) (by simp only [Nat.reducePow, Nat.reduceAdd]; omega)
  have g2 := hz_lt (k := 16) g1
  have g3 := hz_lt (k := 8) g2
  have b1 := hm_hz 32 x
  have b2 := hm_hz 16 (hz 32 x)
  have b3 := hm_hz 8 (hz 16 (hz 32 x))
  have l1 := hm_le 32 x
  have l2 := hm_le 16 (hz 32 x)
  have l3 := hm_le 8 (hz 16 (hz 32 x))
  have sh : ∀ (k z : Nat), k ≤ 64 → ishr .u64 (z : Int) (k : Int) = ((z / 2 ^ k : Nat) : Int) := fun k z hk => by
    rw [ishru_eq hk, Int.natCast_ediv]; norm_cast
  refine (jb_of (p := ((((hz 32 x : Nat) : Int), (((hm 32 x : Nat) : Int), ())), ())) ?_ _).trans ?_
  · unfold hz hm
    simp only [Nat.reducePow, ile_iff]
    by_cases h : 4294967296 ≤ x
    · simp only [show (4294967296 : Int) ≤ (x : Int) by omega, decide_true, cond_true, h, if_true]
      have := sh 32 x (by decide)
      simp only [Nat.reducePow] at this
      rw [← this]; rfl
    · simp only [show ¬ (4294967296 : Int) ≤ (x : Int) by omega, decide_false, cond_false, h, if_false]; rfl
  simp only []
  generalize hz 32 x = y1 at *
  generalize hm 32 x = m1 at *
  refine (jb_of (p := ((((hz 16 y1 : Nat) : Int), (((m1 + hm 16 y1 : Nat) : Int), ())), ())) ?_ _).trans ?_
  · unfold hz hm
    simp only [Nat.reducePow, ile_iff]
    by_cases h : 65536 ≤ y1
    · simp only [show (65536 : Int) ≤ (y1 : Int) by omega, decide_true, cond_true, h, if_true]
      have := sh 16 y1 (by decide)
      simp only [Nat.reducePow] at this
      rw [← this, iadd_eq (by omega) (by omega)]; rfl
    · simp only [show ¬ (65536 : Int) ≤ (y1 : Int) by omega, decide_false, cond_false, h, if_false]; rfl
  simp only []
  generalize hz 16 y1 = y2 at *
  generalize hm 16 y1 = m2 at *
  refine (jb_of (p := ((((m1 + m2 + hm 8 y2 : Nat) : Int), (((hz 8 y2 : Nat) : Int), ())), ())) ?_ _).trans ?_
  · unfold hz hm
    simp only [Nat.reducePow, ile_iff]
    by_cases h : 256 ≤ y2
    · simp only [show (256 : Int) ≤ (y2 : Int) by omega, decide_true, cond_true, h, if_true]
      have := sh 8 y2 (by decide)
      simp only [Nat.reducePow] at this
      rw [← this, iadd_eq (by omega) (by omega)]; rfl
    · simp only [show ¬ (256 : Int) ≤ (y2 : Int) by omega, decide_false, cond_false, h, if_false]; rfl
  simp only []
  exact fin _ _ g3 (by omega) (by omega)
theorem k_Len : Ev fun n => ∀ x : Nat, x < 18446744073709551616 → c_math_bits_Len ((C B).run n) (x : Int) = some ((bl x : Int), ()) := by
  refine (k_Len64 (B := B)).succ fun n hn h64 x hx => ?_
  rw [run_succ, e_math_bits_Len]
  unfold p_math_bits_Len
  rw [h64 x hx]; rfl
theorem k_in : Ev fun n => ∀ a b c : Int, c_i_in ((C B).run n) a b c = some (decide (b ≤ a ∧ a ≤ c), ()) := by
  refine Ev.triv.succ fun n hn _ a b c => ?_
  rw [run_succ, e_i_in]
  unfold p_i_in
  simp only [jb_cond, jb_inr, ile_iff]
  by_cases h : b ≤ a <;> simp [h]
end Go.Px.Seat

/- Texts as lists of bytes. -/
namespace Go.Px
open Go Pm

def chs (s : ByteArray) : List Nat := s.data.toList.map UInt8.toNat
theorem chs_len (s : ByteArray) : (chs s).length = s.size := by
  simp only [chs, List.length_map, Array.length_toList]
  rfl
theorem chs_lt {s : ByteArray} {x : Nat} (h : x ∈ chs s) : x < 256 := by
  obtain ⟨c, _, rfl⟩ := List.mem_map.1 h
  exact c.toNat_lt
theorem bt_chs (s : ByteArray) (i : Nat) : bt s (i : Int) = (((chs s).getD i 0 : Nat) : Int) := by
  unfold bt
  simp only [Int.toNat_natCast]
  by_cases h : i < s.size
  · rw [dif_pos h]
    have h' : i < s.data.toList.length := by simpa using h
    simp only [chs, List.getD_eq_getElem?_getD, List.getElem?_map, List.getElem?_eq_getElem h', Option.map_some, Option.getD_some, Array.getElem_toList]
    rfl
  · rw [dif_neg h]
    have h' : ¬ i < (chs s).length := by rw [chs_len]; exact h
    rw [List.getD_eq_getElem?_getD, List.getElem?_eq_none (by omega)]
    rfl
theorem chs_inj {a b : ByteArray} (h : chs a = chs b) : a = b := by
  have : a.data.toList = b.data.toList := List.map_inj_right (fun x y h => UInt8.toNat_inj.1 h) |>.1 h
  cases a; cases b
  simp only at this
  rw [Array.toList_inj.1 this]
theorem chs_bs {l : List Nat} (h : ∀ x ∈ l, x < 256) : chs (bs l) = l := by
  simp only [chs, bs, List.map_map]
  refine (List.map_congr_left fun x hx => ?_).trans (List.map_id l)
  show (UInt8.ofNat x).toNat = x
  rw [UInt8.toNat_ofNat']
  exact Nat.mod_eq_of_lt (h x hx)
theorem seq_chs (a b : ByteArray) : seq a b = decide (chs a = chs b) := by
  unfold seq
  by_cases h : a = b
  · subst h; simp
  · have h1 : ¬ chs a = chs b := fun h' => h (chs_inj h')
    rw [decide_eq_false h1]
    have : ¬ a.toList = b.toList := fun h' => h1 (by
      rw [ByteArray.toList_eq, ByteArray.toList_eq] at h'
      unfold chs
      rw [h'])
    simpa using this
/-! texts as `bs l` -/
def Bl (l : List Nat) : Prop := ∀ x ∈ l, x < 256
theorem bl_chs (s : ByteArray) : Bl (chs s) := fun _ h => chs_lt h
theorem bs_chs (s : ByteArray) : bs (chs s) = s := chs_inj (chs_bs (bl_chs s))
theorem bs_app (a b : List Nat) : bs a ++ bs b = bs (a ++ b) := by
  have h : (bs a ++ bs b).data = (bs (a ++ b)).data := by
    rw [ByteArray.data_append]
    simp [bs]
  exact ByteArray.ext h
theorem bs_sub (l : List Nat) (a b : Nat) : ByteArray.extract (bs l) a b = bs ((l.take b).drop a) := by
  have h : (ByteArray.extract (bs l) a b).data = (bs ((l.take b).drop a)).data := by
    rw [ByteArray.data_extract]
    simp [bs, List.map_drop, List.map_take, List.extract, List.drop_take]
  exact ByteArray.ext h
theorem bs_size (l : List Nat) : (bs l).size = l.length := by
  show (bs l).data.size = _
  simp [bs]
theorem bs_len (l : List Nat) : slen (bs l) = (l.length : Int) := by
  rw [slen_eq, bs_size]
theorem bs_bt {l : List Nat} (h : Bl l) (i : Nat) : bt (bs l) (i : Int) = ((l.getD i 0 : Nat) : Int) := by rw [bt_chs, chs_bs h]
theorem bs_seq {a b : List Nat} (ha : Bl a) (hb : Bl b) : seq (bs a) (bs b) = decide (a = b) := by rw [seq_chs, chs_bs ha, chs_bs hb]
theorem bs_sok (a b : List Nat) : sok (bs a) (bs b) = decide (a.length + b.length ≤ 140737488355328) := by
  rw [sok_eq, bs_size, bs_size]
  exact decide_eq_decide.2 (by omega)
theorem bl_app {a b : List Nat} : Bl (a ++ b) ↔ Bl a ∧ Bl b := ⟨fun h => ⟨fun x hx => h x (List.mem_append_left _ hx), fun x hx => h x (List.mem_append_right _ hx)⟩, fun h x hx => (List.mem_append.1 hx).elim (h.1 x) (h.2 x)⟩
theorem bl_take {l : List Nat} (h : Bl l) (n : Nat) : Bl (l.take n) := fun x hx => h x (List.mem_of_mem_take hx)
theorem bl_drop {l : List Nat} (h : Bl l) (n : Nat) : Bl (l.drop n) := fun x hx => h x (List.mem_of_mem_drop hx)
end Go.Px

/- Words, numbers, signs: plain functions on bytes. No program here. -/
namespace Pt
def letter (c : Nat) : Bool := decide (97 ≤ c) && decide (c ≤ 122)
def digit (c : Nat) : Bool := decide (48 ≤ c) && decide (c ≤ 57)
def wc (d : Bool) (prev c : Nat) : Bool := letter c || (digit c || (c == 46 || (c == 45 && (d && prev == 101))))
/-- how long a word is; prev: what stands ahead -/
def wlen (d : Bool) : Nat → List Nat → Nat
  | _, [] => 0
  | p, c :: r => if wc d p c then 1 + wlen d c r else 0
def signs : List Nat := [43, 45, 42, 47, 94, 40, 41, 44, 61]
def sgn : List Nat → List Nat
  | 60 :: 61 :: _ => [60, 61]
  | 62 :: 61 :: _ => [62, 61]
  | c :: _ => if c ∈ signs then [c] else []
  | [] => []
def plain (l : List Nat) : Bool := decide (1 ≤ l.length) && (decide (l.length ≤ 8) && (letter (l.getD 0 0) && l.all fun c => letter c || digit c))
/-- a whole number's digits -/
def whole (l : List Nat) : Bool := decide (l ≠ []) && (l.all digit && (decide (l = [48]) || decide (l.getD 0 0 ≠ 48)))
def value : List Nat → Nat := fun l => l.foldl (fun n c => n * 10 + (c - 48)) 0
/-- what stands behind the first c, if one does -/
def cutAt (c : Nat) (l : List Nat) : List Nat × List Nat × Bool := (l.takeWhile (· != c), (l.dropWhile (· != c)).drop 1, l.any (· == c))
def exOk (minus : Bool) (q : List Nat) : Bool := whole q && (decide (q.length ≤ 3) && (decide (value q ≤ 400) && !(minus && decide (value q = 0))))
def expo (p : List Nat) : Bool := match p with
  | 45 :: q => exOk true q
  | q => exOk false q
/-- the program's literals -/
def num (l : List Nat) : Bool :=
  let b := cutAt 101 l
  let a := cutAt 46 b.1
  whole a.1 && ((!a.2.2 || (decide (a.2.1 ≠ []) && a.2.1.all digit)) && (!b.2.2 || expo b.2.1))
/-- the reference's -/
def rexp (r : List Nat) : Bool := match r with
  | [] => true
  | 101 :: p => expo p
  | _ => false
def rfrac (r : List Nat) : Bool := match r with
  | 46 :: p => decide (p.takeWhile digit ≠ []) && rexp (p.dropWhile digit)
  | r => rexp r
def rnum (l : List Nat) : Bool := whole (l.takeWhile digit) && rfrac (l.dropWhile digit)
end Pt

/- Names and lists of texts: plain. -/
namespace Pt
def words : List (List Nat) := [[100, 101, 102], [118, 97, 114], [115, 113, 114, 116], [97, 98, 115], [109, 105, 110], [109, 97, 120]]
def nameOk (l : List Nat) : Bool := plain l && !decide (l ∈ words)
/-- texts, with another one between -/
def joinL (s : List Nat) : List (List Nat) → List Nat
  | [] => []
  | [x] => x
  | x :: y :: r => x ++ (s ++ joinL s (y :: r))
end Pt

/- slices.Clone, strconv.Itoa, strings.Repeat, strings.TrimRight, strings.Join, impl.LangNameOk: what is asked of them. Seat E. -/
namespace Go.Px.Seat
open Go Pm Pt
set_option linter.unusedVariables false
/-- slices.Clone, of lists that are not empty -/
noncomputable def cloneRun : Pay sg_slices_Clone_int_int.inl → Option (Pay sg_slices_Clone_int_int.outl) := fun q =>
  let l : List Int := q.1
  if l = [] ∨ 1099511627776 < l.length then none else some (l, ())
/-- how often 2 divides a number; no more than told -/
def ctz : Nat → Nat → Nat
  | 0, _ => 0
  | f + 1, x => if x % 2 = 1 then 0 else ctz f (x / 2) + 1
/-- decimal digits, as bytes -/
def dec (n : Nat) : List Nat := if h : n < 10 then [48 + n] else dec (n / 10) ++ [48 + n % 10]
termination_by n
decreasing_by omega
def itoa (x : Int) : List Nat := if x < 0 then 45 :: dec x.natAbs else dec x.toNat
def itoaRun : Pay sg_strconv_Itoa.inl → Option (Pay sg_strconv_Itoa.outl) := fun q =>
  let x : Int := q.1
  if -9223372036854775808 ≤ x ∧ x ≤ 9223372036854775807 then some (bs (itoa x), ()) else none
def repRun : Pay sg_strings_Repeat.inl → Option (Pay sg_strings_Repeat.outl) := fun q =>
  let s : ByteArray := q.1
  let c : Int := q.2.1
  if 0 ≤ c ∧ s.size * c.toNat ≤ 100000 ∧ c ≤ 100000 then some (bs (List.replicate c.toNat (chs s)).flatten, ()) else none
def trimRun : Pay sg_strings_TrimRight.inl → Option (Pay sg_strings_TrimRight.outl) := fun q =>
  let s : ByteArray := q.1
  let t : ByteArray := q.2.1
  match chs t with
  | [c] => if c < 128 ∧ s.size ≤ 1000000 then some (bs ((chs s).reverse.dropWhile (· == c)).reverse, ()) else none
  | _ => none
/-- strings.Join, of lists that are not empty -/
noncomputable def joinV (l : List ByteArray) (s : ByteArray) : Option (ByteArray × Unit) :=
  if l = [] ∨ 100000 < l.length ∨ 1000000000 < (joinL (chs s) (l.map chs)).length then none else some (bs (joinL (chs s) (l.map chs)), ())
noncomputable def joinRun : Pay sg_strings_Join.inl → Option (Pay sg_strings_Join.outl) := fun q => joinV q.1 q.2.1
/-- impl.LangNameOk: it reads the variable of the language's own words -/
noncomputable def nameRun : Pay sg_i_LangNameOk.inl → Option (Pay sg_i_LangNameOk.outl) := fun q =>
  let s : ByteArray := q.1
  if 4000000 < s.size then none else some (nameOk (chs s), ())
open Classical in
noncomputable def B0 : Run := fun f _ s =>
  if f = 175 then (if h : s = sg_slices_Clone_int_int then h ▸ cloneRun else fun _ => none)
  else if f = 113 then (if h : s = sg_strconv_Itoa then h ▸ itoaRun else fun _ => none)
  else if f = 176 then (if h : s = sg_strings_Repeat then h ▸ repRun else fun _ => none)
  else if f = 155 then (if h : s = sg_strings_TrimRight then h ▸ trimRun else fun _ => none)
  else if f = 62 then (if h : s = sg_strings_Join then h ▸ joinRun else fun _ => none)
  else if f = 31 then (if h : s = sg_i_LangNameOk then h ▸ nameRun else fun _ => none) else fun _ => none
theorem B0_clone (key : List Nat) : B0 175 key sg_slices_Clone_int_int = cloneRun := by
  unfold B0
  rw [if_pos rfl, dif_pos rfl]
theorem B0_clone_no {key : List Nat} {s : Sig} (h : s ≠ sg_slices_Clone_int_int) : B0 175 key s = fun _ => none := by
  unfold B0
  rw [if_pos rfl, dif_neg h]
theorem B0_itoa (key : List Nat) : B0 113 key sg_strconv_Itoa = itoaRun := by
  unfold B0
  rw [if_neg (by decide), if_pos rfl, dif_pos rfl]
theorem B0_itoa_no {key : List Nat} {s : Sig} (h : s ≠ sg_strconv_Itoa) : B0 113 key s = fun _ => none := by
  unfold B0
  rw [if_neg (by decide), if_pos rfl, dif_neg h]
theorem B0_rep (key : List Nat) : B0 176 key sg_strings_Repeat = repRun := by
  unfold B0
  rw [if_neg (by decide), if_neg (by decide), if_pos rfl, dif_pos rfl]
theorem B0_rep_no {key : List Nat} {s : Sig} (h : s ≠ sg_strings_Repeat) : B0 176 key s = fun _ => none := by
  unfold B0
  rw [if_neg (by decide), if_neg (by decide), if_pos rfl, dif_neg h]
theorem B0_trim (key : List Nat) : B0 155 key sg_strings_TrimRight = trimRun := by
  unfold B0
  rw [if_neg (by decide), if_neg (by decide), if_neg (by decide), if_pos rfl, dif_pos rfl]
theorem B0_trim_no {key : List Nat} {s : Sig} (h : s ≠ sg_strings_TrimRight) : B0 155 key s = fun _ => none := by
  unfold B0
  rw [if_neg (by decide), if_neg (by decide), if_neg (by decide), if_pos rfl, dif_neg h]
theorem B0_join (key : List Nat) : B0 62 key sg_strings_Join = joinRun := by
  unfold B0
  rw [if_neg (by decide), if_neg (by decide), if_neg (by decide), if_neg (by decide), if_pos rfl, dif_pos rfl]
theorem B0_join_no {key : List Nat} {s : Sig} (h : s ≠ sg_strings_Join) : B0 62 key s = fun _ => none := by
  unfold B0
  rw [if_neg (by decide), if_neg (by decide), if_neg (by decide), if_neg (by decide), if_pos rfl, dif_neg h]
theorem B0_name (key : List Nat) : B0 31 key sg_i_LangNameOk = nameRun := by
  unfold B0
  rw [if_neg (by decide), if_neg (by decide), if_neg (by decide), if_neg (by decide), if_neg (by decide), if_pos rfl, dif_pos rfl]
theorem B0_name_no {key : List Nat} {s : Sig} (h : s ≠ sg_i_LangNameOk) : B0 31 key s = fun _ => none := by
  unfold B0
  rw [if_neg (by decide), if_neg (by decide), if_neg (by decide), if_neg (by decide), if_neg (by decide), if_pos rfl, dif_neg h]
theorem k_Clone : Ev fun n => ∀ l : List Int, l ≠ [] → l.length ≤ 1099511627776 → c_slices_Clone_int_int ((C B0).run n) l = some (l, ()) := by
  refine Ev.triv.succ fun n hn _ l h1 h2 => ?_
  have e1 : c_slices_Clone_int_int ((C B0).run (n + 1)) l = cloneRun (l, ()) := by
    rw [← B0_clone []]
    rfl
  rw [e1]
  unfold cloneRun
  simp only
  rw [if_neg]
  · rfl
  · rintro (h | h)
    · exact h1 h
    · omega
theorem k_Itoa : Ev fun n => ∀ x : Int, -9223372036854775808 ≤ x → x ≤ 9223372036854775807 → c_strconv_Itoa ((C B0).run n) x = some (bs (itoa x), ()) := by
  refine Ev.triv.succ fun n hn _ x h1 h2 => ?_
  have e1 : c_strconv_Itoa ((C B0).run (n + 1)) x = itoaRun (x, ()) := by
    rw [← B0_itoa []]
    rfl
  rw [e1]
  unfold itoaRun
  simp only
  rw [if_pos ⟨h1, h2⟩]
  rfl
theorem k_Repeat : Ev fun n => ∀ (l : List Nat) (c : Nat), Bl l → l.length * c ≤ 100000 → c ≤ 100000 → c_strings_Repeat ((C B0).run n) (bs l) (c : Int) = some (bs (List.replicate c l).flatten, ()) := by
  refine Ev.triv.succ fun n hn _ l c hl h1 h2 => ?_
  have e1 : c_strings_Repeat ((C B0).run (n + 1)) (bs l) (c : Int) = repRun (bs l, ((c : Int), ())) := by
    rw [← B0_rep []]
    rfl
  rw [e1]
  unfold repRun
  simp only
  rw [Int.toNat_natCast, bs_size, if_pos ⟨by omega, h1, by omega⟩, chs_bs hl]
  rfl
theorem k_TrimRight : Ev fun n => ∀ (l : List Nat) (c : Nat), Bl l → c < 128 → l.length ≤ 1000000 → c_strings_TrimRight ((C B0).run n) (bs l) (bs [c]) = some (bs (l.reverse.dropWhile (· == c)).reverse, ()) := by
  refine Ev.triv.succ fun n hn _ l c hl hc h1 => ?_
  have e1 : c_strings_TrimRight ((C B0).run (n + 1)) (bs l) (bs [c]) = trimRun (bs l, (bs [c], ())) := by
    rw [← B0_trim []]
    rfl
  rw [e1]
  unfold trimRun
  simp only
  rw [chs_bs (l := [c]) (fun x hx => by rw [List.mem_singleton.1 hx]; omega), chs_bs hl, bs_size]
  simp only
  rw [if_pos ⟨hc, h1⟩]
  rfl
theorem k_Join : Ev fun n => ∀ (l : List (List Nat)) (s : List Nat), l ≠ [] → l.length ≤ 100000 → (joinL s l).length ≤ 1000000000 → (∀ x ∈ l, Bl x) → Bl s → c_strings_Join ((C B0).run n) (l.map bs) (bs s) = some (bs (joinL s l), ()) := by
  refine Ev.triv.succ fun n hn _ l s h1 h2 h3 h4 h5 => ?_
  have e1 : c_strings_Join ((C B0).run (n + 1)) (l.map bs) (bs s) = joinV (l.map bs) (bs s) := by
    show _ = joinRun (l.map bs, (bs s, ()))
    rw [← B0_join []]
    rfl
  have e2 : (l.map bs).map chs = l := by
    rw [List.map_map]
    exact (List.map_congr_left fun x hx => chs_bs (h4 x hx)).trans (List.map_id l)
  rw [e1]
  unfold joinV
  rw [e2, chs_bs h5, if_neg]
  rintro (h | h | h)
  · exact h1 (List.map_eq_nil_iff.1 h)
  · rw [List.length_map] at h; omega
  · omega
theorem k_NameOk : Ev fun n => ∀ l : List Nat, Bl l → l.length ≤ 4000000 → c_i_LangNameOk ((C B0).run n) (bs l) = some (nameOk l, ()) := by
  refine Ev.triv.succ fun n hn _ l h1 h2 => ?_
  have e1 : c_i_LangNameOk ((C B0).run (n + 1)) (bs l) = nameRun (bs l, ()) := by
    rw [← B0_name []]
    rfl
  rw [e1]
  unfold nameRun
  simp only
  rw [bs_size, if_neg (by omega), chs_bs h1]
  rfl
end Go.Px.Seat

/- PmI (what FnExactFloatShow's claim keeps of them) -/
set_option linter.unusedVariables false
/- Numbers: the program's functions, part 3: clone, product, shift. -/
namespace Go.Px.Seat
open Go Pm
set_option linter.unusedVariables false

variable {B : Run}
theorem k_natMul : Ev fun n => ∀ x y : Nat, (dig x).length ≤ 1073741824 → (dig y).length ≤ 1073741824 → c_i_natMul ((C B).run n) (dig x) (dig y) = some (dig (x * y), ()) := by
  refine (k_trim (B := B)).succ fun n hn hTrim x y hx hy => ?_
  rw [run_succ, e_i_natMul]
  unfold p_i_natMul
  simp only [len_eq]
  generalize hLx : (dig x).length = Lx at *
  generalize hLy : (dig y).length = Ly at *
  rw [iadd_eq (x := (Lx : Int)) (by omega) (by omega), iadd_eq (by omega) (by omega), ok_of (mkOk_true (by omega) (by omega) (by omega)), show ((Lx : Int) + Ly + 1).toNat = Lx + Ly + 1 by omega]
  refine iter_const (fun p => ∃ (i : Nat) (o : List Int), p = (((i : Int), ((Lx : Int), (dig x, (dig y, ((), ((), ())))))), (o, ())) ∧ i ≤ Lx ∧ o.length = Lx + Ly + 1 ∧ Dg o ∧
      val o = ((x % 65536 ^ i * y : Nat) : Int) ∧ ∀ j, i + Ly ≤ j → at_ o j = 0) (fun p => Lx - p.1.1.toNat) _ ?_ n _ (by simp only; omega)
      ⟨0, _, rfl, by omega, by simp, Dg_replicate _, by rw [val_replicate_zero]; simp [Nat.mod_one], fun j _ => by
        simp only [at_, List.getD_eq_getElem?_getD, List.getElem?_replicate]
        split <;> rfl⟩
  rintro rec _ ⟨i, o, rfl, h1, h2, h3, h4, h5⟩ ih
  simp only [ilt_iff]
  by_cases hi : i < Lx
  · simp only [show (i : Int) < (Lx : Int) by omega, decide_true, cond_true, hLx, hLy, Int.toNat_natCast, getD_at, dig_at]
    rw [ok_of (inB_true (by omega) (by omega))]
    generalize hX : x / 65536 ^ i % 65536 = X at *
    have hX' : X < 65536 := by omega
    refine iter_const (fun p => ∃ (j c : Nat) (o : List Int), p = (((j : Int), ((Ly : Int), (dig y, ((), ((i : Int), ((X : Int), ((c : Int), (dig y, ((i : Int), ((Lx : Int), (dig x, ((), ())))))))))))), (o, ())) ∧ j ≤ Ly ∧ c < 65536 ∧ o.length = Lx + Ly + 1 ∧ Dg o ∧
        val o + (c : Int) * ((65536 ^ (i + j) : Nat) : Int) = ((x % 65536 ^ i * y + X * (y % 65536 ^ j) * 65536 ^ i : Nat) : Int) ∧ ∀ k, i + Ly ≤ k → at_ o k = 0) (fun p => Ly - p.1.1.toNat) _ ?_ n _ (by simp only; omega)
        ⟨0, 0, o, rfl, by omega, by omega, h2, h3, by rw [h4]; simp [Nat.mod_one], h5⟩
    rintro rec' _ ⟨j, c, o, rfl, g1, g2, g3, g4, g5, g6⟩ ih'
    simp only [ilt_iff, hLy]
    by_cases hj : j < Ly
    · simp only [show (j : Int) < (Ly : Int) by omega, decide_true, cond_true]
      rw [iadd_eq (x := (i : Int)) (by omega) (by omega), show ((i : Int) + j).toNat = i + j by omega, Int.toNat_natCast]
      simp only [getD_at, dig_at, g3]
      rw [ok_of (inB_true (by omega) (by omega)), ok_of (inB_true (by omega) (by omega)), ok_of (inB_true (by omega) (by omega))]
      obtain ⟨r1, r2⟩ := at_range g4 (i + j)
      obtain ⟨q, hq⟩ : ∃ q : Nat, at_ o (i + j) = q := ⟨(at_ o (i + j)).toNat, by omega⟩
      generalize hY : y / 65536 ^ j % 65536 = Y at *
      have hY' : Y < 65536 := by omega
      have hXY : X * Y ≤ 65535 * 65535 := Nat.mul_le_mul (by omega) (by omega)
      have hcast : (X : Int) * (Y : Int) = ((X * Y : Nat) : Int) := by rw [Int.natCast_mul]
      rw [hq, imul_eq (by rw [hcast]; omega) (by rw [hcast]; omega), hcast]
      rw [iadd_eq (x := (q : Int)) (by omega) (by omega), iadd_eq (x := (q : Int) + _) (by omega) (by omega), iand_base (by omega) (by omega), iadd_eq (by omega) (by omega)]
      have hsh : ∀ z : Int, ishr .i64 z 16 = z / 65536 := fun z => ishr_eq (k := 16) (by decide)
      rw [hsh]
      generalize hs : q + X * Y + c = s
      have hs' : (q : Int) + ((X * Y : Nat) : Int) + (c : Int) = (s : Int) := by omega
      have hs2 : s < 4294967296 := by omega
      rw [hs']
      refine ih' _ ⟨j + 1, s / 65536, o.set (i + j) (((s % 65536 : Nat)) : Int), ?_, by omega, by omega, by simp [g3], Dg_set g4 (by omega), ?_, fun k hk => ?_⟩ (by simp only; omega)
      · congr 2
      · rw [val_set _ _ _ (by omega), hq, mod_succ, hY]
        have h7 : ((65536 ^ (i + (j + 1)) : Nat) : Int) = 65536 * ((65536 ^ (i + j) : Nat) : Int) := by rw [← Nat.add_assoc, Nat.pow_succ, Nat.mul_comm]; omega
        have h8 : ((s / 65536 : Nat) : Int) * 65536 + ((s % 65536 : Nat) : Int) = (s : Int) := by omega
        have h9 : ((65536 ^ (i + j) : Nat) : Int) = ((65536 ^ i : Nat) : Int) * ((65536 ^ j : Nat) : Int) := by rw [← Int.natCast_mul, ← Nat.pow_add]
        rw [h7]
        rw [Int.natCast_mul] at hs'
        simp only [Int.natCast_add, Int.natCast_mul] at g5 ⊢
        rw [h9] at g5 ⊢
        generalize ((65536 ^ i : Nat) : Int) = W at *
        generalize ((65536 ^ j : Nat) : Int) = V at *
        generalize ((s / 65536 : Nat) : Int) = sd at *
        generalize ((s % 65536 : Nat) : Int) = sm at *
        grind
      · rw [at_set _ _ _ _ (by omega), if_neg (by omega)]
        exact g6 k hk
    · have hj : j = Ly := by omega
      subst hj
      simp only [show ¬ (j : Int) < (j : Int) by omega, decide_false, cond_false]
      rw [iadd_eq (x := (i : Int)) (y := (j : Int)) (by omega) (by omega), ok_of (inB_true (by omega) (by simp only [g3]; omega)), ok_of (inB_true (by omega) (by simp only [g3]; omega)), iadd_eq (x := (i : Int)) (by omega) (by omega), show ((i : Int) + (j : Int)).toNat = i + j by omega]
      rw [g6 _ (by omega), iadd_eq (by omega) (by omega), Int.zero_add]
      refine ih _ ⟨i + 1, o.set (i + j) (c : Int), by simp, by omega, by simp [g3], Dg_set g4 (by omega), ?_, fun k hk => ?_⟩ (by simp only; omega)
      · rw [val_set _ _ _ (by omega), g6 _ (by omega), mod_succ, hX]
        have hym : y % 65536 ^ j = y := Nat.mod_eq_of_lt (dig_len_le.1 (by omega))
        rw [hym] at g5
        simp only [Int.natCast_add, Int.natCast_mul] at g5 ⊢
        grind
      · rw [at_set _ _ _ _ (by omega), if_neg (by omega)]
        exact g6 k (by omega)
  · have hi : i = Lx := by omega
    subst hi
    simp only [show ¬ (i : Int) < (i : Int) by omega, decide_false, cond_false]
    rw [hTrim _ (by omega)]
    simp only [Option.bind_some]
    rw [strip_dig h3, h4]
    have hxm : x % 65536 ^ i = x := Nat.mod_eq_of_lt (dig_len_le.1 (by omega))
    rw [hxm, Int.toNat_natCast]
/-- a digit shifted up, in two parts -/
theorem shl_digit {s d : Nat} (hs : s < 16) (hd : d < 65536) : d * 2 ^ s < 4294967296 ∧ d * 2 ^ s % 65536 % 2 ^ s = 0 ∧ d * 2 ^ s / 65536 < 2 ^ s ∧ d * 2 ^ s % 65536 + 2 ^ s ≤ 65536 := by
  have : s = 0 ∨ s = 1 ∨ s = 2 ∨ s = 3 ∨ s = 4 ∨ s = 5 ∨ s = 6 ∨ s = 7 ∨ s = 8 ∨ s = 9 ∨ s = 10 ∨ s = 11 ∨ s = 12 ∨ s = 13 ∨ s = 14 ∨ s = 15 := by omega
  rcases this with h | h | h | h | h | h | h | h | h | h | h | h | h | h | h | h <;> subst h <;> simp only [Nat.reducePow] <;> omega
theorem shr_digit {s Y : Nat} (hs : s < 16) : Y / 2 ^ s % 65536 = Y % 65536 / 2 ^ s + (Y / 65536 % 65536 * 2 ^ (16 - s)) % 65536 ∧ Y % 65536 / 2 ^ s < 2 ^ (16 - s) ∧ (Y / 65536 % 65536 * 2 ^ (16 - s)) % 65536 % 2 ^ (16 - s) = 0 ∧
    Y / 65536 % 65536 * 2 ^ (16 - s) < 4294967296 := by
  have : s = 0 ∨ s = 1 ∨ s = 2 ∨ s = 3 ∨ s = 4 ∨ s = 5 ∨ s = 6 ∨ s = 7 ∨ s = 8 ∨ s = 9 ∨ s = 10 ∨ s = 11 ∨ s = 12 ∨ s = 13 ∨ s = 14 ∨ s = 15 := by omega
  rcases this with h | h | h | h | h | h | h | h | h | h | h | h | h | h | h | h <;> subst h <;> simp only [Nat.reducePow, Nat.reduceSub] <;> omega
theorem k_natShl : Ev fun n => ∀ x k : Nat, (dig x).length ≤ 268435456 → k ≤ 1073741824 → c_i_natShift ((C B).run n) (dig x) (k : Int) = some (dig (x * 2 ^ k), ()) := by
  refine (k_trim (B := B)).succ fun n hn hTrim x k hx hk => ?_
  rw [run_succ, e_i_natShift]
  unfold p_i_natShift
  simp only [len_eq, ilt_iff, show ¬ (k : Int) < 0 by omega, decide_false, cond_false]
  generalize hL : (dig x).length = L at *
  have hq : iquo .i64 (k : Int) 16 = ((k / 16 : Nat) : Int) := by rw [iquo_eq (by omega) (by omega) (by omega)]; omega
  have hr : irem .i64 (k : Int) 16 = ((k % 16 : Nat) : Int) := by rw [irem_eq (by omega)]; omega
  have hx2 : x * 2 ^ k = x * 2 ^ (k % 16) * 65536 ^ (k / 16) := by rw [pow_base, Nat.mul_assoc, ← Nat.pow_add, show k % 16 + 16 * (k / 16) = k by omega]
  rw [hx2, hq]
  have hs16 : k % 16 < 16 := by omega
  have hq2 : k / 16 ≤ 67108864 := by omega
  rw [iadd_eq (x := ((k / 16 : Nat) : Int)) (by omega) (by omega), iadd_eq (by omega) (by omega), ok_of (mkOk_true (by omega) (by omega) (by omega)), show (((k / 16 : Nat) : Int) + L + 1).toNat = k / 16 + L + 1 by omega]
  refine iter_const (fun p => ∃ (i : Nat) (o : List Int), p = (((i : Int), ((L : Int), (dig x, ((k : Int), ((), ((), ())))))), (o, ())) ∧ i ≤ L ∧ o.length = k / 16 + L + 1 ∧ Dg o ∧
      val o = ((x % 65536 ^ i * 2 ^ (k % 16) * 65536 ^ (k / 16) : Nat) : Int) ∧ at_ o (k / 16 + i) < 2 ^ (k % 16) ∧ ∀ j, k / 16 + i < j → at_ o j = 0) (fun p => L - p.1.1.toNat) _ ?_ n _ (by simp only; omega)
      ⟨0, List.replicate (k / 16 + L + 1) 0, rfl, by omega, by simp, Dg_replicate _, by rw [val_replicate_zero]; simp [Nat.mod_one], ?_, fun j _ => by
        simp only [at_, List.getD_eq_getElem?_getD, List.getElem?_replicate]
        split <;> rfl⟩
  · generalize k / 16 = q at *
    generalize k % 16 = s at *
    rintro rec _ ⟨i, o, rfl, h1, h2, h3, h4, h5, h6⟩ ih
    by_cases hi : i < L
    · simp only [show (i : Int) < (L : Int) by omega, decide_true, cond_true, hL, Int.toNat_natCast, getD_at, dig_at, hq, hr, h2]
      generalize hD : x / 65536 ^ i % 65536 = D at *
      have hD' : D < 65536 := by omega
      obtain ⟨d1, d2, d3, d4⟩ := shl_digit hs16 hD'
      have hsh0 : ishl .i64 (D : Int) (s : Int) = ((D * 2 ^ s : Nat) : Int) := by
        have : (D : Int) * 2 ^ s = ((D * 2 ^ s : Nat) : Int) := by simp
        rw [ishl_eq (by omega) (by rw [this]; omega) (by rw [this]; omega), this]
      have hsh1 : ∀ z : Int, ishr .i64 z 16 = z / 65536 := fun z => ishr_eq (k := 16) (by decide)
      generalize hN : D * 2 ^ s = N at *
      obtain ⟨r1, r2⟩ := at_range h3 (q + i)
      obtain ⟨v, hv⟩ : ∃ v : Nat, at_ o (q + i) = v := ⟨(at_ o (q + i)).toNat, by omega⟩
      rw [hv] at h5
      have hv2 : v < 2 ^ s := by exact_mod_cast h5
      have hs2 : (2 : Nat) ^ s ≤ 65536 := by
        have : (2 : Nat) ^ s ≤ 2 ^ 16 := Nat.pow_le_pow_right (by decide) (by omega)
        exact this
      have hor : v ||| (N % 65536) = v + N % 65536 := or_add hv2 d2
      rw [ok_of (inB_true (by omega) (by omega)), ok_of (by simp), iadd_eq (x := (q : Int)) (by omega) (by omega), show ((q : Int) + i).toNat = q + i by omega, hv, hsh0, hsh1, iand_base (by omega) (by omega), show (N : Int) % 65536 = ((N % 65536 : Nat) : Int) by omega, ior_eq (by omega) (by omega), hor]
      rw [ok_of (inB_true (by omega) (by omega)), ok_of (inB_true (by omega) (by omega)), iadd_eq (x := (q : Int) + i) (by omega) (by omega), show ((q : Int) + i + 1).toNat = q + i + 1 by omega, ok_of (inB_true (by omega) (by simp only [List.length_set, h2]; omega)), iadd_eq (by omega) (by omega)]
      refine ih _ ⟨i + 1, (o.set (q + i) ((v + N % 65536 : Nat) : Int)).set (q + i + 1) (((N / 65536 : Nat) : Int)), ?_, by omega, by simp [h2], Dg_set (Dg_set h3 (by omega)) (by omega), ?_, ?_, fun j hj => ?_⟩ (by simp only; omega)
      · congr 2
      · have hz : at_ (o.set (q + i) ((v + N % 65536 : Nat) : Int)) (q + i + 1) = 0 := by rw [at_set _ _ _ _ (by omega), if_neg (by omega)]; exact h6 _ (by omega)
        rw [val_set _ _ _ (by simp [h2]; omega), hz, val_set _ _ _ (by omega), hv, h4, mod_succ, hD]
        have h7 : ((65536 ^ (q + i + 1) : Nat) : Int) = 65536 * ((65536 ^ (q + i) : Nat) : Int) := by rw [Nat.pow_succ, Nat.mul_comm]; omega
        have h8 : ((N / 65536 : Nat) : Int) * 65536 + ((N % 65536 : Nat) : Int) = (N : Int) := by omega
        have h9 : ((65536 ^ (q + i) : Nat) : Int) = ((65536 ^ q : Nat) : Int) * ((65536 ^ i : Nat) : Int) := by rw [← Int.natCast_mul, ← Nat.pow_add]
        have h10 : (N : Int) = (D : Int) * ((2 ^ s : Nat) : Int) := by rw [← hN, Int.natCast_mul]
        rw [h7, h9]
        simp only [Int.natCast_add, Int.natCast_mul]
        generalize ((65536 ^ i : Nat) : Int) = W at *
        generalize ((65536 ^ q : Nat) : Int) = V at *
        generalize ((2 ^ s : Nat) : Int) = P at *
        generalize ((N / 65536 : Nat) : Int) = sd at *
        generalize ((N % 65536 : Nat) : Int) = sm at *
        grind
      · rw [← Nat.add_assoc, at_set _ _ _ _ (by simp [h2]; omega), if_pos rfl]
        exact_mod_cast d3
      · rw [at_set _ _ _ _ (by simp [h2]; omega), if_neg (by omega), at_set _ _ _ _ (by omega), if_neg (by omega)]
        exact h6 j (by omega)
    · have hi : i = L := by omega
      subst hi
      simp only [show ¬ (i : Int) < (i : Int) by omega, decide_false, cond_false]
      rw [hTrim _ (by omega)]
      simp only [Option.bind_some]
      have hxm : x % 65536 ^ i = x := Nat.mod_eq_of_lt (dig_len_le.1 (by omega))
      rw [strip_dig h3, h4, hxm, Int.toNat_natCast]
  · have : at_ (List.replicate (k / 16 + L + 1) 0) (k / 16 + 0) = 0 := by
      simp only [at_, List.getD_eq_getElem?_getD, List.getElem?_replicate]
      split <;> rfl
    rw [this]
    exact Int.pow_pos (by decide)
theorem k_natShr : Ev fun n => ∀ x m : Nat, (dig x).length ≤ 268435456 → 0 < m → m ≤ 1073741824 → c_i_natShift ((C B0).run n) (dig x) (-(m : Int)) = some (dig (x / 2 ^ m), ()) := by
  refine ((k_trim (B := B0)).and k_Clone).succ fun n hn ⟨hTrim, hClone⟩ x m hx hm0 hm => ?_
  rw [run_succ, e_i_natShift]
  unfold p_i_natShift
  have hneg : ineg .i64 (-(m : Int)) = (m : Int) := by rw [ineg_eq (by omega) (by omega)]; omega
  simp only [len_eq, ilt_iff, show -(m : Int) < 0 by omega, decide_true, cond_true, hneg, ile_iff]
  have hq : iquo .i64 (m : Int) 16 = ((m / 16 : Nat) : Int) := by rw [iquo_eq (by omega) (by omega) (by omega)]; omega
  have hr : irem .i64 (m : Int) 16 = ((m % 16 : Nat) : Int) := by rw [irem_eq (by omega)]; omega
  rw [hq, hr]
  have hx2 : x / 2 ^ m = x / 65536 ^ (m / 16) / 2 ^ (m % 16) := by rw [pow_base, Nat.div_div_eq_div_mul, ← Nat.pow_add, show 16 * (m / 16) + m % 16 = m by omega]
  rw [hx2]
  have hs16 : m % 16 < 16 := by omega
  generalize m / 16 = q at *
  generalize m % 16 = s at *
  by_cases hqL : (dig x).length ≤ q
  · simp only [show ((dig x).length : Int) ≤ (q : Int) by omega, decide_true, cond_true]
    rw [Nat.div_eq_of_lt (dig_len_le.1 hqL), Nat.zero_div, dig_zero]
  · simp only [show ¬ ((dig x).length : Int) ≤ (q : Int) by omega, decide_false, cond_false]
    rw [ok_of (sliceOk_true (by omega) (by omega) (by omega)), Int.toNat_natCast, Int.toNat_natCast, List.take_length, dig_drop]
    have hyl : (dig (x / 65536 ^ q)).length = (dig x).length - q := by rw [← dig_drop, List.length_drop]
    have hy : ∀ j, x / 65536 ^ (q + j) = x / 65536 ^ q / 65536 ^ j := fun j => by rw [Nat.div_div_eq_div_mul, ← Nat.pow_add]
    have hat : ∀ j, at_ (dig x) (q + j) = at_ (dig (x / 65536 ^ q)) j := fun j => by rw [dig_at, dig_at, hy]
    generalize hyy : x / 65536 ^ q = y at *
    generalize hL : (dig y).length = L at *
    have hy0 : dig y ≠ [] := fun h => by rw [h] at hL; simp at hL; omega
    rw [hClone _ hy0 (by omega)]
    simp only [Option.bind_some, hL]
    refine iter_const (fun p => ∃ (i : Nat) (o : List Int), p = (((i : Int), ((L : Int), ((), ((s : Int), ((q : Int), (dig x, (-(m : Int), ((), ())))))))), (o, ())) ∧ i ≤ L ∧ o.length = L ∧
        ∀ j, at_ o j = if j < i then ((y / 2 ^ s / 65536 ^ j % 65536 : Nat) : Int) else at_ (dig y) j) (fun p => L - p.1.1.toNat) _ ?_ n _ (by simp only; omega) ⟨0, dig y, rfl, by omega, hL, fun j => by rw [if_neg (by omega)]⟩
    rintro rec _ ⟨i, o, rfl, h1, h2, h3⟩ ih
    by_cases hi : i < L
    · simp only [show (i : Int) < (L : Int) by omega, decide_true, cond_true, jb_ok, jb_cond, jb_inr, Int.toNat_natCast, getD_at, h2, List.length_set]
      have hoi : at_ o i = ((y / 65536 ^ i % 65536 : Nat) : Int) := by rw [h3, if_neg (by omega), dig_at]
      rw [ok_of (inB_true (by omega) (by omega)), ok_of (by simp), ok_of (inB_true (by omega) (by omega)), hoi, ishr_eq (by omega), iadd_eq (x := (q : Int)) (by omega) (by omega), iadd_eq (x := (q : Int) + i) (by omega) (by omega)]
      obtain ⟨d1, d2, d3, d4⟩ := shr_digit (s := s) (Y := y / 65536 ^ i) hs16
      have hzi : y / 2 ^ s / 65536 ^ i % 65536 = y / 65536 ^ i / 2 ^ s % 65536 := by rw [Nat.div_div_eq_div_mul, Nat.div_div_eq_div_mul, Nat.mul_comm]
      have hnx : y / 65536 ^ i / 65536 % 65536 = y / 65536 ^ (i + 1) % 65536 := by rw [Nat.div_div_eq_div_mul, Nat.pow_succ]
      rw [hnx] at d1 d3 d4
      have hYs : ((y / 65536 ^ i % 65536 : Nat) : Int) / 2 ^ s = ((y / 65536 ^ i % 65536 / 2 ^ s : Nat) : Int) := by
        rw [Int.natCast_ediv]; simp
      rw [hYs]
      have hb1 : y / 65536 ^ i % 65536 / 2 ^ s < 65536 := Nat.lt_of_le_of_lt (Nat.div_le_self ..) (Nat.mod_lt _ (by decide))
      have fin : ∀ (o' : List Int) (v : Nat), v = y / 2 ^ s / 65536 ^ i % 65536 → (∀ j, at_ o' j = if j = i then (v : Int) else at_ o j) → o'.length = L →
          rec (((iadd .i64 (i : Int) 1), ((L : Int), ((), ((s : Int), ((q : Int), (dig x, (-(m : Int), ((), ())))))))), (o', ())) = some (dig (y / 2 ^ s), ()) := by
        intro o' v hv ho hl
        rw [iadd_eq (by omega) (by omega)]
        refine ih _ ⟨i + 1, o', by simp, by omega, hl, fun j => ?_⟩ (by simp only; omega)
        rw [ho]
        by_cases hj : j = i
        · subst hj
          rw [if_pos rfl, if_pos (by omega), hv]
        · rw [if_neg hj, h3]
          by_cases hj2 : j < i
          · rw [if_pos hj2, if_pos (by omega)]
          · rw [if_neg hj2, if_neg (by omega)]
      by_cases hlast : q + i + 1 < (dig x).length
      · simp only [show (q : Int) + i + 1 < ((dig x).length : Int) by omega, decide_true, cond_true]
        have hnxt : at_ (dig x) (q + i + 1) = ((y / 65536 ^ (i + 1) % 65536 : Nat) : Int) := by
          have := hat (i + 1)
          rw [← Nat.add_assoc] at this
          rw [this, dig_at]
        have hs0 : at_ (o.set i ((y / 65536 ^ i % 65536 / 2 ^ s : Nat) : Int)) i = ((y / 65536 ^ i % 65536 / 2 ^ s : Nat) : Int) := by rw [at_set _ _ _ _ (by omega), if_pos rfl]
        rw [show ((q : Int) + i + 1).toNat = q + i + 1 by omega, hnxt, hs0, isub_eq (by omega) (by omega), show (16 : Int) - (s : Int) = ((16 - s : Nat) : Int) by omega]
        have hcast : ((y / 65536 ^ (i + 1) % 65536 : Nat) : Int) * 2 ^ (16 - s) = ((y / 65536 ^ (i + 1) % 65536 * 2 ^ (16 - s) : Nat) : Int) := by simp
        generalize hA : y / 65536 ^ i % 65536 / 2 ^ s = A at *
        generalize hE : y / 65536 ^ (i + 1) % 65536 = E at *
        generalize hF : E * 2 ^ (16 - s) = F at *
        have hor : A ||| (F % 65536) = A + F % 65536 := or_add d2 d3
        rw [ok_of (inB_true (by omega) (by omega)), ok_of (inB_true (by omega) (by omega)), ok_of (by simp), ok_of (inB_true (by omega) (by omega)), ishl_eq (by omega) (by rw [hcast]; omega) (by rw [hcast]; omega), hcast, iand_base (by omega) (by omega), show (F : Int) % 65536 = ((F % 65536 : Nat) : Int) by omega, ior_eq (by omega) (by omega), hor]
        refine fin _ (A + F % 65536) (by rw [hzi, d1]) (fun j => ?_) (by simp [h2])
        rw [at_set _ _ _ _ (by simp [h2]; omega)]
        by_cases hj : j = i
        · rw [if_pos hj.symm, if_pos hj]
        · rw [if_neg (fun h => hj h.symm), if_neg hj, at_set _ _ _ _ (by omega), if_neg (fun h => hj h.symm)]
      · simp only [show ¬ (q : Int) + i + 1 < ((dig x).length : Int) by omega, decide_false, cond_false]
        have hz : y / 65536 ^ (i + 1) = 0 := Nat.div_eq_of_lt (dig_len_le.1 (by omega))
        refine fin _ (y / 65536 ^ i % 65536 / 2 ^ s) (by rw [hzi, d1, hz]; simp) (fun j => ?_) (by simp [h2])
        rw [at_set _ _ _ _ (by omega)]
        by_cases hj : j = i
        · rw [if_pos hj.symm, if_pos hj]
        · rw [if_neg (fun h => hj h.symm), if_neg hj]
    · have hi : i = L := by omega
      subst hi
      simp only [show ¬ (i : Int) < (i : Int) by omega, decide_false, cond_false]
      rw [hTrim _ (by omega)]
      simp only [Option.bind_some]
      have hall : ∀ j, j < o.length → at_ o j = ((y / 2 ^ s / 65536 ^ j % 65536 : Nat) : Int) := fun j hj => by rw [h3, if_pos (by omega)]
      rw [strip_dig (Dg_of_at hall), val_of_at hall, h2, Int.toNat_natCast, Nat.mod_eq_of_lt]
      exact Nat.lt_of_le_of_lt (Nat.div_le_self ..) (dig_len_le.1 (by omega))
end Go.Px.Seat
