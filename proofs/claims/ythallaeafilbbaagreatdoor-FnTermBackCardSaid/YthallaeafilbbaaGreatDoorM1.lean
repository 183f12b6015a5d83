/- Own texts, part M1: PmA PmB PtA PtB PtK PtP PtC PtD PtE PtF PtG PtH. -/
import Derived.Test.YthallaeafilbbaaGreatDoorA5
import Derived.Laws.BitsLemmas
import Derived.Test.YthallaeafilbbaaGreatDoorS3
import Derived.Lib.AtoiAll
set_option linter.unusedVariables false

/- Digits: whole numbers as lists of digits to the base 65536. No program here. -/
namespace Pm

/-- the digits of a number, the least first -/
def dig (n : Nat) : List Int := if n = 0 then [] else ((n % 65536 : Nat) : Int) :: dig (n / 65536)
termination_by n
def val : List Int → Int
  | [] => 0
  | d :: r => d + 65536 * val r
def Dg (l : List Int) : Prop := ∀ d ∈ l, 0 ≤ d ∧ d < 65536
/-- digits told from a place on -/
def at_ (l : List Int) (i : Nat) : Int := l.getD i 0

@[simp] theorem dig_zero : dig 0 = [] := by rw [dig]; rfl
theorem Dg.tail {d : Int} {l : List Int} (h : Dg (d :: l)) : Dg l := fun x hx => h x (List.mem_cons_of_mem _ hx)
/-- needless noughts off -/
def strip : List Int → List Int
  | [] => []
  | d :: r => match strip r with
    | [] => if d = 0 then [] else [d]
    | e :: s => d :: e :: s
end Pm
namespace Pm
/-- how many bits a number has -/
def bl (x : Nat) : Nat := if x = 0 then 0 else bl (x / 2) + 1
termination_by x
@[simp] theorem bl_zero : bl 0 = 0 := by rw [bl]; rfl
/-- is it a number of at most 256 digits? -/
def nok (l : List Int) : Bool := decide (l.length ≤ 256) && (l.all (fun d => decide (0 ≤ d) && decide (d < 65536)) && (l.isEmpty || at_ l (l.length - 1) != 0))
/-- how many rounds Euclid takes at most -/
def gm (a b : Nat) : Nat := bl a + bl b + (if a < b then 1 else 0)
end Pm

/- Rules for the words in which functions are told. -/
namespace Go.Px
open Go Pm

/-- A loop that comes to the same whatever its state. -/
theorem iter_const {P R : Type} {F : (P → Option R) → P → Option R} (I : P → Prop) (m : P → Nat) (r : Option R)
    (step : ∀ rec p, I p → (∀ q, I q → m q < m p → rec q = r) → F rec p = r) : ∀ n p, m p < n → I p → iter F n p = r
  | 0, _, h, _ => absurd h (Nat.not_lt_zero _)
  | n + 1, p, h, hI => step (iter F n) p hI fun q hq hm => iter_const I m r step n q (by omega) hq
/-- A loop of whose end something holds. -/
theorem iter_ex {P R : Type} {F : (P → Option R) → P → Option R} (I : P → Prop) (m : P → Nat) (Q : R → Prop)
    (step : ∀ rec p, I p → (∀ q, I q → m q < m p → ∃ r, rec q = some r ∧ Q r) → ∃ r, F rec p = some r ∧ Q r) : ∀ n p, m p < n → I p → ∃ r, iter F n p = some r ∧ Q r
  | 0, _, h, _ => absurd h (Nat.not_lt_zero _)
  | n + 1, p, h, hI => step (iter F n) p hI fun q hq hm => iter_ex I m Q step n q (by omega) hq
/-- What holds from some depth on. -/
def Ev (p : Nat → Prop) : Prop := ∃ N, ∀ n, N ≤ n → p n
theorem Ev.and {p q : Nat → Prop} (h : Ev p) (h' : Ev q) : Ev fun n => p n ∧ q n :=
  let ⟨a, h⟩ := h; let ⟨b, h'⟩ := h'; ⟨max a b, fun n hn => ⟨h n (by omega), h' n (by omega)⟩⟩
theorem Ev.mono {p q : Nat → Prop} (h : Ev p) (hq : ∀ n, p n → q n) : Ev q := let ⟨a, h⟩ := h; ⟨a, fun n hn => hq n (h n hn)⟩
theorem Ev.succ {p q : Nat → Prop} (h : Ev p) (hq : ∀ n, 1152921504606846976 ≤ n → p n → q (n + 1)) : Ev q := by
  obtain ⟨a, h⟩ := h
  refine ⟨max a 1152921504606846976 + 1, fun n hn => ?_⟩
  obtain ⟨k, rfl⟩ : ∃ k, n = k + 1 := ⟨n - 1, by omega⟩
  exact hq k (by omega) (h k (by omega))
theorem Ev.triv : Ev fun _ => True := ⟨0, fun _ _ => trivial⟩

section
variable {P R α : Type}
@[simp] theorem ok_true (x : Option R) : ok true x = x := rfl
theorem ok_of {c : Bool} (h : c = true) (x : Option R) : ok c x = x := by rw [h]; rfl
@[simp] theorem jb_inr (p : P) (f : P → Option R) : jb (some (.inr p)) f = f p := rfl
@[simp] theorem jb_inl (r : R) (f : P → Option R) : jb (some (.inl r)) f = some r := rfl
theorem beq_f {x y : Int} (h : ¬ x = y) : (x == y) = false := by simpa using h
theorem ok_ne {k : Int} (h : k ≠ 0) (x : Option R) : ok (!(k == 0)) x = x := ok_of (by simpa using h) x
theorem jb_of {x : Option (R ⊕ P)} {p : P} (h : x = some (.inr p)) (f : P → Option R) : jb x f = f p := by rw [h]; rfl
@[simp] theorem jb_cond (c : Bool) (x y : Option (R ⊕ P)) (f : P → Option R) : jb (cond c x y) f = cond c (jb x f) (jb y f) := by cases c <;> rfl
@[simp] theorem jb_ok (c : Bool) (x : Option (R ⊕ P)) (f : P → Option R) : jb (ok c x) f = ok c (jb x f) := by cases c <;> rfl
@[simp] theorem il_some (r : R) : il (P := P) (some r) = some (.inl r) := rfl
@[simp] theorem ilt_iff (x y : Int) : ilt x y = decide (x < y) := rfl
@[simp] theorem ile_iff (x y : Int) : ile x y = decide (x ≤ y) := rfl
theorem len_eq (l : List α) : len l = (l.length : Int) := rfl
theorem slen_eq (l : ByteArray) : slen l = (l.size : Int) := rfl
theorem inB_true {i n : Int} (h : 0 ≤ i) (h' : i < n) : inB i n = true := by simp [inB, h, h']
theorem sliceOk_true {a b n : Int} (h : 0 ≤ a) (h' : a ≤ b) (h'' : b ≤ n) : sliceOk a b n = true := by simp [sliceOk, h, h', h'']
theorem aok_true {l : List α} {k : Nat} (h : l.length * k ≤ 140737488355328) : aok l k = true := by
  have : ((l.length : Nat) : Int) * (k : Int) ≤ 140737488355328 := by
    rw [← Int.natCast_mul]
    omega
  unfold aok
  exact decide_eq_true this
theorem wrap64 {x : Int} (h : -9223372036854775808 ≤ x) (h' : x < 9223372036854775808) : IntKind.i64.wrap x = x := by
  rw [IntKind.wrap_i64]; omega
theorem iadd_eq {x y : Int} (h : -9223372036854775808 ≤ x + y) (h' : x + y < 9223372036854775808) : iadd .i64 x y = x + y := wrap64 h h'
theorem isub_eq {x y : Int} (h : -9223372036854775808 ≤ x - y) (h' : x - y < 9223372036854775808) : isub .i64 x y = x - y := wrap64 h h'
theorem imul_eq {x y : Int} (h : -9223372036854775808 ≤ x * y) (h' : x * y < 9223372036854775808) : imul .i64 x y = x * y := wrap64 h h'
theorem iquo_eq {x y : Int} (h : 0 ≤ x) (h0 : x < 9223372036854775808) (h' : 0 < y) : iquo .i64 x y = x / y := by
  rw [iquo, Int.tdiv_eq_ediv_of_nonneg h, wrap64]
  · have := Int.ediv_nonneg h (Int.le_of_lt h'); omega
  · exact Int.lt_of_le_of_lt (Int.ediv_le_self _ h) h0
theorem irem_eq {k : IntKind} {x y : Int} (h : 0 ≤ x) : irem k x y = x % y := by rw [irem, Int.tmod_eq_emod_of_nonneg h]
end
end Go.Px

/- Texts as lists of bytes. -/
namespace Go.Px
open Go Pm

def chs (s : ByteArray) : List Nat := s.data.toList.map UInt8.toNat
theorem chs_len (s : ByteArray) : (chs s).length = s.size := by
  simp only [chs, List.length_map, Array.length_toList]
  rfl
theorem chs_lt {s : ByteArray} {x : Nat} (h : x ∈ chs s) : x < 256 := by
  obtain ⟨c, _, rfl⟩ := List.mem_map.1 h
  exact c.toNat_lt
theorem bt_chs (s : ByteArray) (i : Nat) : bt s (i : Int) = (((chs s).getD i 0 : Nat) : Int) := by
  unfold bt
  simp only [Int.toNat_natCast]
  by_cases h : i < s.size
  · rw [dif_pos h]
    have h' : i < s.data.toList.length := by simpa using h
    simp only [chs, List.getD_eq_getElem?_getD, List.getElem?_map, List.getElem?_eq_getElem h', Option.map_some, Option.getD_some, Array.getElem_toList]
    rfl
  · rw [dif_neg h]
    have h' : ¬ i < (chs s).length := by rw [chs_len]; exact h
    rw [List.getD_eq_getElem?_getD, List.getElem?_eq_none (by omega)]
    rfl
theorem chs_inj {a b : ByteArray} (h : chs a = chs b) : a = b := by
  have : a.data.toList = b.data.toList := List.map_inj_right (fun x y h => UInt8.toNat_inj.1 h) |>.1 h
  cases a; cases b
  simp only at this
  rw [Array.toList_inj.1 this]
theorem chs_bs {l : List Nat} (h : ∀ x ∈ l, x < 256) : chs (bs l) = l := by
  simp only [chs, bs, List.map_map]
  refine (List.map_congr_left fun x hx => ?_).trans (List.map_id l)
  show (UInt8.ofNat x).toNat = x
  rw [UInt8.toNat_ofNat']
  exact Nat.mod_eq_of_lt (h x hx)
theorem seq_chs (a b : ByteArray) : seq a b = decide (chs a = chs b) := by
  unfold seq
  by_cases h : a = b
  · subst h; simp
  · have h1 : ¬ chs a = chs b := fun h' => h (chs_inj h')
    rw [decide_eq_false h1]
    have : ¬ a.toList = b.toList := fun h' => h1 (by
      rw [ByteArray.toList_eq, ByteArray.toList_eq] at h'
      unfold chs
      rw [h'])
    simpa using this
/-! texts as `bs l` -/
def Bl (l : List Nat) : Prop := ∀ x ∈ l, x < 256
theorem bl_chs (s : ByteArray) : Bl (chs s) := fun _ h => chs_lt h
theorem bs_chs (s : ByteArray) : bs (chs s) = s := chs_inj (chs_bs (bl_chs s))
theorem bs_app (a b : List Nat) : bs a ++ bs b = bs (a ++ b) := by
  have h : (bs a ++ bs b).data = (bs (a ++ b)).data := by
    rw [ByteArray.data_append]
    simp [bs]
  exact ByteArray.ext h
theorem bs_sub (l : List Nat) (a b : Nat) : ByteArray.extract (bs l) a b = bs ((l.take b).drop a) := by
  have h : (ByteArray.extract (bs l) a b).data = (bs ((l.take b).drop a)).data := by
    rw [ByteArray.data_extract]
    simp [bs, List.map_drop, List.map_take, List.extract, List.drop_take]
  exact ByteArray.ext h
theorem bs_size (l : List Nat) : (bs l).size = l.length := by
  show (bs l).data.size = _
  simp [bs]
theorem bs_len (l : List Nat) : slen (bs l) = (l.length : Int) := by
  rw [slen_eq, bs_size]
theorem bs_bt {l : List Nat} (h : Bl l) (i : Nat) : bt (bs l) (i : Int) = ((l.getD i 0 : Nat) : Int) := by rw [bt_chs, chs_bs h]
theorem bs_seq {a b : List Nat} (ha : Bl a) (hb : Bl b) : seq (bs a) (bs b) = decide (a = b) := by rw [seq_chs, chs_bs ha, chs_bs hb]
theorem bs_sok (a b : List Nat) : sok (bs a) (bs b) = decide (a.length + b.length ≤ 140737488355328) := by
  rw [sok_eq, bs_size, bs_size]
  exact decide_eq_decide.2 (by omega)
theorem bl_app {a b : List Nat} : Bl (a ++ b) ↔ Bl a ∧ Bl b := ⟨fun h => ⟨fun x hx => h x (List.mem_append_left _ hx), fun x hx => h x (List.mem_append_right _ hx)⟩, fun h x hx => (List.mem_append.1 hx).elim (h.1 x) (h.2 x)⟩
theorem bl_take {l : List Nat} (h : Bl l) (n : Nat) : Bl (l.take n) := fun x hx => h x (List.mem_of_mem_take hx)
theorem bl_drop {l : List Nat} (h : Bl l) (n : Nat) : Bl (l.drop n) := fun x hx => h x (List.mem_of_mem_drop hx)
end Go.Px

/- Words, numbers, signs: plain functions on bytes. No program here. -/
namespace Pt
def letter (c : Nat) : Bool := decide (97 ≤ c) && decide (c ≤ 122)
def digit (c : Nat) : Bool := decide (48 ≤ c) && decide (c ≤ 57)
theorem digit_iff {c : Nat} : digit c = true ↔ 48 ≤ c ∧ c ≤ 57 := by simp [digit]
theorem letter_iff {c : Nat} : letter c = true ↔ 97 ≤ c ∧ c ≤ 122 := by simp [letter]
def wc (d : Bool) (prev c : Nat) : Bool := letter c || (digit c || (c == 46 || (c == 45 && (d && prev == 101))))
/-- how long a word is; prev: what stands ahead -/
def wlen (d : Bool) : Nat → List Nat → Nat
  | _, [] => 0
  | p, c :: r => if wc d p c then 1 + wlen d c r else 0
def signs : List Nat := [43, 45, 42, 47, 94, 40, 41, 44, 61]
def sgn : List Nat → List Nat
  | 60 :: 61 :: _ => [60, 61]
  | 62 :: 61 :: _ => [62, 61]
  | c :: _ => if c ∈ signs then [c] else []
  | [] => []
def plain (l : List Nat) : Bool := decide (1 ≤ l.length) && (decide (l.length ≤ 8) && (letter (l.getD 0 0) && l.all fun c => letter c || digit c))
/-- a whole number's digits -/
def whole (l : List Nat) : Bool := decide (l ≠ []) && (l.all digit && (decide (l = [48]) || decide (l.getD 0 0 ≠ 48)))
def value : List Nat → Nat := fun l => l.foldl (fun n c => n * 10 + (c - 48)) 0
/-- what stands behind the first c, if one does -/
def cutAt (c : Nat) (l : List Nat) : List Nat × List Nat × Bool := (l.takeWhile (· != c), (l.dropWhile (· != c)).drop 1, l.any (· == c))
def exOk (minus : Bool) (q : List Nat) : Bool := whole q && (decide (q.length ≤ 3) && (decide (value q ≤ 400) && !(minus && decide (value q = 0))))
def expo (p : List Nat) : Bool := match p with
  | 45 :: q => exOk true q
  | q => exOk false q
/-- the program's literals -/
def num (l : List Nat) : Bool :=
  let b := cutAt 101 l
  let a := cutAt 46 b.1
  whole a.1 && ((!a.2.2 || (decide (a.2.1 ≠ []) && a.2.1.all digit)) && (!b.2.2 || expo b.2.1))
/-- the reference's -/
def rexp (r : List Nat) : Bool := match r with
  | [] => true
  | 101 :: p => expo p
  | _ => false
def rfrac (r : List Nat) : Bool := match r with
  | 46 :: p => decide (p.takeWhile digit ≠ []) && rexp (p.dropWhile digit)
  | r => rexp r
def rnum (l : List Nat) : Bool := whole (l.takeWhile digit) && rfrac (l.dropWhile digit)
theorem takeWhile_app {p : Nat → Bool} : ∀ {a r : List Nat}, (∀ c ∈ a, p c = true) → (a ++ r).takeWhile p = a ++ r.takeWhile p
  | [], _, _ => rfl
  | c :: a, r, h => by
    rw [List.cons_append, List.takeWhile_cons, h c (List.mem_cons_self ..), takeWhile_app fun x hx => h x (List.mem_cons_of_mem _ hx)]
    rfl
theorem dropWhile_app {p : Nat → Bool} : ∀ {a r : List Nat}, (∀ c ∈ a, p c = true) → (a ++ r).dropWhile p = r.dropWhile p
  | [], _, _ => rfl
  | c :: a, r, h => by
    rw [List.cons_append, List.dropWhile_cons, h c (List.mem_cons_self ..)]
    simp only [if_true]
    exact dropWhile_app fun x hx => h x (List.mem_cons_of_mem _ hx)
theorem takeWhile_all {p : Nat → Bool} : ∀ {l : List Nat}, ∀ c ∈ l.takeWhile p, p c = true
  | [], c, h => by cases h
  | x :: l, c, h => by
    rw [List.takeWhile_cons] at h
    split at h
    · rcases List.mem_cons.1 h with rfl | h
      · assumption
      · exact takeWhile_all c h
    · cases h
theorem dropWhile_head {p : Nat → Bool} : ∀ {l : List Nat} {c : Nat} {r : List Nat}, l.dropWhile p = c :: r → p c = false
  | x :: l, c, r, h => by
    rw [List.dropWhile_cons] at h
    split at h
    · exact dropWhile_head h
    · rename_i hx
      cases h
      simpa using hx
theorem cut_app {c : Nat} {a r : List Nat} (h : ∀ x ∈ a, (x != c) = true) : cutAt c (a ++ r) = (a ++ (cutAt c r).1, (cutAt c r).2) := by
  unfold cutAt
  rw [takeWhile_app h, dropWhile_app h, List.any_append]
  have : a.any (· == c) = false := List.any_eq_false.2 fun x hx => by simpa using h x hx
  rw [this]; rfl
theorem cut_here {c : Nat} {r : List Nat} : cutAt c (c :: r) = ([], r, true) := by
  simp [cutAt]
theorem cut_nil {c : Nat} : cutAt c [] = ([], [], false) := rfl
theorem cut_skip {c x : Nat} {r : List Nat} (h : x ≠ c) : cutAt c (x :: r) = (x :: (cutAt c r).1, (cutAt c r).2) := cut_app (a := [x]) (fun y hy => by simp at hy; subst hy; simpa using h)
theorem whole_bad {a : List Nat} {x : Nat} {r : List Nat} (h : digit x = false) : whole (a ++ x :: r) = false := by
  unfold whole
  have : (a ++ x :: r).all digit = false := by simp [h]
  rw [this]; simp
theorem num_rnum (l : List Nat) : num l = rnum l := by
  have hd : l = l.takeWhile digit ++ l.dropWhile digit := (List.takeWhile_append_dropWhile).symm
  have ha : ∀ c ∈ l.takeWhile digit, digit c = true := takeWhile_all
  unfold rnum
  generalize hA : l.takeWhile digit = a at hd ha ⊢
  generalize hR : l.dropWhile digit = r at hd ⊢
  have hr : ∀ c s, r = c :: s → digit c = false := fun c s h => dropWhile_head (hR.trans h)
  subst hd
  have h1 : ∀ x ∈ a, (x != 101) = true := fun x hx => by have := digit_iff.1 (ha x hx); simp; omega
  have h2 : ∀ x ∈ a, (x != 46) = true := fun x hx => by have := digit_iff.1 (ha x hx); simp; omega
  unfold num
  simp only [cut_app h1, cut_app h2]
  match r, hr with
  | [], _ => simp [cut_nil, rfrac, rexp]
  | c :: s, hr =>
    have hc := hr c s rfl
    by_cases h46 : c = 46
    · subst h46
      rw [cut_skip (by decide : (46 : Nat) ≠ 101)]
      simp only [cut_here, rfrac, List.append_nil, Bool.not_true, Bool.false_or]
      congr 1
      have hd : s = s.takeWhile digit ++ s.dropWhile digit := (List.takeWhile_append_dropWhile).symm
      have hb : ∀ c ∈ s.takeWhile digit, digit c = true := takeWhile_all
      generalize hB : s.takeWhile digit = b at hd hb ⊢
      generalize hT : s.dropWhile digit = t at hd ⊢
      have ht : ∀ c u, t = c :: u → digit c = false := fun c u h => dropWhile_head (hT.trans h)
      subst hd
      have h3 : ∀ x ∈ b, (x != 101) = true := fun x hx => by have := digit_iff.1 (hb x hx); simp; omega
      rw [cut_app h3]
      have hball : b.all digit = true := List.all_eq_true.2 hb
      match t, ht with
      | [], _ => simp [cut_nil, rexp, hball]
      | e :: u, ht =>
        have he := ht e u rfl
        by_cases h101 : e = 101
        · subst h101
          simp [cut_here, rexp, hball]
        · rw [cut_skip h101]
          have : rexp (e :: u) = false := by
            unfold rexp
            split
            · rename_i h; cases h
            · rename_i h; cases h; exact absurd rfl h101
            · rfl
          rw [this]
          simp [he]
    · by_cases h101 : c = 101
      · subst h101
        simp [cut_here, cut_nil, rfrac, rexp]
      · have hf : rfrac (c :: s) = false := by
          unfold rfrac
          split
          · rename_i h; cases h; exact absurd rfl h46
          · unfold rexp
            split
            · rename_i h; cases h
            · rename_i h; cases h; exact absurd rfl h101
            · rfl
        rw [hf, cut_skip h101]
        simp only [cut_skip h46, whole_bad hc, Bool.false_and, Bool.and_false]
end Pt

/- Tokens of a line: plain. -/
namespace Pt
/-- a token: its kind (1 name, 2 number, 3 sign) and its text -/
abbrev Tok := Nat × List Nat
def one (l : List Nat) : Option Tok :=
  let c := l.getD 0 0
  if letter c || digit c then
    let t := l.take (wlen (digit c) 0 l)
    if digit c then some (2, t) else if plain t then some (1, t) else none
  else if sgn l = [] then none else some (3, sgn l)
def toks : Nat → List Nat → Option (List Tok)
  | 0, _ => some []
  | _ + 1, [] => some []
  | f + 1, c :: r => if c = 35 then some [] else if c = 32 then toks f r else match one (c :: r) with
    | none => none
    | some t => (toks f ((c :: r).drop t.2.length)).map (t :: ·)
theorem wc_end {d : Bool} {p c : Nat} (h : c = 32 ∨ c = 35) : wc d p c = false := by
  rcases h with rfl | rfl <;> cases d <;> cases h : (p == 101) <;> simp [wc, letter, digit]
theorem wlen_le' {d : Bool} : ∀ (l : List Nat) (p : Nat), wlen d p l ≤ l.length
  | [], _ => Nat.le_refl _
  | c :: r, p => by
    unfold wlen
    split
    · have := wlen_le' r c (d := d)
      simp only [List.length_cons]; omega
    · exact Nat.zero_le _
theorem wlen_pos {l : List Nat} (h : (letter (l.getD 0 0) || digit (l.getD 0 0)) = true) : 1 ≤ wlen (digit (l.getD 0 0)) 0 l := by
  match l with
  | [] => simp [letter, digit] at h
  | c :: r =>
    unfold wlen
    have : wc (digit c) 0 c = true := by
      unfold wc
      cases hl : letter c with
      | true => rfl
      | false =>
        have h' : (letter c || digit c) = true := h
        rw [hl] at h'
        rw [show digit c = true from h']; rfl
    show 1 ≤ (if wc (digit c) 0 c = true then 1 + wlen (digit c) c r else 0)
    rw [if_pos this]
    omega
end Pt

/- Nodes of terms, laid down each behind its parts: plain. -/
namespace Pt
/-- a node: kind, number, text -/
abbrev Nd := Int × Int × List Nat
def words : List (List Nat) := [[100, 101, 102], [118, 97, 114], [115, 113, 114, 116], [97, 98, 115], [109, 105, 110], [109, 97, 120]]
def nameOk (l : List Nat) : Bool := plain l && !decide (l ∈ words)
def numOk (l : List Nat) : Bool := num l && decide (l.length ≤ 60)
def nargs : Nd → Int
  | (k, n, t) =>
    if k = 1 then (if n = 0 ∧ numOk t = true then 0 else -1)
    else if k = 2 then (if n = 0 ∧ nameOk t = true then 0 else -1)
    else if k = 3 ∨ k = 9 ∨ k = 10 then (if n = 0 ∧ t = [] then 1 else -1)
    else if k = 4 ∨ k = 5 ∨ k = 6 ∨ k = 7 ∨ k = 11 ∨ k = 12 then (if n = 0 ∧ t = [] then 2 else -1)
    else if k = 8 then (if 0 ≤ n ∧ n ≤ 8 ∧ t = [] then 1 else -1)
    else if k = 13 then (if 1 ≤ n ∧ n ≤ 6 ∧ nameOk t = true then n else -1)
    else -1
def level (k : Int) : Int := if k = 4 ∨ k = 5 then 1 else if k = 6 ∨ k = 7 then 2 else if k = 3 then 3 else if k = 8 then 4 else 5
theorem nargs_range (x : Nd) : -1 ≤ nargs x ∧ nargs x ≤ 6 := by
  obtain ⟨k, n, t⟩ := x
  unfold nargs
  simp only
  repeat' split
  all_goals omega
theorem level_range (k : Int) : 1 ≤ level k ∧ level k ≤ 5 := by
  unfold level
  repeat' split
  all_goals omega
/-- The nodes of one term, its parts' ahead of its own. -/
inductive Trm : List Nd → Prop
  | mk (ps : List (List Nd)) (x : Nd) : (∀ p ∈ ps, Trm p) → nargs x = (ps.length : Int) → Trm (ps.flatten ++ [x])
theorem Trm.pos {l : List Nd} (h : Trm l) : 1 ≤ l.length := by
  cases h with
  | mk ps x _ _ => simp
theorem getD_mid {α : Type} (a b : List α) (x d : α) : (a ++ x :: b).getD a.length d = x := by
  rw [List.getD_eq_getElem?_getD, List.getElem?_append_right (Nat.le_refl _), Nat.sub_self]; rfl
/-- ends of parts that stand side by side from a place on -/
def ends : Nat → List (List Nd) → List Nat
  | _, [] => []
  | a, p :: ps => (a + p.length - 1) :: ends (a + p.length) ps
theorem ends_len : ∀ (ps : List (List Nd)) (a : Nat), (ends a ps).length = ps.length
  | [], _ => rfl
  | p :: ps, a => by rw [ends, List.length_cons, ends_len ps, List.length_cons]
/-- what a scan finds: is it a term, or how deep does it stand -/
def scan : Int → List Nd → Option Int
  | d, [] => some d
  | d, x :: r => if nargs x < 0 ∨ d < nargs x then none else scan (d - nargs x + 1) r
def termOk (l : List Nd) : Bool := decide (l.length ≤ 100) && decide (scan 0 l = some 1)
theorem scan_sub : ∀ (l : List Nd) (ss : List (List Nd)) (d : Int), (∀ p ∈ ss, Trm p) → scan (ss.length : Int) l = some d → ∃ ts : List (List Nd), (∀ p ∈ ts, Trm p) ∧ (ts.length : Int) = d ∧ ss.flatten ++ l = ts.flatten
  | [], ss, d, hs, h => ⟨ss, hs, by simpa [scan] using h, by simp⟩
  | x :: r, ss, d, hs, h => by
    rw [scan] at h
    split at h
    · cases h
    · rename_i hx
      have hr := nargs_range x
      obtain ⟨k, hk⟩ : ∃ k : Nat, nargs x = (k : Int) := ⟨(nargs x).toNat, by omega⟩
      rw [hk] at h hx
      have e : ss = ss.take (ss.length - k) ++ ss.drop (ss.length - k) := (List.take_append_drop _ _).symm
      have hs2 : ∀ p ∈ ss.drop (ss.length - k), Trm p := fun p hp => hs p (List.mem_of_mem_drop hp)
      have hn : Trm ((ss.drop (ss.length - k)).flatten ++ [x]) := Trm.mk _ _ hs2 (by rw [hk, List.length_drop]; omega)
      have := scan_sub r (ss.take (ss.length - k) ++ [(ss.drop (ss.length - k)).flatten ++ [x]]) d (fun p hp => by
        rcases List.mem_append.1 hp with hp | hp
        · exact hs p (List.mem_of_mem_take hp)
        · rw [List.mem_singleton.1 hp]; exact hn) (by
        rw [List.length_append, List.length_take, List.length_singleton, ← h]
        congr 1
        omega)
      obtain ⟨ts, h1, h2, h3⟩ := this
      refine ⟨ts, h1, h2, ?_⟩
      rw [← h3]
      rw [List.flatten_append, List.append_assoc, List.flatten_cons, List.flatten_nil, List.append_nil, List.append_assoc]
      conv => lhs; rw [e]
      rw [List.flatten_append, List.append_assoc]
      rfl
theorem termOk_sub {l : List Nd} (h : termOk l = true) : Trm l ∧ l.length ≤ 100 := by
  unfold termOk at h
  rw [Bool.and_eq_true, decide_eq_true_eq, decide_eq_true_eq] at h
  obtain ⟨ts, h1, h2, h3⟩ := scan_sub l [] 1 (fun p hp => by cases hp) h.2
  match ts, h2 with
  | [t], _ =>
    have : l = t := by simpa using h3
    rw [this]
    exact ⟨h1 t (List.mem_singleton.2 rfl), by rw [← this]; exact h.1⟩
end Pt

/- The base of the calls: stringslite.Index of one byte, IndexByte, strconv.Atoi; Itoa, strings.Join, LangNameOk, slices.Clone. Seat T. -/
namespace Go.Px.Seat
open Go Pm Pt
set_option linter.unusedVariables false
/-- where a byte stands first; -1, if nowhere -/
def idx (l : List Nat) (c : Nat) : Int := if c ∈ l then ((l.takeWhile (· != c)).length : Int) else -1
def indexRun : Pay sg_internal_stringslite_Index.inl → Option (Pay sg_internal_stringslite_Index.outl) := fun q =>
  let s : ByteArray := q.1
  let t : ByteArray := q.2.1
  match chs t with
  | [c] => some (idx (chs s) c, ())
  | _ => none
def ibRun : Pay sg_internal_stringslite_IndexByte.inl → Option (Pay sg_internal_stringslite_IndexByte.outl) := fun q =>
  let s : ByteArray := q.1
  let c : Int := q.2.1
  if 0 ≤ c ∧ c < 256 then some (idx (chs s) c.toNat, ()) else none
def atoiRun : Pay sg_strconv_Atoi.inl → Option (Pay sg_strconv_Atoi.outl) := fun q =>
  let s : ByteArray := q.1
  if 100000 < s.size then none else match Lib.atoiAll s.data.toList with
    | .ok v => some ((v : Int), ((false : Bool), ()))
    | .range => some (Lib.atoiSat s.data.toList, ((true : Bool), ()))
    | _ => some ((0 : Int), ((true : Bool), ()))
/-- decimal digits, as bytes -/
def dec (n : Nat) : List Nat := if h : n < 10 then [48 + n] else dec (n / 10) ++ [48 + n % 10]
termination_by n
decreasing_by omega
def itoa (x : Int) : List Nat := if x < 0 then 45 :: dec x.natAbs else dec x.toNat
def itoaRun : Pay sg_strconv_Itoa.inl → Option (Pay sg_strconv_Itoa.outl) := fun q =>
  let x : Int := q.1
  if -9223372036854775808 ≤ x ∧ x ≤ 9223372036854775807 then some (bs (itoa x), ()) else none
/-- texts, with another one between -/
def joinL (s : List Nat) : List (List Nat) → List Nat
  | [] => []
  | [x] => x
  | x :: y :: r => x ++ (s ++ joinL s (y :: r))
/-- strings.Join, of lists that are not empty -/
noncomputable def joinV (l : List ByteArray) (s : ByteArray) : Option (ByteArray × Unit) :=
  if l = [] ∨ 100000 < l.length ∨ 1000000000 < (joinL (chs s) (l.map chs)).length then none else some (bs (joinL (chs s) (l.map chs)), ())
noncomputable def joinRun : Pay sg_strings_Join.inl → Option (Pay sg_strings_Join.outl) := fun q => joinV q.1 q.2.1
/-- impl.LangNameOk: it reads the variable of the language's own words -/
noncomputable def nameRun : Pay sg_i_LangNameOk.inl → Option (Pay sg_i_LangNameOk.outl) := fun q =>
  let s : ByteArray := q.1
  if 4000000 < s.size then none else some (nameOk (chs s), ())
abbrev Tn := Int × (Int × (ByteArray × Unit))
/-- slices.Clone, of lists that are not empty -/
noncomputable def cloneV (l : List Tn) : Option (List Tn × Unit) := if l = [] ∨ 1000000 < l.length then none else some (l, ())
noncomputable def cloneTRun : Pay sg_slices_Clone_impl_TermNode_impl_TermNode.inl → Option (Pay sg_slices_Clone_impl_TermNode_impl_TermNode.outl) := fun q => cloneV q.1
open Classical in
noncomputable def B0 : Run := fun f _ s =>
  if f = 164 then (if h : s = sg_internal_stringslite_Index then h ▸ indexRun else fun _ => none)
  else if f = 166 then (if h : s = sg_internal_stringslite_IndexByte then h ▸ ibRun else fun _ => none)
  else if f = 193 then (if h : s = sg_strconv_Atoi then h ▸ atoiRun else fun _ => none)
  else if f = 113 then (if h : s = sg_strconv_Itoa then h ▸ itoaRun else fun _ => none)
  else if f = 62 then (if h : s = sg_strings_Join then h ▸ joinRun else fun _ => none)
  else if f = 31 then (if h : s = sg_i_LangNameOk then h ▸ nameRun else fun _ => none)
  else if f = 125 then (if h : s = sg_slices_Clone_impl_TermNode_impl_TermNode then h ▸ cloneTRun else fun _ => none) else fun _ => none
theorem B0_index (key : List Nat) : B0 164 key sg_internal_stringslite_Index = indexRun := by
  unfold B0
  rw [if_pos rfl, dif_pos rfl]
theorem B0_index_no {key : List Nat} {s : Sig} (h : s ≠ sg_internal_stringslite_Index) : B0 164 key s = fun _ => none := by
  unfold B0
  rw [if_pos rfl, dif_neg h]
theorem B0_ib (key : List Nat) : B0 166 key sg_internal_stringslite_IndexByte = ibRun := by
  unfold B0
  rw [if_neg (by decide), if_pos rfl, dif_pos rfl]
theorem B0_ib_no {key : List Nat} {s : Sig} (h : s ≠ sg_internal_stringslite_IndexByte) : B0 166 key s = fun _ => none := by
  unfold B0
  rw [if_neg (by decide), if_pos rfl, dif_neg h]
theorem B0_atoi (key : List Nat) : B0 193 key sg_strconv_Atoi = atoiRun := by
  unfold B0
  rw [if_neg (by decide), if_neg (by decide), if_pos rfl, dif_pos rfl]
theorem B0_atoi_no {key : List Nat} {s : Sig} (h : s ≠ sg_strconv_Atoi) : B0 193 key s = fun _ => none := by
  unfold B0
  rw [if_neg (by decide), if_neg (by decide), if_pos rfl, dif_neg h]
theorem B0_itoa (key : List Nat) : B0 113 key sg_strconv_Itoa = itoaRun := by
  unfold B0
  rw [if_neg (by decide), if_neg (by decide), if_neg (by decide), if_pos rfl, dif_pos rfl]
theorem B0_itoa_no {key : List Nat} {s : Sig} (h : s ≠ sg_strconv_Itoa) : B0 113 key s = fun _ => none := by
  unfold B0
  rw [if_neg (by decide), if_neg (by decide), if_neg (by decide), if_pos rfl, dif_neg h]
theorem B0_join (key : List Nat) : B0 62 key sg_strings_Join = joinRun := by
  unfold B0
  rw [if_neg (by decide), if_neg (by decide), if_neg (by decide), if_neg (by decide), if_pos rfl, dif_pos rfl]
theorem B0_join_no {key : List Nat} {s : Sig} (h : s ≠ sg_strings_Join) : B0 62 key s = fun _ => none := by
  unfold B0
  rw [if_neg (by decide), if_neg (by decide), if_neg (by decide), if_neg (by decide), if_pos rfl, dif_neg h]
theorem B0_name (key : List Nat) : B0 31 key sg_i_LangNameOk = nameRun := by
  unfold B0
  rw [if_neg (by decide), if_neg (by decide), if_neg (by decide), if_neg (by decide), if_neg (by decide), if_pos rfl, dif_pos rfl]
theorem B0_name_no {key : List Nat} {s : Sig} (h : s ≠ sg_i_LangNameOk) : B0 31 key s = fun _ => none := by
  unfold B0
  rw [if_neg (by decide), if_neg (by decide), if_neg (by decide), if_neg (by decide), if_neg (by decide), if_pos rfl, dif_neg h]
theorem B0_clone (key : List Nat) : B0 125 key sg_slices_Clone_impl_TermNode_impl_TermNode = cloneTRun := by
  unfold B0
  rw [if_neg (by decide), if_neg (by decide), if_neg (by decide), if_neg (by decide), if_neg (by decide), if_neg (by decide), if_pos rfl, dif_pos rfl]
theorem B0_clone_no {key : List Nat} {s : Sig} (h : s ≠ sg_slices_Clone_impl_TermNode_impl_TermNode) : B0 125 key s = fun _ => none := by
  unfold B0
  rw [if_neg (by decide), if_neg (by decide), if_neg (by decide), if_neg (by decide), if_neg (by decide), if_neg (by decide), if_pos rfl, dif_neg h]
theorem run_succ (n : Nat) : (C B0).run (n + 1) = (C B0).step ((C B0).run n) n := rfl
theorem k_index : Ev fun n => ∀ (l : List Nat) (c : Nat), Bl l → c < 256 → c_internal_stringslite_Index ((C B0).run n) (bs l) (bs [c]) = some (idx l c, ()) := by
  refine Ev.triv.succ fun n hn _ l c hl hc => ?_
  have e1 : c_internal_stringslite_Index ((C B0).run (n + 1)) (bs l) (bs [c]) = indexRun (bs l, (bs [c], ())) := by
    rw [← B0_index []]
    rfl
  rw [e1]
  unfold indexRun
  simp only
  rw [chs_bs (l := [c]) (fun x hx => by simp at hx; omega), chs_bs hl]
  rfl
theorem k_ib : Ev fun n => ∀ (l : List Nat) (c : Nat), Bl l → c < 256 → c_internal_stringslite_IndexByte ((C B0).run n) (bs l) (c : Int) = some (idx l c, ()) := by
  refine Ev.triv.succ fun n hn _ l c hl hc => ?_
  have e1 : c_internal_stringslite_IndexByte ((C B0).run (n + 1)) (bs l) (c : Int) = ibRun (bs l, ((c : Int), ())) := by
    rw [← B0_ib []]
    rfl
  rw [e1]
  unfold ibRun
  simp only
  rw [if_pos ⟨by omega, by omega⟩, chs_bs hl, Int.toNat_natCast]
  rfl
theorem parse_digits : ∀ (l : List Nat) (acc : Nat), (∀ x ∈ l, digit x = true) → (acc + 1) * 10 ^ l.length ≤ 100000000 → Lib.parseUint10 acc (l.map UInt8.ofNat) = .ok (l.foldl (fun n c => n * 10 + (c - 48)) acc)
  | [], acc, _, _ => rfl
  | c :: r, acc, hd, hb => by
    have hc := digit_iff.1 (hd c (List.mem_cons_self ..))
    have e1 : (UInt8.ofNat c).toNat = c := by
      rw [UInt8.toNat_ofNat']
      exact Nat.mod_eq_of_lt (by omega)
    have hp : 1 ≤ 10 ^ r.length := Nat.pow_pos (by decide)
    rw [List.length_cons, Nat.pow_succ] at hb
    have h1 : acc + 1 ≤ 100000000 := by
      refine Nat.le_trans ?_ hb
      exact Nat.le_mul_of_pos_right _ (by omega)
    have h2 : (acc * 10 + (c - 48) + 1) * 10 ^ r.length ≤ 100000000 := by
      refine Nat.le_trans (Nat.mul_le_mul_right _ (show acc * 10 + (c - 48) + 1 ≤ (acc + 1) * 10 by omega)) ?_
      rw [Nat.mul_assoc, Nat.mul_comm 10]
      exact hb
    rw [List.map_cons, Lib.parseUint10, e1, if_pos (by omega), if_neg (by omega), if_neg (by omega), List.foldl_cons]
    exact parse_digits r _ (fun x hx => hd x (List.mem_cons_of_mem _ hx)) h2
theorem atoi_digits {l : List Nat} (h0 : l ≠ []) (h3 : l.length ≤ 3) (hd : ∀ x ∈ l, digit x = true) : Lib.atoiAll (l.map UInt8.ofNat) = .ok ((value l : Nat) : Int) := by
  match l, h0 with
  | c :: r, _ =>
    have hc := digit_iff.1 (hd c (List.mem_cons_self ..))
    have e1 : (UInt8.ofNat c).toNat = c := by
      rw [UInt8.toNat_ofNat']
      exact Nat.mod_eq_of_lt (by omega)
    have hp : 10 ^ (c :: r).length ≤ 10 ^ 3 := Nat.pow_le_pow_right (by decide) h3
    have hm : Lib.parseMag ((c :: r).map UInt8.ofNat) = .ok (value (c :: r)) := by
      unfold Lib.parseMag
      rw [if_neg (by simp), parse_digits (c :: r) 0 hd (by omega)]
      rfl
    have hv : value (c :: r) < 9223372036854775808 := by
      have : ∀ (l : List Nat) (acc : Nat), (∀ x ∈ l, digit x = true) → l.foldl (fun n c => n * 10 + (c - 48)) acc + 1 ≤ (acc + 1) * 10 ^ l.length := by
        intro l
        induction l with
        | nil => intro acc _; simp
        | cons x l ih =>
          intro acc h
          have hx := digit_iff.1 (h x (List.mem_cons_self ..))
          rw [List.foldl_cons, List.length_cons, Nat.pow_succ]
          refine Nat.le_trans (ih _ fun y hy => h y (List.mem_cons_of_mem _ hy)) ?_
          rw [Nat.mul_comm (10 ^ l.length) 10, ← Nat.mul_assoc]
          exact Nat.mul_le_mul_right _ (by omega)
      have := this (c :: r) 0 hd
      have h4 : value (c :: r) + 1 ≤ (0 + 1) * 10 ^ (c :: r).length := this
      omega
    rw [List.map_cons] at hm ⊢
    unfold Lib.atoiAll
    simp only [e1]
    rw [if_neg (by omega), hm]
    simp only
    rw [if_neg (by omega), if_neg (by omega), if_neg (by omega)]
theorem bs_list (l : List Nat) : (bs l).data.toList = l.map UInt8.ofNat := by simp [bs]
/-- Atoi gives the value of few digits; of other texts something. -/
theorem k_atoi : Ev fun n => ∀ l : List Nat, l.length ≤ 100000 → ∃ (v : Int) (e : Bool), c_strconv_Atoi ((C B0).run n) (bs l) = some (v, (e, ())) ∧ (l ≠ [] → l.length ≤ 3 → (∀ x ∈ l, digit x = true) → v = (value l : Nat) ∧ e = false) := by
  refine Ev.triv.succ fun n hn _ l hl => ?_
  have e1 : c_strconv_Atoi ((C B0).run (n + 1)) (bs l) = atoiRun (bs l, ()) := by
    rw [← B0_atoi []]
    rfl
  rw [e1]
  unfold atoiRun
  simp only
  rw [if_neg (by rw [bs_size]; omega), bs_list]
  rcases h : Lib.atoiAll (l.map UInt8.ofNat) with v | _ | _
  · exact ⟨v, false, rfl, fun h0 h3 hd => by rw [atoi_digits h0 h3 hd] at h; cases h; exact ⟨rfl, rfl⟩⟩
  · exact ⟨0, true, rfl, fun h0 h3 hd => by rw [atoi_digits h0 h3 hd] at h; cases h⟩
  · exact ⟨_, true, rfl, fun h0 h3 hd => by rw [atoi_digits h0 h3 hd] at h; cases h⟩
theorem k_Itoa : Ev fun n => ∀ x : Int, -9223372036854775808 ≤ x → x ≤ 9223372036854775807 → c_strconv_Itoa ((C B0).run n) x = some (bs (itoa x), ()) := by
  refine Ev.triv.succ fun n hn _ x h1 h2 => ?_
  have e1 : c_strconv_Itoa ((C B0).run (n + 1)) x = itoaRun (x, ()) := by
    rw [← B0_itoa []]
    rfl
  rw [e1]
  unfold itoaRun
  simp only
  rw [if_pos ⟨h1, h2⟩]
  rfl
theorem k_Join : Ev fun n => ∀ (l : List (List Nat)) (s : List Nat), l ≠ [] → l.length ≤ 100000 → (joinL s l).length ≤ 1000000000 → (∀ x ∈ l, Bl x) → Bl s → c_strings_Join ((C B0).run n) (l.map bs) (bs s) = some (bs (joinL s l), ()) := by
  refine Ev.triv.succ fun n hn _ l s h1 h2 h3 h4 h5 => ?_
  have e1 : c_strings_Join ((C B0).run (n + 1)) (l.map bs) (bs s) = joinV (l.map bs) (bs s) := by
    show _ = joinRun (l.map bs, (bs s, ()))
    rw [← B0_join []]
    rfl
  have e2 : (l.map bs).map chs = l := by
    rw [List.map_map]
    exact (List.map_congr_left fun x hx => chs_bs (h4 x hx)).trans (List.map_id l)
  rw [e1]
  unfold joinV
  rw [e2, chs_bs h5, if_neg]
  rintro (h | h | h)
  · exact h1 (List.map_eq_nil_iff.1 h)
  · rw [List.length_map] at h; omega
  · omega
theorem k_NameOk : Ev fun n => ∀ l : List Nat, Bl l → l.length ≤ 4000000 → c_i_LangNameOk ((C B0).run n) (bs l) = some (nameOk l, ()) := by
  refine Ev.triv.succ fun n hn _ l h1 h2 => ?_
  have e1 : c_i_LangNameOk ((C B0).run (n + 1)) (bs l) = nameRun (bs l, ()) := by
    rw [← B0_name []]
    rfl
  rw [e1]
  unfold nameRun
  simp only
  rw [bs_size, if_neg (by omega), chs_bs h1]
  rfl
theorem k_CloneT : Ev fun n => ∀ l : List Tn, l ≠ [] → l.length ≤ 1000000 → c_slices_Clone_impl_TermNode_impl_TermNode ((C B0).run n) l = some (l, ()) := by
  refine Ev.triv.succ fun n hn _ l h1 h2 => ?_
  have e1 : c_slices_Clone_impl_TermNode_impl_TermNode ((C B0).run (n + 1)) l = cloneV l := by
    show _ = cloneTRun (l, ())
    rw [← B0_clone []]
    rfl
  rw [e1]
  unfold cloneV
  rw [if_neg]
  rintro (h | h)
  · exact h1 h
  · omega
end Go.Px.Seat

/- Letters, prefixes, cuts, runs of digits. Seat D. -/
namespace Go.Px.Seat
open Go Pm Pt
set_option linter.unusedVariables false
theorem two_if {a b : Bool} : jb (P := (((Bool × Unit)) × Unit)) (R := Bool × Unit) (bif a then some (.inr ((b, ()), ())) else some (.inr ((false, ()), ()))) (fun ((t, _), _) => some (t, ())) = some (a && b, ()) := by cases a <;> rfl
theorem k_isLetter : Ev fun n => ∀ c : Nat, c_i_isLetter ((C B0).run n) (c : Int) = some (letter c, ()) := by
  refine Ev.triv.succ fun n hn _ c => ?_
  rw [run_succ, e_i_isLetter]
  refine two_if.trans ?_
  unfold letter
  rw [ile_iff, ile_iff, decide_eq_decide.2 (show (97 : Int) ≤ c ↔ 97 ≤ c by omega), decide_eq_decide.2 (show (c : Int) ≤ 122 ↔ c ≤ 122 by omega)]
theorem k_isFigure : Ev fun n => ∀ c : Nat, c_i_isFigure ((C B0).run n) (c : Int) = some (digit c, ()) := by
  refine Ev.triv.succ fun n hn _ c => ?_
  rw [run_succ, e_i_isFigure]
  refine two_if.trans ?_
  unfold digit
  rw [ile_iff, ile_iff, decide_eq_decide.2 (show (48 : Int) ≤ c ↔ 48 ≤ c by omega), decide_eq_decide.2 (show (c : Int) ≤ 57 ↔ c ≤ 57 by omega)]
theorem k_l11Letter : Ev fun n => ∀ c : Nat, c_s_l11Letter ((C B0).run n) (c : Int) = some (letter c, ()) := by
  refine Ev.triv.succ fun n hn _ c => ?_
  rw [run_succ, e_s_l11Letter]
  refine two_if.trans ?_
  unfold letter
  rw [ile_iff, ile_iff, decide_eq_decide.2 (show (97 : Int) ≤ c ↔ 97 ≤ c by omega), decide_eq_decide.2 (show (c : Int) ≤ 122 ↔ c ≤ 122 by omega)]
theorem k_l11Digit : Ev fun n => ∀ c : Nat, c_s_l11Digit ((C B0).run n) (c : Int) = some (digit c, ()) := by
  refine Ev.triv.succ fun n hn _ c => ?_
  rw [run_succ, e_s_l11Digit]
  refine two_if.trans ?_
  unfold digit
  rw [ile_iff, ile_iff, decide_eq_decide.2 (show (48 : Int) ≤ c ↔ 48 ≤ c by omega), decide_eq_decide.2 (show (c : Int) ≤ 57 ↔ c ≤ 57 by omega)]
theorem k_in : Ev fun n => ∀ x a b : Int, c_i_in ((C B0).run n) x a b = some (decide (a ≤ x) && decide (x ≤ b), ()) := by
  refine Ev.triv.succ fun n hn _ x a b => ?_
  rw [run_succ, e_i_in]
  exact two_if
def pre (p l : List Nat) : Bool := decide (l.take p.length = p)
theorem k_hasPrefix0 : Ev fun n => ∀ l p : List Nat, Bl l → Bl p → c_internal_stringslite_HasPrefix ((C B0).run n) (bs l) (bs p) = some (pre p l, ()) := by
  refine Ev.triv.succ fun n hn _ l p hl hp => ?_
  rw [run_succ, e_internal_stringslite_HasPrefix]
  unfold p_internal_stringslite_HasPrefix pre
  rw [bs_len, bs_len, ile_iff]
  by_cases h : p.length ≤ l.length
  · rw [decide_eq_true (show (p.length : Int) ≤ l.length by omega)]
    refine Eq.trans (jb_of (p := ((decide (l.take p.length = p), ()), ())) ?_ _) rfl
    simp only [cond_true]
    rw [ok_of (sliceOk_true (by omega) (by omega) (by omega)), Int.toNat_natCast, bs_sub, bs_seq (bl_drop (bl_take hl _) _) hp]
    rfl
  · rw [decide_eq_false (show ¬ (p.length : Int) ≤ l.length by omega)]
    have : ¬ l.take p.length = p := fun h' => h (by
      have := congrArg List.length h'
      rw [List.length_take] at this
      omega)
    rw [decide_eq_false this]
    rfl
theorem k_hasPrefix : Ev fun n => ∀ l p : List Nat, Bl l → Bl p → c_strings_HasPrefix ((C B0).run n) (bs l) (bs p) = some (pre p l, ()) := by
  refine k_hasPrefix0.succ fun n hn h l p hl hp => ?_
  rw [run_succ, e_strings_HasPrefix]
  unfold p_strings_HasPrefix
  rw [h l p hl hp]
  rfl
theorem k_cutPrefix0 : Ev fun n => ∀ l p : List Nat, Bl l → Bl p → c_internal_stringslite_CutPrefix ((C B0).run n) (bs l) (bs p) = some (if pre p l = true then (bs (l.drop p.length), (true, ())) else (bs l, (false, ()))) := by
  refine k_hasPrefix0.succ fun n hn h l p hl hp => ?_
  rw [run_succ, e_internal_stringslite_CutPrefix]
  unfold p_internal_stringslite_CutPrefix
  rw [h l p hl hp]
  show (bif !(pre p l) then _ else _) = _
  cases hq : pre p l with
  | false => rfl
  | true =>
    have hle : p.length ≤ l.length := by
      have := congrArg List.length (of_decide_eq_true hq)
      rw [List.length_take] at this
      omega
    simp only [Bool.not_true, cond_false, if_true]
    rw [bs_len, bs_len, ok_of (sliceOk_true (by omega) (by omega) (by omega)), Int.toNat_natCast, Int.toNat_natCast, bs_sub, List.take_of_length_le (Nat.le_refl _)]
theorem k_cutPrefix : Ev fun n => ∀ l p : List Nat, Bl l → Bl p → c_strings_CutPrefix ((C B0).run n) (bs l) (bs p) = some (if pre p l = true then (bs (l.drop p.length), (true, ())) else (bs l, (false, ()))) := by
  refine k_cutPrefix0.succ fun n hn h l p hl hp => ?_
  rw [run_succ, e_strings_CutPrefix]
  unfold p_strings_CutPrefix
  rw [h l p hl hp]
  cases pre p l <;> rfl
theorem take_tw {p : Nat → Bool} : ∀ l : List Nat, l.take (l.takeWhile p).length = l.takeWhile p
  | [] => rfl
  | c :: l => by
    rw [List.takeWhile_cons]
    split
    · rw [List.length_cons, List.take_succ_cons, take_tw l]
    · rfl
theorem drop_tw {p : Nat → Bool} : ∀ l : List Nat, l.drop (l.takeWhile p).length = l.dropWhile p
  | [] => rfl
  | c :: l => by
    rw [List.takeWhile_cons, List.dropWhile_cons]
    split
    · rw [List.length_cons, List.drop_succ_cons, drop_tw l]
    · rfl
theorem tw_le {p : Nat → Bool} (l : List Nat) : (l.takeWhile p).length ≤ l.length := by
  have := congrArg List.length (take_tw (p := p) l)
  rw [List.length_take] at this
  omega
theorem tw_lt {c : Nat} : ∀ {l : List Nat}, c ∈ l → (l.takeWhile (· != c)).length < l.length
  | x :: l, h => by
    rw [List.takeWhile_cons]
    by_cases hx : x = c
    · subst hx; simp
    · have h' : c ∈ l := (List.mem_cons.1 h).resolve_left fun h => hx h.symm
      have := tw_lt h'
      rw [if_pos (by simpa using hx)]
      simp only [List.length_cons]
      omega
theorem tw_none {c : Nat} {l : List Nat} (h : ¬ c ∈ l) : l.takeWhile (· != c) = l ∧ l.dropWhile (· != c) = [] := by
  have h1 : ∀ x ∈ l, (x != c) = true := fun x hx => by
    have : x ≠ c := fun he => h (he ▸ hx)
    simpa using this
  have h2 := takeWhile_app (r := []) h1
  have h3 := dropWhile_app (r := []) h1
  simp only [List.append_nil, List.takeWhile_nil, List.dropWhile_nil] at h2 h3
  exact ⟨h2, h3⟩
theorem k_cut : Ev fun n => ∀ (l : List Nat) (c : Nat), Bl l → c < 256 → l.length ≤ 100000 → c_strings_Cut ((C B0).run n) (bs l) (bs [c]) = some (bs (cutAt c l).1, (bs (cutAt c l).2.1, ((cutAt c l).2.2, ()))) := by
  have k0 : Ev fun n => ∀ (l : List Nat) (c : Nat), Bl l → c < 256 → l.length ≤ 100000 → c_internal_stringslite_Cut ((C B0).run n) (bs l) (bs [c]) = some (bs (cutAt c l).1, (bs (cutAt c l).2.1, ((cutAt c l).2.2, ()))) := by
    refine k_index.succ fun n hn h l c hl hc hb => ?_
    rw [run_succ, e_internal_stringslite_Cut]
    unfold p_internal_stringslite_Cut
    rw [h l c hl hc]
    show (bif ile 0 (idx l c) then _ else _) = _
    unfold idx cutAt
    by_cases hm : c ∈ l
    · have hlt := tw_lt hm
      rw [if_pos hm, ile_iff, decide_eq_true (by omega), cond_true, bs_len, bs_len]
      rw [iadd_eq (by simp <;> omega) (by simp <;> omega)]
      rw [ok_of (sliceOk_true (by omega) (by omega) (by omega)), ok_of (sliceOk_true (by omega) (by simp <;> omega) (by omega))]
      rw [bs_sub, bs_sub]
      have e1 : (((l.takeWhile (· != c)).length : Int) + ((List.length [c] : Nat) : Int)).toNat = (l.takeWhile (· != c)).length + 1 := by simp <;> omega
      rw [e1, Int.toNat_natCast, Int.toNat_natCast, List.take_of_length_le (Nat.le_refl _), take_tw, ← List.drop_drop, drop_tw]
      have : l.any (· == c) = true := List.any_eq_true.2 ⟨c, hm, by simp⟩
      rw [this]
      rfl
    · have : l.any (· == c) = false := List.any_eq_false.2 fun x hx => by
        have : x ≠ c := fun he => hm (he ▸ hx)
        simpa using this
      rw [if_neg hm, this, (tw_none hm).1, (tw_none hm).2]
      rfl
  refine k0.succ fun n hn h l c hl hc hb => ?_
  rw [run_succ, e_strings_Cut]
  unfold p_strings_Cut
  rw [h l c hl hc hb]
  rfl
theorem tw_at {p : Nat → Bool} : ∀ (l : List Nat) (k : Nat), k < (l.takeWhile p).length → k < l.length ∧ p (l.getD k 0) = true
  | c :: l, k, h => by
    rw [List.takeWhile_cons] at h
    split at h
    · rename_i hc
      match k with
      | 0 => exact ⟨by simp, hc⟩
      | k + 1 =>
        obtain ⟨h1, h2⟩ := tw_at l k (by simpa using h)
        exact ⟨by simp only [List.length_cons]; omega, by simpa using h2⟩
    · simp at h
theorem tw_end {p : Nat → Bool} : ∀ (l : List Nat), (l.takeWhile p).length < l.length → p (l.getD (l.takeWhile p).length 0) = false
  | c :: l, h => by
    rw [List.takeWhile_cons] at h ⊢
    split at h
    · rename_i hc
      rw [if_pos hc]
      simp only [List.length_cons, List.getD_cons_succ] at h ⊢
      exact tw_end l (by omega)
    · rename_i hc
      rw [if_neg hc]
      simpa using hc
theorem getD_drop (l : List Nat) (a k : Nat) : (l.drop a).getD k 0 = l.getD (a + k) 0 := by
  rw [List.getD_eq_getElem?_getD, List.getElem?_drop, ← List.getD_eq_getElem?_getD]
theorem k_run : Ev fun n => ∀ (l : List Nat) (a : Nat), Bl l → a ≤ l.length → l.length ≤ 100000 → c_s_l11Run ((C B0).run n) (bs l) (a : Int) = some ((((l.drop a).takeWhile digit).length : Int), ()) := by
  refine k_l11Digit.succ fun n hn kd l a hl ha hb => ?_
  rw [run_succ, e_s_l11Run]
  unfold p_s_l11Run
  have hw := tw_le (p := digit) (l.drop a)
  rw [List.length_drop] at hw
  refine iter_const (fun p => ∃ k : Nat, p = (((a : Int), ((k : Int), (bs l, (0, ())))), ()) ∧ k ≤ ((l.drop a).takeWhile digit).length) (fun p => 100000 - p.1.2.1.toNat) _ ?_ n _ (by simp only; omega) ⟨0, rfl, Nat.zero_le _⟩
  rintro rec p ⟨k, rfl, hk⟩ ih
  simp only
  rw [bs_len, iadd_eq (by omega) (by omega), ilt_iff]
  by_cases h1 : a + k < l.length
  · rw [decide_eq_true (show (a : Int) + k < l.length by omega), cond_true, ok_of (inB_true (by omega) (by omega))]
    have e1 : (a : Int) + k = ((a + k : Nat) : Int) := by omega
    rw [e1, bs_bt hl, kd]
    by_cases h2 : k < ((l.drop a).takeWhile digit).length
    · have h3 := (tw_at _ _ h2).2
      rw [getD_drop] at h3
      rw [h3]
      show rec (((a : Int), ((iadd .i64 (k : Int) 1), (bs l, (0, ())))), ()) = _
      rw [iadd_eq (by omega) (by omega)]
      exact ih _ ⟨k + 1, by simp, by omega⟩ (by simp only; omega)
    · have hk' : k = ((l.drop a).takeWhile digit).length := by omega
      have h3 := tw_end (p := digit) (l.drop a) (by rw [List.length_drop]; omega)
      rw [getD_drop, ← hk'] at h3
      rw [h3, hk']
      rfl
  · rw [decide_eq_false (show ¬ (a : Int) + k < l.length by omega)]
    have hk' : k = ((l.drop a).takeWhile digit).length := by omega
    rw [hk']
    rfl
end Go.Px.Seat

/- Numbers as they are written: the program's and the reference's words. Seat D. -/
namespace Go.Px.Seat
open Go Pm Pt
set_option linter.unusedVariables false
theorem all_get {p : Nat → Bool} {l : List Nat} (h : ∀ j, j < l.length → p (l.getD j 0) = true) : l.all p = true := by
  refine List.all_eq_true.2 fun x hx => ?_
  obtain ⟨j, hj, rfl⟩ := List.mem_iff_getElem.1 hx
  have := h j hj
  rwa [List.getD_eq_getElem?_getD, List.getElem?_eq_getElem hj] at this
theorem all_bad {p : Nat → Bool} {l : List Nat} {j : Nat} (hj : j < l.length) (h : p (l.getD j 0) = false) : l.all p = false := by
  refine Bool.eq_false_iff.2 fun ha => ?_
  have := List.all_eq_true.1 ha (l.getD j 0) (by
    rw [List.getD_eq_getElem?_getD, List.getElem?_eq_getElem hj]
    exact List.getElem_mem hj)
  rw [h] at this
  cases this
theorem k_isDigits : Ev fun n => ∀ l : List Nat, Bl l → l.length ≤ 100000 → c_i_isDigits ((C B0).run n) (bs l) = some (decide (l ≠ []) && l.all digit, ()) := by
  refine Ev.triv.succ fun n hn _ l hl hb => ?_
  rw [run_succ, e_i_isDigits]
  unfold p_i_isDigits
  rw [bs_len]
  refine iter_const (fun p => ∃ k : Nat, p = (((k : Int), ((l.length : Int), (bs l, (false, ())))), ()) ∧ k ≤ l.length ∧ ∀ j, j < k → digit (l.getD j 0) = true) (fun p => 100000 - p.1.1.toNat) _ ?_ n _ (by simp only; omega) ⟨0, rfl, Nat.zero_le _, fun j hj => absurd hj (Nat.not_lt_zero _)⟩
  rintro rec p ⟨k, rfl, hk, hd⟩ ih
  simp only
  rw [ilt_iff]
  by_cases h1 : k < l.length
  · rw [decide_eq_true (show (k : Int) < l.length by omega), cond_true, bs_len, ok_of (inB_true (by omega) (by omega)), bs_bt hl, ilt_iff]
    cases hg : digit (l.getD k 0) with
    | true =>
      have hg' := digit_iff.1 hg
      rw [decide_eq_false (show ¬ ((l.getD k 0 : Nat) : Int) < 48 by omega), cond_false, ok_of (inB_true (by omega) (by omega)), ilt_iff, decide_eq_false (show ¬ (57 : Int) < ((l.getD k 0 : Nat) : Int) by omega)]
      show rec (((iadd .i64 (k : Int) 1), ((l.length : Int), (bs l, (false, ())))), ()) = _
      rw [iadd_eq (by omega) (by omega)]
      refine ih _ ⟨k + 1, by simp, by omega, fun j hj => ?_⟩ (by simp only; omega)
      by_cases hjk : j = k
      · rw [hjk]; exact hg
      · exact hd j (by omega)
    | false =>
      have hg' : ¬ (48 ≤ l.getD k 0 ∧ l.getD k 0 ≤ 57) := fun h => by rw [digit_iff.2 h] at hg; cases hg
      rw [all_bad h1 hg]
      by_cases h2 : ((l.getD k 0 : Nat) : Int) < 48
      · rw [decide_eq_true h2, Bool.and_false]; rfl
      · rw [decide_eq_false h2, cond_false, ok_of (inB_true (by omega) (by omega)), ilt_iff, decide_eq_true (show (57 : Int) < ((l.getD k 0 : Nat) : Int) by omega), Bool.and_false]; rfl
  · rw [decide_eq_false (show ¬ (k : Int) < l.length by omega), cond_false, bs_seq hl (fun x hx => by cases hx), all_get (fun j hj => hd j (by omega))]
    simp
theorem k_whole : Ev fun n => ∀ l : List Nat, Bl l → l.length ≤ 100000 → c_i_wholeDigits ((C B0).run n) (bs l) = some (whole l, ()) := by
  refine k_isDigits.succ fun n hn hk l hl hb => ?_
  rw [run_succ, e_i_wholeDigits]
  unfold p_i_wholeDigits
  rw [hk l hl hb]
  unfold whole
  by_cases h0 : l = []
  · subst h0; rfl
  · cases ha : l.all digit with
    | false => rw [Bool.and_false, Bool.false_and, Bool.and_false]; rfl
    | true =>
      have hp : 0 < l.length := List.length_pos_iff.2 h0
      rw [decide_eq_true h0]
      show jb (bif seq (bs l) (bs [48]) then _ else _) _ = _
      rw [bs_seq hl (fun x hx => by simp at hx; omega), bs_len, show (0 : Int) = ((0 : Nat) : Int) from rfl, bs_bt hl]
      by_cases h1 : l = [48]
      · rw [decide_eq_true h1]; rfl
      · rw [decide_eq_false h1, cond_false, ok_of (inB_true (by omega) (by omega))]
        simp only [Bool.true_and, Bool.false_or]
        show some ((((l.getD 0 0 : Nat) : Int) != 48), ()) = _
        by_cases h2 : l.getD 0 0 = 48
        · rw [h2]; rfl
        · rw [decide_eq_true h2]
          have : ((((l.getD 0 0 : Nat) : Int) != 48)) = true := by
            simp only [bne_iff_ne, ne_eq]
            omega
          rw [this]
theorem cut_len {c : Nat} (l : List Nat) : (cutAt c l).1.length ≤ l.length ∧ (cutAt c l).2.1.length ≤ l.length := by
  have h1 := tw_le (p := (· != c)) l
  have h2 := congrArg List.length (drop_tw (p := (· != c)) l)
  rw [List.length_drop] at h2
  refine ⟨h1, ?_⟩
  show ((l.dropWhile (· != c)).drop 1).length ≤ _
  rw [List.length_drop]
  omega
theorem cut_bl {c : Nat} {l : List Nat} (h : Bl l) : Bl (cutAt c l).1 ∧ Bl (cutAt c l).2.1 := by
  refine ⟨fun x hx => h x ((List.takeWhile_sublist _).subset hx), fun x hx => h x ?_⟩
  exact (List.dropWhile_sublist _).subset (List.mem_of_mem_drop hx)
theorem pre_minus (p : List Nat) : (if pre [45] p = true then (bs (p.drop [45].length), (true, ())) else (bs p, (false, ()))) = ((bs (if pre [45] p = true then p.drop 1 else p), (pre [45] p, ())) : ByteArray × (Bool × Unit)) := by
  cases pre [45] p <;> rfl
theorem expo_eq (p : List Nat) : expo p = exOk (pre [45] p) (if pre [45] p = true then p.drop 1 else p) := by
  match p with
  | [] => rfl
  | c :: r =>
    by_cases h : c = 45
    · subst h
      have : pre [45] (45 :: r) = true := by simp [pre]
      rw [this]; rfl
    · have : pre [45] (c :: r) = false := by simp [pre, h]
      rw [this]
      unfold expo
      split
      · rename_i h'; cases h'; exact absurd rfl h
      · rfl
theorem whole_digits {l : List Nat} (h : whole l = true) : l ≠ [] ∧ ∀ x ∈ l, digit x = true := by
  unfold whole at h
  simp only [Bool.and_eq_true, decide_eq_true_eq] at h
  exact ⟨h.1, List.all_eq_true.1 h.2.1⟩
theorem k_literal : Ev fun n => ∀ l : List Nat, Bl l → l.length ≤ 100000 → ∃ (a b : ByteArray) (v : Int), c_i_literal ((C B0).run n) (bs l) = some (a, (b, (v, (num l, ())))) := by
  refine (k_cut.and (k_whole.and (k_isDigits.and (k_cutPrefix.and k_atoi)))).succ fun n hn ⟨kc, kw, kd, kp, ka⟩ l hl hb => ?_
  rw [run_succ, e_i_literal]
  unfold p_i_literal
  rw [kc l 101 hl (by decide) hb]
  show ∃ (a b : ByteArray) (v : Int), (c_strings_Cut _ (bs (cutAt 101 l).1) (bs [46])).bind _ = _
  obtain ⟨l1, l2⟩ := cut_len (c := 101) l
  obtain ⟨b1, b2⟩ := cut_bl (c := 101) hl
  rw [kc _ 46 b1 (by decide) (by omega)]
  show ∃ (a b : ByteArray) (v : Int), jb _ _ = _
  unfold num
  generalize hB : cutAt 101 l = X at l1 l2 b1 b2
  obtain ⟨B, Pw, hp⟩ := X
  simp only at l1 l2 b1 b2 ⊢
  obtain ⟨m1, m2⟩ := cut_len (c := 46) B
  obtain ⟨d1, d2⟩ := cut_bl (c := 46) b1
  generalize cutAt 46 B = Y at m1 m2 d1 d2
  obtain ⟨A, F, pt⟩ := Y
  simp only at m1 m2 d1 d2 ⊢
  rw [kw A d1 (by omega)]
  simp only [Option.bind_some]
  cases hA : whole A with
  | false => exact ⟨_, _, _, rfl⟩
  | true =>
    simp only [Bool.not_true, cond_false]
    have key : ∀ q : Bool, q = (!pt || (decide (F ≠ []) && F.all digit)) → (bif pt then (c_i_isDigits ((C B0).run n) (bs F)).bind fun (r50_1, _) => some ((.inr ((!r50_1, (hp, (bs A, (bs F, (bs Pw, (bs [], (bs [], (0, (false, ()))))))))), ())) : (ByteArray × (ByteArray × (Int × (Bool × Unit)))) ⊕ (((Bool × (Bool × (ByteArray × (ByteArray × (ByteArray × (ByteArray × (ByteArray × (Int × (Bool × Unit)))))))))) × Unit)) else
        some (.inr ((false, (hp, (bs A, (bs F, (bs Pw, (bs [], (bs [], (0, (false, ()))))))))), ()))) = some (.inr ((!q, (hp, (bs A, (bs F, (bs Pw, (bs [], (bs [], (0, (false, ()))))))))), ())) := by
      intro q hq
      subst hq
      cases pt with
      | false => rfl
      | true =>
        simp only [cond_true, kd F d2 (by omega), Bool.not_true, Bool.false_or]
        rfl
    generalize hq : (!pt || (decide (F ≠ []) && F.all digit)) = q
    rw [key q hq.symm]
    show ∃ (a b : ByteArray) (v : Int), (bif !q then _ else _) = _
    cases q with
    | false => exact ⟨_, _, _, rfl⟩
    | true =>
      simp only [Bool.not_true, cond_false, Bool.true_and]
      cases hp with
      | false => exact ⟨_, _, _, rfl⟩
      | true =>
        simp only [Bool.not_true, cond_false, Bool.false_or]
        rw [kp Pw [45] b2 (fun x hx => by simp at hx; omega), pre_minus, expo_eq]
        simp only [Option.bind_some]
        generalize hm : pre [45] Pw = mi
        have bq : Bl (if mi = true then Pw.drop 1 else Pw) := by
          cases mi
          · exact b2
          · exact bl_drop b2 1
        have lq : (if mi = true then Pw.drop 1 else Pw).length ≤ 100000 := by
          cases mi
          · show Pw.length ≤ _; omega
          · show (Pw.drop 1).length ≤ _; rw [List.length_drop]; omega
        generalize (if mi = true then Pw.drop 1 else Pw) = Q at bq lq
        obtain ⟨v, e, hv, hve⟩ := ka Q lq
        rw [hv]
        simp only [Option.bind_some]
        unfold exOk
        cases hw : whole Q with
        | false =>
          cases e with
          | true => exact ⟨_, _, _, rfl⟩
          | false =>
            simp only [cond_false, kw Q bq lq, Option.bind_some, hw, Bool.not_false, cond_true, Bool.false_and]
            exact ⟨_, _, _, rfl⟩
        | true =>
          obtain ⟨q0, qd⟩ := whole_digits hw
          simp only [Bool.true_and]
          by_cases h3 : Q.length ≤ 3
          · obtain ⟨rfl, rfl⟩ := hve q0 h3 qd
            simp only [cond_false, kw Q bq lq, Option.bind_some, hw, Bool.not_true]
            rw [bs_len, ilt_iff, ilt_iff, decide_eq_false (show ¬ (3 : Int) < Q.length by omega), decide_eq_true h3]
            simp only [cond_false, Bool.true_and]
            by_cases h4 : value Q ≤ 400
            · rw [decide_eq_false (show ¬ (400 : Int) < (value Q : Nat) by omega), decide_eq_true h4]
              simp only [cond_false, Bool.true_and]
              cases mi with
              | false => exact ⟨_, _, _, rfl⟩
              | true =>
                simp only [cond_true, Bool.true_and]
                by_cases h5 : value Q = 0
                · rw [h5]; exact ⟨_, _, _, rfl⟩
                · have : (((value Q : Nat) : Int) == 0) = false := beq_f (by omega)
                  rw [this, decide_eq_false h5]
                  exact ⟨_, _, _, rfl⟩
            · rw [decide_eq_true (show (400 : Int) < (value Q : Nat) by omega), decide_eq_false h4]
              exact ⟨_, _, _, rfl⟩
          · rw [decide_eq_false h3]
            cases e with
            | true => exact ⟨_, _, _, rfl⟩
            | false =>
              simp only [cond_false, kw Q bq lq, Option.bind_some, hw, Bool.not_true]
              rw [bs_len, ilt_iff, decide_eq_true (show (3 : Int) < Q.length by omega)]
              exact ⟨_, _, _, rfl⟩
theorem k_decOk : Ev fun n => ∀ l : List Nat, Bl l → l.length ≤ 100000 → c_i_DecOk ((C B0).run n) (bs l) = some (num l && decide (l.length ≤ 60), ()) := by
  refine k_literal.succ fun n hn hk l hl hb => ?_
  rw [run_succ, e_i_DecOk]
  unfold p_i_DecOk
  obtain ⟨a, b, v, h⟩ := hk l hl hb
  rw [h, bs_len, ile_iff, decide_eq_decide.2 (show (l.length : Int) ≤ 60 ↔ l.length ≤ 60 by omega)]
  show jb (bif num l then _ else _) _ = _
  cases num l <;> rfl
theorem k_iNumOk : Ev fun n => ∀ l : List Nat, Bl l → l.length ≤ 100000 → c_i_LangNumOk ((C B0).run n) (bs l) = some (num l && decide (l.length ≤ 60), ()) := by
  refine k_decOk.succ fun n hn hk l hl hb => ?_
  rw [run_succ, e_i_LangNumOk]
  unfold p_i_LangNumOk
  rw [hk l hl hb, bs_len, ile_iff, decide_eq_decide.2 (show (l.length : Int) ≤ 60 ↔ l.length ≤ 60 by omega)]
  show jb (bif (num l && decide (l.length ≤ 60)) then _ else _) _ = _
  cases num l <;> cases decide (l.length ≤ 60) <;> rfl
end Go.Px.Seat

/- The reference's numbers: plain facts. -/
namespace Go.Px
open Go Pm Pt
theorem less3 {a b c : Nat} (ha : digit a = true) (hb : digit b = true) (hc : digit c = true) : (slt (bs [a, b, c]) (bs [52, 48, 48]) || seq (bs [a, b, c]) (bs [52, 48, 48])) = decide (value [a, b, c] ≤ 400) := by
  have ha := digit_iff.1 ha
  have hb := digit_iff.1 hb
  have hc := digit_iff.1 hc
  have bl : Bl [a, b, c] := fun x hx => by simp at hx; omega
  have bl2 : Bl [52, 48, 48] := fun x hx => by simp at hx; omega
  rw [bs_seq bl bl2]
  have e : ∀ x : Nat, x < 256 → (UInt8.ofNat x).toNat = x := fun x hx => by
    rw [UInt8.toNat_ofNat']
    exact Nat.mod_eq_of_lt hx
  have lt : ∀ x y : Nat, x < 256 → y < 256 → (decide (UInt8.ofNat x < UInt8.ofNat y) = decide (x < y)) := fun x y hx hy => by
    refine decide_eq_decide.2 ?_
    rw [UInt8.lt_iff_toNat_lt, e x hx, e y hy]
  have eq : ∀ x y : Nat, x < 256 → y < 256 → ((UInt8.ofNat x == UInt8.ofNat y) = decide (x = y)) := fun x y hx hy => by
    by_cases h : x = y
    · subst h; simp
    · rw [decide_eq_false h]
      have : UInt8.ofNat x ≠ UInt8.ofNat y := fun h' => h (by
        have := congrArg UInt8.toNat h'
        rwa [e x hx, e y hy] at this)
      simpa using this
  unfold slt
  rw [ByteArray.toList_eq, ByteArray.toList_eq]
  have l1 : ∀ l : List Nat, (bs l).data.toList = l.map UInt8.ofNat := fun l => by simp [bs]
  rw [l1, l1]
  simp only [List.map_cons, List.map_nil, Op.bytesLess]
  rw [lt a 52 (by omega) (by omega), lt b 48 (by omega) (by omega), lt c 48 (by omega) (by omega), eq a 52 (by omega) (by omega), eq b 48 (by omega) (by omega), eq c 48 (by omega) (by omega)]
  have hv : value [a, b, c] = ((a - 48) * 10 + (b - 48)) * 10 + (c - 48) := by simp [value]
  rw [hv]
  simp only [List.cons.injEq, and_true, Bool.and_false, Bool.or_false]
  rw [Bool.eq_iff_iff]
  simp only [Bool.or_eq_true, Bool.and_eq_true, decide_eq_true_eq]
  omega
/-- what the reference asks of a power -/
def pwK (m : Bool) (Q : List Nat) (k : Nat) : Bool :=
  !(decide (k = 0) || (decide (3 < k) || ((decide (Q.getD 0 0 = 48) && (decide (1 < k) || m)) || (decide (k = 3) && !(decide (value (Q.take 3) ≤ 400)))))) && decide (k = Q.length)
def pwOk (m : Bool) (Q : List Nat) : Bool := pwK m Q (Q.takeWhile digit).length
theorem tw_full {Q : List Nat} (h : (Q.takeWhile digit).length = Q.length) : Q.all digit = true := by
  have h1 : Q.takeWhile digit = Q := (List.takeWhile_sublist _).eq_of_length h
  rw [← h1]
  exact List.all_eq_true.2 takeWhile_all
theorem tw_all {Q : List Nat} (h : Q.all digit = true) : Q.takeWhile digit = Q := by
  have := takeWhile_app (r := []) (List.all_eq_true.1 h)
  simpa using this
theorem pw_ex (m : Bool) (Q : List Nat) : exOk m Q = pwOk m Q := by
  unfold pwOk exOk pwK
  cases ha : Q.all digit with
  | false =>
    have h1 : whole Q = false := by unfold whole; rw [ha]; simp
    have h2 : ¬ (Q.takeWhile digit).length = Q.length := fun h => by rw [tw_full h] at ha; cases ha
    rw [h1, decide_eq_false h2]
    simp
  | true =>
    rw [tw_all ha]
    unfold whole
    rw [ha, decide_eq_true (rfl : Q.length = Q.length)]
    have hd := List.all_eq_true.1 ha
    match Q, hd with
    | [], _ => simp
    | [a], hd =>
      have h1 := digit_iff.1 (hd a (by simp))
      rw [Bool.eq_iff_iff]
      cases m <;> simp [value] <;> omega
    | [a, b], hd =>
      have h1 := digit_iff.1 (hd a (by simp))
      have h2 := digit_iff.1 (hd b (by simp))
      rw [Bool.eq_iff_iff]
      cases m <;> simp [value] <;> omega
    | [a, b, c], hd =>
      have h1 := digit_iff.1 (hd a (by simp))
      have h2 := digit_iff.1 (hd b (by simp))
      have h3 := digit_iff.1 (hd c (by simp))
      rw [Bool.eq_iff_iff]
      cases m <;> simp [value] <;> omega
    | a :: b :: c :: d :: r, _ =>
      simp
theorem jb_at {P R : Type} {x : Option (R ⊕ P)} {f : P → Option R} {r : R} (Q : P → Prop) (hx : x = some (.inl r) ∨ ∃ p, x = some (.inr p) ∧ Q p) (hf : ∀ p, Q p → f p = some r) : jb x f = some r := by
  rcases hx with h | ⟨p, h, hq⟩
  · rw [h]; rfl
  · rw [h]; exact hf p hq
end Go.Px

/- Numbers as they are written: the reference's. Seat D. -/
namespace Go.Px.Seat
open Go Pm Pt
set_option linter.unusedVariables false
theorem take3 {Q : List Nat} (h : (Q.takeWhile digit).length = 3) : (slt (bs (Q.take 3)) (bs [52, 48, 48]) || seq (bs (Q.take 3)) (bs [52, 48, 48])) = decide (value (Q.take 3) ≤ 400) := by
  have e := take_tw (p := digit) Q
  rw [h] at e
  have hd : ∀ x ∈ Q.take 3, digit x = true := by rw [e]; exact takeWhile_all
  have hl : (Q.take 3).length = 3 := by rw [e]; exact h
  generalize Q.take 3 = T at hd hl
  match T, hl with
  | [a, b, c], _ => exact less3 (hd a (by simp)) (hd b (by simp)) (hd c (by simp))
theorem pre_one {c : Nat} {r : List Nat} : pre [45] (c :: r) = decide (c = 45) := by simp [pre]
theorem drop_cons {l : List Nat} {a : Nat} (h : a < l.length) : l.drop a = l.getD a 0 :: l.drop (a + 1) := by
  rw [List.drop_eq_getElem_cons h, List.getD_eq_getElem?_getD, List.getElem?_eq_getElem h]
  rfl
theorem rexp_ne {c : Nat} {s : List Nat} (h : c ≠ 101) : rexp (c :: s) = false := by
  unfold rexp
  split
  · rename_i h'; cases h'
  · rename_i h'; cases h'; exact absurd rfl h
  · rfl
theorem rfrac_ne {r : List Nat} (h : ∀ s, r ≠ 46 :: s) : rfrac r = rexp r := by
  unfold rfrac
  split
  · rename_i s; exact absurd rfl (h s)
  · rfl
theorem tw_head {p : Nat → Bool} {l r : List Nat} {x : Nat} (h : l.takeWhile p = x :: r) : l.getD 0 0 = x := by
  cases l with
  | nil => cases h
  | cons z l =>
    rw [List.takeWhile_cons] at h
    split at h
    · exact (List.cons.inj h).1
    · cases h
theorem whole_tw {a l : List Nat} (ha : a = l.takeWhile digit) : whole a = !(decide (a.length = 0) || (decide (1 < a.length) && decide (l.getD 0 0 = 48))) := by
  have hd : ∀ x ∈ a, digit x = true := by rw [ha]; exact takeWhile_all
  unfold whole
  rw [List.all_eq_true.2 hd]
  match a, ha with
  | [], _ => rfl
  | [x], ha => simp <;> omega
  | x :: y :: r, ha =>
    rw [tw_head ha.symm]
    simp
theorem k_sNumOk : Ev fun n => ∀ l : List Nat, Bl l → l.length ≤ 100000 → c_s_LangNumOk ((C B0).run n) (bs l) = some (rnum l && decide (l.length ≤ 60), ()) := by
  refine k_run.succ fun n hn kr l hl hb => ?_
  rw [run_succ, e_s_LangNumOk]
  unfold p_s_LangNumOk
  have h0 : c_s_l11Run ((C B0).run n) (bs l) 0 = some ((((l.drop 0).takeWhile digit).length : Int), ()) := kr l 0 hl (Nat.zero_le _) hb
  have hb0 : bt (bs l) 0 = ((l.getD 0 0 : Nat) : Int) := bs_bt hl 0
  rw [h0, List.drop_zero]
  clear h0
  simp only [Option.bind_some]
  have hW := whole_tw (l := l) rfl
  have hdr := drop_tw (p := digit) l
  have hle := tw_le (p := digit) l
  unfold rnum
  rw [← hdr, hW]
  clear hW hdr
  generalize (l.takeWhile digit).length = k0 at hle ⊢
  rw [bs_len]
  obtain ⟨b1, hb1⟩ : ∃ b, b = (decide (60 < l.length) || (decide (k0 = 0) || (decide (1 < k0) && decide (l.getD 0 0 = 48)))) := ⟨_, rfl⟩
  refine Eq.trans (jb_of (p := ((b1, ((k0 : Int), (bs l, (false, ())))), ())) ?_ _) ?_
  · rw [ilt_iff, ilt_iff, decide_eq_decide.2 (show (60 : Int) < l.length ↔ 60 < l.length by omega), decide_eq_decide.2 (show (1 : Int) < k0 ↔ 1 < k0 by omega)]
    rw [hb1]
    by_cases h1 : 60 < l.length
    · rw [decide_eq_true h1]; rfl
    · rw [decide_eq_false h1, cond_false, Bool.false_or]
      by_cases h2 : k0 = 0
      · subst h2; rfl
      · rw [decide_eq_false h2, Bool.false_or, beq_f (show ¬ (k0 : Int) = 0 by omega), cond_false]
        by_cases h3 : 1 < k0
        · rw [decide_eq_true h3, cond_true, ok_of (inB_true (by omega) (by omega)), hb0, Bool.true_and]
          by_cases h4 : l.getD 0 0 = 48
          · rw [h4]; rfl
          · rw [decide_eq_false h4, beq_f (by omega)]
        · rw [decide_eq_false h3]; rfl
  · show (bif b1 then _ else _) = _
    replace hb1 := hb1.symm
    cases b1 with
    | true =>
      simp only [Bool.or_eq_true] at hb1
      rcases hb1 with h | h
      · rw [show decide (l.length ≤ 60) = false from decide_eq_false (by have := of_decide_eq_true h; omega), Bool.and_false]; rfl
      · rw [show (decide (k0 = 0) || (decide (1 < k0) && decide (l.getD 0 0 = 48))) = true from by simpa using h]; rfl
    | false =>
      rw [Bool.or_eq_false_iff] at hb1
      obtain ⟨h60, hb1⟩ := hb1
      rw [hb1, decide_eq_true (show l.length ≤ 60 by have := of_decide_eq_false h60; omega)]
      simp only [cond_false, Bool.not_false, Bool.true_and, Bool.and_true]
      clear hb1 h60
      refine jb_at (fun p => ∃ a : Nat, a ≤ l.length ∧ p = (((a : Int), (bs l, (false, ()))), ()) ∧ rfrac (l.drop k0) = rexp (l.drop a)) ?_ ?_
      · by_cases h46 : k0 < l.length ∧ l.getD k0 0 = 46
        · obtain ⟨h1, h2⟩ := h46
          have hdc := drop_cons h1
          rw [h2] at hdc
          rw [hdc]
          rw [jb_of (p := ((true, (bs l, ((k0 : Int), (false, ())))), ())) (by
            rw [bs_len, ilt_iff, decide_eq_true (by omega), cond_true, ok_of (inB_true (by omega) (by omega)), bs_bt hl, h2]; rfl)]
          simp only [cond_true]
          rw [iadd_eq (by omega) (by omega), show (k0 : Int) + 1 = ((k0 + 1 : Nat) : Int) by omega, kr l (k0 + 1) hl (by omega) hb]
          simp only [Option.bind_some]
          have hd2 := drop_tw (p := digit) (l.drop (k0 + 1))
          have hl2 := tw_le (p := digit) (l.drop (k0 + 1))
          have hnil : decide ((l.drop (k0 + 1)).takeWhile digit ≠ []) = !(decide (((l.drop (k0 + 1)).takeWhile digit).length = 0)) := by
            cases (l.drop (k0 + 1)).takeWhile digit <;> simp
          unfold rfrac
          simp only
          rw [← hd2, hnil, List.drop_drop]
          rw [List.length_drop] at hl2
          generalize ((l.drop (k0 + 1)).takeWhile digit).length = k1 at hl2 ⊢
          by_cases h3 : k1 = 0
          · subst h3
            exact .inl rfl
          · rw [decide_eq_false h3, beq_f (show ¬ (k1 : Int) = 0 by omega), cond_false, iadd_eq (by omega) (by omega)]
            refine .inr ⟨_, rfl, k0 + 1 + k1, by omega, by simp, ?_⟩
            simp
        · rw [jb_of (p := ((false, (bs l, ((k0 : Int), (false, ())))), ())) (by
            rw [bs_len, ilt_iff]
            by_cases h1 : k0 < l.length
            · have h9 : l.getD k0 0 ≠ 46 := fun h => h46 ⟨h1, h⟩
              rw [decide_eq_true (by omega), cond_true, ok_of (inB_true (by omega) (by omega)), bs_bt hl, beq_f (by omega)]
            · rw [decide_eq_false (by omega)]; rfl)]
          refine .inr ⟨_, rfl, k0, hle, rfl, ?_⟩
          refine rfrac_ne fun s hs => h46 ?_
          by_cases h1 : k0 < l.length
          · refine ⟨h1, ?_⟩
            rw [drop_cons h1] at hs
            exact (List.cons.inj hs).1
          · rw [List.drop_eq_nil_of_le (by omega)] at hs; cases hs
      · rintro p ⟨a, ha, rfl, hfr⟩
        rw [hfr]
        clear hfr hle
        simp only
        refine jb_at (fun p => ∃ z : Nat, z ≤ l.length ∧ p = (((z : Int), (bs l, (false, ()))), ()) ∧ rexp (l.drop a) = decide (z = l.length)) ?_ ?_
        · by_cases h101 : a < l.length ∧ l.getD a 0 = 101
          · obtain ⟨h1, h2⟩ := h101
            have hdc := drop_cons h1
            rw [h2] at hdc
            rw [hdc]
            rw [jb_of (p := ((true, ((a : Int), (bs l, (false, ())))), ())) (by
              rw [bs_len, ilt_iff, decide_eq_true (by omega), cond_true, ok_of (inB_true (by omega) (by omega)), bs_bt hl, h2]; rfl)]
            simp only [cond_true]
            rw [iadd_eq (by omega) (by omega)]
            rw [show rexp (101 :: l.drop (a + 1)) = expo (l.drop (a + 1)) from rfl]
            rw [expo_eq]
            obtain ⟨m, hm⟩ : ∃ m, m = pre [45] (l.drop (a + 1)) := ⟨_, rfl⟩
            rw [← hm]
            have hm1 : m = decide (a + 1 < l.length ∧ l.getD (a + 1) 0 = 45) := by
              rw [hm]
              by_cases h3 : a + 1 < l.length
              · rw [drop_cons h3, pre_one]
                exact decide_eq_decide.2 ⟨fun h => ⟨h3, h⟩, fun h => h.2⟩
              · rw [List.drop_eq_nil_of_le (by omega), decide_eq_false (fun h => h3 h.1)]
                rfl
            rw [jb_of (p := ((m, (((a : Int) + 1), (bs l, (false, ())))), ())) (by
              rw [bs_len, ilt_iff, hm1]
              by_cases h3 : a + 1 < l.length
              · rw [decide_eq_true (by omega), cond_true, ok_of (inB_true (by omega) (by omega)), show (a : Int) + 1 = ((a + 1 : Nat) : Int) by omega, bs_bt hl]
                by_cases h4 : l.getD (a + 1) 0 = 45
                · rw [h4, decide_eq_true ⟨h3, rfl⟩]; rfl
                · rw [beq_f (by omega), decide_eq_false (fun h => h4 h.2)]
              · rw [decide_eq_false (by omega), decide_eq_false (fun h => h3 h.1)]; rfl)]
            have hma : m = true → a + 1 < l.length := fun h => by
              rw [h] at hm1
              exact (of_decide_eq_true hm1.symm).1
            obtain ⟨a4, ha4⟩ : ∃ a4, a4 = if m = true then a + 2 else a + 1 := ⟨_, rfl⟩
            have hQ : (if m = true then (l.drop (a + 1)).drop 1 else l.drop (a + 1)) = l.drop a4 := by
              rw [ha4]
              cases m
              · rfl
              · simp
            have hle4 : a4 ≤ l.length := by
              rw [ha4]
              cases m
              · simp; omega
              · have := hma rfl; simp; omega
            rw [hQ, jb_of (p := ((bs l, ((a4 : Int), (m, (false, ())))), ())) (by
              rw [ha4]
              cases m
              · simp
              · simp only [cond_true, if_true]
                rw [iadd_eq (by omega) (by omega)]
                simp; omega)]
            simp only
            rw [kr l a4 hl hle4 hb]
            simp only [Option.bind_some]
            rw [pw_ex]
            unfold pwOk
            have h3k := take3 (Q := l.drop a4)
            have hlk := tw_le (p := digit) (l.drop a4)
            rw [List.length_drop] at hlk
            generalize hk : ((l.drop a4).takeWhile digit).length = k at h3k hlk
            unfold pwK
            obtain ⟨b, hb'⟩ : ∃ b, b = (decide (k = 0) || (decide (3 < k) || ((decide ((l.drop a4).getD 0 0 = 48) && (decide (1 < k) || m)) || (decide (k = 3) && !(decide (value ((l.drop a4).take 3) ≤ 400)))))) := ⟨_, rfl⟩
            rw [← hb']
            rw [jb_of (p := ((b, ((a4 : Int), ((k : Int), (bs l, (false, ()))))), ())) (by
              rw [hb', ilt_iff, ilt_iff, decide_eq_decide.2 (show (3 : Int) < k ↔ 3 < k by omega), decide_eq_decide.2 (show (1 : Int) < k ↔ 1 < k by omega)]
              by_cases c0 : k = 0
              · subst c0; rfl
              · rw [decide_eq_false c0, beq_f (show ¬ (k : Int) = 0 by omega), cond_false, Bool.false_or]
                by_cases c3 : 3 < k
                · rw [decide_eq_true c3]; rfl
                · rw [decide_eq_false c3, cond_false, Bool.false_or, bs_len, ok_of (inB_true (by omega) (by omega)), bs_bt hl, getD_drop, Nat.add_zero]
                  have hsub : k = 3 → (slt (ByteArray.extract (bs l) (Int.toNat (a4 : Int)) (Int.toNat (iadd .i64 (a4 : Int) (k : Int)))) (bs [52, 48, 48]) || seq (ByteArray.extract (bs l) (Int.toNat (a4 : Int)) (Int.toNat (iadd .i64 (a4 : Int) (k : Int)))) (bs [52, 48, 48])) = decide (value ((l.drop a4).take 3) ≤ 400) := fun h => by
                    have e : (l.take (a4 + 3)).drop a4 = (l.drop a4).take 3 := by rw [List.drop_take, show a4 + 3 - a4 = 3 by omega]
                    rw [iadd_eq (by omega) (by omega), bs_sub, Int.toNat_natCast, show ((a4 : Int) + (k : Int)).toNat = a4 + 3 by omega, e]
                    exact h3k h
                  have hfin : (bif ((k : Int) == 3) then ok (sliceOk (a4 : Int) (iadd .i64 (a4 : Int) (k : Int)) (l.length : Int)) (some ((.inr (((!(slt (ByteArray.extract (bs l) (Int.toNat (a4 : Int)) (Int.toNat (iadd .i64 (a4 : Int) (k : Int)))) (bs [52, 48, 48]) || seq (ByteArray.extract (bs l) (Int.toNat (a4 : Int)) (Int.toNat (iadd .i64 (a4 : Int) (k : Int)))) (bs [52, 48, 48]))), ((a4 : Int), ((k : Int), (bs l, (false, ()))))), ())) : ((Bool × Unit) ⊕ ((Int × (ByteArray × (Bool × Unit))) × Unit)) ⊕ (((Bool × (Int × (Int × (ByteArray × (Bool × Unit)))))) × Unit))) else some (.inr ((false, ((a4 : Int), ((k : Int), (bs l, (false, ()))))), ()))) = some (.inr (((decide (k = 3) && !(decide (value ((l.drop a4).take 3) ≤ 400))), ((a4 : Int), ((k : Int), (bs l, (false, ()))))), ())) := by
                    by_cases c : k = 3
                    · rw [hsub c, decide_eq_true c, show ((k : Int) == 3) = true from by simp; omega, cond_true, iadd_eq (by omega) (by omega), ok_of (sliceOk_true (by omega) (by omega) (by omega))]
                      rfl
                    · rw [decide_eq_false c, beq_f (show ¬ (k : Int) = 3 by omega)]; rfl
                  by_cases c48 : l.getD a4 0 = 48
                  · rw [c48, decide_eq_true rfl]
                    by_cases c1 : 1 < k
                    · rw [decide_eq_true c1]; rfl
                    · rw [decide_eq_false c1]
                      cases m with
                      | true => rfl
                      | false =>
                        show (bif ((k : Int) == 3) then _ else _) = _
                        exact hfin
                  · rw [decide_eq_false c48, beq_f (by omega)]
                    show (bif ((k : Int) == 3) then _ else _) = _
                    exact hfin)]
            simp only
            cases b with
            | true => exact .inl rfl
            | false =>
              rw [cond_false, iadd_eq (by omega) (by omega)]
              refine .inr ⟨_, rfl, a4 + k, by omega, by simp, ?_⟩
              rw [List.length_drop]
              simp only [Bool.not_false, Bool.true_and]
              exact decide_eq_decide.2 (by omega)
          · rw [jb_of (p := ((false, ((a : Int), (bs l, (false, ())))), ())) (by
              rw [bs_len, ilt_iff]
              by_cases h1 : a < l.length
              · have h9 : l.getD a 0 ≠ 101 := fun h => h101 ⟨h1, h⟩
                rw [decide_eq_true (by omega), cond_true, ok_of (inB_true (by omega) (by omega)), bs_bt hl, beq_f (by omega)]
              · rw [decide_eq_false (by omega)]; rfl)]
            refine .inr ⟨_, rfl, a, ha, rfl, ?_⟩
            by_cases h1 : a < l.length
            · rw [drop_cons h1, rexp_ne (fun h => h101 ⟨h1, h⟩), decide_eq_false (by omega)]
            · rw [List.drop_eq_nil_of_le (by omega), decide_eq_true (by omega)]; rfl
        · rintro p ⟨z, hz, rfl, e⟩
          rw [e, bs_len]
          show some ((((z : Int) == (l.length : Int))), ()) = _
          by_cases hzl : z = l.length
          · rw [hzl]; simp
          · rw [decide_eq_false hzl, beq_f (by omega)]
end Go.Px.Seat

/- Words and signs of both sides. Seat D. -/
namespace Go.Px.Seat
open Go Pm Pt
set_option linter.unusedVariables false
def lod (c : Nat) : Bool := letter c || digit c
theorem k_wordOk : Ev fun n => ∀ l : List Nat, Bl l → l.length ≤ 100000 → c_i_wordOk ((C B0).run n) (bs l) = some (plain l, ()) := by
  refine (k_isLetter.and (k_isFigure.and k_in)).succ fun n hn ⟨kl, kf, ki⟩ l hl hb => ?_
  rw [run_succ, e_i_wordOk]
  unfold p_i_wordOk
  rw [bs_len]
  refine iter_const (fun p => ∃ k : Nat, p = (((k : Int), ((l.length : Int), (bs l, (false, ())))), ()) ∧ k ≤ l.length ∧ ∀ j, j < k → lod (l.getD j 0) = true) (fun p => 100000 - p.1.1.toNat) _ ?_ n _ (by simp only; omega) ⟨0, rfl, Nat.zero_le _, fun j hj => absurd hj (Nat.not_lt_zero _)⟩
  rintro rec p ⟨k, rfl, hk, hd⟩ ih
  simp only
  rw [ilt_iff]
  by_cases h1 : k < l.length
  · rw [decide_eq_true (show (k : Int) < l.length by omega), cond_true, bs_len, ok_of (inB_true (by omega) (by omega)), bs_bt hl, kl]
    rw [jb_of (p := ((!(lod (l.getD k 0)), ((k : Int), ((l.length : Int), (bs l, (false, ()))))), ())) (by
      show (bif !(letter (l.getD k 0)) then _ else _) = _
      unfold lod
      cases letter (l.getD k 0) with
      | true => rfl
      | false =>
        simp only [Bool.not_false, cond_true, Bool.false_or]
        rw [ok_of (inB_true (by omega) (by omega)), kf]
        rfl)]
    simp only
    cases hg : lod (l.getD k 0) with
    | true =>
      show rec (((iadd .i64 (k : Int) 1), ((l.length : Int), (bs l, (false, ())))), ()) = _
      rw [iadd_eq (by omega) (by omega)]
      refine ih _ ⟨k + 1, by simp, by omega, fun j hj => ?_⟩ (by simp only; omega)
      by_cases hjk : j = k
      · rw [hjk]; exact hg
      · exact hd j (by omega)
    | false =>
      have : plain l = false := by
        unfold plain
        rw [show (l.all fun c => letter c || digit c) = false from all_bad (p := lod) h1 hg]
        simp
      rw [this]; rfl
  · rw [decide_eq_false (show ¬ (k : Int) < l.length by omega), cond_false]
    have ha : (l.all fun c => letter c || digit c) = true := all_get (p := lod) (fun j hj => hd j (by omega))
    unfold plain
    rw [ha, bs_len, ki, decide_eq_decide.2 (show (1 : Int) ≤ l.length ↔ 1 ≤ l.length by omega), decide_eq_decide.2 (show (l.length : Int) ≤ 8 ↔ l.length ≤ 8 by omega)]
    simp only [Option.bind_some, Bool.and_true]
    by_cases h2 : 1 ≤ l.length
    · rw [decide_eq_true h2, Bool.true_and]
      by_cases h3 : l.length ≤ 8
      · have hb0 : bt (bs l) 0 = ((l.getD 0 0 : Nat) : Int) := bs_bt hl 0
        rw [decide_eq_true h3, cond_true, ok_of (inB_true (by omega) (by omega)), hb0, kl]
        rfl
      · rw [decide_eq_false h3]; rfl
    · rw [decide_eq_false h2]; rfl
theorem k_plain : Ev fun n => ∀ l : List Nat, Bl l → l.length ≤ 100000 → c_s_l11Plain ((C B0).run n) (bs l) = some (plain l, ()) := by
  refine (k_l11Letter.and k_l11Digit).succ fun n hn ⟨kl, kf⟩ l hl hb => ?_
  rw [run_succ, e_s_l11Plain]
  unfold p_s_l11Plain
  have hb0 : bt (bs l) 0 = ((l.getD 0 0 : Nat) : Int) := bs_bt hl 0
  rw [jb_of (p := ((!(decide (1 ≤ l.length) && (decide (l.length ≤ 8) && letter (l.getD 0 0))), (bs l, (false, ()))), ())) (by
    rw [bs_len, ilt_iff, ilt_iff]
    by_cases h1 : 1 ≤ l.length
    · rw [decide_eq_false (show ¬ (l.length : Int) < 1 by omega), decide_eq_true h1, cond_false]
      by_cases h2 : l.length ≤ 8
      · rw [decide_eq_false (show ¬ (8 : Int) < l.length by omega), decide_eq_true h2, cond_false, ok_of (inB_true (by omega) (by omega)), hb0, kl]
        rfl
      · rw [decide_eq_true (show (8 : Int) < l.length by omega), decide_eq_false h2]; rfl
    · rw [decide_eq_true (show (l.length : Int) < 1 by omega), decide_eq_false h1]; rfl)]
  simp only
  unfold plain
  cases hc : (decide (1 ≤ l.length) && (decide (l.length ≤ 8) && letter (l.getD 0 0))) with
  | false =>
    rw [← Bool.and_assoc (decide (l.length ≤ 8)), ← Bool.and_assoc, hc]
    rfl
  | true =>
    rw [← Bool.and_assoc (decide (l.length ≤ 8)), ← Bool.and_assoc, hc]
    simp only [Bool.not_true, cond_false, Bool.true_and]
    have h1 : 1 ≤ l.length := by
      simp only [Bool.and_eq_true, decide_eq_true_eq] at hc
      exact hc.1
    have hl0 : lod (l.getD 0 0) = true := by
      simp only [Bool.and_eq_true] at hc
      unfold lod
      rw [hc.2.2]; rfl
    refine iter_const (fun p => ∃ k : Nat, p = (((k : Int), (bs l, (false, ()))), ()) ∧ k ≤ l.length ∧ ∀ j, j < k → lod (l.getD j 0) = true) (fun p => 100000 - p.1.1.toNat) _ ?_ n _ (by simp only; omega) ⟨1, rfl, h1, fun j hj => by rw [show j = 0 by omega]; exact hl0⟩
    rintro rec p ⟨k, rfl, hk, hd⟩ ih
    simp only
    rw [bs_len, ilt_iff]
    by_cases h2 : k < l.length
    · rw [decide_eq_true (show (k : Int) < l.length by omega), cond_true, ok_of (inB_true (by omega) (by omega)), bs_bt hl, kl]
      rw [jb_of (p := ((!(lod (l.getD k 0)), ((k : Int), (bs l, (false, ())))), ())) (by
        show (bif !(letter (l.getD k 0)) then _ else _) = _
        unfold lod
        cases letter (l.getD k 0) with
        | true => rfl
        | false =>
          simp only [Bool.not_false, cond_true, Bool.false_or]
          rw [ok_of (inB_true (by omega) (by omega)), kf]
          rfl)]
      simp only
      cases hg : lod (l.getD k 0) with
      | true =>
        show rec (((iadd .i64 (k : Int) 1), (bs l, (false, ()))), ()) = _
        rw [iadd_eq (by omega) (by omega)]
        refine ih _ ⟨k + 1, by simp, by omega, fun j hj => ?_⟩ (by simp only; omega)
        by_cases hjk : j = k
        · rw [hjk]; exact hg
        · exact hd j (by omega)
      | false =>
        rw [show (l.all fun c => letter c || digit c) = false from all_bad (p := lod) h2 hg]
        rfl
    · rw [decide_eq_false (show ¬ (k : Int) < l.length by omega)]
      rw [show (l.all fun c => letter c || digit c) = true from all_get (p := lod) (fun j hj => hd j (by omega))]
      rfl
end Go.Px.Seat
