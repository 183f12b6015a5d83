/- Own texts, part M1: PmA PmB PtA PtB PtK PtP PtC PtF PtO. -/
import Derived.Test.YtmmggkldldbomaaGreatDoorA5
import Derived.Laws.BitsLemmas
import Derived.Test.YtmmggkldldbomaaGreatDoorS3
import Derived.Lib.AtoiAll
import Derived.Lib.SlicesCompact
import Derived.Test.YtmmggkldldbomaaGreatDoorR3
set_option linter.unusedVariables false

/- Digits: whole numbers as lists of digits to the base 65536. No program here. -/
namespace Pm

/-- the digits of a number, the least first -/
def dig (n : Nat) : List Int := if n = 0 then [] else ((n % 65536 : Nat) : Int) :: dig (n / 65536)
termination_by n
def val : List Int → Int
  | [] => 0
  | d :: r => d + 65536 * val r
def Dg (l : List Int) : Prop := ∀ d ∈ l, 0 ≤ d ∧ d < 65536
/-- digits told from a place on -/
def at_ (l : List Int) (i : Nat) : Int := l.getD i 0

@[simp] theorem dig_zero : dig 0 = [] := by rw [dig]; rfl
theorem Dg.tail {d : Int} {l : List Int} (h : Dg (d :: l)) : Dg l := fun x hx => h x (List.mem_cons_of_mem _ hx)
/-- needless noughts off -/
def strip : List Int → List Int
  | [] => []
  | d :: r => match strip r with
    | [] => if d = 0 then [] else [d]
    | e :: s => d :: e :: s
theorem at_set (l : List Int) (i j : Nat) (v : Int) (h : i < l.length) : at_ (l.set i v) j = if i = j then v else at_ l j := by
  simp only [at_, List.getD_eq_getElem?_getD, List.getElem?_set]
  split
  · simp
  · rfl
end Pm
namespace Pm
/-- how many bits a number has -/
def bl (x : Nat) : Nat := if x = 0 then 0 else bl (x / 2) + 1
termination_by x
@[simp] theorem bl_zero : bl 0 = 0 := by rw [bl]; rfl
/-- is it a number of at most 256 digits? -/
def nok (l : List Int) : Bool := decide (l.length ≤ 256) && (l.all (fun d => decide (0 ≤ d) && decide (d < 65536)) && (l.isEmpty || at_ l (l.length - 1) != 0))
/-- how many rounds Euclid takes at most -/
def gm (a b : Nat) : Nat := bl a + bl b + (if a < b then 1 else 0)
end Pm

/- Rules for the words in which functions are told. -/
namespace Go.Px
open Go Pm

/-- A loop that comes to the same whatever its state. -/
theorem iter_const {P R : Type} {F : (P → Option R) → P → Option R} (I : P → Prop) (m : P → Nat) (r : Option R)
    (step : ∀ rec p, I p → (∀ q, I q → m q < m p → rec q = r) → F rec p = r) : ∀ n p, m p < n → I p → iter F n p = r
  | 0, _, h, _ => absurd h (Nat.not_lt_zero _)
  | n + 1, p, h, hI => step (iter F n) p hI fun q hq hm => iter_const I m r step n q (by omega) hq
/-- A loop of whose end something holds. -/
theorem iter_ex {P R : Type} {F : (P → Option R) → P → Option R} (I : P → Prop) (m : P → Nat) (Q : R → Prop)
    (step : ∀ rec p, I p → (∀ q, I q → m q < m p → ∃ r, rec q = some r ∧ Q r) → ∃ r, F rec p = some r ∧ Q r) : ∀ n p, m p < n → I p → ∃ r, iter F n p = some r ∧ Q r
  | 0, _, h, _ => absurd h (Nat.not_lt_zero _)
  | n + 1, p, h, hI => step (iter F n) p hI fun q hq hm => iter_ex I m Q step n q (by omega) hq
/-- What holds from some depth on. -/
def Ev (p : Nat → Prop) : Prop := ∃ N, ∀ n, N ≤ n → p n
theorem Ev.and {p q : Nat → Prop} (h : Ev p) (h' : Ev q) : Ev fun n => p n ∧ q n :=
  let ⟨a, h⟩ := h; let ⟨b, h'⟩ := h'; ⟨max a b, fun n hn => ⟨h n (by omega), h' n (by omega)⟩⟩
theorem Ev.mono {p q : Nat → Prop} (h : Ev p) (hq : ∀ n, p n → q n) : Ev q := let ⟨a, h⟩ := h; ⟨a, fun n hn => hq n (h n hn)⟩
theorem Ev.succ {p q : Nat → Prop} (h : Ev p) (hq : ∀ n, 1152921504606846976 ≤ n → p n → q (n + 1)) : Ev q := by
  obtain ⟨a, h⟩ := h
  refine ⟨max a 1152921504606846976 + 1, fun n hn => ?_⟩
  obtain ⟨k, rfl⟩ : ∃ k, n = k + 1 := ⟨n - 1, by omega⟩
  exact hq k (by omega) (h k (by omega))
theorem Ev.triv : Ev fun _ => True := ⟨0, fun _ _ => trivial⟩

section
variable {P R α : Type}
@[simp] theorem ok_true (x : Option R) : ok true x = x := rfl
theorem ok_of {c : Bool} (h : c = true) (x : Option R) : ok c x = x := by rw [h]; rfl
@[simp] theorem jb_inr (p : P) (f : P → Option R) : jb (some (.inr p)) f = f p := rfl
@[simp] theorem jb_inl (r : R) (f : P → Option R) : jb (some (.inl r)) f = some r := rfl
theorem beq_f {x y : Int} (h : ¬ x = y) : (x == y) = false := by simpa using h
theorem jb_of {x : Option (R ⊕ P)} {p : P} (h : x = some (.inr p)) (f : P → Option R) : jb x f = f p := by rw [h]; rfl
@[simp] theorem jb_cond (c : Bool) (x y : Option (R ⊕ P)) (f : P → Option R) : jb (cond c x y) f = cond c (jb x f) (jb y f) := by cases c <;> rfl
@[simp] theorem jb_ok (c : Bool) (x : Option (R ⊕ P)) (f : P → Option R) : jb (ok c x) f = ok c (jb x f) := by cases c <;> rfl
@[simp] theorem il_some (r : R) : il (P := P) (some r) = some (.inl r) := rfl
@[simp] theorem ilt_iff (x y : Int) : ilt x y = decide (x < y) := rfl
@[simp] theorem ile_iff (x y : Int) : ile x y = decide (x ≤ y) := rfl
theorem len_eq (l : List α) : len l = (l.length : Int) := rfl
theorem slen_eq (l : ByteArray) : slen l = (l.size : Int) := rfl
theorem inB_true {i n : Int} (h : 0 ≤ i) (h' : i < n) : inB i n = true := by simp [inB, h, h']
theorem sliceOk_true {a b n : Int} (h : 0 ≤ a) (h' : a ≤ b) (h'' : b ≤ n) : sliceOk a b n = true := by simp [sliceOk, h, h', h'']
theorem mkOk_true {n m : Int} {k : Nat} (h : 0 ≤ n) (h' : n ≤ m) (h'' : m * k ≤ 140737488355328) : mkOk n m k = true := by simp [mkOk, h, h', h'']
theorem aok_true {l : List α} {k : Nat} (h : l.length * k ≤ 140737488355328) : aok l k = true := by
  have : ((l.length : Nat) : Int) * (k : Int) ≤ 140737488355328 := by
    rw [← Int.natCast_mul]
    omega
  unfold aok
  exact decide_eq_true this
theorem wrap64 {x : Int} (h : -9223372036854775808 ≤ x) (h' : x < 9223372036854775808) : IntKind.i64.wrap x = x := by
  rw [IntKind.wrap_i64]; omega
theorem iadd_eq {x y : Int} (h : -9223372036854775808 ≤ x + y) (h' : x + y < 9223372036854775808) : iadd .i64 x y = x + y := wrap64 h h'
theorem isub_eq {x y : Int} (h : -9223372036854775808 ≤ x - y) (h' : x - y < 9223372036854775808) : isub .i64 x y = x - y := wrap64 h h'
theorem iquo_eq {x y : Int} (h : 0 ≤ x) (h0 : x < 9223372036854775808) (h' : 0 < y) : iquo .i64 x y = x / y := by
  rw [iquo, Int.tdiv_eq_ediv_of_nonneg h, wrap64]
  · have := Int.ediv_nonneg h (Int.le_of_lt h'); omega
  · exact Int.lt_of_le_of_lt (Int.ediv_le_self _ h) h0
theorem irem_eq {k : IntKind} {x y : Int} (h : 0 ≤ x) : irem k x y = x % y := by rw [irem, Int.tmod_eq_emod_of_nonneg h]
end
end Go.Px

/- Texts as lists of bytes. -/
namespace Go.Px
open Go Pm

def chs (s : ByteArray) : List Nat := s.data.toList.map UInt8.toNat
theorem chs_len (s : ByteArray) : (chs s).length = s.size := by
  simp only [chs, List.length_map, Array.length_toList]
  rfl
theorem chs_lt {s : ByteArray} {x : Nat} (h : x ∈ chs s) : x < 256 := by
  obtain ⟨c, _, rfl⟩ := List.mem_map.1 h
  exact c.toNat_lt
theorem bt_chs (s : ByteArray) (i : Nat) : bt s (i : Int) = (((chs s).getD i 0 : Nat) : Int) := by
  unfold bt
  simp only [Int.toNat_natCast]
  by_cases h : i < s.size
  · rw [dif_pos h]
    have h' : i < s.data.toList.length := by simpa using h
    simp only [chs, List.getD_eq_getElem?_getD, List.getElem?_map, List.getElem?_eq_getElem h', Option.map_some, Option.getD_some, Array.getElem_toList]
    rfl
  · rw [dif_neg h]
    have h' : ¬ i < (chs s).length := by rw [chs_len]; exact h
    rw [List.getD_eq_getElem?_getD, List.getElem?_eq_none (by omega)]
    rfl
theorem chs_inj {a b : ByteArray} (h : chs a = chs b) : a = b := by
  have : a.data.toList = b.data.toList := List.map_inj_right (fun x y h => UInt8.toNat_inj.1 h) |>.1 h
  cases a; cases b
  simp only at this
  rw [Array.toList_inj.1 this]
theorem chs_bs {l : List Nat} (h : ∀ x ∈ l, x < 256) : chs (bs l) = l := by
  simp only [chs, bs, List.map_map]
  refine (List.map_congr_left fun x hx => ?_).trans (List.map_id l)
  show (UInt8.ofNat x).toNat = x
  rw [UInt8.toNat_ofNat']
  exact Nat.mod_eq_of_lt (h x hx)
theorem seq_chs (a b : ByteArray) : seq a b = decide (chs a = chs b) := by
  unfold seq
  by_cases h : a = b
  · subst h; simp
  · have h1 : ¬ chs a = chs b := fun h' => h (chs_inj h')
    rw [decide_eq_false h1]
    have : ¬ a.toList = b.toList := fun h' => h1 (by
      rw [ByteArray.toList_eq, ByteArray.toList_eq] at h'
      unfold chs
      rw [h'])
    simpa using this
/-! texts as `bs l` -/
def Bl (l : List Nat) : Prop := ∀ x ∈ l, x < 256
theorem bl_chs (s : ByteArray) : Bl (chs s) := fun _ h => chs_lt h
theorem bs_chs (s : ByteArray) : bs (chs s) = s := chs_inj (chs_bs (bl_chs s))
theorem bs_app (a b : List Nat) : bs a ++ bs b = bs (a ++ b) := by
  have h : (bs a ++ bs b).data = (bs (a ++ b)).data := by
    rw [ByteArray.data_append]
    simp [bs]
  exact ByteArray.ext h
theorem bs_sub (l : List Nat) (a b : Nat) : ByteArray.extract (bs l) a b = bs ((l.take b).drop a) := by
  have h : (ByteArray.extract (bs l) a b).data = (bs ((l.take b).drop a)).data := by
    rw [ByteArray.data_extract]
    simp [bs, List.map_drop, List.map_take, List.extract, List.drop_take]
  exact ByteArray.ext h
theorem bs_size (l : List Nat) : (bs l).size = l.length := by
  show (bs l).data.size = _
  simp [bs]
theorem bs_len (l : List Nat) : slen (bs l) = (l.length : Int) := by
  rw [slen_eq, bs_size]
theorem bs_bt {l : List Nat} (h : Bl l) (i : Nat) : bt (bs l) (i : Int) = ((l.getD i 0 : Nat) : Int) := by rw [bt_chs, chs_bs h]
theorem bs_seq {a b : List Nat} (ha : Bl a) (hb : Bl b) : seq (bs a) (bs b) = decide (a = b) := by rw [seq_chs, chs_bs ha, chs_bs hb]
theorem bs_sok (a b : List Nat) : sok (bs a) (bs b) = decide (a.length + b.length ≤ 140737488355328) := by
  rw [sok_eq, bs_size, bs_size]
  exact decide_eq_decide.2 (by omega)
theorem bl_app {a b : List Nat} : Bl (a ++ b) ↔ Bl a ∧ Bl b := ⟨fun h => ⟨fun x hx => h x (List.mem_append_left _ hx), fun x hx => h x (List.mem_append_right _ hx)⟩, fun h x hx => (List.mem_append.1 hx).elim (h.1 x) (h.2 x)⟩
theorem bl_take {l : List Nat} (h : Bl l) (n : Nat) : Bl (l.take n) := fun x hx => h x (List.mem_of_mem_take hx)
theorem bl_drop {l : List Nat} (h : Bl l) (n : Nat) : Bl (l.drop n) := fun x hx => h x (List.mem_of_mem_drop hx)
end Go.Px

/- Words, numbers, signs: plain functions on bytes. No program here. -/
namespace Pt
def letter (c : Nat) : Bool := decide (97 ≤ c) && decide (c ≤ 122)
def digit (c : Nat) : Bool := decide (48 ≤ c) && decide (c ≤ 57)
theorem digit_iff {c : Nat} : digit c = true ↔ 48 ≤ c ∧ c ≤ 57 := by simp [digit]
def wc (d : Bool) (prev c : Nat) : Bool := letter c || (digit c || (c == 46 || (c == 45 && (d && prev == 101))))
/-- how long a word is; prev: what stands ahead -/
def wlen (d : Bool) : Nat → List Nat → Nat
  | _, [] => 0
  | p, c :: r => if wc d p c then 1 + wlen d c r else 0
def signs : List Nat := [43, 45, 42, 47, 94, 40, 41, 44, 61]
def sgn : List Nat → List Nat
  | 60 :: 61 :: _ => [60, 61]
  | 62 :: 61 :: _ => [62, 61]
  | c :: _ => if c ∈ signs then [c] else []
  | [] => []
def plain (l : List Nat) : Bool := decide (1 ≤ l.length) && (decide (l.length ≤ 8) && (letter (l.getD 0 0) && l.all fun c => letter c || digit c))
/-- a whole number's digits -/
def whole (l : List Nat) : Bool := decide (l ≠ []) && (l.all digit && (decide (l = [48]) || decide (l.getD 0 0 ≠ 48)))
def value : List Nat → Nat := fun l => l.foldl (fun n c => n * 10 + (c - 48)) 0
/-- what stands behind the first c, if one does -/
def cutAt (c : Nat) (l : List Nat) : List Nat × List Nat × Bool := (l.takeWhile (· != c), (l.dropWhile (· != c)).drop 1, l.any (· == c))
def exOk (minus : Bool) (q : List Nat) : Bool := whole q && (decide (q.length ≤ 3) && (decide (value q ≤ 400) && !(minus && decide (value q = 0))))
def expo (p : List Nat) : Bool := match p with
  | 45 :: q => exOk true q
  | q => exOk false q
/-- the program's literals -/
def num (l : List Nat) : Bool :=
  let b := cutAt 101 l
  let a := cutAt 46 b.1
  whole a.1 && ((!a.2.2 || (decide (a.2.1 ≠ []) && a.2.1.all digit)) && (!b.2.2 || expo b.2.1))
/-- the reference's -/
def rexp (r : List Nat) : Bool := match r with
  | [] => true
  | 101 :: p => expo p
  | _ => false
def rfrac (r : List Nat) : Bool := match r with
  | 46 :: p => decide (p.takeWhile digit ≠ []) && rexp (p.dropWhile digit)
  | r => rexp r
def rnum (l : List Nat) : Bool := whole (l.takeWhile digit) && rfrac (l.dropWhile digit)
theorem takeWhile_app {p : Nat → Bool} : ∀ {a r : List Nat}, (∀ c ∈ a, p c = true) → (a ++ r).takeWhile p = a ++ r.takeWhile p
  | [], _, _ => rfl
  | c :: a, r, h => by
    rw [List.cons_append, List.takeWhile_cons, h c (List.mem_cons_self ..), takeWhile_app fun x hx => h x (List.mem_cons_of_mem _ hx)]
    rfl
theorem dropWhile_app {p : Nat → Bool} : ∀ {a r : List Nat}, (∀ c ∈ a, p c = true) → (a ++ r).dropWhile p = r.dropWhile p
  | [], _, _ => rfl
  | c :: a, r, h => by
    rw [List.cons_append, List.dropWhile_cons, h c (List.mem_cons_self ..)]
    simp only [if_true]
    exact dropWhile_app fun x hx => h x (List.mem_cons_of_mem _ hx)
theorem takeWhile_all {p : Nat → Bool} : ∀ {l : List Nat}, ∀ c ∈ l.takeWhile p, p c = true
  | [], c, h => by cases h
  | x :: l, c, h => by
    rw [List.takeWhile_cons] at h
    split at h
    · rcases List.mem_cons.1 h with rfl | h
      · assumption
      · exact takeWhile_all c h
    · cases h
theorem dropWhile_head {p : Nat → Bool} : ∀ {l : List Nat} {c : Nat} {r : List Nat}, l.dropWhile p = c :: r → p c = false
  | x :: l, c, r, h => by
    rw [List.dropWhile_cons] at h
    split at h
    · exact dropWhile_head h
    · rename_i hx
      cases h
      simpa using hx
theorem cut_app {c : Nat} {a r : List Nat} (h : ∀ x ∈ a, (x != c) = true) : cutAt c (a ++ r) = (a ++ (cutAt c r).1, (cutAt c r).2) := by
  unfold cutAt
  rw [takeWhile_app h, dropWhile_app h, List.any_append]
  have : a.any (· == c) = false := List.any_eq_false.2 fun x hx => by simpa using h x hx
  rw [this]; rfl
theorem cut_here {c : Nat} {r : List Nat} : cutAt c (c :: r) = ([], r, true) := by
  simp [cutAt]
theorem cut_nil {c : Nat} : cutAt c [] = ([], [], false) := rfl
theorem cut_skip {c x : Nat} {r : List Nat} (h : x ≠ c) : cutAt c (x :: r) = (x :: (cutAt c r).1, (cutAt c r).2) := cut_app (a := [x]) (fun y hy => by simp at hy; subst hy; simpa using h)
theorem whole_bad {a : List Nat} {x : Nat} {r : List Nat} (h : digit x = false) : whole (a ++ x :: r) = false := by
  unfold whole
  have : (a ++ x :: r).all digit = false := by simp [h]
  rw [this]; simp
theorem num_rnum (l : List Nat) : num l = rnum l := by
  have hd : l = l.takeWhile digit ++ l.dropWhile digit := (List.takeWhile_append_dropWhile).symm
  have ha : ∀ c ∈ l.takeWhile digit, digit c = true := takeWhile_all
  unfold rnum
  generalize hA : l.takeWhile digit = a at hd ha ⊢
  generalize hR : l.dropWhile digit = r at hd ⊢
  have hr : ∀ c s, r = c :: s → digit c = false := fun c s h => dropWhile_head (hR.trans h)
  subst hd
  have h1 : ∀ x ∈ a, (x != 101) = true := fun x hx => by have := digit_iff.1 (ha x hx); simp; omega
  have h2 : ∀ x ∈ a, (x != 46) = true := fun x hx => by have := digit_iff.1 (ha x hx); simp; omega
  unfold num
  simp only [cut_app h1, cut_app h2]
  match r, hr with
  | [], _ => simp [cut_nil, rfrac, rexp]
  | c :: s, hr =>
    have hc := hr c s rfl
    by_cases h46 : c = 46
    · subst h46
      rw [cut_skip (by decide : (46 : Nat) ≠ 101)]
      simp only [cut_here, rfrac, List.append_nil, Bool.not_true, Bool.false_or]
      congr 1
      have hd : s = s.takeWhile digit ++ s.dropWhile digit := (List.takeWhile_append_dropWhile).symm
      have hb : ∀ c ∈ s.takeWhile digit, digit c = true := takeWhile_all
      generalize hB : s.takeWhile digit = b at hd hb ⊢
      generalize hT : s.dropWhile digit = t at hd ⊢
      have ht : ∀ c u, t = c :: u → digit c = false := fun c u h => dropWhile_head (hT.trans h)
      subst hd
      have h3 : ∀ x ∈ b, (x != 101) = true := fun x hx => by have := digit_iff.1 (hb x hx); simp; omega
      rw [cut_app h3]
      have hball : b.all digit = true := List.all_eq_true.2 hb
      match t, ht with
      | [], _ => simp [cut_nil, rexp, hball]
      | e :: u, ht =>
        have he := ht e u rfl
        by_cases h101 : e = 101
        · subst h101
          simp [cut_here, rexp, hball]
        · rw [cut_skip h101]
          have : rexp (e :: u) = false := by
            unfold rexp
            split
            · rename_i h; cases h
            · rename_i h; cases h; exact absurd rfl h101
            · rfl
          rw [this]
          simp [he]
    · by_cases h101 : c = 101
      · subst h101
        simp [cut_here, cut_nil, rfrac, rexp]
      · have hf : rfrac (c :: s) = false := by
          unfold rfrac
          split
          · rename_i h; cases h; exact absurd rfl h46
          · unfold rexp
            split
            · rename_i h; cases h
            · rename_i h; cases h; exact absurd rfl h101
            · rfl
        rw [hf, cut_skip h101]
        simp only [cut_skip h46, whole_bad hc, Bool.false_and, Bool.and_false]
end Pt

/- Tokens of a line: plain. -/
namespace Pt
/-- a token: its kind (1 name, 2 number, 3 sign) and its text -/
abbrev Tok := Nat × List Nat
def one (l : List Nat) : Option Tok :=
  let c := l.getD 0 0
  if letter c || digit c then
    let t := l.take (wlen (digit c) 0 l)
    if digit c then some (2, t) else if plain t then some (1, t) else none
  else if sgn l = [] then none else some (3, sgn l)
def toks : Nat → List Nat → Option (List Tok)
  | 0, _ => some []
  | _ + 1, [] => some []
  | f + 1, c :: r => if c = 35 then some [] else if c = 32 then toks f r else match one (c :: r) with
    | none => none
    | some t => (toks f ((c :: r).drop t.2.length)).map (t :: ·)
end Pt

/- Nodes of terms, laid down each behind its parts: plain. -/
namespace Pt
/-- a node: kind, number, text -/
abbrev Nd := Int × Int × List Nat
def words : List (List Nat) := [[100, 101, 102], [118, 97, 114], [115, 113, 114, 116], [97, 98, 115], [109, 105, 110], [109, 97, 120]]
def nameOk (l : List Nat) : Bool := plain l && !decide (l ∈ words)
def numOk (l : List Nat) : Bool := num l && decide (l.length ≤ 60)
def nargs : Nd → Int
  | (k, n, t) =>
    if k = 1 then (if n = 0 ∧ numOk t = true then 0 else -1)
    else if k = 2 then (if n = 0 ∧ nameOk t = true then 0 else -1)
    else if k = 3 ∨ k = 9 ∨ k = 10 then (if n = 0 ∧ t = [] then 1 else -1)
    else if k = 4 ∨ k = 5 ∨ k = 6 ∨ k = 7 ∨ k = 11 ∨ k = 12 then (if n = 0 ∧ t = [] then 2 else -1)
    else if k = 8 then (if 0 ≤ n ∧ n ≤ 8 ∧ t = [] then 1 else -1)
    else if k = 13 then (if 1 ≤ n ∧ n ≤ 6 ∧ nameOk t = true then n else -1)
    else -1
def level (k : Int) : Int := if k = 4 ∨ k = 5 then 1 else if k = 6 ∨ k = 7 then 2 else if k = 3 then 3 else if k = 8 then 4 else 5
theorem nargs_range (x : Nd) : -1 ≤ nargs x ∧ nargs x ≤ 6 := by
  obtain ⟨k, n, t⟩ := x
  unfold nargs
  simp only
  repeat' split
  all_goals omega
/-- The nodes of one term, its parts' ahead of its own. -/
inductive Trm : List Nd → Prop
  | mk (ps : List (List Nd)) (x : Nd) : (∀ p ∈ ps, Trm p) → nargs x = (ps.length : Int) → Trm (ps.flatten ++ [x])
theorem Trm.pos {l : List Nd} (h : Trm l) : 1 ≤ l.length := by
  cases h with
  | mk ps x _ _ => simp
/-- ends of parts that stand side by side from a place on -/
def ends : Nat → List (List Nd) → List Nat
  | _, [] => []
  | a, p :: ps => (a + p.length - 1) :: ends (a + p.length) ps
/-- what a scan finds: is it a term, or how deep does it stand -/
def scan : Int → List Nd → Option Int
  | d, [] => some d
  | d, x :: r => if nargs x < 0 ∨ d < nargs x then none else scan (d - nargs x + 1) r
def termOk (l : List Nd) : Bool := decide (l.length ≤ 100) && decide (scan 0 l = some 1)
end Pt

/- The base of the calls: stringslite.Index of one byte, strconv.Atoi, LangNameOk, slices.Clone, Grow, Sort, Compact. Seat G. -/
namespace Go.Px.Seat
open Go Pm Pt
set_option linter.unusedVariables false
/-- where a byte stands first; -1, if nowhere -/
def idx (l : List Nat) (c : Nat) : Int := if c ∈ l then ((l.takeWhile (· != c)).length : Int) else -1
def indexRun : Pay sg_internal_stringslite_Index.inl → Option (Pay sg_internal_stringslite_Index.outl) := fun q =>
  let s : ByteArray := q.1
  let t : ByteArray := q.2.1
  match chs t with
  | [c] => some (idx (chs s) c, ())
  | _ => none
def atoiRun : Pay sg_strconv_Atoi.inl → Option (Pay sg_strconv_Atoi.outl) := fun q =>
  let s : ByteArray := q.1
  if 4000000 < s.size then none else match Lib.atoiAll s.data.toList with
    | .ok v => some ((v : Int), ((false : Bool), ()))
    | .range => some (Lib.atoiSat s.data.toList, ((true : Bool), ()))
    | _ => some ((0 : Int), ((true : Bool), ()))
/-- impl.LangNameOk: it reads the variable of the language's own words -/
noncomputable def nameRun : Pay sg_i_LangNameOk.inl → Option (Pay sg_i_LangNameOk.outl) := fun q =>
  let s : ByteArray := q.1
  if 4000000 < s.size then none else some (nameOk (chs s), ())
/-- slices.Clone -/
noncomputable def cloneSRun : sg_slices_Clone_string_string.In → Option sg_slices_Clone_string_string.Out := fun q => if List.length (α := ByteArray) q.1 ≤ 4000000 then some q else none
noncomputable def cloneTRun : sg_slices_Clone_impl_TermNode_impl_TermNode.In → Option sg_slices_Clone_impl_TermNode_impl_TermNode.Out := fun q => if List.length (α := Tn) q.1 ≤ 4000000 then some q else none
noncomputable def cloneDRun : sg_slices_Clone_impl_ProgDef_impl_ProgDef_deep.In → Option sg_slices_Clone_impl_ProgDef_impl_ProgDef_deep.Out := cloneD MS777 fun q => q.1
noncomputable def cloneRRun : sg_slices_Clone_impl_ProgRel_impl_ProgRel_deep.In → Option sg_slices_Clone_impl_ProgRel_impl_ProgRel_deep.Out := cloneD MS777 fun q => q.2.1
/-- slices.Grow, of a slice without elements -/
noncomputable def growV {α : Type} (l : List α) (k : Int) : Option (List α × Unit) := if l = [] ∧ 0 ≤ k ∧ k ≤ 4000000 then some (l, ()) else none
noncomputable def growSRun : sg_slices_Grow_string_string.In → Option sg_slices_Grow_string_string.Out := fun q => growV (α := ByteArray) q.1 q.2.1
noncomputable def growTRun : sg_slices_Grow_impl_TermNode_impl_TermNode.In → Option sg_slices_Grow_impl_TermNode_impl_TermNode.Out := fun q => growV (α := Tn) q.1 q.2.1
/-- slices.Sort, slices.Compact, of a whole row of an arena -/
def bytesOf (l : List ByteArray) : List (List UInt8) := l.map fun s => s.data.toList
def textsOf (l : List (List UInt8)) : List ByteArray := l.map fun s => ⟨s.toArray⟩
def sortB (l : List ByteArray) : List ByteArray := textsOf ((bytesOf l).mergeSort fun x y => decide (x ≤ y))
def compB (l : List ByteArray) : List ByteArray := textsOf (Lib.compact (bytesOf l))
noncomputable def sortV (S : Mem ByteArray) (x : Hd) : Option (Mem ByteArray × Unit) :=
  if mlive S x.1 = true ∧ x.2.1 = 0 ∧ x.2.2 = (mrow S x.1).length ∧ (mrow S x.1).length ≤ 4000000 then some (mwr S (some (sortB (mrow S x.1))) x.1, ()) else none
noncomputable def compV (S : Mem ByteArray) (x : Hd) : Option (Mem ByteArray × (List ByteArray × Unit)) :=
  if mlive S x.1 = true ∧ x.2.1 = 0 ∧ x.2.2 = (mrow S x.1).length ∧ (mrow S x.1).length ≤ 4000000 then some (mwr S none x.1, (compB (mrow S x.1), ())) else none
noncomputable def sortRun : sg_slices_Sort_string_string_k779.In → Option sg_slices_Sort_string_string_k779.Out := fun q => sortV q.1 q.2.1
noncomputable def compRun : sg_slices_Compact_string_string_k779.In → Option sg_slices_Compact_string_string_k779.Out := fun q => compV q.1 q.2.1
open Classical in
noncomputable def B0 : Run := fun f _ s =>
  if f = 207 then (if h : s = sg_internal_stringslite_Index then h ▸ indexRun else fun _ => none)
  else if f = 195 then (if h : s = sg_strconv_Atoi then h ▸ atoiRun else fun _ => none)
  else if f = 36 then (if h : s = sg_i_LangNameOk then h ▸ nameRun else fun _ => none)
  else if f = 131 then (if h : s = sg_slices_Clone_string_string then h ▸ cloneSRun else fun _ => none)
  else if f = 135 then (if h : s = sg_slices_Clone_impl_TermNode_impl_TermNode then h ▸ cloneTRun else fun _ => none)
  else if f = 130 then (if h : s = sg_slices_Clone_impl_ProgDef_impl_ProgDef_deep then h ▸ cloneDRun else fun _ => none)
  else if f = 133 then (if h : s = sg_slices_Clone_impl_ProgRel_impl_ProgRel_deep then h ▸ cloneRRun else fun _ => none)
  else if f = 107 then (if h : s = sg_slices_Grow_string_string then h ▸ growSRun else fun _ => none)
  else if f = 144 then (if h : s = sg_slices_Grow_impl_TermNode_impl_TermNode then h ▸ growTRun else fun _ => none)
  else if f = 161 then (if h : s = sg_slices_Sort_string_string_k779 then h ▸ sortRun else fun _ => none)
  else if f = 162 then (if h : s = sg_slices_Compact_string_string_k779 then h ▸ compRun else fun _ => none) else fun _ => none
theorem B0_index (key : List Nat) : B0 207 key sg_internal_stringslite_Index = indexRun := by
  unfold B0
  rw [if_pos rfl, dif_pos rfl]
theorem B0_index_no {key : List Nat} {s : Sig} (h : s ≠ sg_internal_stringslite_Index) : B0 207 key s = fun _ => none := by
  unfold B0
  rw [if_pos rfl, dif_neg h]
theorem B0_atoi (key : List Nat) : B0 195 key sg_strconv_Atoi = atoiRun := by
  unfold B0
  rw [if_neg (by decide), if_pos rfl, dif_pos rfl]
theorem B0_atoi_no {key : List Nat} {s : Sig} (h : s ≠ sg_strconv_Atoi) : B0 195 key s = fun _ => none := by
  unfold B0
  rw [if_neg (by decide), if_pos rfl, dif_neg h]
theorem B0_name (key : List Nat) : B0 36 key sg_i_LangNameOk = nameRun := by
  unfold B0
  rw [if_neg (by decide), if_neg (by decide), if_pos rfl, dif_pos rfl]
theorem B0_name_no {key : List Nat} {s : Sig} (h : s ≠ sg_i_LangNameOk) : B0 36 key s = fun _ => none := by
  unfold B0
  rw [if_neg (by decide), if_neg (by decide), if_pos rfl, dif_neg h]
theorem B0_cloneS (key : List Nat) : B0 131 key sg_slices_Clone_string_string = cloneSRun := by
  unfold B0
  rw [if_neg (by decide), if_neg (by decide), if_neg (by decide), if_pos rfl, dif_pos rfl]
theorem B0_cloneS_no {key : List Nat} {s : Sig} (h : s ≠ sg_slices_Clone_string_string) : B0 131 key s = fun _ => none := by
  unfold B0
  rw [if_neg (by decide), if_neg (by decide), if_neg (by decide), if_pos rfl, dif_neg h]
theorem B0_cloneT (key : List Nat) : B0 135 key sg_slices_Clone_impl_TermNode_impl_TermNode = cloneTRun := by
  unfold B0
  rw [if_neg (by decide), if_neg (by decide), if_neg (by decide), if_neg (by decide), if_pos rfl, dif_pos rfl]
theorem B0_cloneT_no {key : List Nat} {s : Sig} (h : s ≠ sg_slices_Clone_impl_TermNode_impl_TermNode) : B0 135 key s = fun _ => none := by
  unfold B0
  rw [if_neg (by decide), if_neg (by decide), if_neg (by decide), if_neg (by decide), if_pos rfl, dif_neg h]
theorem B0_cloneD (key : List Nat) : B0 130 key sg_slices_Clone_impl_ProgDef_impl_ProgDef_deep = cloneDRun := by
  unfold B0
  rw [if_neg (by decide), if_neg (by decide), if_neg (by decide), if_neg (by decide), if_neg (by decide), if_pos rfl, dif_pos rfl]
theorem B0_cloneD_no {key : List Nat} {s : Sig} (h : s ≠ sg_slices_Clone_impl_ProgDef_impl_ProgDef_deep) : B0 130 key s = fun _ => none := by
  unfold B0
  rw [if_neg (by decide), if_neg (by decide), if_neg (by decide), if_neg (by decide), if_neg (by decide), if_pos rfl, dif_neg h]
theorem B0_cloneR (key : List Nat) : B0 133 key sg_slices_Clone_impl_ProgRel_impl_ProgRel_deep = cloneRRun := by
  unfold B0
  rw [if_neg (by decide), if_neg (by decide), if_neg (by decide), if_neg (by decide), if_neg (by decide), if_neg (by decide), if_pos rfl, dif_pos rfl]
theorem B0_cloneR_no {key : List Nat} {s : Sig} (h : s ≠ sg_slices_Clone_impl_ProgRel_impl_ProgRel_deep) : B0 133 key s = fun _ => none := by
  unfold B0
  rw [if_neg (by decide), if_neg (by decide), if_neg (by decide), if_neg (by decide), if_neg (by decide), if_neg (by decide), if_pos rfl, dif_neg h]
theorem B0_growS (key : List Nat) : B0 107 key sg_slices_Grow_string_string = growSRun := by
  unfold B0
  rw [if_neg (by decide), if_neg (by decide), if_neg (by decide), if_neg (by decide), if_neg (by decide), if_neg (by decide), if_neg (by decide), if_pos rfl, dif_pos rfl]
theorem B0_growS_no {key : List Nat} {s : Sig} (h : s ≠ sg_slices_Grow_string_string) : B0 107 key s = fun _ => none := by
  unfold B0
  rw [if_neg (by decide), if_neg (by decide), if_neg (by decide), if_neg (by decide), if_neg (by decide), if_neg (by decide), if_neg (by decide), if_pos rfl, dif_neg h]
theorem B0_growT (key : List Nat) : B0 144 key sg_slices_Grow_impl_TermNode_impl_TermNode = growTRun := by
  unfold B0
  rw [if_neg (by decide), if_neg (by decide), if_neg (by decide), if_neg (by decide), if_neg (by decide), if_neg (by decide), if_neg (by decide), if_neg (by decide), if_pos rfl, dif_pos rfl]
theorem B0_growT_no {key : List Nat} {s : Sig} (h : s ≠ sg_slices_Grow_impl_TermNode_impl_TermNode) : B0 144 key s = fun _ => none := by
  unfold B0
  rw [if_neg (by decide), if_neg (by decide), if_neg (by decide), if_neg (by decide), if_neg (by decide), if_neg (by decide), if_neg (by decide), if_neg (by decide), if_pos rfl, dif_neg h]
theorem B0_sort (key : List Nat) : B0 161 key sg_slices_Sort_string_string_k779 = sortRun := by
  unfold B0
  rw [if_neg (by decide), if_neg (by decide), if_neg (by decide), if_neg (by decide), if_neg (by decide), if_neg (by decide), if_neg (by decide), if_neg (by decide), if_neg (by decide), if_pos rfl, dif_pos rfl]
theorem B0_sort_no {key : List Nat} {s : Sig} (h : s ≠ sg_slices_Sort_string_string_k779) : B0 161 key s = fun _ => none := by
  unfold B0
  rw [if_neg (by decide), if_neg (by decide), if_neg (by decide), if_neg (by decide), if_neg (by decide), if_neg (by decide), if_neg (by decide), if_neg (by decide), if_neg (by decide), if_pos rfl, dif_neg h]
theorem B0_comp (key : List Nat) : B0 162 key sg_slices_Compact_string_string_k779 = compRun := by
  unfold B0
  rw [if_neg (by decide), if_neg (by decide), if_neg (by decide), if_neg (by decide), if_neg (by decide), if_neg (by decide), if_neg (by decide), if_neg (by decide), if_neg (by decide), if_neg (by decide), if_pos rfl, dif_pos rfl]
theorem B0_comp_no {key : List Nat} {s : Sig} (h : s ≠ sg_slices_Compact_string_string_k779) : B0 162 key s = fun _ => none := by
  unfold B0
  rw [if_neg (by decide), if_neg (by decide), if_neg (by decide), if_neg (by decide), if_neg (by decide), if_neg (by decide), if_neg (by decide), if_neg (by decide), if_neg (by decide), if_neg (by decide), if_pos rfl, dif_neg h]
theorem run_succ (n : Nat) : (C B0).run (n + 1) = (C B0).step ((C B0).run n) n := rfl
theorem k_index : Ev fun n => ∀ (l : List Nat) (c : Nat), Bl l → c < 256 → c_internal_stringslite_Index ((C B0).run n) (bs l) (bs [c]) = some (idx l c, ()) := by
  refine Ev.triv.succ fun n hn _ l c hl hc => ?_
  have e1 : c_internal_stringslite_Index ((C B0).run (n + 1)) (bs l) (bs [c]) = indexRun (bs l, (bs [c], ())) := by
    rw [← B0_index []]
    rfl
  rw [e1]
  unfold indexRun
  simp only
  rw [chs_bs (l := [c]) (fun x hx => by simp at hx; omega), chs_bs hl]
  rfl
theorem parse_digits : ∀ (l : List Nat) (acc : Nat), (∀ x ∈ l, digit x = true) → (acc + 1) * 10 ^ l.length ≤ 100000000 → Lib.parseUint10 acc (l.map UInt8.ofNat) = .ok (l.foldl (fun n c => n * 10 + (c - 48)) acc)
  | [], acc, _, _ => rfl
  | c :: r, acc, hd, hb => by
    have hc := digit_iff.1 (hd c (List.mem_cons_self ..))
    have e1 : (UInt8.ofNat c).toNat = c := by
      rw [UInt8.toNat_ofNat']
      exact Nat.mod_eq_of_lt (by omega)
    have hp : 1 ≤ 10 ^ r.length := Nat.pow_pos (by decide)
    rw [List.length_cons, Nat.pow_succ] at hb
    have h1 : acc + 1 ≤ 100000000 := by
      refine Nat.le_trans ?_ hb
      exact Nat.le_mul_of_pos_right _ (by omega)
    have h2 : (acc * 10 + (c - 48) + 1) * 10 ^ r.length ≤ 100000000 := by
      refine Nat.le_trans (Nat.mul_le_mul_right _ (show acc * 10 + (c - 48) + 1 ≤ (acc + 1) * 10 by omega)) ?_
      rw [Nat.mul_assoc, Nat.mul_comm 10]
      exact hb
    rw [List.map_cons, Lib.parseUint10, e1, if_pos (by omega), if_neg (by omega), if_neg (by omega), List.foldl_cons]
    exact parse_digits r _ (fun x hx => hd x (List.mem_cons_of_mem _ hx)) h2
theorem atoi_digits {l : List Nat} (h0 : l ≠ []) (h3 : l.length ≤ 3) (hd : ∀ x ∈ l, digit x = true) : Lib.atoiAll (l.map UInt8.ofNat) = .ok ((value l : Nat) : Int) := by
  match l, h0 with
  | c :: r, _ =>
    have hc := digit_iff.1 (hd c (List.mem_cons_self ..))
    have e1 : (UInt8.ofNat c).toNat = c := by
      rw [UInt8.toNat_ofNat']
      exact Nat.mod_eq_of_lt (by omega)
    have hp : 10 ^ (c :: r).length ≤ 10 ^ 3 := Nat.pow_le_pow_right (by decide) h3
    have hm : Lib.parseMag ((c :: r).map UInt8.ofNat) = .ok (value (c :: r)) := by
      unfold Lib.parseMag
      rw [if_neg (by simp), parse_digits (c :: r) 0 hd (by omega)]
      rfl
    have hv : value (c :: r) < 9223372036854775808 := by
      have : ∀ (l : List Nat) (acc : Nat), (∀ x ∈ l, digit x = true) → l.foldl (fun n c => n * 10 + (c - 48)) acc + 1 ≤ (acc + 1) * 10 ^ l.length := by
        intro l
        induction l with
        | nil => intro acc _; simp
        | cons x l ih =>
          intro acc h
          have hx := digit_iff.1 (h x (List.mem_cons_self ..))
          rw [List.foldl_cons, List.length_cons, Nat.pow_succ]
          refine Nat.le_trans (ih _ fun y hy => h y (List.mem_cons_of_mem _ hy)) ?_
          rw [Nat.mul_comm (10 ^ l.length) 10, ← Nat.mul_assoc]
          exact Nat.mul_le_mul_right _ (by omega)
      have := this (c :: r) 0 hd
      have h4 : value (c :: r) + 1 ≤ (0 + 1) * 10 ^ (c :: r).length := this
      omega
    rw [List.map_cons] at hm ⊢
    unfold Lib.atoiAll
    simp only [e1]
    rw [if_neg (by omega), hm]
    simp only
    rw [if_neg (by omega), if_neg (by omega), if_neg (by omega)]
theorem bs_list (l : List Nat) : (bs l).data.toList = l.map UInt8.ofNat := by simp [bs]
/-- Atoi gives the value of few digits; of other texts something. -/
theorem k_atoi : Ev fun n => ∀ l : List Nat, l.length ≤ 4000000 → ∃ (v : Int) (e : Bool), c_strconv_Atoi ((C B0).run n) (bs l) = some (v, (e, ())) ∧ (l ≠ [] → l.length ≤ 3 → (∀ x ∈ l, digit x = true) → v = (value l : Nat) ∧ e = false) := by
  refine Ev.triv.succ fun n hn _ l hl => ?_
  have e1 : c_strconv_Atoi ((C B0).run (n + 1)) (bs l) = atoiRun (bs l, ()) := by
    rw [← B0_atoi []]
    rfl
  rw [e1]
  unfold atoiRun
  simp only
  rw [if_neg (by rw [bs_size]; omega), bs_list]
  rcases h : Lib.atoiAll (l.map UInt8.ofNat) with v | _ | _
  · exact ⟨v, false, rfl, fun h0 h3 hd => by rw [atoi_digits h0 h3 hd] at h; cases h; exact ⟨rfl, rfl⟩⟩
  · exact ⟨0, true, rfl, fun h0 h3 hd => by rw [atoi_digits h0 h3 hd] at h; cases h⟩
  · exact ⟨_, true, rfl, fun h0 h3 hd => by rw [atoi_digits h0 h3 hd] at h; cases h⟩
theorem k_NameOk : Ev fun n => ∀ l : List Nat, Bl l → l.length ≤ 4000000 → c_i_LangNameOk ((C B0).run n) (bs l) = some (nameOk l, ()) := by
  refine Ev.triv.succ fun n hn _ l h1 h2 => ?_
  have e1 : c_i_LangNameOk ((C B0).run (n + 1)) (bs l) = nameRun (bs l, ()) := by
    rw [← B0_name []]
    rfl
  rw [e1]
  unfold nameRun
  simp only
  rw [bs_size, if_neg (by omega), chs_bs h1]
  rfl
theorem k_CloneT : Ev fun n => ∀ l : List Tn, l.length ≤ 4000000 → c_slices_Clone_impl_TermNode_impl_TermNode ((C B0).run n) l = some (l, ()) := by
  refine Ev.triv.succ fun n hn _ l h => ?_
  have e1 : c_slices_Clone_impl_TermNode_impl_TermNode ((C B0).run (n + 1)) l = cloneTRun (l, ()) := by
    rw [← B0_cloneT []]
    rfl
  rw [e1]
  exact if_pos h
theorem k_CloneS : Ev fun n => ∀ l : List ByteArray, l.length ≤ 4000000 → c_slices_Clone_string_string ((C B0).run n) l = some (l, ()) := by
  refine Ev.triv.succ fun n hn _ l h => ?_
  have e1 : c_slices_Clone_string_string ((C B0).run (n + 1)) l = cloneSRun (l, ()) := by
    rw [← B0_cloneS []]
    rfl
  rw [e1]
  exact if_pos h
theorem k_CloneD : Ev fun n => ∀ (D : Mem Dh) (R : Mem Rh) (S : Mem ByteArray) (N : Mem Tn) (x : Hd), mok D x = true → (mval D x).length ≤ 4000000 → c_slices_Clone_impl_ProgDef_impl_ProgDef_deep ((C B0).run n) D R S N x = some (D, (R, (S, (N, (mval D x, ()))))) := by
  refine Ev.triv.succ fun n hn _ D R S N x h h' => ?_
  have e1 : c_slices_Clone_impl_ProgDef_impl_ProgDef_deep ((C B0).run (n + 1)) D R S N x = cloneDRun (D, (R, (S, (N, (x, ()))))) := by
    rw [← B0_cloneD []]
    rfl
  rw [e1]
  exact if_pos ⟨h, h'⟩
theorem k_CloneR : Ev fun n => ∀ (D : Mem Dh) (R : Mem Rh) (S : Mem ByteArray) (N : Mem Tn) (x : Hd), mok R x = true → (mval R x).length ≤ 4000000 → c_slices_Clone_impl_ProgRel_impl_ProgRel_deep ((C B0).run n) D R S N x = some (D, (R, (S, (N, (mval R x, ()))))) := by
  refine Ev.triv.succ fun n hn _ D R S N x h h' => ?_
  have e1 : c_slices_Clone_impl_ProgRel_impl_ProgRel_deep ((C B0).run (n + 1)) D R S N x = cloneRRun (D, (R, (S, (N, (x, ()))))) := by
    rw [← B0_cloneR []]
    rfl
  rw [e1]
  exact if_pos ⟨h, h'⟩
theorem k_GrowS : Ev fun n => ∀ k : Int, 0 ≤ k → k ≤ 4000000 → c_slices_Grow_string_string ((C B0).run n) [] k = some ([], ()) := by
  refine Ev.triv.succ fun n hn _ k h h' => ?_
  have e1 : c_slices_Grow_string_string ((C B0).run (n + 1)) [] k = growSRun (([] : List ByteArray), (k, ())) := by
    rw [← B0_growS []]
    rfl
  rw [e1]
  exact if_pos ⟨rfl, h, h'⟩
theorem k_GrowT : Ev fun n => ∀ k : Int, 0 ≤ k → k ≤ 4000000 → c_slices_Grow_impl_TermNode_impl_TermNode ((C B0).run n) [] k = some ([], ()) := by
  refine Ev.triv.succ fun n hn _ k h h' => ?_
  have e1 : c_slices_Grow_impl_TermNode_impl_TermNode ((C B0).run (n + 1)) [] k = growTRun (([] : List Tn), (k, ())) := by
    rw [← B0_growT []]
    rfl
  rw [e1]
  exact if_pos ⟨rfl, h, h'⟩
theorem comp_len (zs : List (List UInt8)) : (Lib.compact zs).length ≤ zs.length := by
  unfold Lib.compact Lib.compactUpTo
  rw [List.length_map]
  exact Nat.le_trans (List.length_filter_le ..) (by simp)
theorem comp_mem {zs : List (List UInt8)} {x : List UInt8} : x ∈ Lib.compact zs ↔ x ∈ zs := by
  unfold Lib.compact Lib.compactUpTo
  simp only [List.mem_map, List.mem_filter, List.mem_range]
  constructor
  · rintro ⟨j, ⟨hj, _⟩, rfl⟩
    have hj' : j < zs.toArray.size := by simpa using hj
    rw [getElem!_pos _ j hj']
    simp
  · intro hx
    obtain ⟨j, hj, rfl⟩ := List.mem_iff_getElem.1 hx
    have : ∀ j (hj : j < zs.length), ∃ a, (a < zs.length ∧ Lib.keeps zs.toArray a = true) ∧ zs.toArray[a]! = zs[j] := by
      intro j
      induction j with
      | zero => exact fun hj => ⟨0, ⟨hj, by simp [Lib.keeps]⟩, by rw [getElem!_pos _ 0 (by simpa using hj)]; simp⟩
      | succ j ih =>
        intro hj
        by_cases hk : Lib.keeps zs.toArray (j + 1) = true
        · exact ⟨j + 1, ⟨hj, hk⟩, by rw [getElem!_pos _ _ (by simpa using hj)]; simp⟩
        · have he : zs.toArray[j + 1]! = zs.toArray[j]! := by
            simpa [Lib.keeps] using hk
          obtain ⟨a, h1, h2⟩ := ih (by omega)
          refine ⟨a, h1, h2.trans ?_⟩
          rw [getElem!_pos _ _ (by simpa using hj), getElem!_pos _ j (by simp; omega)] at he
          simpa using he.symm
    exact this j hj
theorem mem_textsOf {l : List (List UInt8)} {s : ByteArray} : s ∈ textsOf l ↔ s.data.toList ∈ l := by
  unfold textsOf
  simp only [List.mem_map]
  constructor
  · rintro ⟨x, hx, rfl⟩; simpa using hx
  · intro h; exact ⟨_, h, by simp⟩
theorem mem_bytesOf {l : List ByteArray} {s : ByteArray} : s.data.toList ∈ bytesOf l ↔ s ∈ l := by
  unfold bytesOf
  simp only [List.mem_map]
  constructor
  · rintro ⟨x, hx, h⟩
    have : x = s := by
      obtain ⟨⟨a⟩⟩ := x
      obtain ⟨⟨b⟩⟩ := s
      simp at h
      rw [h]
    rwa [← this]
  · intro h; exact ⟨s, h, rfl⟩
theorem mem_sortB {l : List ByteArray} {s : ByteArray} : s ∈ sortB l ↔ s ∈ l := by
  unfold sortB
  rw [mem_textsOf, List.mem_mergeSort, mem_bytesOf]
theorem mem_compB {l : List ByteArray} {s : ByteArray} : s ∈ compB l ↔ s ∈ l := by
  unfold compB
  rw [mem_textsOf, comp_mem, mem_bytesOf]
theorem len_sortB (l : List ByteArray) : (sortB l).length = l.length := by simp [sortB, textsOf, bytesOf]
theorem k_Sort : Ev fun n => ∀ (S : Mem ByteArray) (l : List ByteArray), l.length ≤ 4000000 → c_slices_Sort_string_string_k779 ((C B0).run n) (S ++ [some l]) (S.length + 1, (0, l.length)) = some (S ++ [some (sortB l)], ()) := by
  refine Ev.triv.succ fun n hn _ S l h => ?_
  have e1 : c_slices_Sort_string_string_k779 ((C B0).run (n + 1)) (S ++ [some l]) (S.length + 1, (0, l.length)) = sortRun (S ++ [some l], (((S.length + 1, (0, l.length)) : Hd), ())) := by
    rw [← B0_sort []]
    rfl
  have e2 : mrow (S ++ [some l]) (S.length + 1) = l := by simp [mrow]
  have e3 : mlive (S ++ [some l]) (S.length + 1) = true := by simp [mlive]
  have e4 : mwr (S ++ [some l]) (some (sortB l)) (S.length + 1) = S ++ [some (sortB l)] := by simp [mwr]
  rw [e1]
  show sortV _ _ = _
  unfold sortV
  rw [if_pos ⟨e3, rfl, by rw [e2], by rw [e2]; exact h⟩]
  simp only [e2, e4]
theorem k_Compact : Ev fun n => ∀ (S : Mem ByteArray) (l : List ByteArray), l.length ≤ 4000000 → c_slices_Compact_string_string_k779 ((C B0).run n) (S ++ [some l]) (S.length + 1, (0, l.length)) = some (S ++ [none], (compB l, ())) := by
  refine Ev.triv.succ fun n hn _ S l h => ?_
  have e1 : c_slices_Compact_string_string_k779 ((C B0).run (n + 1)) (S ++ [some l]) (S.length + 1, (0, l.length)) = compRun (S ++ [some l], (((S.length + 1, (0, l.length)) : Hd), ())) := by
    rw [← B0_comp []]
    rfl
  have e2 : mrow (S ++ [some l]) (S.length + 1) = l := by simp [mrow]
  have e3 : mlive (S ++ [some l]) (S.length + 1) = true := by simp [mlive]
  have e4 : mwr (S ++ [some l]) none (S.length + 1) = S ++ [none] := by simp [mwr]
  rw [e1]
  show compV _ _ = _
  unfold compV
  rw [if_pos ⟨e3, rfl, by rw [e2], by rw [e2]; exact h⟩]
  simp only [e2, e4]
end Go.Px.Seat

/- The reference's numbers: plain facts. -/
namespace Go.Px
open Go Pm Pt
theorem less3 {a b c : Nat} (ha : digit a = true) (hb : digit b = true) (hc : digit c = true) : (slt (bs [a, b, c]) (bs [52, 48, 48]) || seq (bs [a, b, c]) (bs [52, 48, 48])) = decide (value [a, b, c] ≤ 400) := by
  have ha := digit_iff.1 ha
  have hb := digit_iff.1 hb
  have hc := digit_iff.1 hc
  have bl : Bl [a, b, c] := fun x hx => by simp at hx; omega
  have bl2 : Bl [52, 48, 48] := fun x hx => by simp at hx; omega
  rw [bs_seq bl bl2]
  have e : ∀ x : Nat, x < 256 → (UInt8.ofNat x).toNat = x := fun x hx => by
    rw [UInt8.toNat_ofNat']
    exact Nat.mod_eq_of_lt hx
  have lt : ∀ x y : Nat, x < 256 → y < 256 → (decide (UInt8.ofNat x < UInt8.ofNat y) = decide (x < y)) := fun x y hx hy => by
    refine decide_eq_decide.2 ?_
    rw [UInt8.lt_iff_toNat_lt, e x hx, e y hy]
  have eq : ∀ x y : Nat, x < 256 → y < 256 → ((UInt8.ofNat x == UInt8.ofNat y) = decide (x = y)) := fun x y hx hy => by
    by_cases h : x = y
    · subst h; simp
    · rw [decide_eq_false h]
      have : UInt8.ofNat x ≠ UInt8.ofNat y := fun h' => h (by
        have := congrArg UInt8.toNat h'
        rwa [e x hx, e y hy] at this)
      simpa using this
  unfold slt
  rw [ByteArray.toList_eq, ByteArray.toList_eq]
  have l1 : ∀ l : List Nat, (bs l).data.toList = l.map UInt8.ofNat := fun l => by simp [bs]
  rw [l1, l1]
  simp only [List.map_cons, List.map_nil, Op.bytesLess]
  rw [lt a 52 (by omega) (by omega), lt b 48 (by omega) (by omega), lt c 48 (by omega) (by omega), eq a 52 (by omega) (by omega), eq b 48 (by omega) (by omega), eq c 48 (by omega) (by omega)]
  have hv : value [a, b, c] = ((a - 48) * 10 + (b - 48)) * 10 + (c - 48) := by simp [value]
  rw [hv]
  simp only [List.cons.injEq, and_true, Bool.and_false, Bool.or_false]
  rw [Bool.eq_iff_iff]
  simp only [Bool.or_eq_true, Bool.and_eq_true, decide_eq_true_eq]
  omega
/-- what the reference asks of a power -/
def pwK (m : Bool) (Q : List Nat) (k : Nat) : Bool :=
  !(decide (k = 0) || (decide (3 < k) || ((decide (Q.getD 0 0 = 48) && (decide (1 < k) || m)) || (decide (k = 3) && !(decide (value (Q.take 3) ≤ 400)))))) && decide (k = Q.length)
def pwOk (m : Bool) (Q : List Nat) : Bool := pwK m Q (Q.takeWhile digit).length
theorem tw_full {Q : List Nat} (h : (Q.takeWhile digit).length = Q.length) : Q.all digit = true := by
  have h1 : Q.takeWhile digit = Q := (List.takeWhile_sublist _).eq_of_length h
  rw [← h1]
  exact List.all_eq_true.2 takeWhile_all
theorem tw_all {Q : List Nat} (h : Q.all digit = true) : Q.takeWhile digit = Q := by
  have := takeWhile_app (r := []) (List.all_eq_true.1 h)
  simpa using this
theorem pw_ex (m : Bool) (Q : List Nat) : exOk m Q = pwOk m Q := by
  unfold pwOk exOk pwK
  cases ha : Q.all digit with
  | false =>
    have h1 : whole Q = false := by unfold whole; rw [ha]; simp
    have h2 : ¬ (Q.takeWhile digit).length = Q.length := fun h => by rw [tw_full h] at ha; cases ha
    rw [h1, decide_eq_false h2]
    simp
  | true =>
    rw [tw_all ha]
    unfold whole
    rw [ha, decide_eq_true (rfl : Q.length = Q.length)]
    have hd := List.all_eq_true.1 ha
    match Q, hd with
    | [], _ => simp
    | [a], hd =>
      have h1 := digit_iff.1 (hd a (by simp))
      rw [Bool.eq_iff_iff]
      cases m <;> simp [value] <;> omega
    | [a, b], hd =>
      have h1 := digit_iff.1 (hd a (by simp))
      have h2 := digit_iff.1 (hd b (by simp))
      rw [Bool.eq_iff_iff]
      cases m <;> simp [value] <;> omega
    | [a, b, c], hd =>
      have h1 := digit_iff.1 (hd a (by simp))
      have h2 := digit_iff.1 (hd b (by simp))
      have h3 := digit_iff.1 (hd c (by simp))
      rw [Bool.eq_iff_iff]
      cases m <;> simp [value] <;> omega
    | a :: b :: c :: d :: r, _ =>
      simp
theorem jb_at {P R : Type} {x : Option (R ⊕ P)} {f : P → Option R} {r : R} (Q : P → Prop) (hx : x = some (.inl r) ∨ ∃ p, x = some (.inr p) ∧ Q p) (hf : ∀ p, Q p → f p = some r) : jb x f = some r := by
  rcases hx with h | ⟨p, h, hq⟩
  · rw [h]; rfl
  · rw [h]; exact hf p hq
end Go.Px

/- Rules for calls that come to something. -/
namespace Go.Px
open Go Pm
/-- It comes to something of which Q holds. -/
def Tot {R : Type} (x : Option R) (Q : R → Prop) : Prop := ∃ r, x = some r ∧ Q r
section
variable {R P α : Type} {Q : R → Prop}
theorem tot_some {r : R} (h : Q r) : Tot (some r) Q := ⟨r, rfl, h⟩
theorem tot_bind {x : Option α} {f : α → Option R} (I : α → Prop) (h : Tot x I) (h' : ∀ a, I a → Tot (f a) Q) : Tot (x.bind f) Q := by
  obtain ⟨a, h1, h2⟩ := h
  rw [h1]; exact h' a h2
theorem tot_iter {F : (P → Option R) → P → Option R} {n : Nat} {p : P} (I : P → Prop) (m : P → Nat) (hm : m p < n) (hI : I p)
    (step : ∀ rec p, I p → (∀ q, I q → m q < m p → Tot (rec q) Q) → Tot (F rec p) Q) : Tot (iter F n p) Q :=
  iter_ex I m Q step n p hm hI
theorem tot_mono {x : Option R} {Q' : R → Prop} (h : Tot x Q) (hq : ∀ r, Q r → Q' r) : Tot x Q' := let ⟨r, h1, h2⟩ := h; ⟨r, h1, hq r h2⟩
end
/-- A text of bytes, not longer than so many. -/
def Txt (k : Nat) (s : ByteArray) : Prop := ∃ l, s = bs l ∧ Bl l ∧ l.length ≤ k
theorem Txt.mono {k k' : Nat} {s : ByteArray} (h : Txt k s) (hk : k ≤ k') : Txt k' s := let ⟨l, h1, h2, h3⟩ := h; ⟨l, h1, h2, Nat.le_trans h3 hk⟩
theorem Txt.app {k k' : Nat} {s t : ByteArray} (h : Txt k s) (h' : Txt k' t) : Txt (k + k') (s ++ t) := by
  obtain ⟨l, rfl, h2, h3⟩ := h
  obtain ⟨l', rfl, h5, h6⟩ := h'
  exact ⟨l ++ l', bs_app _ _, bl_app.2 ⟨h2, h5⟩, by rw [List.length_append]; omega⟩
theorem Txt.sok {k k' : Nat} {s t : ByteArray} (h : Txt k s) (h' : Txt k' t) (hk : k + k' ≤ 140737488355328) : sok s t = true := by
  obtain ⟨l, rfl, h2, h3⟩ := h
  obtain ⟨l', rfl, h5, h6⟩ := h'
  rw [bs_sok]
  exact decide_eq_true (by omega)
end Go.Px
