/- Own texts, part M1: PmA PmB PtA PtB PtK PtP PtC PtF PtO. -/
import Derived.Test.YtmmggkldldbomaaGreatDoorA5
import Derived.Laws.BitsLemmas
import Derived.Test.YtmmggkldldbomaaGreatDoorS3
import Derived.Lib.AtoiAll
import Derived.Lib.SlicesCompact
import Derived.Test.YtmmggkldldbomaaGreatDoorR3
set_option linter.unusedVariables false
namespace Pm
def QI (n : Nat) : List Int := if n = 0 then [] else ((n % 65536 : Nat) : Int) :: QI (n / 65536)
termination_by n
def val : List Int → Int
 | [] => 0
 | d :: r => d + 65536 * val r
def Dg (l : List Int) : Prop := ∀ d ∈ l, 0 ≤ d ∧ d < 65536
def at_ (l : List Int) (i : Nat) : Int := l.getD i 0
@[simp] theorem Qc : QI 0 = [] := by rw [QI]; rfl
theorem Dg.tail {d : Int} {l : List Int} (h : Dg (d :: l)) : Dg l := fun x hx => h x (List.mem_cons_of_mem _ hx)
def strip : List Int → List Int
 | [] => []
 | d :: r => match strip r with
  | [] => if d = 0 then [] else [d]
  | e :: s => d :: e :: s
theorem wh (l : List Int) (i j : Nat) (v : Int) (h : i < l.length) : at_ (l.set i v) j = if i = j then v else at_ l j := by
 simp only [at_, List.getD_eq_getElem?_getD, List.getElem?_set]
 split
 ·simp
 ·rfl
end Pm
namespace Pm
def bl (x : Nat) : Nat := if x = 0 then 0 else bl (x / 2) + 1
termination_by x
@[simp] theorem Qv : bl 0 = 0 := by rw [bl]; rfl
def Rp (l : List Int) : Bool := decide (l.length ≤ 256) && (l.all (fun d => decide (0 ≤ d) && decide (d < 65536)) && (l.isEmpty || at_ l (l.length - 1) != 0))
def gm (a b : Nat) : Nat := bl a + bl b + (if a < b then 1 else 0)
end Pm
namespace Go.Px
open Go Pm
theorem aN {P R : Type} {F : (P → Option R) → P → Option R} (I : P → Prop) (m : P → Nat) (r : Option R)
  (step : ∀ rec p, I p → (∀ q, I q → m q < m p → rec q = r) → F rec p = r) : ∀ n p, m p < n → I p → iter F n p = r
 | 0, _, h, _ => absurd h (Nat.not_lt_zero _)
 | n + 1, p, h, hI => step (iter F n) p hI fun q hq hm => aN I m r step n q (by omega) hq
theorem GK {P R : Type} {F : (P → Option R) → P → Option R} (I : P → Prop) (m : P → Nat) (Q : R → Prop)
  (step : ∀ rec p, I p → (∀ q, I q → m q < m p → ∃ r, rec q = some r ∧ Q r) → ∃ r, F rec p = some r ∧ Q r) : ∀ n p, m p < n → I p → ∃ r, iter F n p = some r ∧ Q r
 | 0, _, h, _ => absurd h (Nat.not_lt_zero _)
 | n + 1, p, h, hI => step (iter F n) p hI fun q hq hm => GK I m Q step n q (by omega) hq
def Ev (p : Nat → Prop) : Prop := ∃ N, ∀ n, N ≤ n → p n
theorem Ev.and {p q : Nat → Prop} (h : Ev p) (h' : Ev q) : Ev fun n => p n ∧ q n :=
 let ⟨a, h⟩ := h; let ⟨b, h'⟩ := h'; ⟨max a b, fun n hn => ⟨h n (by omega), h' n (by omega)⟩⟩
theorem Ev.mono {p q : Nat → Prop} (h : Ev p) (hq : ∀ n, p n → q n) : Ev q := let ⟨a, h⟩ := h; ⟨a, fun n hn => hq n (h n hn)⟩
theorem Ev.succ {p q : Nat → Prop} (h : Ev p) (hq : ∀ n, 1152921504606846976 ≤ n → p n → q (n + 1)) : Ev q := by
 obtain ⟨a, h⟩ := h
 refine ⟨max a 1152921504606846976 + 1, fun n hn => ?_⟩
 obtain ⟨k, rfl⟩ : ∃ k, n = k + 1 := ⟨n - 1, by omega⟩
 exact hq k (by omega) (h k (by omega))
theorem Ev.cU : Ev fun _ => True := ⟨0, fun _ _ => trivial⟩
section
variable {P R α : Type}
@[simp] theorem Qw (x : Option R) : ok true x = x := rfl
theorem ah {c : Bool} (h : c = true) (x : Option R) : ok c x = x := by rw [h]; rfl
@[simp] theorem cb (p : P) (f : P → Option R) : jb (some (.inr p)) f = f p := rfl
@[simp] theorem QJ (r : R) (f : P → Option R) : jb (some (.inl r)) f = some r := rfl
theorem dh {x y : Int} (h : ¬ x = y) : (x == y) = false := by simpa using h
theorem iZ {x : Option (R ⊕ P)} {p : P} (h : x = some (.inr p)) (f : P → Option R) : jb x f = f p := by rw [h]; rfl
@[simp] theorem Qx (c : Bool) (x y : Option (R ⊕ P)) (f : P → Option R) : jb (cond c x y) f = cond c (jb x f) (jb y f) := by cases c <;> rfl
@[simp] theorem Q4 (c : Bool) (x : Option (R ⊕ P)) (f : P → Option R) : jb (ok c x) f = ok c (jb x f) := by cases c <;> rfl
@[simp] theorem Qy (r : R) : il (P := P) (some r) = some (.inl r) := rfl
@[simp] theorem ab (x y : Int) : bS x y = decide (x < y) := rfl
@[simp] theorem bZ (x y : Int) : kG x y = decide (x ≤ y) := rfl
theorem aj (l : List α) : len l = (l.length : Int) := rfl
theorem rL (l : ByteArray) : cW l = (l.size : Int) := rfl
theorem ae {i n : Int} (h : 0 ≤ i) (h' : i < n) : bQ i n = true := by simp [bQ, h, h']
theorem di {a b n : Int} (h : 0 ≤ a) (h' : a ≤ b) (h'' : b ≤ n) : ba a b n = true := by simp [ba, h, h', h'']
theorem jB {n m : Int} {k : Nat} (h : 0 ≤ n) (h' : n ≤ m) (h'' : m * k ≤ 140737488355328) : An n m k = true := by simp [An, h, h', h'']
theorem fV {l : List α} {k : Nat} (h : l.length * k ≤ 140737488355328) : Di l k = true := by
 have : ((l.length : Nat) : Int) * (k : Int) ≤ 140737488355328 := by
  rw [← Int.natCast_mul]
  omega
 unfold Di
 exact decide_eq_true this
theorem wrap64 {x : Int} (h : -9223372036854775808 ≤ x) (h' : x < 9223372036854775808) : IntKind.i64.wrap x = x := by
 rw [IntKind.wrap_i64]; omega
theorem ar {x y : Int} (h : -9223372036854775808 ≤ x + y) (h' : x + y < 9223372036854775808) : aB .i64 x y = x + y := wrap64 h h'
theorem jQ {x y : Int} (h : -9223372036854775808 ≤ x - y) (h' : x - y < 9223372036854775808) : mN .i64 x y = x - y := wrap64 h h'
theorem Ls {x y : Int} (h : 0 ≤ x) (h0 : x < 9223372036854775808) (h' : 0 < y) : Lr .i64 x y = x / y := by
 rw [Lr, Int.tdiv_eq_ediv_of_nonneg h, wrap64]
 ·have := Int.ediv_nonneg h (Int.le_of_lt h'); omega
 ·exact Int.lt_of_le_of_lt (Int.ediv_le_self _ h) h0
theorem Lt {k : IntKind} {x y : Int} (h : 0 ≤ x) : Ih k x y = x % y := by rw [Ih, Int.tmod_eq_emod_of_nonneg h]
end
end Go.Px
namespace Go.Px
open Go Pm
def pV (s : ByteArray) : List Nat := s.data.toList.map UInt8.toNat
theorem u9 (s : ByteArray) : (pV s).length = s.size := by
 simp only [pV, List.length_map, Array.length_toList]
 rfl
theorem JY {s : ByteArray} {x : Nat} (h : x ∈ pV s) : x < 256 := by
 obtain ⟨c, _, rfl⟩ := List.mem_map.1 h
 exact c.toNat_lt
theorem Oh (s : ByteArray) (i : Nat) : bt s (i : Int) = (((pV s).getD i 0 : Nat) : Int) := by
 unfold bt
 simp only [Int.toNat_natCast]
 by_cases h : i < s.size
 ·rw [dif_pos h]
  have h' : i < s.data.toList.length := by simpa using h
  simp only [pV, List.getD_eq_getElem?_getD, List.getElem?_map, List.getElem?_eq_getElem h', Option.map_some, Option.getD_some, Array.getElem_toList]
  rfl
 ·rw [dif_neg h]
  have h' : ¬ i < (pV s).length := by rw [u9]; exact h
  rw [List.getD_eq_getElem?_getD, List.getElem?_eq_none (by omega)]
  rfl
theorem Ci {a b : ByteArray} (h : pV a = pV b) : a = b := by
 have : a.data.toList = b.data.toList := List.map_inj_right (fun x y h => UInt8.toNat_inj.1 h) |>.1 h
 cases a; cases b
 simp only at this
 rw [Array.toList_inj.1 this]
theorem rb {l : List Nat} (h : ∀ x ∈ l, x < 256) : pV (bs l) = l := by
 simp only [pV, bs, List.map_map]
 refine (List.map_congr_left fun x hx => ?_).trans (List.map_id l)
 show (UInt8.ofNat x).toNat = x
 rw [UInt8.toNat_ofNat']
 exact Nat.mod_eq_of_lt (h x hx)
theorem Cj (a b : ByteArray) : seq a b = decide (pV a = pV b) := by
 unfold seq
 by_cases h : a = b
 ·subst h; simp
 ·have h1 : ¬ pV a = pV b := fun h' => h (Ci h')
  rw [decide_eq_false h1]
  have : ¬ a.toList = b.toList := fun h' => h1 (by
   rw [ByteArray.toList_eq, ByteArray.toList_eq] at h'
   unfold pV
   rw [h'])
  simpa using this
def Bl (l : List Nat) : Prop := ∀ x ∈ l, x < 256
theorem zM (s : ByteArray) : Bl (pV s) := fun _ h => JY h
theorem wi (s : ByteArray) : bs (pV s) = s := Ci (rb (zM s))
theorem Oi (a b : List Nat) : bs a ++ bs b = bs (a ++ b) := by
 have h : (bs a ++ bs b).data = (bs (a ++ b)).data := by
  rw [ByteArray.data_append]
  simp [bs]
 exact ByteArray.ext h
theorem zN (l : List Nat) (a b : Nat) : ByteArray.extract (bs l) a b = bs ((l.take b).drop a) := by
 have h : (ByteArray.extract (bs l) a b).data = (bs ((l.take b).drop a)).data := by
  rw [ByteArray.data_extract]
  simp [bs, List.map_drop, List.map_take, List.extract, List.drop_take]
 exact ByteArray.ext h
theorem rM (l : List Nat) : (bs l).size = l.length := by
 show (bs l).data.size = _
 simp [bs]
theorem dD (l : List Nat) : cW (bs l) = (l.length : Int) := by
 rw [rL, rM]
theorem nv {l : List Nat} (h : Bl l) (i : Nat) : bt (bs l) (i : Int) = ((l.getD i 0 : Nat) : Int) := by rw [Oh, rb h]
theorem kM {a b : List Nat} (ha : Bl a) (hb : Bl b) : seq (bs a) (bs b) = decide (a = b) := by rw [Cj, rb ha, rb hb]
theorem Oj (a b : List Nat) : Lc (bs a) (bs b) = decide (a.length + b.length ≤ 140737488355328) := by
 rw [Bt, rM, rM]
 exact decide_eq_decide.2 (by omega)
theorem Ol {a b : List Nat} : Bl (a ++ b) ↔ Bl a ∧ Bl b := ⟨fun h => ⟨fun x hx => h x (List.mem_append_left _ hx), fun x hx => h x (List.mem_append_right _ hx)⟩, fun h x hx => (List.mem_append.1 hx).elim (h.1 x) (h.2 x)⟩
theorem Lu {l : List Nat} (h : Bl l) (n : Nat) : Bl (l.take n) := fun x hx => h x (List.mem_of_mem_take hx)
theorem GL {l : List Nat} (h : Bl l) (n : Nat) : Bl (l.drop n) := fun x hx => h x (List.mem_of_mem_drop hx)
end Go.Px
namespace Pt
def letter (c : Nat) : Bool := decide (97 ≤ c) && decide (c ≤ 122)
def digit (c : Nat) : Bool := decide (48 ≤ c) && decide (c ≤ 57)
theorem cN {c : Nat} : digit c = true ↔ 48 ≤ c ∧ c ≤ 57 := by simp [digit]
def wc (d : Bool) (prev c : Nat) : Bool := letter c || (digit c || (c == 46 || (c == 45 && (d && prev == 101))))
def Qd (d : Bool) : Nat → List Nat → Nat
 | _, [] => 0
 | p, c :: r => if wc d p c then 1 + Qd d c r else 0
def Qe : List Nat := [43, 45, 42, 47, 94, 40, 41, 44, 61]
def Q5 : List Nat → List Nat
 | 60 :: 61 :: _ => [60, 61]
 | 62 :: 61 :: _ => [62, 61]
 | c :: _ => if c ∈ Qe then [c] else []
 | [] => []
def plain (l : List Nat) : Bool := decide (1 ≤ l.length) && (decide (l.length ≤ 8) && (letter (l.getD 0 0) && l.all fun c => letter c || digit c))
def whole (l : List Nat) : Bool := decide (l ≠ []) && (l.all digit && (decide (l = [48]) || decide (l.getD 0 0 ≠ 48)))
def value : List Nat → Nat := fun l => l.foldl (fun n c => n * 10 + (c - 48)) 0
def cutAt (c : Nat) (l : List Nat) : List Nat × List Nat × Bool := (l.takeWhile (· != c), (l.dropWhile (· != c)).drop 1, l.any (· == c))
def Ik (minus : Bool) (q : List Nat) : Bool := whole q && (decide (q.length ≤ 3) && (decide (value q ≤ 400) && !(minus && decide (value q = 0))))
def JZ (p : List Nat) : Bool := match p with
 | 45 :: q => Ik true q
 | q => Ik false q
def num (l : List Nat) : Bool :=
 let b := cutAt 101 l
 let a := cutAt 46 b.1
 whole a.1 && ((!a.2.2 || (decide (a.2.1 ≠ []) && a.2.1.all digit)) && (!b.2.2 || JZ b.2.1))
def tK (r : List Nat) : Bool := match r with
 | [] => true
 | 101 :: p => JZ p
 | _ => false
def tc (r : List Nat) : Bool := match r with
 | 46 :: p => decide (p.takeWhile digit ≠ []) && tK (p.dropWhile digit)
 | r => tK r
def Lv (l : List Nat) : Bool := whole (l.takeWhile digit) && tc (l.dropWhile digit)
theorem jR {p : Nat → Bool} : ∀ {a r : List Nat}, (∀ c ∈ a, p c = true) → (a ++ r).takeWhile p = a ++ r.takeWhile p
 | [], _, _ => rfl
 | c :: a, r, h => by
  rw [List.cons_append, List.takeWhile_cons, h c (List.mem_cons_self ..), jR fun x hx => h x (List.mem_cons_of_mem _ hx)]
  rfl
theorem nJ {p : Nat → Bool} : ∀ {a r : List Nat}, (∀ c ∈ a, p c = true) → (a ++ r).dropWhile p = r.dropWhile p
 | [], _, _ => rfl
 | c :: a, r, h => by
  rw [List.cons_append, List.dropWhile_cons, h c (List.mem_cons_self ..)]
  simp only [if_true]
  exact nJ fun x hx => h x (List.mem_cons_of_mem _ hx)
theorem fY {p : Nat → Bool} : ∀ {l : List Nat}, ∀ c ∈ l.takeWhile p, p c = true
 | [], c, h => by cases h
 | x :: l, c, h => by
  rw [List.takeWhile_cons] at h
  split at h
  ·rcases List.mem_cons.1 h with rfl | h
   ·assumption
   ·exact fY c h
  ·cases h
theorem mG {p : Nat → Bool} : ∀ {l : List Nat} {c : Nat} {r : List Nat}, l.dropWhile p = c :: r → p c = false
 | x :: l, c, r, h => by
  rw [List.dropWhile_cons] at h
  split at h
  ·exact mG h
  ·rename_i hx
   cases h
   simpa using hx
theorem xV {c : Nat} {a r : List Nat} (h : ∀ x ∈ a, (x != c) = true) : cutAt c (a ++ r) = (a ++ (cutAt c r).1, (cutAt c r).2) := by
 unfold cutAt
 rw [jR h, nJ h, List.any_append]
 have : a.any (· == c) = false := List.any_eq_false.2 fun x hx => by simpa using h x hx
 rw [this]; rfl
theorem zO {c : Nat} {r : List Nat} : cutAt c (c :: r) = ([], r, true) := by
 simp [cutAt]
theorem Ck {c : Nat} : cutAt c [] = ([], [], false) := rfl
theorem va {c x : Nat} {r : List Nat} (h : x ≠ c) : cutAt c (x :: r) = (x :: (cutAt c r).1, (cutAt c r).2) := xV (a := [x]) (fun y hy => by simp at hy; subst hy; simpa using h)
theorem Il {a : List Nat} {x : Nat} {r : List Nat} (h : digit x = false) : whole (a ++ x :: r) = false := by
 unfold whole
 have : (a ++ x :: r).all digit = false := by simp [h]
 rw [this]; simp
theorem J0 (l : List Nat) : num l = Lv l := by
 have hd : l = l.takeWhile digit ++ l.dropWhile digit := (List.takeWhile_append_dropWhile).symm
 have ha : ∀ c ∈ l.takeWhile digit, digit c = true := fY
 unfold Lv
 generalize hA : l.takeWhile digit = a at hd ha ⊢
 generalize hR : l.dropWhile digit = r at hd ⊢
 have hr : ∀ c s, r = c :: s → digit c = false := fun c s h => mG (hR.trans h)
 subst hd
 have h1 : ∀ x ∈ a, (x != 101) = true := fun x hx => by have := cN.1 (ha x hx); simp; omega
 have h2 : ∀ x ∈ a, (x != 46) = true := fun x hx => by have := cN.1 (ha x hx); simp; omega
 unfold num
 simp only [xV h1, xV h2]
 match r, hr with
 | [], _ => simp [Ck, tc, tK]
 | c :: s, hr =>
  have hc := hr c s rfl
  by_cases h46 : c = 46
  ·subst h46
   rw [va (by decide : (46 : Nat) ≠ 101)]
   simp only [zO, tc, List.append_nil, Bool.not_true, Bool.false_or]
   congr 1
   have hd : s = s.takeWhile digit ++ s.dropWhile digit := (List.takeWhile_append_dropWhile).symm
   have hb : ∀ c ∈ s.takeWhile digit, digit c = true := fY
   generalize hB : s.takeWhile digit = b at hd hb ⊢
   generalize hT : s.dropWhile digit = t at hd ⊢
   have ht : ∀ c u, t = c :: u → digit c = false := fun c u h => mG (hT.trans h)
   subst hd
   have h3 : ∀ x ∈ b, (x != 101) = true := fun x hx => by have := cN.1 (hb x hx); simp; omega
   rw [xV h3]
   have hball : b.all digit = true := List.all_eq_true.2 hb
   match t, ht with
   | [], _ => simp [Ck, tK, hball]
   | e :: u, ht =>
    have he := ht e u rfl
    by_cases h101 : e = 101
    ·subst h101
     simp [zO, tK, hball]
    ·rw [va h101]
     have : tK (e :: u) = false := by
      unfold tK
      split
      ·rename_i h; cases h
      ·rename_i h; cases h; exact absurd rfl h101
      ·rfl
     rw [this]
     simp [he]
  ·by_cases h101 : c = 101
   ·subst h101
    simp [zO, Ck, tc, tK]
   ·have hf : tc (c :: s) = false := by
     unfold tc
     split
     ·rename_i h; cases h; exact absurd rfl h46
     ·unfold tK
      split
      ·rename_i h; cases h
      ·rename_i h; cases h; exact absurd rfl h101
      ·rfl
    rw [hf, va h101]
    simp only [va h46, Il hc, Bool.false_and, Bool.and_false]
end Pt
namespace Pt
abbrev Tok := Nat × List Nat
def one (l : List Nat) : Option Tok :=
 let c := l.getD 0 0
 if letter c || digit c then
  let t := l.take (Qd (digit c) 0 l)
  if digit c then some (2, t) else if plain t then some (1, t) else none
 else if Q5 l = [] then none else some (3, Q5 l)
def Qf : Nat → List Nat → Option (List Tok)
 | 0, _ => some []
 | _ + 1, [] => some []
 | f + 1, c :: r => if c = 35 then some [] else if c = 32 then Qf f r else match one (c :: r) with
  | none => none
  | some t => (Qf f ((c :: r).drop t.2.length)).map (t :: ·)
end Pt
namespace Pt
abbrev Nd := Int × Int × List Nat
def words : List (List Nat) := [[100, 101, 102], [118, 97, 114], [115, 113, 114, 116], [97, 98, 115], [109, 105, 110], [109, 97, 120]]
def jC (l : List Nat) : Bool := plain l && !decide (l ∈ words)
def J1 (l : List Nat) : Bool := num l && decide (l.length ≤ 60)
def dv : Nd → Int
 | (k, n, t) =>
  if k = 1 then (if n = 0 ∧ J1 t = true then 0 else -1)
  else if k = 2 then (if n = 0 ∧ jC t = true then 0 else -1)
  else if k = 3 ∨ k = 9 ∨ k = 10 then (if n = 0 ∧ t = [] then 1 else -1)
  else if k = 4 ∨ k = 5 ∨ k = 6 ∨ k = 7 ∨ k = 11 ∨ k = 12 then (if n = 0 ∧ t = [] then 2 else -1)
  else if k = 8 then (if 0 ≤ n ∧ n ≤ 8 ∧ t = [] then 1 else -1)
  else if k = 13 then (if 1 ≤ n ∧ n ≤ 6 ∧ jC t = true then n else -1)
  else -1
def level (k : Int) : Int := if k = 4 ∨ k = 5 then 1 else if k = 6 ∨ k = 7 then 2 else if k = 3 then 3 else if k = 8 then 4 else 5
theorem xg (x : Nd) : -1 ≤ dv x ∧ dv x ≤ 6 := by
 obtain ⟨k, n, t⟩ := x
 unfold dv
 simp only
 repeat' split
 all_goals omega
inductive Qz : List Nd → Prop
 | mk (ps : List (List Nd)) (x : Nd) : (∀ p ∈ ps, Qz p) → dv x = (ps.length : Int) → Qz (ps.flatten ++ [x])
theorem Qz.pos {l : List Nd} (h : Qz l) : 1 ≤ l.length := by
 cases h with
 | mk ps x _ _ => simp
def ends : Nat → List (List Nd) → List Nat
 | _, [] => []
 | a, p :: ps => (a + p.length - 1) :: ends (a + p.length) ps
def scan : Int → List Nd → Option Int
 | d, [] => some d
 | d, x :: r => if dv x < 0 ∨ d < dv x then none else scan (d - dv x + 1) r
def zP (l : List Nd) : Bool := decide (l.length ≤ 100) && decide (scan 0 l = some 1)
end Pt
namespace Go.Px.Seat
open Go Pm Pt
def idx (l : List Nat) (c : Nat) : Int := if c ∈ l then ((l.takeWhile (· != c)).length : Int) else -1
def re : cR aM.inl → Option (cR aM.BD) := fun q =>
 let s : ByteArray := q.1
 let t : ByteArray := q.2.1
 match pV t with
 | [c] => some (idx (pV s) c, ())
 | _ => none
def vb : cR cq.inl → Option (cR cq.BD) := fun q =>
 let s : ByteArray := q.1
 if 4000000 < s.size then none else match Lib.atoiAll s.data.toList with
  | .ok v => some ((v : Int), ((false : Bool), ()))
  | .range => some (Lib.atoiSat s.data.toList, ((true : Bool), ()))
  | _ => some ((0 : Int), ((true : Bool), ()))
noncomputable def xW : cR dk.inl → Option (cR dk.BD) := fun q =>
 let s : ByteArray := q.1
 if 4000000 < s.size then none else some (jC (pV s), ())
noncomputable def wj : aO.In → Option aO.Out := fun q => if List.length (α := ByteArray) q.1 ≤ 4000000 then some q else none
noncomputable def wm : aA.In → Option aA.Out := fun q => if List.length (α := Tn) q.1 ≤ 4000000 then some q else none
noncomputable def rN : av.In → Option av.Out := Gm ey fun q => q.1
noncomputable def rO : aw.In → Option aw.Out := Gm ey fun q => q.2.1
noncomputable def Nq {α : Type} (l : List α) (k : Int) : Option (List α × Unit) := if l = [] ∧ 0 ≤ k ∧ k ≤ 4000000 then some (l, ()) else none
noncomputable def zQ : aR.In → Option aR.Out := fun q => Nq (α := ByteArray) q.1 q.2.1
noncomputable def vc : ay.In → Option ay.Out := fun q => Nq (α := Tn) q.1 q.2.1
def bytesOf (l : List ByteArray) : List (List UInt8) := l.map fun s => s.data.toList
def ie (l : List (List UInt8)) : List ByteArray := l.map fun s => ⟨s.toArray⟩
def fW (l : List ByteArray) : List ByteArray := ie ((bytesOf l).mergeSort fun x y => decide (x ≤ y))
def k8 (l : List ByteArray) : List ByteArray := ie (Lib.compact (bytesOf l))
noncomputable def Ec (S : Mem ByteArray) (x : Hd) : Option (Mem ByteArray × Unit) :=
 if fI S x.1 = true ∧ x.2.1 = 0 ∧ x.2.2 = (ak S x.1).length ∧ (ak S x.1).length ≤ 4000000 then some (eY S (some (fW (ak S x.1))) x.1, ()) else none
noncomputable def Ed (S : Mem ByteArray) (x : Hd) : Option (Mem ByteArray × (List ByteArray × Unit)) :=
 if fI S x.1 = true ∧ x.2.1 = 0 ∧ x.2.2 = (ak S x.1).length ∧ (ak S x.1).length ≤ 4000000 then some (eY S none x.1, (k8 (ak S x.1), ())) else none
noncomputable def xX : aH.In → Option aH.Out := fun q => Ec q.1 q.2.1
noncomputable def xY : az.In → Option az.Out := fun q => Ed q.1 q.2.1
open Classical in
noncomputable def B0 : ax := fun f _ s =>
 if f = 207 then (if h : s = aM then h ▸ re else fun _ => none)
 else if f = 195 then (if h : s = cq then h ▸ vb else fun _ => none)
 else if f = 36 then (if h : s = dk then h ▸ xW else fun _ => none)
 else if f = 131 then (if h : s = aO then h ▸ wj else fun _ => none)
 else if f = 135 then (if h : s = aA then h ▸ wm else fun _ => none)
 else if f = 130 then (if h : s = av then h ▸ rN else fun _ => none)
 else if f = 133 then (if h : s = aw then h ▸ rO else fun _ => none)
 else if f = 107 then (if h : s = aR then h ▸ zQ else fun _ => none)
 else if f = 144 then (if h : s = ay then h ▸ vc else fun _ => none)
 else if f = 161 then (if h : s = aH then h ▸ xX else fun _ => none)
 else if f = 162 then (if h : s = az then h ▸ xY else fun _ => none) else fun _ => none
theorem Ee (key : List Nat) : B0 207 key aM = re := by
 unfold B0
 rw [if_pos rfl, dif_pos rfl]
theorem Ef {key : List Nat} {s : bh} (h : s ≠ aM) : B0 207 key s = fun _ => none := by
 unfold B0
 rw [if_pos rfl, dif_neg h]
theorem GM (key : List Nat) : B0 195 key cq = vb := by
 unfold B0
 rw [if_neg (by decide), if_pos rfl, dif_pos rfl]
theorem FP {key : List Nat} {s : bh} (h : s ≠ cq) : B0 195 key s = fun _ => none := by
 unfold B0
 rw [if_neg (by decide), if_pos rfl, dif_neg h]
theorem GN (key : List Nat) : B0 36 key dk = xW := by
 unfold B0
 rw [if_neg (by decide), if_neg (by decide), if_pos rfl, dif_pos rfl]
theorem FQ {key : List Nat} {s : bh} (h : s ≠ dk) : B0 36 key s = fun _ => none := by
 unfold B0
 rw [if_neg (by decide), if_neg (by decide), if_pos rfl, dif_neg h]
theorem Bc (key : List Nat) : B0 131 key aO = wj := by
 unfold B0
 rw [if_neg (by decide), if_neg (by decide), if_neg (by decide), if_pos rfl, dif_pos rfl]
theorem Cl {key : List Nat} {s : bh} (h : s ≠ aO) : B0 131 key s = fun _ => none := by
 unfold B0
 rw [if_neg (by decide), if_neg (by decide), if_neg (by decide), if_pos rfl, dif_neg h]
theorem Bd (key : List Nat) : B0 135 key aA = wm := by
 unfold B0
 rw [if_neg (by decide), if_neg (by decide), if_neg (by decide), if_neg (by decide), if_pos rfl, dif_pos rfl]
theorem Cm {key : List Nat} {s : bh} (h : s ≠ aA) : B0 135 key s = fun _ => none := by
 unfold B0
 rw [if_neg (by decide), if_neg (by decide), if_neg (by decide), if_neg (by decide), if_pos rfl, dif_neg h]
theorem Be (key : List Nat) : B0 130 key av = rN := by
 unfold B0
 rw [if_neg (by decide), if_neg (by decide), if_neg (by decide), if_neg (by decide), if_neg (by decide), if_pos rfl, dif_pos rfl]
theorem Cn {key : List Nat} {s : bh} (h : s ≠ av) : B0 130 key s = fun _ => none := by
 unfold B0
 rw [if_neg (by decide), if_neg (by decide), if_neg (by decide), if_neg (by decide), if_neg (by decide), if_pos rfl, dif_neg h]
theorem Bf (key : List Nat) : B0 133 key aw = rO := by
 unfold B0
 rw [if_neg (by decide), if_neg (by decide), if_neg (by decide), if_neg (by decide), if_neg (by decide), if_neg (by decide), if_pos rfl, dif_pos rfl]
theorem Co {key : List Nat} {s : bh} (h : s ≠ aw) : B0 133 key s = fun _ => none := by
 unfold B0
 rw [if_neg (by decide), if_neg (by decide), if_neg (by decide), if_neg (by decide), if_neg (by decide), if_neg (by decide), if_pos rfl, dif_neg h]
theorem J2 (key : List Nat) : B0 107 key aR = zQ := by
 unfold B0
 rw [if_neg (by decide), if_neg (by decide), if_neg (by decide), if_neg (by decide), if_neg (by decide), if_neg (by decide), if_neg (by decide), if_pos rfl, dif_pos rfl]
theorem Eg {key : List Nat} {s : bh} (h : s ≠ aR) : B0 107 key s = fun _ => none := by
 unfold B0
 rw [if_neg (by decide), if_neg (by decide), if_neg (by decide), if_neg (by decide), if_neg (by decide), if_neg (by decide), if_neg (by decide), if_pos rfl, dif_neg h]
theorem Eh (key : List Nat) : B0 144 key ay = vc := by
 unfold B0
 rw [if_neg (by decide), if_neg (by decide), if_neg (by decide), if_neg (by decide), if_neg (by decide), if_neg (by decide), if_neg (by decide), if_neg (by decide), if_pos rfl, dif_pos rfl]
theorem Ei {key : List Nat} {s : bh} (h : s ≠ ay) : B0 144 key s = fun _ => none := by
 unfold B0
 rw [if_neg (by decide), if_neg (by decide), if_neg (by decide), if_neg (by decide), if_neg (by decide), if_neg (by decide), if_neg (by decide), if_neg (by decide), if_pos rfl, dif_neg h]
theorem GO (key : List Nat) : B0 161 key aH = xX := by
 unfold B0
 rw [if_neg (by decide), if_neg (by decide), if_neg (by decide), if_neg (by decide), if_neg (by decide), if_neg (by decide), if_neg (by decide), if_neg (by decide), if_neg (by decide), if_pos rfl, dif_pos rfl]
theorem FR {key : List Nat} {s : bh} (h : s ≠ aH) : B0 161 key s = fun _ => none := by
 unfold B0
 rw [if_neg (by decide), if_neg (by decide), if_neg (by decide), if_neg (by decide), if_neg (by decide), if_neg (by decide), if_neg (by decide), if_neg (by decide), if_neg (by decide), if_pos rfl, dif_neg h]
theorem GP (key : List Nat) : B0 162 key az = xY := by
 unfold B0
 rw [if_neg (by decide), if_neg (by decide), if_neg (by decide), if_neg (by decide), if_neg (by decide), if_neg (by decide), if_neg (by decide), if_neg (by decide), if_neg (by decide), if_neg (by decide), if_pos rfl, dif_pos rfl]
theorem FT {key : List Nat} {s : bh} (h : s ≠ az) : B0 162 key s = fun _ => none := by
 unfold B0
 rw [if_neg (by decide), if_neg (by decide), if_neg (by decide), if_neg (by decide), if_neg (by decide), if_neg (by decide), if_neg (by decide), if_neg (by decide), if_neg (by decide), if_neg (by decide), if_pos rfl, dif_neg h]
theorem cz (n : Nat) : (C B0).run (n + 1) = (C B0).step ((C B0).run n) n := rfl
theorem Lw : Ev fun n => ∀ (l : List Nat) (c : Nat), Bl l → c < 256 → dL ((C B0).run n) (bs l) (bs [c]) = some (idx l c, ()) := by
 refine Ev.cU.succ fun n hn _ l c hl hc => ?_
 have e1 : dL ((C B0).run (n + 1)) (bs l) (bs [c]) = re (bs l, (bs [c], ())) := by
  rw [← Ee []]
  rfl
 rw [e1]
 unfold re
 simp only
 rw [rb (l := [c]) (fun x hx => by simp at hx; omega), rb hl]
 rfl
theorem vd : ∀ (l : List Nat) (acc : Nat), (∀ x ∈ l, digit x = true) → (acc + 1) * 10 ^ l.length ≤ 100000000 → Lib.parseUint10 acc (l.map UInt8.ofNat) = .ok (l.foldl (fun n c => n * 10 + (c - 48)) acc)
 | [], acc, _, _ => rfl
 | c :: r, acc, hd, hb => by
  have hc := cN.1 (hd c (List.mem_cons_self ..))
  have e1 : (UInt8.ofNat c).toNat = c := by
   rw [UInt8.toNat_ofNat']
   exact Nat.mod_eq_of_lt (by omega)
  have hp : 1 ≤ 10 ^ r.length := Nat.pow_pos (by decide)
  rw [List.length_cons, Nat.pow_succ] at hb
  have h1 : acc + 1 ≤ 100000000 := by
   refine Nat.le_trans ?_ hb
   exact Nat.le_mul_of_pos_right _ (by omega)
  have h2 : (acc * 10 + (c - 48) + 1) * 10 ^ r.length ≤ 100000000 := by
   refine Nat.le_trans (Nat.mul_le_mul_right _ (show acc * 10 + (c - 48) + 1 ≤ (acc + 1) * 10 by omega)) ?_
   rw [Nat.mul_assoc, Nat.mul_comm 10]
   exact hb
  rw [List.map_cons, Lib.parseUint10, e1, if_pos (by omega), if_neg (by omega), if_neg (by omega), List.foldl_cons]
  exact vd r _ (fun x hx => hd x (List.mem_cons_of_mem _ hx)) h2
theorem rf {l : List Nat} (h0 : l ≠ []) (h3 : l.length ≤ 3) (hd : ∀ x ∈ l, digit x = true) : Lib.atoiAll (l.map UInt8.ofNat) = .ok ((value l : Nat) : Int) := by
 match l, h0 with
 | c :: r, _ =>
  have hc := cN.1 (hd c (List.mem_cons_self ..))
  have e1 : (UInt8.ofNat c).toNat = c := by
   rw [UInt8.toNat_ofNat']
   exact Nat.mod_eq_of_lt (by omega)
  have hp : 10 ^ (c :: r).length ≤ 10 ^ 3 := Nat.pow_le_pow_right (by decide) h3
  have hm : Lib.parseMag ((c :: r).map UInt8.ofNat) = .ok (value (c :: r)) := by
   unfold Lib.parseMag
   rw [if_neg (by simp), vd (c :: r) 0 hd (by omega)]
   rfl
  have hv : value (c :: r) < 9223372036854775808 := by
   have : ∀ (l : List Nat) (acc : Nat), (∀ x ∈ l, digit x = true) → l.foldl (fun n c => n * 10 + (c - 48)) acc + 1 ≤ (acc + 1) * 10 ^ l.length := by
    intro l
    induction l with
    | nil => intro acc _; simp
    | cons x l ih =>
     intro acc h
     have hx := cN.1 (h x (List.mem_cons_self ..))
     rw [List.foldl_cons, List.length_cons, Nat.pow_succ]
     refine Nat.le_trans (ih _ fun y hy => h y (List.mem_cons_of_mem _ hy)) ?_
     rw [Nat.mul_comm (10 ^ l.length) 10, ← Nat.mul_assoc]
     exact Nat.mul_le_mul_right _ (by omega)
   have := this (c :: r) 0 hd
   have h4 : value (c :: r) + 1 ≤ (0 + 1) * 10 ^ (c :: r).length := this
   omega
  rw [List.map_cons] at hm ⊢
  unfold Lib.atoiAll
  simp only [e1]
  rw [if_neg (by omega), hm]
  simp only
  rw [if_neg (by omega), if_neg (by omega), if_neg (by omega)]
theorem Lx (l : List Nat) : (bs l).data.toList = l.map UInt8.ofNat := by simp [bs]
theorem Om : Ev fun n => ∀ l : List Nat, l.length ≤ 4000000 → ∃ (v : Int) (e : Bool), mr ((C B0).run n) (bs l) = some (v, (e, ())) ∧ (l ≠ [] → l.length ≤ 3 → (∀ x ∈ l, digit x = true) → v = (value l : Nat) ∧ e = false) := by
 refine Ev.cU.succ fun n hn _ l hl => ?_
 have e1 : mr ((C B0).run (n + 1)) (bs l) = vb (bs l, ()) := by
  rw [← GM []]
  rfl
 rw [e1]
 unfold vb
 simp only
 rw [if_neg (by rw [rM]; omega), Lx]
 rcases h : Lib.atoiAll (l.map UInt8.ofNat) with v | _ | _
 ·exact ⟨v, false, rfl, fun h0 h3 hd => by rw [rf h0 h3 hd] at h; cases h; exact ⟨rfl, rfl⟩⟩
 ·exact ⟨0, true, rfl, fun h0 h3 hd => by rw [rf h0 h3 hd] at h; cases h⟩
 ·exact ⟨_, true, rfl, fun h0 h3 hd => by rw [rf h0 h3 hd] at h; cases h⟩
theorem Ej : Ev fun n => ∀ l : List Nat, Bl l → l.length ≤ 4000000 → c8 ((C B0).run n) (bs l) = some (jC l, ()) := by
 refine Ev.cU.succ fun n hn _ l h1 h2 => ?_
 have e1 : c8 ((C B0).run (n + 1)) (bs l) = xW (bs l, ()) := by
  rw [← GN []]
  rfl
 rw [e1]
 unfold xW
 simp only
 rw [rM, if_neg (by omega), rb h1]
 rfl
theorem J3 : Ev fun n => ∀ l : List Tn, l.length ≤ 4000000 → bV ((C B0).run n) l = some (l, ()) := by
 refine Ev.cU.succ fun n hn _ l h => ?_
 have e1 : bV ((C B0).run (n + 1)) l = wm (l, ()) := by
  rw [← Bd []]
  rfl
 rw [e1]
 exact if_pos h
theorem J4 : Ev fun n => ∀ l : List ByteArray, l.length ≤ 4000000 → dK ((C B0).run n) l = some (l, ()) := by
 refine Ev.cU.succ fun n hn _ l h => ?_
 have e1 : dK ((C B0).run (n + 1)) l = wj (l, ()) := by
  rw [← Bc []]
  rfl
 rw [e1]
 exact if_pos h
theorem J5 : Ev fun n => ∀ (D : Mem Dh) (R : Mem Rh) (S : Mem ByteArray) (N : Mem Tn) (x : Hd), bH D x = true → (au D x).length ≤ 4000000 → bJ ((C B0).run n) D R S N x = some (D, (R, (S, (N, (au D x, ()))))) := by
 refine Ev.cU.succ fun n hn _ D R S N x h h' => ?_
 have e1 : bJ ((C B0).run (n + 1)) D R S N x = rN (D, (R, (S, (N, (x, ()))))) := by
  rw [← Be []]
  rfl
 rw [e1]
 exact if_pos ⟨h, h'⟩
theorem J6 : Ev fun n => ∀ (D : Mem Dh) (R : Mem Rh) (S : Mem ByteArray) (N : Mem Tn) (x : Hd), bH R x = true → (au R x).length ≤ 4000000 → bK ((C B0).run n) D R S N x = some (D, (R, (S, (N, (au R x, ()))))) := by
 refine Ev.cU.succ fun n hn _ D R S N x h h' => ?_
 have e1 : bK ((C B0).run (n + 1)) D R S N x = rO (D, (R, (S, (N, (x, ()))))) := by
  rw [← Bf []]
  rfl
 rw [e1]
 exact if_pos ⟨h, h'⟩
theorem Ly : Ev fun n => ∀ k : Int, 0 ≤ k → k ≤ 4000000 → bY ((C B0).run n) [] k = some ([], ()) := by
 refine Ev.cU.succ fun n hn _ k h h' => ?_
 have e1 : bY ((C B0).run (n + 1)) [] k = vc (([] : List Tn), (k, ())) := by
  rw [← Eh []]
  rfl
 rw [e1]
 exact if_pos ⟨rfl, h, h'⟩
theorem zR (zs : List (List UInt8)) : (Lib.compact zs).length ≤ zs.length := by
 unfold Lib.compact Lib.compactUpTo
 rw [List.length_map]
 exact Nat.le_trans (List.length_filter_le ..) (by simp)
theorem J7 {zs : List (List UInt8)} {x : List UInt8} : x ∈ Lib.compact zs ↔ x ∈ zs := by
 unfold Lib.compact Lib.compactUpTo
 simp only [List.mem_map, List.mem_filter, List.mem_range]
 constructor
 ·rintro ⟨j, ⟨hj, _⟩, rfl⟩
  have hj' : j < zs.toArray.size := by simpa using hj
  rw [getElem!_pos _ j hj']
  simp
 ·intro hx
  obtain ⟨j, hj, rfl⟩ := List.mem_iff_getElem.1 hx
  have : ∀ j (hj : j < zs.length), ∃ a, (a < zs.length ∧ Lib.keeps zs.toArray a = true) ∧ zs.toArray[a]! = zs[j] := by
   intro j
   induction j with
   | zero => exact fun hj => ⟨0, ⟨hj, by simp [Lib.keeps]⟩, by rw [getElem!_pos _ 0 (by simpa using hj)]; simp⟩
   | succ j ih =>
    intro hj
    by_cases hk : Lib.keeps zs.toArray (j + 1) = true
    ·exact ⟨j + 1, ⟨hj, hk⟩, by rw [getElem!_pos _ _ (by simpa using hj)]; simp⟩
    ·have he : zs.toArray[j + 1]! = zs.toArray[j]! := by
      simpa [Lib.keeps] using hk
     obtain ⟨a, h1, h2⟩ := ih (by omega)
     refine ⟨a, h1, h2.trans ?_⟩
     rw [getElem!_pos _ _ (by simpa using hj), getElem!_pos _ j (by simp; omega)] at he
     simpa using he.symm
  exact this j hj
theorem xi {l : List (List UInt8)} {s : ByteArray} : s ∈ ie l ↔ s.data.toList ∈ l := by
 unfold ie
 simp only [List.mem_map]
 constructor
 ·rintro ⟨x, hx, rfl⟩; simpa using hx
 ·intro h; exact ⟨_, h, by simp⟩
theorem xj {l : List ByteArray} {s : ByteArray} : s.data.toList ∈ bytesOf l ↔ s ∈ l := by
 unfold bytesOf
 simp only [List.mem_map]
 constructor
 ·rintro ⟨x, hx, h⟩
  have : x = s := by
   obtain ⟨⟨a⟩⟩ := x
   obtain ⟨⟨b⟩⟩ := s
   simp at h
   rw [h]
  rwa [← this]
 ·intro h; exact ⟨s, h, rfl⟩
theorem Im {l : List ByteArray} {s : ByteArray} : s ∈ fW l ↔ s ∈ l := by
 unfold fW
 rw [xi, List.mem_mergeSort, xj]
theorem Io {l : List ByteArray} {s : ByteArray} : s ∈ k8 l ↔ s ∈ l := by
 unfold k8
 rw [xi, J7, xj]
theorem wo (l : List ByteArray) : (fW l).length = l.length := by simp [fW, ie, bytesOf]
theorem On : Ev fun n => ∀ (S : Mem ByteArray) (l : List ByteArray), l.length ≤ 4000000 → db ((C B0).run n) (S ++ [some l]) (S.length + 1, (0, l.length)) = some (S ++ [some (fW l)], ()) := by
 refine Ev.cU.succ fun n hn _ S l h => ?_
 have e1 : db ((C B0).run (n + 1)) (S ++ [some l]) (S.length + 1, (0, l.length)) = xX (S ++ [some l], (((S.length + 1, (0, l.length)) : Hd), ())) := by
  rw [← GO []]
  rfl
 have e2 : ak (S ++ [some l]) (S.length + 1) = l := by simp [ak]
 have e3 : fI (S ++ [some l]) (S.length + 1) = true := by simp [fI]
 have e4 : eY (S ++ [some l]) (some (fW l)) (S.length + 1) = S ++ [some (fW l)] := by simp [eY]
 rw [e1]
 show Ec _ _ = _
 unfold Ec
 rw [if_pos ⟨e3, rfl, by rw [e2], by rw [e2]; exact h⟩]
 simp only [e2, e4]
theorem Ip : Ev fun n => ∀ (S : Mem ByteArray) (l : List ByteArray), l.length ≤ 4000000 → cC ((C B0).run n) (S ++ [some l]) (S.length + 1, (0, l.length)) = some (S ++ [none], (k8 l, ())) := by
 refine Ev.cU.succ fun n hn _ S l h => ?_
 have e1 : cC ((C B0).run (n + 1)) (S ++ [some l]) (S.length + 1, (0, l.length)) = xY (S ++ [some l], (((S.length + 1, (0, l.length)) : Hd), ())) := by
  rw [← GP []]
  rfl
 have e2 : ak (S ++ [some l]) (S.length + 1) = l := by simp [ak]
 have e3 : fI (S ++ [some l]) (S.length + 1) = true := by simp [fI]
 have e4 : eY (S ++ [some l]) none (S.length + 1) = S ++ [none] := by simp [eY]
 rw [e1]
 show Ed _ _ = _
 unfold Ed
 rw [if_pos ⟨e3, rfl, by rw [e2], by rw [e2]; exact h⟩]
 simp only [e2, e4]
end Go.Px.Seat
namespace Go.Px
open Go Pm Pt
theorem Qg {a b c : Nat} (ha : digit a = true) (hb : digit b = true) (hc : digit c = true) : (slt (bs [a, b, c]) (bs [52, 48, 48]) || seq (bs [a, b, c]) (bs [52, 48, 48])) = decide (value [a, b, c] ≤ 400) := by
 have ha := cN.1 ha
 have hb := cN.1 hb
 have hc := cN.1 hc
 have bl : Bl [a, b, c] := fun x hx => by simp at hx; omega
 have bl2 : Bl [52, 48, 48] := fun x hx => by simp at hx; omega
 rw [kM bl bl2]
 have e : ∀ x : Nat, x < 256 → (UInt8.ofNat x).toNat = x := fun x hx => by
  rw [UInt8.toNat_ofNat']
  exact Nat.mod_eq_of_lt hx
 have lt : ∀ x y : Nat, x < 256 → y < 256 → (decide (UInt8.ofNat x < UInt8.ofNat y) = decide (x < y)) := fun x y hx hy => by
  refine decide_eq_decide.2 ?_
  rw [UInt8.lt_iff_toNat_lt, e x hx, e y hy]
 have eq : ∀ x y : Nat, x < 256 → y < 256 → ((UInt8.ofNat x == UInt8.ofNat y) = decide (x = y)) := fun x y hx hy => by
  by_cases h : x = y
  ·subst h; simp
  ·rw [decide_eq_false h]
   have : UInt8.ofNat x ≠ UInt8.ofNat y := fun h' => h (by
    have := congrArg UInt8.toNat h'
    rwa [e x hx, e y hy] at this)
   simpa using this
 unfold slt
 rw [ByteArray.toList_eq, ByteArray.toList_eq]
 have l1 : ∀ l : List Nat, (bs l).data.toList = l.map UInt8.ofNat := fun l => by simp [bs]
 rw [l1, l1]
 simp only [List.map_cons, List.map_nil, Op.bytesLess]
 rw [lt a 52 (by omega) (by omega), lt b 48 (by omega) (by omega), lt c 48 (by omega) (by omega), eq a 52 (by omega) (by omega), eq b 48 (by omega) (by omega), eq c 48 (by omega) (by omega)]
 have hv : value [a, b, c] = ((a - 48) * 10 + (b - 48)) * 10 + (c - 48) := by simp [value]
 rw [hv]
 simp only [List.cons.injEq, and_true, Bool.and_false, Bool.or_false]
 rw [Bool.eq_iff_iff]
 simp only [Bool.or_eq_true, Bool.and_eq_true, decide_eq_true_eq]
 omega
def QK (m : Bool) (Q : List Nat) (k : Nat) : Bool :=
 !(decide (k = 0) || (decide (3 < k) || ((decide (Q.getD 0 0 = 48) && (decide (1 < k) || m)) || (decide (k = 3) && !(decide (value (Q.take 3) ≤ 400)))))) && decide (k = Q.length)
def Oo (m : Bool) (Q : List Nat) : Bool := QK m Q (Q.takeWhile digit).length
theorem LA {Q : List Nat} (h : (Q.takeWhile digit).length = Q.length) : Q.all digit = true := by
 have h1 : Q.takeWhile digit = Q := (List.takeWhile_sublist _).eq_of_length h
 rw [← h1]
 exact List.all_eq_true.2 fY
theorem Oq {Q : List Nat} (h : Q.all digit = true) : Q.takeWhile digit = Q := by
 have := jR (r := []) (List.all_eq_true.1 h)
 simpa using this
theorem Qh (m : Bool) (Q : List Nat) : Ik m Q = Oo m Q := by
 unfold Oo Ik QK
 cases ha : Q.all digit with
 | false =>
  have h1 : whole Q = false := by unfold whole; rw [ha]; simp
  have h2 : ¬ (Q.takeWhile digit).length = Q.length := fun h => by rw [LA h] at ha; cases ha
  rw [h1, decide_eq_false h2]
  simp
 | true =>
  rw [Oq ha]
  unfold whole
  rw [ha, decide_eq_true (rfl : Q.length = Q.length)]
  have hd := List.all_eq_true.1 ha
  match Q, hd with
  | [], _ => simp
  | [a], hd =>
   have h1 := cN.1 (hd a (by simp))
   rw [Bool.eq_iff_iff]
   cases m <;> simp [value] <;> omega
  | [a, b], hd =>
   have h1 := cN.1 (hd a (by simp))
   have h2 := cN.1 (hd b (by simp))
   rw [Bool.eq_iff_iff]
   cases m <;> simp [value] <;> omega
  | [a, b, c], hd =>
   have h1 := cN.1 (hd a (by simp))
   have h2 := cN.1 (hd b (by simp))
   have h3 := cN.1 (hd c (by simp))
   rw [Bool.eq_iff_iff]
   cases m <;> simp [value] <;> omega
  | a :: b :: c :: d :: r, _ =>
   simp
theorem Nr {P R : Type} {x : Option (R ⊕ P)} {f : P → Option R} {r : R} (Q : P → Prop) (hx : x = some (.inl r) ∨ ∃ p, x = some (.inr p) ∧ Q p) (hf : ∀ p, Q p → f p = some r) : jb x f = some r := by
 rcases hx with h | ⟨p, h, hq⟩
 ·rw [h]; rfl
 ·rw [h]; exact hf p hq
end Go.Px
namespace Go.Px
open Go Pm
def pY {R : Type} (x : Option R) (Q : R → Prop) : Prop := ∃ r, x = some r ∧ Q r
section
variable {R P α : Type} {Q : R → Prop}
theorem eo {r : R} (h : Q r) : pY (some r) Q := ⟨r, rfl, h⟩
theorem zS {x : Option α} {f : α → Option R} (I : α → Prop) (h : pY x I) (h' : ∀ a, I a → pY (f a) Q) : pY (x.bind f) Q := by
 obtain ⟨a, h1, h2⟩ := h
 rw [h1]; exact h' a h2
theorem kv {F : (P → Option R) → P → Option R} {n : Nat} {p : P} (I : P → Prop) (m : P → Nat) (hm : m p < n) (hI : I p)
  (step : ∀ rec p, I p → (∀ q, I q → m q < m p → pY (rec q) Q) → pY (F rec p) Q) : pY (iter F n p) Q :=
 GK I m Q step n p hm hI
theorem Ek {x : Option R} {Q' : R → Prop} (h : pY x Q) (hq : ∀ r, Q r → Q' r) : pY x Q' := let ⟨r, h1, h2⟩ := h; ⟨r, h1, hq r h2⟩
end
def K8 (k : Nat) (s : ByteArray) : Prop := ∃ l, s = bs l ∧ Bl l ∧ l.length ≤ k
theorem K8.mono {k k' : Nat} {s : ByteArray} (h : K8 k s) (hk : k ≤ k') : K8 k' s := let ⟨l, h1, h2, h3⟩ := h; ⟨l, h1, h2, Nat.le_trans h3 hk⟩
theorem K8.app {k k' : Nat} {s t : ByteArray} (h : K8 k s) (h' : K8 k' t) : K8 (k + k') (s ++ t) := by
 obtain ⟨l, rfl, h2, h3⟩ := h
 obtain ⟨l', rfl, h5, h6⟩ := h'
 exact ⟨l ++ l', Oi _ _, Ol.2 ⟨h2, h5⟩, by rw [List.length_append]; omega⟩
theorem K8.Lc {k k' : Nat} {s t : ByteArray} (h : K8 k s) (h' : K8 k' t) (hk : k + k' ≤ 140737488355328) : Lc s t = true := by
 obtain ⟨l, rfl, h2, h3⟩ := h
 obtain ⟨l', rfl, h5, h6⟩ := h'
 rw [Oj]
 exact decide_eq_true (by omega)
end Go.Px
