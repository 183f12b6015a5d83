/- Own texts, part M3: PvB PvC PvD PvE PvF. -/
import Derived.Test.YtmmggkldldbomaaGreatDoorM2
import Derived.Test.YtmmggkldldbomaaGreatDoorM1
set_option linter.unusedVariables false
namespace Go.Px.Seat
open Go Pm Pt
variable {B : ax}
noncomputable def QA (f : Nat) (k : Int) (out : ByteArray) : ByteArray := match f with
 | 0 => out
 | f + 1 => if 0 < k then QA f (k / 10) (oR [IntKind.wrap .u8 (48 + k % 10)] ++ out) else bs [109] ++ out
noncomputable def mt (k : Int) : ByteArray := if k ≤ 0 then bs [109, 48] else QA 64 k (bs [])
theorem FU (x : Int) : (oR [x]).size = 1 := by
 unfold oR
 simp [ByteArray.size_push]
theorem jD : Ev fun n => ∀ k : Int, k ≤ 1000000000000000000 → eQ ((C B).run n) k = some (mt k, ()) := by
 refine Ev.cU.succ fun n hn _ k hk => ?_
 rw [aa, Cb]
 unfold uS mt
 rw [bZ]
 by_cases h : k ≤ 0
 ·rw [decide_eq_true h, cond_true, if_pos h]
 ·rw [decide_eq_false h, cond_false, if_neg h]
  suffices hs : ∀ f n, f < n → ∀ (k : Int) (out : ByteArray), 0 ≤ k → k * 10 ^ out.size ≤ 1000000000000000000 → (k = 0 ∨ k < 10 ^ (f - 1)) → 1 ≤ f → out.size + f ≤ 64 → iter (P := (Int × ByteArray × ByteArray × Unit) × Unit) (fun rec ((k0, (out3, (t2, _))), _) =>
    bif (bS 0 k0) then
     ok (Lc (oR [(IntKind.wrap .u8 (aB .i64 48 (Ih .i64 k0 10)))]) out3) <|
     rec (((Lr .i64 k0 10), (((oR [(IntKind.wrap .u8 (aB .i64 48 (Ih .i64 k0 10)))]) ++ out3), (t2, ()))), ())
    else
    ok (Lc (bs [109]) out3) <|
    some (((bs [109]) ++ out3), ())) n ((k, (out, ((bs []), ()))), ()) = some (QA f k out, ()) by
   have h63 : k < 10 ^ (64 - 1) := by
    have h : (10 : Int) ^ (64 - 1) = 1000000000000000000000000000000000000000000000000000000000000000 := by decide
    rw [h]
    omega
   refine hs 64 n (by omega) k (bs []) (by omega) ?_ (.inr h63) (by decide) (by decide)
   show k * 10 ^ 0 ≤ _
   omega
  intro f
  induction f with
  | zero => intro n _ k out _ _ _ h1; omega
  | succ f ih =>
   intro n hfn k out hk0 hko hkf _ hof
   obtain ⟨m, rfl⟩ : ∃ m, n = m + 1 := ⟨n - 1, by omega⟩
   show (bif (bS 0 k) then _ else _) = _
   rw [ab, QA]
   have hob : out.size ≤ 63 := by omega
   by_cases h1 : 0 < k
   ·rw [decide_eq_true h1, cond_true, if_pos h1]
    have hkb : k ≤ 1000000000000000000 := by
     have : k * 1 ≤ k * 10 ^ out.size := Int.mul_le_mul_of_nonneg_left (by
      have := Int.pow_pos (m := out.size) (show (0 : Int) < 10 by decide)
      omega) hk0
     omega
    rw [Lt hk0, Ls hk0 (by omega) (by decide), ar (by omega) (by omega)]
    have hsz := FU (IntKind.wrap .u8 (48 + k % 10))
    rw [ah (by rw [Bt]; exact decide_eq_true (by omega))]
    have hsz2 : (oR [IntKind.wrap .u8 (48 + k % 10)] ++ out).size = out.size + 1 := by
     rw [ByteArray.size_append, hsz, Nat.add_comm]
    have hpos := Int.pow_pos (m := out.size) (show (0 : Int) < 10 by decide)
    have hf1 : 1 ≤ f := by
     rcases hkf with h | h
     ·omega
     ·rcases Nat.eq_zero_or_pos f with hf | hf
      ·subst hf
       simp at h
       omega
      ·exact hf
    refine ih m (by omega) _ _ (Int.ediv_nonneg hk0 (by decide)) ?_ ?_ hf1 (by omega)
    ·rw [hsz2, Int.pow_succ]
     have h2 : k / 10 * 10 ≤ k := Int.ediv_mul_le k (by decide)
     have h3 : k / 10 * (10 ^ out.size * 10) = (k / 10 * 10) * 10 ^ out.size := by
      rw [Int.mul_comm (10 ^ out.size) 10, ← Int.mul_assoc]
     rw [h3]
     exact Int.le_trans (Int.mul_le_mul_of_nonneg_right h2 (Int.le_of_lt hpos)) hko
    ·rcases hkf with h | h
     ·omega
     ·right
      obtain ⟨g, rfl⟩ : ∃ g, f = g + 1 := ⟨f - 1, by omega⟩
      simp only [Nat.add_sub_cancel] at h ⊢
      rw [Int.pow_succ] at h
      exact Int.ediv_lt_of_lt_mul (by decide) h
   ·rw [decide_eq_false h1, cond_false, if_neg h1, ah (by rw [Bt]; refine decide_eq_true ?_; rw [rM]; simp only [List.length_cons, List.length_nil]; omega)]
def tf {α β : Type} (f : Int → α → β) (c : α → Nat) : Int → List α → List β
 | _, [] => []
 | k, x :: l => f k x :: tf f c (k + c x) l
def dG {α : Type} (c : α → Nat) (l : List α) : Nat := (l.map c).sum
section
variable {α β : Type} {f : Int → α → β} {c : α → Nat}
theorem cB : ∀ {k : Int} {l : List α}, (tf f c k l).length = l.length
 | _, [] => rfl
 | _, _ :: l => by rw [tf, List.length_cons, cB, List.length_cons]
theorem gM : ∀ {k : Int} {l : List α} {i : Nat} {d : β} {e : α}, i < l.length → (tf f c k l).getD i d = f (k + dG c (l.take i)) (l.getD i e)
 | _, [], _, _, _, h => by simp at h
 | k, x :: l, 0, d, e, _ => by simp [tf, dG]
 | k, x :: l, i + 1, d, e, h => by
  rw [tf, List.getD_cons_succ, gM (e := e) (by simpa using h), List.getD_cons_succ]
  congr 1
  simp only [dG, List.take_succ_cons, List.map_cons, List.sum_cons]
  omega
theorem rQ {l : List α} {i : Nat} {e : α} (h : i < l.length) : dG c (l.take (i + 1)) = dG c (l.take i) + c (l.getD i e) := by
 unfold dG
 rw [List.take_add_one, List.map_append, List.sum_append, List.getElem?_eq_getElem h, List.getD_eq_getElem?_getD, List.getElem?_eq_getElem h]
 simp
theorem vi {l : List α} {i M : Nat} (h : ∀ x ∈ l, c x ≤ M) : dG c (l.take i) ≤ l.length * M := by
 have : ∀ (l : List α), (∀ x ∈ l, c x ≤ M) → (l.map c).sum ≤ l.length * M := by
  intro l
  induction l with
  | nil => intro _; simp
  | cons x l ih =>
   intro h
   rw [List.map_cons, List.sum_cons, List.length_cons, Nat.add_mul, Nat.one_mul, Nat.add_comm]
   exact Nat.add_le_add (ih fun y hy => h y (List.mem_cons_of_mem _ hy)) (h x (List.mem_cons_self ..))
 refine Nat.le_trans (this _ fun x hx => h x (List.mem_of_mem_take hx)) (Nat.mul_le_mul_right _ (by rw [List.length_take]; omega))
theorem Kj {l : List α} : dG c (l.take l.length) = dG c l := by rw [List.take_length]
theorem vj {l : List α} {m : Nat} : dG (fun _ : α => m) l = l.length * m := by
 unfold dG
 induction l with
 | nil => simp
 | cons x l ih => rw [List.map_cons, List.sum_cons, ih, List.length_cons, Nat.add_mul, Nat.one_mul, Nat.add_comm]
end
noncomputable abbrev vk (k : Int) (l : List ByteArray) : List ByteArray := tf (fun k _ => mt k) (fun _ => 1) k l
noncomputable abbrev nw (k : Int) (l : List Tn) : List Tn := tf (fun k _ => (k, (k + 1, (mt (k + 2), ())))) (fun _ => 3) k l
def jE (d : Df) : Nat := 1 + d.2.1.length + 3 * d.2.2.1.1.length
def oI (r : Rl) : Nat := 1 + 3 * r.2.1.1.length + 3 * r.2.2.1.1.length
noncomputable def GZ (k : Int) (d : Df) : Df := (mt k, (vk (k + 1) d.2.1, ((nw (k + 1 + d.2.1.length) d.2.2.1.1, ()), ())))
noncomputable def G0 (k : Int) (r : Rl) : Rl := (k, ((nw (k + 1) r.2.1.1, ()), ((nw (k + 1 + (3 * r.2.1.1.length : Nat)) r.2.2.1.1, ()), ())))
noncomputable abbrev gE (k : Int) (l : List Df) : List Df := tf GZ jE k l
noncomputable abbrev jF (k : Int) (l : List Rl) : List Rl := tf G0 oI k l
theorem oJ (a : ByteArray) : seq a a = true := by rw [Cj]; simp
theorem tg : Ev fun n => ∀ (l : List ByteArray) (k : Int), 0 ≤ k → k ≤ 100000000000000000 → l.length ≤ 1048576 → ia ((C B).run n) (vk k l) k = some (k + l.length, ()) := by
 refine (jD (B := B)).succ fun n hn km l k hk hk' hl => ?_
 rw [aa, xB]
 unfold pO
 refine aN (fun q => ∃ i : Nat, q = (((i : Int), (vk k l, (k + (i : Int), (0, ())))), ()) ∧ i ≤ l.length) (fun q => 1048577 - q.1.1.toNat) _ ?_ n _ (by simp only; omega) ⟨0, by simp, Nat.zero_le _⟩
 rintro rec _ ⟨i, rfl, hi⟩ ih
 dsimp only
 rw [aj, cB, ab]
 by_cases h1 : i < l.length
 ·rw [decide_eq_true (show (i : Int) < l.length by omega), cond_true, ah (ae (by omega) (by omega)), km _ (by omega), Int.toNat_natCast, gM (e := bs []) h1]
  have hc : dG (fun _ : ByteArray => 1) (l.take i) = i := by rw [vj, List.length_take]; omega
  simp only [Option.bind_some]
  rw [hc, oJ, Bool.not_true, cond_false, ar (by omega) (by omega), ar (by omega) (by omega)]
  exact ih _ ⟨i + 1, by simp [Int.add_assoc], by omega⟩ (by simp only; omega)
 ·rw [decide_eq_false (show ¬ (i : Int) < l.length by omega), cond_false]
  obtain rfl : i = l.length := by omega
  rfl
theorem pW : Ev fun n => ∀ (l : List Tn) (k : Int), 0 ≤ k → k ≤ 100000000000000000 → l.length ≤ 1048576 → eS ((C B).run n) (nw k l) k = some (k + (3 * l.length : Nat), ()) := by
 refine (jD (B := B)).succ fun n hn km l k hk hk' hl => ?_
 rw [aa, uZ]
 unfold nr
 refine aN (fun q => ∃ i : Nat, q = (((i : Int), (nw k l, (k + (3 * i : Nat), (0, ())))), ()) ∧ i ≤ l.length) (fun q => 1048577 - q.1.1.toNat) _ ?_ n _ (by simp only; omega) ⟨0, by simp, Nat.zero_le _⟩
 rintro rec _ ⟨i, rfl, hi⟩ ih
 dsimp only
 rw [aj, cB, ab]
 by_cases h1 : i < l.length
 ·have hc : dG (fun _ : Tn => 3) (l.take i) = 3 * i := by rw [vj, List.length_take]; omega
  rw [decide_eq_true (show (i : Int) < l.length by omega), cond_true, ah (ae (by omega) (by omega)), Int.toNat_natCast, gM (e := (0, (0, ((bs []), ())))) h1, hc]
  have hs : ∀ x : Int, (x != x) = false := fun x => by simp
  rw [ar (by omega) (by omega), hs, cond_false, ah (ae (by omega) (by omega)), hs, cond_false, ah (ae (by omega) (by omega)), ar (by omega) (by omega), show k + (3 * i : Nat) + 1 + 1 = k + (3 * i : Nat) + 2 by omega, km _ (by omega)]
  simp only [Option.bind_some]
  rw [oJ, Bool.not_true, cond_false, ar (by omega) (by omega), ar (by omega) (by omega)]
  exact ih _ ⟨i + 1, by simp; omega, by omega⟩ (by simp only; omega)
 ·rw [decide_eq_false (show ¬ (i : Int) < l.length by omega), cond_false]
  obtain rfl : i = l.length := by omega
  rfl
theorem CA {d : Df} (h : K9 1048576 d) : jE d ≤ 4194305 := by
 have h1 := h.2.1.1
 have h2 := h.2.2.1
 unfold jE
 omega
theorem G1 {r : Rl} (h : LI 1048576 r) : oI r ≤ 6291457 := by
 have h1 := h.1.1
 have h2 := h.2.1
 unfold oI
 omega
theorem zV : Ev fun n => ∀ (l : List Df) (k : Int), 0 ≤ k → k ≤ 10000000000000000 → mO 1048576 l → jv ((C B).run n) (gE k l) k = some (k + (dG jE l : Nat), ()) := by
 refine ((jD (B := B)).and ((tg (B := B)).and (pW (B := B)))).succ fun n hn ⟨km, ks, kt⟩ l k hk hk' hl => ?_
 rw [aa, v8]
 unfold oC
 have hl1 := hl.1
 refine aN (fun q => ∃ i : Nat, q = (((i : Int), (gE k l, (k + (dG jE (l.take i) : Nat), (0, ())))), ()) ∧ i ≤ l.length) (fun q => 1048577 - q.1.1.toNat) _ ?_ n _ (by simp only; omega) ⟨0, by simp [dG], Nat.zero_le _⟩
 rintro rec _ ⟨i, rfl, hi⟩ ih
 dsimp only
 rw [aj, cB, ab]
 by_cases h1 : i < l.length
 ·have hin : ((i : Int) < (l.length : Nat)) := by omega
  have hcb : dG jE (l.take i) ≤ 1048576 * 4194305 := Nat.le_trans (vi fun x hx => CA (hl.2 x hx)) (Nat.mul_le_mul_right _ hl1)
  have hsd := hl.2 _ (aZ (d := cg) h1)
  rw [decide_eq_true hin, cond_true, ah (ae (by omega) (by omega)), Int.toNat_natCast, gM (e := cg) h1]
  simp only [GZ]
  rw [km _ (by omega)]
  simp only [Option.bind_some]
  have hsl := hsd.2.1.1
  have hsn := hsd.2.2.1
  rw [oJ, Bool.not_true, cond_false, ah (ae (by omega) (by omega)), ar (by omega) (by omega), ks _ _ (by omega) (by omega) hsl]
  simp only [Option.bind_some]
  rw [ab, decide_eq_false (by omega), cond_false, ah (ae (by omega) (by omega)), kt _ _ (by omega) (by omega) hsn]
  simp only [Option.bind_some]
  rw [ab, decide_eq_false (by omega), cond_false, ar (by omega) (by omega)]
  refine ih _ ⟨i + 1, ?_, by omega⟩ (by simp only; omega)
  rw [rQ (e := cg) h1]
  simp only [jE]
  have : k + ((dG jE (l.take i) : Nat) : Int) + 1 + ((l.getD i cg).2.1.length : Nat) + ((3 * (l.getD i cg).2.2.1.1.length : Nat) : Int) = k + ((dG jE (l.take i) + (1 + (l.getD i cg).2.1.length + 3 * (l.getD i cg).2.2.1.1.length) : Nat) : Int) := by omega
  rw [this]
  rfl
 ·rw [decide_eq_false (show ¬ (i : Int) < l.length by omega), cond_false]
  obtain rfl : i = l.length := by omega
  rw [List.take_length]
theorem zW : Ev fun n => ∀ (l : List Rl) (k : Int), 0 ≤ k → k ≤ 10000000000000000 → pb 1048576 l → jw ((C B).run n) (jF k l) k = some (k + (dG oI l : Nat), ()) := by
 refine (pW (B := B)).succ fun n hn kt l k hk hk' hl => ?_
 rw [aa, wa]
 unfold oD
 have hl1 := hl.1
 refine aN (fun q => ∃ i : Nat, q = (((i : Int), (jF k l, (k + (dG oI (l.take i) : Nat), (0, ())))), ()) ∧ i ≤ l.length) (fun q => 1048577 - q.1.1.toNat) _ ?_ n _ (by simp only; omega) ⟨0, by simp [dG], Nat.zero_le _⟩
 rintro rec _ ⟨i, rfl, hi⟩ ih
 dsimp only
 rw [aj, cB, ab]
 by_cases h1 : i < l.length
 ·have hin : ((i : Int) < (l.length : Nat)) := by omega
  have hcb : dG oI (l.take i) ≤ 1048576 * 6291457 := Nat.le_trans (vi fun x hx => G1 (hl.2 x hx)) (Nat.mul_le_mul_right _ hl1)
  have hsd := hl.2 _ (aZ (d := dA) h1)
  rw [decide_eq_true hin, cond_true, ah (ae (by omega) (by omega)), Int.toNat_natCast, gM (e := dA) h1]
  simp only [G0]
  have hs : ∀ x : Int, (x != x) = false := fun x => by simp
  have hsl := hsd.1.1
  have hsn := hsd.2.1
  rw [hs, cond_false, ah (ae (by omega) (by omega)), ar (by omega) (by omega), kt _ _ (by omega) (by omega) hsl]
  simp only [Option.bind_some]
  rw [ab, decide_eq_false (by omega), cond_false, ah (ae (by omega) (by omega)), kt _ _ (by omega) (by omega) hsn]
  simp only [Option.bind_some]
  rw [ab, decide_eq_false (by omega), cond_false, ar (by omega) (by omega)]
  refine ih _ ⟨i + 1, ?_, by omega⟩ (by simp only; omega)
  rw [rQ (e := dA) h1]
  simp only [oI]
  have : k + ((dG oI (l.take i) : Nat) : Int) + 1 + ((3 * (l.getD i dA).2.1.1.length : Nat) : Int) + ((3 * (l.getD i dA).2.2.1.1.length : Nat) : Int) = k + ((dG oI (l.take i) + (1 + 3 * (l.getD i dA).2.1.1.length + 3 * (l.getD i dA).2.2.1.1.length) : Nat) : Int) := by omega
  rw [this]
  rfl
 ·rw [decide_eq_false (show ¬ (i : Int) < l.length by omega), cond_false]
  obtain rfl : i = l.length := by omega
  rw [List.take_length]
noncomputable def CB (D : List Df) : List Df := gE 1 D
noncomputable def Kk (D : List Df) (V : List ByteArray) : List ByteArray := vk (1 + (dG jE D : Nat)) V
noncomputable def Kl (D : List Df) (V : List ByteArray) (L : List Rl) : List Rl := jF (1 + (dG jE D : Nat) + V.length) L
def Eu (D : List Df) (V : List ByteArray) (L : List Rl) : Int := 1 + (dG jE D : Nat) + V.length + (dG oI L : Nat)
theorem Ew {D : List Df} (h : mO 1048576 D) : dG jE D ≤ 1048576 * 4194305 := by
 rw [← Kj]
 exact Nat.le_trans (vi fun x hx => CA (h.2 x hx)) (Nat.mul_le_mul_right _ h.1)
theorem FV : Ev fun n => ∀ (D : List Df) (V : List ByteArray) (L : List Rl), mO 1048576 D → Bi 1048576 V → pb 1048576 L → lv ((C B).run n) (CB D) (Kk D V) (Kl D V L) 1 = some (Eu D V L, ()) := by
 refine ((zV (B := B)).and ((tg (B := B)).and (zW (B := B)))).succ fun n hn ⟨kd, ks, kr⟩ D V L hD hV hL => ?_
 rw [aa, B6]
 unfold uN CB Kk Kl Eu
 have h1 := Ew hD
 have h2 := hV.1
 rw [kd _ _ (by omega) (by omega) hD]
 simp only [Option.bind_some]
 rw [ab, decide_eq_false (by omega), cond_false, ks _ _ (by omega) (by omega) h2]
 simp only [Option.bind_some]
 rw [ab, decide_eq_false (by omega), cond_false, kr _ _ (by omega) (by omega) hL]
 simp only [Option.bind_some]
 rw [ab, decide_eq_false (by omega), cond_false]
theorem eV (x : Int) : (x != x) = false := by simp
theorem x6 {α : Type} {d : α} {g : α → α → Option (Bool × Unit)} {l : List α} {n : Nat} (hn : 1152921504606846976 ≤ n) (hl : l.length ≤ 1048576) (h : ∀ x ∈ l, g x x = some (true, ())) :
  iter (P := (Int × List α × List α × Bool × Unit) × Unit) (fun rec ((i5, (a0, (b1, (t4, _)))), _) =>
   bif (bS i5 (len a0)) then
    ok (bQ i5 (len a0)) <|
    ok (bQ i5 (len b1)) <|
    (g (List.getD a0 (Int.toNat i5) d) (List.getD b1 (Int.toNat i5) d)).bind fun (r, _) =>
    bif (!r) then
     some (false, ())
    else
    rec (((aB .i64 i5 1), (a0, (b1, (t4, ())))), ())
   else
   some (true, ())) n ((0, (l, (l, (false, ())))), ()) = some (true, ()) := by
 refine aN (fun q => ∃ i : Nat, q = (((i : Int), (l, (l, (false, ())))), ()) ∧ i ≤ l.length) (fun q => 1048577 - q.1.1.toNat) _ ?_ n _ (by simp only; omega) ⟨0, rfl, Nat.zero_le _⟩
 rintro rec _ ⟨i, rfl, hi⟩ ih
 dsimp only
 rw [aj, ab]
 by_cases h1 : i < l.length
 ·rw [decide_eq_true (show (i : Int) < l.length by omega), cond_true, ah (ae (by omega) (by omega)), ah (ae (by omega) (by omega)), Int.toNat_natCast, h _ (aZ h1)]
  simp only [Option.bind_some]
  rw [Bool.not_true, cond_false, ar (by omega) (by omega)]
  exact ih _ ⟨i + 1, by simp, by omega⟩ (by simp only; omega)
 ·rw [decide_eq_false (show ¬ (i : Int) < l.length by omega), cond_false]
theorem xl : Ev fun n => ∀ l : List ByteArray, l.length ≤ 1048576 → jJ ((C B).run n) l l = some (true, ()) := by
 refine Ev.cU.succ fun n hn _ l hl => ?_
 rw [aa, As]
 unfold sY
 rw [eV, cond_false]
 refine Eq.trans ?_ (x6 (d := bs []) (g := fun x y => some (seq x y, ())) hn hl fun x _ => by rw [oJ])
 rfl
theorem CC : Ev fun n => ∀ x : Tn, iT ((C B).run n) x.1 x.2.1 x.2.2.1 x.1 x.2.1 x.2.2.1 = some (true, ()) := by
 refine Ev.cU.succ fun n hn _ x => ?_
 rw [aa, zL]
 unfold q8
 rw [eV, cond_false, eV, cond_false, oJ, Bool.not_true, cond_false]
theorem Ey : Ev fun n => ∀ l : List Tn, l.length ≤ 1048576 → mn ((C B).run n) l l = some (true, ()) := by
 have h1 : Ev fun n => ∀ l : List Tn, l.length ≤ 1048576 → kK ((C B).run n) l l = some (true, ()) := by
  refine (CC (B := B)).succ fun n hn k1 l hl => ?_
  rw [aa, xG]
  unfold pT
  rw [eV, cond_false]
  exact x6 (d := (0, (0, ((bs []), ())))) (g := fun (x y : Tn) => iT ((C B).run n) x.1 x.2.1 x.2.2.1 y.1 y.2.1 y.2.2.1) hn hl fun x _ => k1 x
 refine h1.succ fun n hn k1 l hl => ?_
 rw [aa, FN]
 unfold zu
 rw [k1 l hl]
 rfl
theorem CD : Ev fun n => ∀ l : List Df, mO 1048576 l → mf ((C B).run n) l l = some (true, ()) := by
 have h1 : Ev fun n => ∀ x : Df, K9 1048576 x → jN ((C B).run n) x.1 x.2.1 x.2.2.1.1 x.1 x.2.1 x.2.2.1.1 = some (true, ()) := by
  refine ((xl (B := B)).and (Ey (B := B))).succ fun n hn ⟨k1, k2⟩ x hx => ?_
  rw [aa, Ay]
  unfold s6
  rw [oJ, Bool.not_true, cond_false, k1 _ hx.2.1.1, k2 _ hx.2.2.1]
  rfl
 refine h1.succ fun n hn k1 l hl => ?_
 rw [aa, zC]
 unfold qT
 rw [eV, cond_false]
 exact x6 (d := cg) (g := fun (x y : Df) => jN ((C B).run n) x.1 x.2.1 x.2.2.1.1 y.1 y.2.1 y.2.2.1.1) hn hl.1 fun x hx => k1 x (hl.2 x hx)
theorem CE : Ev fun n => ∀ l : List Rl, pb 1048576 l → mg ((C B).run n) l l = some (true, ()) := by
 have h1 : Ev fun n => ∀ x : Rl, LI 1048576 x → jO ((C B).run n) x.1 x.2.1.1 x.2.2.1.1 x.1 x.2.1.1 x.2.2.1.1 = some (true, ()) := by
  refine (Ey (B := B)).succ fun n hn k2 x hx => ?_
  rw [aa, Az]
  unfold s7
  rw [eV, cond_false, k2 _ hx.1.1, k2 _ hx.2.1]
  rfl
 refine h1.succ fun n hn k1 l hl => ?_
 rw [aa, zD]
 unfold qU
 rw [eV, cond_false]
 exact x6 (d := dA) (g := fun (x y : Rl) => jO ((C B).run n) x.1 x.2.1.1 x.2.2.1.1 y.1 y.2.1.1 y.2.2.1.1) hn hl.1 fun x hx => k1 x (hl.2 x hx)
theorem Km : Ev fun n => ∀ (D : List Df) (V : List ByteArray) (L : List Rl), mO 1048576 D → Bi 1048576 V → pb 1048576 L → js ((C B).run n) D V L D V L = some (true, ()) := by
 refine ((CD (B := B)).and ((xl (B := B)).and (CE (B := B)))).succ fun n hn ⟨kd, ks, kr⟩ D V L hD hV hL => ?_
 rw [aa, FH]
 unfold zo
 rw [kd _ hD, ks _ hV.1, kr _ hL]
 rfl
end Go.Px.Seat
namespace Go.Px.Seat
open Go Pm Pt
variable {B : ax}
theorem jB {n m : Int} {k : Nat} (h : 0 ≤ n) (h' : n ≤ m) (h'' : m * k ≤ 140737488355328) : An n m k = true := by simp [An, h, h', h'']
section
variable {α : Type} {M X : Mem α} {k j : Nat} {l l' : List α} {x : Option (List α)}
theorem kN (h : M[k]? = some (some l)) : ak M (k + 1) = l := by
 simp only [ak, List.getD_eq_getElem?_getD, h, Option.getD_some]
theorem G2 (h : M[k]? = some (some l)) : fI M (k + 1) = true := by
 simp only [fI, List.getD_eq_getElem?_getD, h, Option.getD_some]
theorem pc (h : M[k]? = some (some l)) (hj : j < l.length) : dO M (k + 1) j = true := by
 unfold dO
 rw [G2 h, kN h, Bool.true_and]
 exact Nat.ble_eq.mpr hj
theorem zX (h : M[k]? = some (some l)) : bH M (k + 1, (0, l.length)) = true := by
 unfold bH
 rw [G2 h, kN h]
 simp
theorem Ou {n : Nat} {b : Nat} (h : M[k]? = some (some l)) : au M (k + 1, (b, n)) = (l.take (b + n)).drop b := by
 unfold au
 rw [kN h]
theorem tL (h : M[k]? = some (some l)) : au M (k + 1, (0, l.length)) = l := by
 rw [Ou h]
 simp
theorem kx (h : M[k]? = some (some l)) : k < M.length := by
 by_cases hk : k < M.length
 ·exact hk
 ·rw [List.getElem?_eq_none (by omega)] at h
  exact absurd h (by simp)
theorem zY (h : M[k]? = some (some l)) : (M ++ X)[k]? = some (some l) := by
 rw [List.getElem?_append_left (kx h)]; exact h
theorem ri : (M ++ [some l])[M.length]? = some (some l) := by simp
theorem wh (h : M[k]? = some (some l)) : (M.set k x)[k]? = some x := by
 rw [List.getElem?_set]
 simp [kx h]
theorem vl (h : k ≠ j) : (M.set k x)[j]? = M[j]? := by
 rw [List.getElem?_set, if_neg h]
theorem Ez : eY M x (k + 1) = M.set k x := rfl
end
def th {α : Type} (M : Mem α) (a : Nat) (l : List (List α)) : Prop := ∀ i, i < l.length → M[a + i]? = some (some (l.getD i []))
section
variable {α : Type} {M X : Mem α} {a : Nat} {l l' : List (List α)}
theorem rR (h : th M a l) : th (M ++ X) a l := fun i hi => zY (h i hi)
theorem kA {x : List α} : th M a (x :: l) ↔ M[a]? = some (some x) ∧ th M (a + 1) l := by
 constructor
 ·intro h
  refine ⟨by simpa using h 0 (by simp), fun i hi => ?_⟩
  have := h (i + 1) (by simpa using hi)
  rw [List.getD_cons_succ] at this
  rw [show a + 1 + i = a + (i + 1) by omega]
  exact this
 ·rintro ⟨h1, h2⟩ i hi
  cases i with
  | zero => simpa using h1
  | succ i =>
   rw [List.getD_cons_succ, show a + (i + 1) = a + 1 + i by omega]
   exact h2 i (by simpa using hi)
theorem rS : th (M ++ l.map some) M.length l := fun i hi => by
 rw [List.getElem?_append_right (by omega), Nat.add_sub_cancel_left, List.getElem?_map, List.getElem?_eq_getElem hi, List.getD_eq_getElem?_getD, List.getElem?_eq_getElem hi]
 rfl
theorem rT {i : Nat} {y : List α} (h : th M a l) (hi : i < l.length) : th (M.set (a + i) (some y)) a (l.set i y) := fun j hj => by
 rw [List.length_set] at hj
 by_cases hij : i = j
 ·subst hij
  rw [wh (h i hi)]
  simp [hi]
 ·rw [vl (by omega), h j hj]
  simp [hij]
theorem CF {k : Nat} {x : Option (List α)} (h : th M a l) (hk : k < a ∨ a + l.length ≤ k) : th (M.set k x) a l := fun j hj => by
 rw [vl (by omega), h j hj]
end
def mP (p n : Nat) : List Df → List Dh
 | [] => []
 | x :: l => (x.1, ((p + 1, (0, x.2.1.length)), (((n + 1, (0, x.2.2.1.1.length)), ()), ()))) :: mP (p + 1) (n + 1) l
def nN (n : Nat) : List Rl → List Rh
 | [] => []
 | x :: l => (x.1, (((n + 1, (0, x.2.1.1.length)), ()), (((n + 2, (0, x.2.2.1.1.length)), ()), ()))) :: nN (n + 2) l
def oK (l : List Df) : List (List ByteArray) := l.map fun x => x.2.1
def la (l : List Df) : List (List Tn) := l.map fun x => x.2.2.1.1
def oL (l : List Rl) : List (List Tn) := l.flatMap fun x => [x.2.1.1, x.2.2.1.1]
theorem lF : ∀ {p n : Nat} {l : List Df}, (mP p n l).length = l.length
 | _, _, [] => rfl
 | _, _, _ :: l => by rw [mP, List.length_cons, lF, List.length_cons]
theorem gN : ∀ {n : Nat} {l : List Rl}, (nN n l).length = l.length
 | _, [] => rfl
 | _, _ :: l => by rw [nN, List.length_cons, gN, List.length_cons]
theorem x7 : ∀ {p n : Nat} {l : List Df} {i : Nat} {d : Dh} {e : Df}, i < l.length → (mP p n l).getD i d = ((l.getD i e).1, ((p + i + 1, (0, (l.getD i e).2.1.length)), (((n + i + 1, (0, (l.getD i e).2.2.1.1.length)), ()), ())))
 | _, _, [], _, _, _, h => by simp at h
 | _, _, _ :: _, 0, _, _, _ => rfl
 | p, n, _ :: l, i + 1, d, e, h => by
  rw [mP, List.getD_cons_succ, x7 (e := e) (by simpa using h), List.getD_cons_succ, show p + 1 + i + 1 = p + (i + 1) + 1 by omega, show n + 1 + i + 1 = n + (i + 1) + 1 by omega]
theorem pd : ∀ {n : Nat} {l : List Rl} {i : Nat} {d : Rh} {e : Rl}, i < l.length → (nN n l).getD i d = ((l.getD i e).1, (((n + 2 * i + 1, (0, (l.getD i e).2.1.1.length)), ()), (((n + 2 * i + 2, (0, (l.getD i e).2.2.1.1.length)), ()), ())))
 | _, [], _, _, _, h => by simp at h
 | _, _ :: _, 0, _, _, _ => rfl
 | n, _ :: l, i + 1, d, e, h => by
  rw [nN, List.getD_cons_succ, pd (e := e) (by simpa using h), List.getD_cons_succ, show n + 2 + 2 * i + 1 = n + 2 * (i + 1) + 1 by omega, show n + 2 + 2 * i + 2 = n + 2 * (i + 1) + 2 by omega]
theorem G3 : ∀ {p n : Nat} {l l' : List Df}, mP p n (l ++ l') = mP p n l ++ mP (p + l.length) (n + l.length) l'
 | _, _, [], _ => rfl
 | p, n, x :: l, l' => by
  rw [List.cons_append, mP, G3, mP, List.cons_append, List.length_cons, show p + 1 + l.length = p + (l.length + 1) by omega, show n + 1 + l.length = n + (l.length + 1) by omega]
theorem G4 : ∀ {n : Nat} {l l' : List Rl}, nN n (l ++ l') = nN n l ++ nN (n + 2 * l.length) l'
 | _, [], _ => rfl
 | n, x :: l, l' => by
  rw [List.cons_append, nN, G4, nN, List.cons_append, List.length_cons, show n + 2 + 2 * l.length = n + 2 * (l.length + 1) by omega]
theorem fH : ∀ {l : List Rl}, (oL l).length = 2 * l.length
 | [] => rfl
 | x :: l => by
  show (([x.2.1.1, x.2.2.1.1] ++ oL l)).length = _
  rw [List.length_append, fH, List.length_cons, List.length_cons, List.length_cons, List.length_nil]
  omega
theorem rj {x : Rl} {l : List Rl} : oL (x :: l) = x.2.1.1 :: x.2.2.1.1 :: oL l := rfl
theorem LJ {l l' : List Rl} : oL (l ++ l') = oL l ++ oL l' := by simp [oL]
theorem LK {l l' : List Df} : oK (l ++ l') = oK l ++ oK l' := by simp [oK]
theorem LM {l l' : List Df} : la (l ++ l') = la l ++ la l' := by simp [la]
theorem rU {l : List Df} : (oK l).length = l.length := by simp [oK]
theorem jS {l : List Df} : (la l).length = l.length := by simp [la]
theorem Nv {S : Mem ByteArray} {N : Mem Tn} : ∀ {p n : Nat} {l : List Df}, th S p (oK l) → th N n (la l) →
  List.map (fun y => (y.1, ((List.map (fun y => y) (au S y.2.1)), (((List.map (iy) (au N y.2.2.1.1)), y.2.2.1.2), y.2.2.2)))) (mP p n l) = l
 | _, _, [], _, _ => rfl
 | p, n, x :: l, h1, h2 => by
  have h1 := kA.mp h1
  have h2 := kA.mp h2
  rw [mP, List.map_cons, Nv h1.2 h2.2]
  dsimp only
  rw [tL h1.1, tL h2.1]
  simp
theorem Nx {S : Mem ByteArray} {N : Mem Tn} : ∀ {p n : Nat} {l : List Df}, th S p (oK l) → th N n (la l) →
  (List.all (mP p n l) fun y => ((bH S y.2.1) && (((bH N y.2.2.1.1) && true) && true))) = true
 | _, _, [], _, _ => rfl
 | p, n, x :: l, h1, h2 => by
  have h1 := kA.mp h1
  have h2 := kA.mp h2
  rw [mP, List.all_cons, Nx h1.2 h2.2]
  dsimp only
  rw [zX h1.1, zX h2.1]
  rfl
theorem Ny {N : Mem Tn} : ∀ {n : Nat} {l : List Rl}, th N n (oL l) →
  List.map (fun y => (y.1, (((List.map (iy) (au N y.2.1.1)), y.2.1.2), (((List.map (iy) (au N y.2.2.1.1)), y.2.2.1.2), y.2.2.2)))) (nN n l) = l
 | _, [], _ => rfl
 | n, x :: l, h2 => by
  have h2 := kA.mp (rj ▸ h2)
  have h3 := kA.mp h2.2
  rw [nN, List.map_cons, Ny h3.2]
  dsimp only
  rw [tL h2.1, tL (k := n + 1) h3.1]
  simp
theorem Nz {N : Mem Tn} : ∀ {n : Nat} {l : List Rl}, th N n (oL l) →
  (List.all (nN n l) fun y => (((bH N y.2.1.1) && true) && (((bH N y.2.2.1.1) && true) && true))) = true
 | _, [], _ => rfl
 | n, x :: l, h2 => by
  have h2 := kA.mp (rj ▸ h2)
  have h3 := kA.mp h2.2
  rw [nN, List.all_cons, Nz h3.2]
  dsimp only
  rw [zX h2.1, zX (k := n + 1) h3.1]
  rfl
structure PA (D : Mem Dh) (R : Mem Rh) (S : Mem ByteArray) (N : Mem Tn) (d r p v n m : Nat) (X : List Df) (V : List ByteArray) (L : List Rl) : Prop where
 hD : D[d]? = some (some (mP p n X))
 hR : R[r]? = some (some (nN m L))
 hP : th S p (oK X)
 hV : S[v]? = some (some V)
 hB : th N n (la X)
 hN : th N m (oL L)
 LS : v < p ∨ p + X.length ≤ v
 oN : n + X.length ≤ m
abbrev H (k n : Nat) : Hd := (k + 1, (0, n))
section
variable {D D' : Mem Dh} {R R' : Mem Rh} {S S' : Mem ByteArray} {N N' : Mem Tn} {d r p v n m : Nat} {X : List Df} {V : List ByteArray} {L : List Rl}
theorem PA.app (h : PA D R S N d r p v n m X V L) : PA (D ++ D') (R ++ R') (S ++ S') (N ++ N') d r p v n m X V L :=
 ⟨zY h.hD, zY h.hR, rR h.hP, zY h.hV, rR h.hB, rR h.hN, h.LS, h.oN⟩
theorem PA.vD (h : PA D R S N d r p v n m X V L) : au D (H d X.length) = mP p n X := by
 have := tL h.hD
 rwa [lF] at this
theorem PA.vR (h : PA D R S N d r p v n m X V L) : au R (H r L.length) = nN m L := by
 have := tL h.hR
 rwa [gN] at this
theorem PA.ok (h : PA D R S N d r p v n m X V L) : (((bH D (H d X.length)) && (List.all (au D (H d X.length)) fun y => ((bH S y.2.1) && (((bH N y.2.2.1.1) && true) && true)))) && ((bH S (H v V.length)) && (((bH R (H r L.length)) && (List.all (au R (H r L.length)) fun y_1 => (((bH N y_1.2.1.1) && true) && (((bH N y_1.2.2.1.1) && true) && true)))) && true))) = true := by
 have h1 := zX h.hD
 have h2 := zX h.hR
 rw [lF] at h1
 rw [gN] at h2
 rw [h.vD, h.vR, Nx h.hP h.hB, Nz h.hN, zX h.hV, h1, h2]
 rfl
theorem PA.sD (h : PA D R S N d r p v n m X V L) : List.map (fun y => (y.1, ((List.map (fun y => y) (au S y.2.1)), (((List.map (iy) (au N y.2.2.1.1)), y.2.2.1.2), y.2.2.2)))) (au D (H d X.length)) = X := by
 rw [h.vD, Nv h.hP h.hB]
theorem PA.sV (h : PA D R S N d r p v n m X V L) : List.map (fun y => y) (au S (H v V.length)) = V := by
 rw [tL h.hV]; simp
theorem PA.sR (h : PA D R S N d r p v n m X V L) : List.map (fun y => (y.1, (((List.map (iy) (au N y.2.1.1)), y.2.1.2), (((List.map (iy) (au N y.2.2.1.1)), y.2.2.1.2), y.2.2.2)))) (au R (H r L.length)) = L := by
 rw [h.vR, Ny h.hN]
end
theorem vm {α : Type} {l : List α} {d e : α} {i : Nat} (h : i < l.length) : (l.take i ++ List.replicate (l.length - i) d).set i (l.getD i e) = l.take (i + 1) ++ List.replicate (l.length - (i + 1)) d := by
 obtain ⟨k, hk⟩ : ∃ k, l.length - i = k + 1 := ⟨l.length - i - 1, by omega⟩
 rw [hk, show l.length - (i + 1) = k by omega, List.replicate_succ, List.set_append_right _ _ (by rw [List.length_take]; omega), show i - (l.take i).length = 0 by rw [List.length_take]; omega, List.set_cons_zero, List.take_add_one, List.getElem?_eq_getElem h, List.getD_eq_getElem?_getD, List.getElem?_eq_getElem h, List.append_assoc]
 rfl
theorem vn {α : Type} {l : List α} {d : α} {i : Nat} (h : i ≤ l.length) : (l.take i ++ List.replicate (l.length - i) d).length = l.length := by
 rw [List.length_append, List.length_take, List.length_replicate]; omega
theorem xm : Ev fun n => ∀ (D : Mem Dh) (R : Mem Rh) (S : Mem ByteArray) (N : Mem Tn) (l : List ByteArray), l.length ≤ 1048576 →
  fF ((C B).run n) D R S N l = some (D, (R, (S ++ [some l], (N, (H S.length l.length, ()))))) := by
 refine Ev.cU.succ fun n hn _ D R S N l hl => ?_
 rw [aa, tF]
 unfold mw
 rw [ah (jB (by rw [aj]; omega) (Int.le_refl _) (by rw [aj]; omega))]
 refine aN (fun q => ∃ i : Nat, q = (((i : Int), (l, ((), ((), ())))), ((l.take i ++ List.replicate (l.length - i) (bs [])), (D, (R, (S, (N, ())))))) ∧ i ≤ l.length) (fun q => 1048577 - q.1.1.toNat) _ ?_ n _ (by simp only; omega) ⟨0, by rw [aj]; simp, Nat.zero_le _⟩
 rintro rec _ ⟨i, rfl, hi⟩ ih
 dsimp only
 rw [aj, aj, vn hi, ab]
 by_cases h1 : i < l.length
 ·rw [decide_eq_true (show (i : Int) < l.length by omega), cond_true, ah (ae (by omega) (by omega)), ah (ae (by omega) (by omega)), Int.toNat_natCast, vm h1, ar (by omega) (by omega)]
  exact ih _ ⟨i + 1, by simp, by omega⟩ (by simp only; omega)
 ·rw [decide_eq_false (show ¬ (i : Int) < l.length by omega), cond_false]
  obtain rfl : i = l.length := by omega
  simp
theorem EA : Ev fun n => ∀ (D : Mem Dh) (R : Mem Rh) (S : Mem ByteArray) (N : Mem Tn) (l : List Tn), l.length ≤ 1048576 →
  fP ((C B).run n) D R S N l = some (D, (R, (S, (N ++ [some l], (H N.length l.length, ()))))) := by
 have h0 : Ev fun n => ∀ x : Tn, mq ((C B).run n) x.1 x.2.1 x.2.2.1 = some x := by
  refine Ev.cU.succ fun n hn _ x => ?_
  rw [aa, zK]
  rfl
 have h1 : Ev fun n => ∀ (D : Mem Dh) (R : Mem Rh) (S : Mem ByteArray) (N : Mem Tn) (l : List Tn), l.length ≤ 1048576 →
   gB ((C B).run n) D R S N l = some (D, (R, (S, (N ++ [some l], (H N.length l.length, ()))))) := by
  refine h0.succ fun n hn h0 D R S N l hl => ?_
  rw [aa, ra]
  unfold kj
  rw [ah (jB (by rw [aj]; omega) (Int.le_refl _) (by rw [aj]; omega))]
  refine aN (fun q => ∃ i : Nat, q = (((i : Int), (l, ((), ((), ())))), ((l.take i ++ List.replicate (l.length - i) (0, (0, ((bs []), ())))), (D, (R, (S, (N, ())))))) ∧ i ≤ l.length) (fun q => 1048577 - q.1.1.toNat) _ ?_ n _ (by simp only; omega) ⟨0, by rw [aj]; simp, Nat.zero_le _⟩
  rintro rec _ ⟨i, rfl, hi⟩ ih
  dsimp only
  rw [aj, aj, vn hi, ab]
  by_cases h1 : i < l.length
  ·rw [decide_eq_true (show (i : Int) < l.length by omega), cond_true, ah (ae (by omega) (by omega)), Int.toNat_natCast, h0]
   simp only [Option.bind_some]
   rw [ah (ae (by omega) (by omega)), ar (by omega) (by omega)]
   have h2 := vm (d := (0, (0, ((bs []), ())))) (e := (0, (0, ((bs []), ())))) h1
   refine ih _ ⟨i + 1, ?_, by omega⟩ (by simp only; omega)
   rw [← h2]
   rfl
  ·rw [decide_eq_false (show ¬ (i : Int) < l.length by omega), cond_false]
   obtain rfl : i = l.length := by omega
   simp
 refine h1.succ fun n hn h1 D R S N l hl => ?_
 rw [aa, xE]
 unfold pR
 rw [h1 _ _ _ _ _ hl]
 rfl
theorem CG : Ev fun n => ∀ (D : Mem Dh) (R : Mem Rh) (S : Mem ByteArray) (N : Mem Tn) (l : List Df), mO 1048576 l →
  gW ((C B).run n) D R S N l = some (D ++ [some (mP S.length N.length l)], (R, (S ++ (oK l).map some, (N ++ (la l).map some, (H D.length l.length, ()))))) := by
 have h0 : Ev fun n => ∀ (D : Mem Dh) (R : Mem Rh) (S : Mem ByteArray) (N : Mem Tn) (x : Df), K9 1048576 x →
   iu ((C B).run n) D R S N x.1 x.2.1 x.2.2.1.1 = some (D, (R, (S ++ [some x.2.1], (N ++ [some x.2.2.1.1], (x.1, (H S.length x.2.1.length, (H N.length x.2.2.1.1.length, ()))))))) := by
  refine ((xm (B := B)).and (EA (B := B))).succ fun n hn ⟨k1, k2⟩ D R S N x hx => ?_
  rw [aa, tH]
  unfold mz
  rw [k1 _ _ _ _ _ hx.2.1.1]
  simp only [Option.bind_some]
  rw [k2 _ _ _ _ _ hx.2.2.1]
  rfl
 refine h0.succ fun n hn h0 D R S N l hl => ?_
 rw [aa, sg]
 unfold kX
 have hl1 := hl.1
 rw [ah (jB (by rw [aj]; omega) (Int.le_refl _) (by rw [aj]; omega))]
 refine aN (fun q => ∃ i : Nat, q = (((i : Int), (l, ((), ((), ())))), (((mP S.length N.length l).take i ++ List.replicate ((mP S.length N.length l).length - i) ox), (D, (R, (S ++ (oK (l.take i)).map some, (N ++ (la (l.take i)).map some, ())))))) ∧ i ≤ l.length) (fun q => 1048577 - q.1.1.toNat) _ ?_ n _ (by simp only; omega) ⟨0, by rw [aj, lF]; simp [oK, la], Nat.zero_le _⟩
 rintro rec _ ⟨i, rfl, hi⟩ ih
 dsimp only
 have hhl : (mP S.length N.length l).length = l.length := lF
 rw [aj, aj, vn (by omega), hhl, ab]
 by_cases h1 : i < l.length
 ·rw [decide_eq_true (show (i : Int) < l.length by omega), cond_true, ah (ae (by omega) (by omega)), Int.toNat_natCast, h0 _ _ _ _ _ (hl.2 _ (aZ h1))]
  simp only [Option.bind_some]
  rw [ah (ae (by omega) (by omega)), ar (by omega) (by omega)]
  have h2 := vm (l := mP S.length N.length l) (d := ox) (e := ox) (i := i) (by omega)
  rw [hhl, x7 (e := cg) h1] at h2
  refine ih _ ⟨i + 1, ?_, by omega⟩ (by simp only; omega)
  rw [hhl, ← h2]
  have ht : l.take (i + 1) = l.take i ++ [l.getD i cg] := by
   rw [List.take_add_one, List.getElem?_eq_getElem h1, List.getD_eq_getElem?_getD, List.getElem?_eq_getElem h1]
   rfl
  rw [ht, LK, LM]
  have e1 : (S ++ (oK (l.take i)).map some).length = S.length + i := by
   rw [List.length_append, List.length_map, rU, List.length_take]; omega
  have e2 : (N ++ (la (l.take i)).map some).length = N.length + i := by
   rw [List.length_append, List.length_map, jS, List.length_take]; omega
  rw [e1, e2]
  simp [oK, la, H]
 ·rw [decide_eq_false (show ¬ (i : Int) < l.length by omega), cond_false]
  obtain rfl : i = l.length := by omega
  rw [List.take_length]
  simp [hhl, List.take_of_length_le]
theorem CH : Ev fun n => ∀ (D : Mem Dh) (R : Mem Rh) (S : Mem ByteArray) (N : Mem Tn) (l : List Rl), pb 1048576 l →
  gX ((C B).run n) D R S N l = some (D, (R ++ [some (nN N.length l)], (S, (N ++ (oL l).map some, (H R.length l.length, ()))))) := by
 have h0 : Ev fun n => ∀ (D : Mem Dh) (R : Mem Rh) (S : Mem ByteArray) (N : Mem Tn) (x : Rl), LI 1048576 x →
   iv ((C B).run n) D R S N x.1 x.2.1.1 x.2.2.1.1 = some (D, (R, (S, (N ++ [some x.2.1.1, some x.2.2.1.1], (x.1, (H N.length x.2.1.1.length, (H (N.length + 1) x.2.2.1.1.length, ()))))))) := by
  refine (EA (B := B)).succ fun n hn k2 D R S N x hx => ?_
  rw [aa, tI]
  unfold mC
  rw [k2 _ _ _ _ _ hx.1.1]
  simp only [Option.bind_some]
  rw [k2 _ _ _ _ _ hx.2.1]
  simp
 refine h0.succ fun n hn h0 D R S N l hl => ?_
 rw [aa, sh]
 unfold kY
 have hl1 := hl.1
 rw [ah (jB (by rw [aj]; omega) (Int.le_refl _) (by rw [aj]; omega))]
 refine aN (fun q => ∃ i : Nat, q = (((i : Int), (l, ((), ((), ())))), (((nN N.length l).take i ++ List.replicate ((nN N.length l).length - i) kT), (D, (R, (S, (N ++ (oL (l.take i)).map some, ())))))) ∧ i ≤ l.length) (fun q => 1048577 - q.1.1.toNat) _ ?_ n _ (by simp only; omega) ⟨0, by rw [aj, gN]; simp [oL], Nat.zero_le _⟩
 rintro rec _ ⟨i, rfl, hi⟩ ih
 dsimp only
 have hhl : (nN N.length l).length = l.length := gN
 rw [aj, aj, vn (by omega), hhl, ab]
 by_cases h1 : i < l.length
 ·rw [decide_eq_true (show (i : Int) < l.length by omega), cond_true, ah (ae (by omega) (by omega)), Int.toNat_natCast, h0 _ _ _ _ _ (hl.2 _ (aZ h1))]
  simp only [Option.bind_some]
  rw [ah (ae (by omega) (by omega)), ar (by omega) (by omega)]
  have h2 := vm (l := nN N.length l) (d := kT) (e := kT) (i := i) (by omega)
  rw [hhl, pd (e := dA) h1] at h2
  refine ih _ ⟨i + 1, ?_, by omega⟩ (by simp only; omega)
  rw [hhl, ← h2]
  have ht : l.take (i + 1) = l.take i ++ [l.getD i dA] := by
   rw [List.take_add_one, List.getElem?_eq_getElem h1, List.getD_eq_getElem?_getD, List.getElem?_eq_getElem h1]
   rfl
  rw [ht, LJ]
  have e2 : (N ++ (oL (l.take i)).map some).length = N.length + 2 * i := by
   rw [List.length_append, List.length_map, fH, List.length_take]; omega
  rw [e2]
  simp [oL, H]
 ·rw [decide_eq_false (show ¬ (i : Int) < l.length by omega), cond_false]
  obtain rfl : i = l.length := by omega
  rw [List.take_length]
  simp [hhl, List.take_of_length_le]
theorem Kn : Ev fun n => ∀ (D : Mem Dh) (R : Mem Rh) (S : Mem ByteArray) (N : Mem Tn) (X : List Df) (V : List ByteArray) (L : List Rl), mO 1048576 X → Bi 1048576 V → pb 1048576 L →
  ∃ D' R' S' N', eI ((C B).run n) D R S N X V L = some (D ++ D', (R ++ R', (S ++ S', (N ++ N', (H D.length X.length, (H (S.length + X.length) V.length, (H R.length L.length, ()))))))) ∧
   PA (D ++ D') (R ++ R') (S ++ S') (N ++ N') D.length R.length S.length (S.length + X.length) N.length (N.length + X.length) X V L ∧
   (S ++ S').length = S.length + X.length + 1 ∧ (N ++ N').length = N.length + X.length + 2 * L.length := by
 refine ((CG (B := B)).and ((xm (B := B)).and (CH (B := B)))).succ fun n hn ⟨k1, k2, k3⟩ D R S N X V L hX hV hL => ?_
 rw [aa, xy]
 unfold pL
 rw [k1 _ _ _ _ _ hX]
 simp only [Option.bind_some]
 rw [k2 _ _ _ _ _ hV.1]
 simp only [Option.bind_some]
 rw [k3 _ _ _ _ _ hL]
 simp only [Option.bind_some]
 have e1 : (S ++ (oK X).map some).length = S.length + X.length := by rw [List.length_append, List.length_map, rU]
 have e2 : (N ++ (la X).map some).length = N.length + X.length := by rw [List.length_append, List.length_map, jS]
 refine ⟨[some (mP S.length N.length X)], [some (nN (N.length + X.length) L)], (oK X).map some ++ [some V], (la X).map some ++ (oL L).map some, by simp only [e1, e2, List.append_assoc], ⟨ri, ri, ?_, ?_, ?_, ?_, .inr (Nat.le_refl _), Nat.le_refl _⟩, ?_, ?_⟩
 ·rw [← List.append_assoc]; exact rR rS
 ·rw [← List.append_assoc, ← e1]; exact ri
 ·rw [← List.append_assoc]; exact rR rS
 ·rw [← List.append_assoc, ← e2]; exact rS
 ·rw [← List.append_assoc, List.length_append, e1]; rfl
 ·rw [← List.append_assoc, List.length_append, e2, List.length_map, fH]
end Go.Px.Seat
namespace Go.Px.Seat
open Go Pm Pt
variable {B : ax}
theorem oM {α : Type} {M : Mem α} {k : Nat} {l : List α} (h : M[k]? = some (some l)) : M.set k (some l) = M := by
 apply List.ext_getElem?
 intro j
 rw [List.getElem?_set]
 split
 ·next hj => subst hj; rw [if_pos (kx h), h]
 ·rfl
theorem jT {α : Type} {M : Mem α} {k : Nat} {l : List α} (h : k < M.length) : ak (M.set k (some l)) (k + 1) = l := kN (l := l) (by rw [List.getElem?_set]; simp [h])
theorem gO {α : Type} {M : Mem α} {k j : Nat} {l : List α} (h : k < M.length) (hj : j < l.length) : dO (M.set k (some l)) (k + 1) j = true := pc (l := l) (by rw [List.getElem?_set]; simp [h]) hj
theorem ja {α : Type} {l : List α} {i : Nat} {x d : α} (h : i < l.length) : (l.set i x).getD i d = x := by
 rw [List.getD_eq_getElem?_getD, List.getElem?_set]; simp [h]
theorem rk {α : Type} {M : Mem α} {k : Nat} {x y : Option (List α)} : eY (M.set k x) y (k + 1) = M.set k y := by rw [Ez, List.set_set]
def mix {α : Type} (l' l : List α) (i : Nat) : List α := l'.take i ++ l.drop i
section
variable {α : Type} {l' l : List α} {i : Nat} {e : α}
theorem ig (h : l'.length = l.length) : (mix l' l i).length = l.length := by
 unfold mix
 rw [List.length_append, List.length_take, List.length_drop]; omega
theorem ij (h : l'.length = l.length) (hi : i < l.length) : (mix l' l i).set i (l'.getD i e) = mix l' l (i + 1) := by
 unfold mix
 rw [List.set_append_right _ _ (by rw [List.length_take]; omega), show i - (l'.take i).length = 0 by rw [List.length_take]; omega, List.drop_eq_getElem_cons hi, List.set_cons_zero, List.take_add_one, List.getElem?_eq_getElem (by omega), List.getD_eq_getElem?_getD, List.getElem?_eq_getElem (by omega), List.append_assoc]
 rfl
theorem gP (h : l'.length = l.length) (hi : i < l.length) : (mix l' l i).getD i e = l.getD i e := by
 unfold mix
 rw [List.getD_eq_getElem?_getD, List.getElem?_append_right (by rw [List.length_take]; omega), show i - (l'.take i).length = 0 by rw [List.length_take]; omega, List.getElem?_drop, List.getD_eq_getElem?_getD, Nat.add_zero]
theorem eW : mix l' l 0 = l := by simp [mix]
theorem jc (h : l'.length = l.length) : mix l' l l.length = l' := by
 unfold mix
 rw [List.drop_length, List.append_nil, List.take_of_length_le (by omega)]
end
theorem tj : Ev fun n => ∀ (D : Mem Dh) (R : Mem Rh) (S : Mem ByteArray) (N : Mem Tn) (k : Nat) (l : List ByteArray) (c : Int), S[k]? = some (some l) → l.length ≤ 1048576 → 0 ≤ c → c ≤ 100000000000000000 →
  dE ((C B).run n) D R S N (H k l.length) c = some (D, (R, (S.set k (some (vk c l)), (N, (c + l.length, ()))))) := by
 refine (jD (B := B)).succ fun n hn km D R S N k l c hS hl hc hc' => ?_
 rw [aa, kq]
 unfold ke
 have hml : (vk c l).length = l.length := cB
 have hk := kx hS
 refine aN (fun q => ∃ i : Nat, q = (((i : Int), (H k l.length, (c + (i : Int), (0, ())))), (D, (R, (S.set k (some (mix (vk c l) l i)), (N, ()))))) ∧ i ≤ l.length) (fun q => 1048577 - q.1.1.toNat) _ ?_ n _ (by simp only; omega) ⟨0, by rw [eW, oM hS]; simp, Nat.zero_le _⟩
 rintro rec _ ⟨i, rfl, hi⟩ ih
 dsimp only
 rw [ab]
 by_cases h1 : i < l.length
 ·rw [decide_eq_true (show (i : Int) < l.length by omega), cond_true, km _ (by omega)]
  simp only [Option.bind_some]
  rw [ah (ae (by omega) (by omega)), Nat.zero_add, Int.toNat_natCast, ah (gO hk (by rw [ig hml]; exact h1)), jT hk, rk, ar (by omega) (by omega), ar (by omega) (by omega)]
  have h2 := ij (e := bs []) hml h1
  rw [gM (e := bs []) h1, vj, List.length_take, Nat.min_eq_left (by omega), Nat.mul_one] at h2
  rw [h2]
  exact ih _ ⟨i + 1, by simp [Int.add_assoc], by omega⟩ (by simp only; omega)
 ·rw [decide_eq_false (show ¬ (i : Int) < l.length by omega), cond_false]
  obtain rfl : i = l.length := by omega
  rw [jc hml]
theorem pX : Ev fun n => ∀ (D : Mem Dh) (R : Mem Rh) (S : Mem ByteArray) (N : Mem Tn) (k : Nat) (l : List Tn) (c : Int), N[k]? = some (some l) → l.length ≤ 1048576 → 0 ≤ c → c ≤ 100000000000000000 →
  cv ((C B).run n) D R S N (H k l.length) c = some (D, (R, (S, (N.set k (some (nw c l)), (c + (3 * l.length : Nat), ()))))) := by
 refine (jD (B := B)).succ fun n hn km D R S N k l c hS hl hc hc' => ?_
 rw [aa, pa]
 unfold iW
 have hml : (nw c l).length = l.length := cB
 have hk := kx hS
 refine aN (fun q => ∃ i : Nat, q = (((i : Int), (H k l.length, (c + (3 * i : Nat), (0, ())))), (D, (R, (S, (N.set k (some (mix (nw c l) l i)), ()))))) ∧ i ≤ l.length) (fun q => 1048577 - q.1.1.toNat) _ ?_ n _ (by simp only; omega) ⟨0, by rw [eW, oM hS]; simp, Nat.zero_le _⟩
 rintro rec _ ⟨i, rfl, hi⟩ ih
 dsimp only
 rw [ab]
 by_cases h1 : i < l.length
 ·have hil : i < (mix (nw c l) l i).length := by rw [ig hml]; exact h1
  rw [decide_eq_true (show (i : Int) < l.length by omega), cond_true, ah (ae (by omega) (by omega)), ah (by rw [Nat.zero_add, Int.toNat_natCast]; exact gO hk hil), ah (ae (by omega) (by omega))]
  have hl1 : ∀ x : Tn, i < ((mix (nw c l) l i).set i x).length := fun x => by rw [List.length_set]; exact hil
  simp only [Nat.zero_add, Int.toNat_natCast, jT hk, rk, List.set_set, ja hil, gO hk (hl1 _)]
  rw [ar (x := c + ((3 * i : Nat) : Int)) (by omega) (by omega), ar (by omega) (by omega), show c + ((3 * i : Nat) : Int) + 1 + 1 = c + ((3 * i : Nat) : Int) + 2 by omega, ah rfl, km _ (by omega)]
  simp only [Option.bind_some]
  rw [ah (ae (by omega) (by omega)), ah rfl, ar (by omega) (by omega), ar (by omega) (by omega)]
  have h2 := ij (e := (0, (0, ((bs []), ())))) hml h1
  rw [gM (e := (0, (0, ((bs []), ())))) h1, vj, List.length_take, Nat.min_eq_left (by omega), show i * 3 = 3 * i by omega] at h2
  rw [h2]
  exact ih _ ⟨i + 1, by simp; omega, by omega⟩ (by simp only; omega)
 ·rw [decide_eq_false (show ¬ (i : Int) < l.length by omega), cond_false]
  obtain rfl : i = l.length := by omega
  rw [jc hml]
theorem G5 : ∀ {p n : Nat} {l : List Df} {i : Nat} {x : Df}, mP p n (l.set i x) = (mP p n l).set i (x.1, ((p + i + 1, (0, x.2.1.length)), (((n + i + 1, (0, x.2.2.1.1.length)), ()), ())))
 | _, _, [], _, _ => rfl
 | _, _, _ :: _, 0, _ => rfl
 | p, n, y :: l, i + 1, x => by
  rw [List.set_cons_succ, mP, G5, mP, List.set_cons_succ, show p + 1 + i + 1 = p + (i + 1) + 1 by omega, show n + 1 + i + 1 = n + (i + 1) + 1 by omega]
theorem CI : ∀ {n : Nat} {l : List Rl} {i : Nat} {x : Rl}, nN n (l.set i x) = (nN n l).set i (x.1, (((n + 2 * i + 1, (0, x.2.1.1.length)), ()), (((n + 2 * i + 2, (0, x.2.2.1.1.length)), ()), ())))
 | _, [], _, _ => rfl
 | _, _ :: _, 0, _ => rfl
 | n, y :: l, i + 1, x => by
  rw [List.set_cons_succ, nN, CI, nN, List.set_cons_succ, show n + 2 + 2 * i + 1 = n + 2 * (i + 1) + 1 by omega, show n + 2 + 2 * i + 2 = n + 2 * (i + 1) + 2 by omega]
theorem LN {l : List Df} {i : Nat} {x : Df} : oK (l.set i x) = (oK l).set i x.2.1 := List.map_set
theorem LO {l : List Df} {i : Nat} {x : Df} : la (l.set i x) = (la l).set i x.2.2.1.1 := List.map_set
theorem CJ : ∀ {l : List Rl} {i : Nat} {x : Rl}, oL (l.set i x) = ((oL l).set (2 * i) x.2.1.1).set (2 * i + 1) x.2.2.1.1
 | [], _, _ => rfl
 | _ :: _, 0, _ => rfl
 | y :: l, i + 1, x => by
  rw [List.set_cons_succ, rj, CJ, rj, show 2 * (i + 1) = 2 * i + 1 + 1 by omega, List.set_cons_succ, List.set_cons_succ, List.set_cons_succ, List.set_cons_succ]
theorem LP {l : List Df} {i : Nat} {e : Df} (h : i < l.length) : (oK l).getD i [] = (l.getD i e).2.1 := by simp [oK, List.getD_eq_getElem?_getD, h]
theorem LQ {l : List Df} {i : Nat} {e : Df} (h : i < l.length) : (la l).getD i [] = (l.getD i e).2.2.1.1 := by simp [la, List.getD_eq_getElem?_getD, h]
theorem pf : ∀ {l : List Rl} {i : Nat} {e : Rl}, i < l.length → (oL l).getD (2 * i) [] = (l.getD i e).2.1.1 ∧ (oL l).getD (2 * i + 1) [] = (l.getD i e).2.2.1.1
 | [], _, _, h => by simp at h
 | _ :: _, 0, _, _ => ⟨rfl, rfl⟩
 | y :: l, i + 1, e, h => by
  rw [rj, show 2 * (i + 1) = 2 * i + 1 + 1 by omega]
  simp only [List.getD_cons_succ]
  exact pf (by simpa using h)
def Fr {α : Type} (a b : Nat) (M M' : Mem α) : Prop := M'.length = M.length ∧ ∀ k, (k < a ∨ b ≤ k) → M'[k]? = M[k]?
theorem CK {α : Type} {a b : Nat} {M : Mem α} : Fr a b M M := ⟨rfl, fun _ _ => rfl⟩
theorem CL {α : Type} {a b k : Nat} {M M' : Mem α} {x : Option (List α)} (h : Fr a b M M') (h1 : a ≤ k) (h2 : k < b) : Fr a b M (M'.set k x) :=
 ⟨by rw [List.length_set, h.1], fun j hj => by rw [vl (by omega), h.2 j hj]⟩
theorem Ko {α : Type} {a b p : Nat} {M M' : Mem α} {l : List (List α)} (h : Fr a b M M') (hs : th M p l) (hd : p + l.length ≤ a ∨ b ≤ p) : th M' p l := fun i hi => by
 rw [h.2 _ (by omega)]; exact hs i hi
theorem Rk {R α β : Type} {x : Option R} {f : α → β → R} {P : α → β → Prop} (h : pY x fun r => ∃ a b, r = f a b ∧ P a b) : ∃ a b, x = some (f a b) ∧ P a b := by
 obtain ⟨r, h1, a, b, rfl, h2⟩ := h
 exact ⟨a, b, h1, h2⟩
theorem Rm {R α : Type} {x : Option R} {f : α → R} {P : α → Prop} (h : pY x fun r => ∃ a, r = f a ∧ P a) : ∃ a, x = some (f a) ∧ P a := by
 obtain ⟨r, h1, a, rfl, h2⟩ := h
 exact ⟨a, h1, h2⟩
theorem zZ : Ev fun n => ∀ (D : Mem Dh) (R : Mem Rh) (S : Mem ByteArray) (N : Mem Tn) (d p m : Nat) (X : List Df) (c : Int), D[d]? = some (some (mP p m X)) → th S p (oK X) → th N m (la X) → mO 1048576 X → 0 ≤ c → c ≤ 10000000000000000 →
  ∃ S' N', ep ((C B).run n) D R S N (H d X.length) c = some (D.set d (some (mP p m (gE c X))), (R, (S', (N', (c + (dG jE X : Nat), ()))))) ∧
   th S' p (oK (gE c X)) ∧ th N' m (la (gE c X)) ∧ Fr p (p + X.length) S S' ∧ Fr m (m + X.length) N N' := by
 refine ((jD (B := B)).and ((tj (B := B)).and (pX (B := B)))).succ fun n hn ⟨km, ks, kt⟩ D R S N d p m X c hD hS hN hX hc hc' => ?_
 rw [aa, jl]
 unfold jj
 have hml : (gE c X).length = X.length := cB
 have hk := kx hD
 have hX1 := hX.1
 apply Rk
 refine kv (Q := fun r => ∃ S' N', r = (D.set d (some (mP p m (gE c X))), (R, (S', (N', (c + (dG jE X : Nat), ()))))) ∧ th S' p (oK (gE c X)) ∧ th N' m (la (gE c X)) ∧ Fr p (p + X.length) S S' ∧ Fr m (m + X.length) N N')
  (fun q => ∃ (i : Nat) (S' : Mem ByteArray) (N' : Mem Tn), q = (((i : Int), (H d X.length, (c + (dG jE (X.take i) : Nat), (0, ())))), (D.set d (some (mP p m (mix (gE c X) X i))), (R, (S', (N', ()))))) ∧ i ≤ X.length ∧ th S' p (oK (mix (gE c X) X i)) ∧ th N' m (la (mix (gE c X) X i)) ∧ Fr p (p + X.length) S S' ∧ Fr m (m + X.length) N N') (fun q => 1048577 - q.1.1.toNat) (by simp only; omega)
  ⟨0, S, N, by rw [eW, oM hD]; simp [dG], Nat.zero_le _, by rw [eW]; exact hS, by rw [eW]; exact hN, CK, CK⟩ ?_
 rintro rec _ ⟨i, S', N', rfl, hi, hS', hN', fS, fN⟩ ih
 dsimp only
 rw [ab]
 by_cases h1 : i < X.length
 ·have hil : i < (mix (gE c X) X i).length := by rw [ig hml]; exact h1
  have hih : i < (mP p m (mix (gE c X) X i)).length := by rw [lF]; exact hil
  have hcb : dG jE (X.take i) ≤ 1048576 * 4194305 := Nat.le_trans (vi fun x hx => CA (hX.2 x hx)) (Nat.mul_le_mul_right _ hX1)
  have hsd := hX.2 _ (aZ (d := cg) h1)
  have hsl := hsd.2.1.1
  have hsn := hsd.2.2.1
  rw [decide_eq_true (show (i : Int) < X.length by omega), cond_true, km _ (by omega)]
  simp only [Option.bind_some]
  have hih2 : ∀ x : Dh, i < ((mP p m (mix (gE c X) X i)).set i x).length := fun x => by rw [List.length_set]; exact hih
  rw [ah (ae (by omega) (by omega)), ah (by rw [Nat.zero_add, Int.toNat_natCast]; exact gO hk hih), ah (ae (by omega) (by omega))]
  simp only [Nat.zero_add, Int.toNat_natCast, jT hk, rk, ja hih, gO hk (hih2 _)]
  rw [ah rfl, x7 (e := cg) hil, gP hml h1, ar (by omega) (by omega)]
  dsimp only
  have hSi := hS' i (by rw [rU]; exact hil)
  have hNi := hN' i (by rw [jS]; exact hil)
  rw [LP (e := cg) hil, gP hml h1] at hSi
  rw [LQ (e := cg) hil, gP hml h1] at hNi
  rw [ks _ _ _ _ _ _ _ hSi hsl (by omega) (by omega)]
  simp only [Option.bind_some]
  rw [ah (ae (by omega) (by omega)), ah (gO hk (hih2 _)), jT hk, ja hih]
  dsimp only
  rw [kt _ _ _ _ _ _ _ hNi hsn (by omega) (by omega)]
  simp only [Option.bind_some]
  rw [ar (by omega) (by omega)]
  have hms := ij (e := cg) hml h1
  rw [gM (e := cg) h1] at hms
  refine ih _ ⟨i + 1, S'.set (p + i) (some (vk (c + (dG jE (X.take i) : Nat) + 1) (X.getD i cg).2.1)), N'.set (m + i) (some (nw (c + (dG jE (X.take i) : Nat) + 1 + ((X.getD i cg).2.1.length : Nat)) (X.getD i cg).2.2.1.1)), ?_, by omega, ?_, ?_, CL (k := p + i) fS (by omega) (by omega), CL (k := m + i) fN (by omega) (by omega)⟩ (by simp only; omega)
  ·rw [rQ (e := cg) h1, ← hms, G5]
   have e1 : ((i : Int) + 1) = ((i + 1 : Nat) : Int) := by omega
   have e2 : c + ((dG jE (X.take i) : Nat) : Int) + 1 + ((X.getD i cg).2.1.length : Nat) + ((3 * (X.getD i cg).2.2.1.1.length : Nat) : Int) = c + ((dG jE (X.take i) + jE (X.getD i cg) : Nat) : Int) := by
    unfold jE; omega
   rw [e1, e2]
   simp only [GZ, cB]
  ·rw [← hms, LN]
   exact rT hS' (by rw [rU]; exact hil)
  ·rw [← hms, LO]
   simp only [GZ]
   have e3 : c + ((dG jE (X.take i) : Nat) : Int) + 1 + ((X.getD i cg).2.1.length : Nat) = c + ((dG jE (X.take i) : Nat) : Int) + 1 + ((X.getD i cg).2.1.length : Int) := rfl
   exact rT hN' (by rw [jS]; exact hil)
 ·rw [decide_eq_false (show ¬ (i : Int) < X.length by omega), cond_false]
  obtain rfl : i = X.length := by omega
  rw [jc hml] at hS' hN' ⊢
  rw [List.take_length]
  exact eo ⟨S', N', rfl, hS', hN', fS, fN⟩
theorem z6 : Ev fun n => ∀ (D : Mem Dh) (R : Mem Rh) (S : Mem ByteArray) (N : Mem Tn) (r m : Nat) (X : List Rl) (c : Int), R[r]? = some (some (nN m X)) → th N m (oL X) → pb 1048576 X → 0 ≤ c → c ≤ 10000000000000000 →
  ∃ N', er ((C B).run n) D R S N (H r X.length) c = some (D, (R.set r (some (nN m (jF c X))), (S, (N', (c + (dG oI X : Nat), ()))))) ∧
   th N' m (oL (jF c X)) ∧ Fr m (m + 2 * X.length) N N' := by
 refine (pX (B := B)).succ fun n hn kt D R S N d m X c hD hN hX hc hc' => ?_
 rw [aa, jm]
 unfold jk
 have hml : (jF c X).length = X.length := cB
 have hk := kx hD
 have hX1 := hX.1
 apply Rm
 refine kv (Q := fun r => ∃ N', r = (D, (R.set d (some (nN m (jF c X))), (S, (N', (c + (dG oI X : Nat), ()))))) ∧ th N' m (oL (jF c X)) ∧ Fr m (m + 2 * X.length) N N')
  (fun q => ∃ (i : Nat) (N' : Mem Tn), q = (((i : Int), (H d X.length, (c + (dG oI (X.take i) : Nat), (0, ())))), (D, (R.set d (some (nN m (mix (jF c X) X i))), (S, (N', ()))))) ∧ i ≤ X.length ∧ th N' m (oL (mix (jF c X) X i)) ∧ Fr m (m + 2 * X.length) N N') (fun q => 1048577 - q.1.1.toNat) (by simp only; omega)
  ⟨0, N, by rw [eW, oM hD]; simp [dG], Nat.zero_le _, by rw [eW]; exact hN, CK⟩ ?_
 rintro rec _ ⟨i, N', rfl, hi, hN', fN⟩ ih
 dsimp only
 rw [ab]
 by_cases h1 : i < X.length
 ·have hil : i < (mix (jF c X) X i).length := by rw [ig hml]; exact h1
  have hih : i < (nN m (mix (jF c X) X i)).length := by rw [gN]; exact hil
  have hcb : dG oI (X.take i) ≤ 1048576 * 6291457 := Nat.le_trans (vi fun x hx => G1 (hX.2 x hx)) (Nat.mul_le_mul_right _ hX1)
  have hsd := hX.2 _ (aZ (d := dA) h1)
  have hsl := hsd.1.1
  have hsn := hsd.2.1
  have hih2 : ∀ x : Rh, i < ((nN m (mix (jF c X) X i)).set i x).length := fun x => by rw [List.length_set]; exact hih
  rw [decide_eq_true (show (i : Int) < X.length by omega), cond_true, ah (ae (by omega) (by omega)), ah (by rw [Nat.zero_add, Int.toNat_natCast]; exact gO hk hih), ah (ae (by omega) (by omega))]
  simp only [Nat.zero_add, Int.toNat_natCast, jT hk, rk, ja hih, gO hk (hih2 _)]
  rw [ah rfl, pd (e := dA) hil, gP hml h1, ar (by omega) (by omega)]
  dsimp only
  have hNi := hN' (2 * i) (by rw [fH]; omega)
  have hNj := hN' (2 * i + 1) (by rw [fH]; omega)
  rw [(pf (e := dA) hil).1, gP hml h1] at hNi
  rw [(pf (e := dA) hil).2, gP hml h1] at hNj
  rw [kt _ _ _ _ _ _ _ hNi hsl (by omega) (by omega)]
  simp only [Option.bind_some]
  rw [ah (ae (by omega) (by omega)), ah (gO hk (hih2 _)), jT hk, ja hih]
  dsimp only
  have kt2 : ∀ (D : Mem Dh) (R : Mem Rh) (S : Mem ByteArray) (N : Mem Tn) (l : List Tn) (c : Int), N[m + (2 * i + 1)]? = some (some l) → l.length ≤ 1048576 → 0 ≤ c → c ≤ 100000000000000000 →
    cv ((C B).run n) D R S N (m + 2 * i + 2, (0, l.length)) c = some (D, (R, (S, (N.set (m + (2 * i + 1)) (some (nw c l)), (c + (3 * l.length : Nat), ()))))) := fun D R S N l c => kt D R S N (m + (2 * i + 1)) l c
  rw [kt2 _ _ _ _ _ _ (by rw [vl (by omega)]; exact hNj) hsn (by omega) (by omega)]
  simp only [Option.bind_some]
  rw [ar (by omega) (by omega)]
  have hms := ij (e := dA) hml h1
  rw [gM (e := dA) h1] at hms
  refine ih _ ⟨i + 1, (N'.set (m + 2 * i) (some (nw (c + (dG oI (X.take i) : Nat) + 1) (X.getD i dA).2.1.1))).set (m + (2 * i + 1)) (some (nw (c + (dG oI (X.take i) : Nat) + 1 + ((3 * (X.getD i dA).2.1.1.length : Nat) : Int)) (X.getD i dA).2.2.1.1)), ?_, by omega, ?_, CL (k := m + (2 * i + 1)) (CL (k := m + 2 * i) fN (by omega) (by omega)) (by omega) (by omega)⟩ (by simp only; omega)
  ·rw [rQ (e := dA) h1, ← hms, CI]
   have e1 : ((i : Int) + 1) = ((i + 1 : Nat) : Int) := by omega
   have e2 : c + ((dG oI (X.take i) : Nat) : Int) + 1 + ((3 * (X.getD i dA).2.1.1.length : Nat) : Int) + ((3 * (X.getD i dA).2.2.1.1.length : Nat) : Int) = c + ((dG oI (X.take i) + oI (X.getD i dA) : Nat) : Int) := by
    unfold oI; omega
   rw [e1, e2]
   simp only [G0, cB]
  ·rw [← hms, CJ]
   simp only [G0]
   exact rT (i := 2 * i + 1) (rT hN' (by rw [fH]; omega)) (by rw [List.length_set, fH]; omega)
 ·rw [decide_eq_false (show ¬ (i : Int) < X.length by omega), cond_false]
  obtain rfl : i = X.length := by omega
  rw [jc hml] at hN' ⊢
  rw [List.take_length]
  exact eo ⟨N', rfl, hN', fN⟩
end Go.Px.Seat
namespace Go.Px.Seat
open Go Pm Pt
theorem EB {α : Type} {w : Nat} {g : Int → Option (List α × Unit)} (hg : ∀ k : Int, 0 ≤ k → k ≤ 4000000 → g k = some ([], ())) {n : Nat} (hn : 1152921504606846976 ≤ n) (hw : w ≤ 1000) {LL : List (List α)} (hL : LL.length ≤ 4000000) (hf : LL.flatten.length ≤ 4000000) :
 iter (P := (Int × Int × List (List α) × Int × List (List α) × Unit × Unit) × Unit) (fun rec ((t11, (t10, (t9, (size3, (slices0, (_, _)))))), _) =>
   bif (bS t11 t10) then
    jb (P := (Int × Int × List (List α) × Int × List (List α) × Unit × Unit) × Unit) (
      ok (bQ t11 (len t9)) <|
      bif (bS (aB .i64 size3 (len (List.getD t9 (Int.toNat t11) []))) 0) then
       none
      else
      some (.inr ((t11, (t10, (t9, ((aB .i64 size3 (len (List.getD t9 (Int.toNat t11) []))), (slices0, ((), ())))))), ()))) fun ((t11_1, (t10_1, (t9_1, (size3_1, (slices0_1, (_, _)))))), _) =>
    rec (((aB .i64 t11_1 1), (t10_1, (t9_1, (size3_1, (slices0_1, ((), ())))))), ())
   else
   (g size3).bind fun (r107_1, _) =>
   iter (P := (Int × Int × List (List α) × Unit × Unit × Unit) × List α × Unit) (fun rec_1 ((t27, (t26, (t25, (_, (_, _))))), (o0, _)) =>
     bif (bS t27 t26) then
      ok (bQ t27 (len t25)) <|
      ok (Di (o0 ++ (List.getD t25 (Int.toNat t27) [])) w) <|
      rec_1 (((aB .i64 t27 1), (t26, (t25, ((), ((), ()))))), ((o0 ++ (List.getD t25 (Int.toNat t27) [])), ()))
     else
     some (o0, ())) n ((0, ((len slices0), (slices0, ((), ((), ()))))), (r107_1, ()))) n ((0, ((len LL), (LL, (0, (LL, ((), ())))))), ()) = some (LL.flatten, ()) := by
 have hfl : ∀ i, (LL.take i).flatten.length ≤ LL.flatten.length := fun i => by
  have : LL.flatten = (LL.take i).flatten ++ (LL.drop i).flatten := by rw [← List.flatten_append, List.take_append_drop]
  rw [this, List.length_append]; omega
 have hst : ∀ i, i < LL.length → (LL.take (i + 1)).flatten = (LL.take i).flatten ++ LL.getD i [] := fun i hi => by
  rw [List.take_add_one, List.flatten_append, List.getElem?_eq_getElem hi, List.getD_eq_getElem?_getD, List.getElem?_eq_getElem hi]
  simp
 refine aN (fun q => ∃ i : Nat, q = (((i : Int), ((LL.length : Int), (LL, (((LL.take i).flatten.length : Int), (LL, ((), ())))))), ()) ∧ i ≤ LL.length) (fun q => 4000001 - q.1.1.toNat) _ ?_ n _ (by simp only; omega) ⟨0, by rw [aj]; simp, Nat.zero_le _⟩
 rintro rec _ ⟨i, rfl, hi⟩ ih
 dsimp only
 rw [ab]
 by_cases h1 : i < LL.length
 ·have h2 := hfl (i + 1)
  rw [hst i h1, List.length_append] at h2
  rw [decide_eq_true (show (i : Int) < LL.length by omega), cond_true, aj, ah (ae (by omega) (by omega)), Int.toNat_natCast, aj, ar (by omega) (by omega), ab, decide_eq_false (by omega), cond_false]
  show rec ((aB .i64 (i : Int) 1, ((LL.length : Int), (LL, ((((LL.take i).flatten.length : Nat) : Int) + (((LL.getD i []).length : Nat) : Int), (LL, ((), ())))))), ()) = _
  rw [ar (by omega) (by omega)]
  refine ih _ ⟨i + 1, ?_, by omega⟩ (by simp only; omega)
  rw [hst i h1, List.length_append]
  simp
 ·rw [decide_eq_false (show ¬ (i : Int) < LL.length by omega), cond_false]
  obtain rfl : i = LL.length := by omega
  rw [List.take_length, hg _ (by omega) (by omega)]
  simp only [Option.bind_some]
  refine aN (fun q => ∃ i : Nat, q = (((i : Int), ((LL.length : Int), (LL, ((), ((), ()))))), ((LL.take i).flatten, ())) ∧ i ≤ LL.length) (fun q => 4000001 - q.1.1.toNat) _ ?_ n _ (by simp only; omega) ⟨0, by rw [aj]; simp, Nat.zero_le _⟩
  rintro rec _ ⟨i, rfl, hi⟩ ih
  dsimp only
  rw [ab]
  by_cases h1 : i < LL.length
  ·have h2 := hfl (i + 1)
   rw [hst i h1] at h2
   rw [decide_eq_true (show (i : Int) < LL.length by omega), cond_true, aj, ah (ae (by omega) (by omega)), Int.toNat_natCast, ← hst i h1, ah (fV (Nat.le_trans (Nat.mul_le_mul (Nat.le_trans (hfl _) hf) hw) (by decide))), ar (by omega) (by omega)]
   exact ih _ ⟨i + 1, by simp, by omega⟩ (by simp only; omega)
  ·rw [decide_eq_false (show ¬ (i : Int) < LL.length by omega), cond_false]
   obtain rfl : i = LL.length := by omega
   rw [List.take_length]
theorem Iv : Ev fun n => ∀ LL : List (List Tn), LL.length ≤ 4000000 → LL.flatten.length ≤ 4000000 → bR ((C B0).run n) LL = some (LL.flatten, ()) := by
 refine Ly.succ fun n hn kg LL h1 h2 => ?_
 rw [aa, fA]
 exact EB kg hn (by decide) h1 h2
theorem G6 {α : Type} {R : Type} (l : List α) (f : List α → Option R) : (ok ((ba 0 (len l) (len l)) && (kG (len l) (len l))) <| f (List.drop (Int.toNat 0) (List.take (Int.toNat (len l)) l))) = f l := by
 rw [ah (by rw [aj, di (by omega) (by omega) (by omega), bZ]; simp), aj, Int.toNat_natCast, List.take_length]
 rfl
theorem G7 {B : ax} : Ev fun n => ∀ l : List ByteArray, cQ ((C B).run n) l = some (l, ()) := by
 refine Ev.cU.succ fun n hn _ l => ?_
 rw [aa, lB]
 exact G6 l fun l => some (l, ())
theorem LR {B : ax} : Ev fun n => ∀ l : List Tn, bX ((C B).run n) l = some (l, ()) := by
 refine Ev.cU.succ fun n hn _ l => ?_
 rw [aa, fU]
 exact G6 l fun l => some (l, ())
theorem Kp : Ev fun n => ∀ l : List ByteArray, l.length ≤ 4000000 → gK ((C B0).run n) l = some (l, ()) := by
 refine (J4.and (G7 (B := B0))).succ fun n hn ⟨k1, k2⟩ l hl => ?_
 rw [aa, wb]
 unfold oE
 rw [k1 l hl]
 simp only [Option.bind_some]
 rw [k2]
 rfl
theorem Kq : Ev fun n => ∀ l : List Tn, l.length ≤ 4000000 → cJ ((C B0).run n) l = some (l, ()) := by
 refine (J3.and (LR (B := B0))).succ fun n hn ⟨k1, k2⟩ l hl => ?_
 rw [aa, oH]
 unfold iz
 rw [k1 l hl]
 simp only [Option.bind_some]
 rw [k2]
 rfl
theorem Kr : Ev fun n => ∀ (D : Mem Dh) (R : Mem Rh) (S : Mem ByteArray) (N : Mem Tn) (x : Hd) (l : List Dh), bH D x = true → au D x = l → l.length ≤ 4000000 → dR ((C B0).run n) D R S N x = some (D ++ [some l], (R, (S, (N, (H D.length l.length, ()))))) := by
 have h0 : Ev fun n => ∀ (D : Mem Dh) (R : Mem Rh) (S : Mem ByteArray) (N : Mem Tn) (x : Hd), x.2.2 ≤ 4000000 → bO ((C B0).run n) D R S N x = some (D, (R, (S, (N, (x, ()))))) := by
  refine Ev.cU.succ fun n hn _ D R S N x hx => ?_
  rw [aa, fw]
  unfold cK
  rw [ah (by rw [di (by omega) (by omega) (by omega), bZ]; simp), Int.toNat_natCast]
 refine (J5.and h0).succ fun n hn ⟨k1, k2⟩ D R S N x l h1 h2 h3 => ?_
 subst h2
 rw [aa, lC]
 unfold gi
 rw [k1 D R S N x h1 h3]
 simp only [Option.bind_some]
 rw [k2 _ _ _ _ _ h3]
 rfl
theorem Ks : Ev fun n => ∀ (D : Mem Dh) (R : Mem Rh) (S : Mem ByteArray) (N : Mem Tn) (x : Hd) (l : List Rh), bH R x = true → au R x = l → l.length ≤ 4000000 → dS ((C B0).run n) D R S N x = some (D, (R ++ [some l], (S, (N, (H R.length l.length, ()))))) := by
 have h0 : Ev fun n => ∀ (D : Mem Dh) (R : Mem Rh) (S : Mem ByteArray) (N : Mem Tn) (x : Hd), x.2.2 ≤ 4000000 → bP ((C B0).run n) D R S N x = some (D, (R, (S, (N, (x, ()))))) := by
  refine Ev.cU.succ fun n hn _ D R S N x hx => ?_
  rw [aa, fx]
  unfold cM
  rw [ah (by rw [di (by omega) (by omega) (by omega), bZ]; simp), Int.toNat_natCast]
 refine (J6.and h0).succ fun n hn ⟨k1, k2⟩ D R S N x l h1 h2 h3 => ?_
 subst h2
 rw [aa, lE]
 unfold gj
 rw [k1 D R S N x h1 h3]
 simp only [Option.bind_some]
 rw [k2 _ _ _ _ _ h3]
 rfl
section
variable {α : Type} {M : Mem α} {l l' : List α} {j : Nat}
theorem uh : ak (M ++ [some l]) (M.length + 1) = l := kN ri
theorem Kt {x : Option (List α)} : eY (M ++ [some l]) x (M.length + 1) = M ++ [x] := by
 rw [Ez, List.set_append_right _ _ (Nat.le_refl _), Nat.sub_self]; rfl
theorem rV (h : j < l.length) : dO (M ++ [some l]) (M.length + 1) j = true := pc ri h
end
theorem EC {X : List Df} {i : Nat} (h : i < X.length) : oK (X.take (i + 1)) = oK (X.take i) ++ [(X.getD i cg).2.1] := by
 unfold oK
 rw [List.take_add_one, List.map_append, List.getElem?_eq_getElem h, List.getD_eq_getElem?_getD, List.getElem?_eq_getElem h]
 rfl
theorem ED {X : List Df} {i : Nat} (h : i < X.length) : la (X.take (i + 1)) = la (X.take i) ++ [(X.getD i cg).2.2.1.1] := by
 unfold la
 rw [List.take_add_one, List.map_append, List.getElem?_eq_getElem h, List.getD_eq_getElem?_getD, List.getElem?_eq_getElem h]
 rfl
theorem EE {X : List Rl} {i : Nat} (h : i < X.length) : oL (X.take (i + 1)) = oL (X.take i) ++ [(X.getD i dA).2.1.1, (X.getD i dA).2.2.1.1] := by
 unfold oL
 rw [List.take_add_one, List.flatMap_append, List.getElem?_eq_getElem h, List.getD_eq_getElem?_getD, List.getElem?_eq_getElem h]
 simp
theorem rW (l : List Tn) : List.map iy l = l := by simp
end Go.Px.Seat
namespace Go.Px.Seat
open Go Pm Pt
def Sm (X : List Df) (V : List ByteArray) (L : List Rl) : Prop := mO 1048576 X ∧ Bi 1048576 V ∧ pb 1048576 L
def Rn (k : Nat) (V : List ByteArray) : List ByteArray := V.drop k ++ V.take k
abbrev Code := List Df → List ByteArray → List Rl → Int
def QM (code : Code) (X : List Df) (V : List ByteArray) (L : List Rl) (k : Int) : Bool := decide (code X V L = 0) && (decide (0 ≤ k) && decide (k < V.length))
variable {code : Code}
section
variable {B : ax}
theorem Iw : Ev fun n => ∀ l : List ByteArray, l.length ≤ 4000000 → nj ((C B).run n) l = some (l, ()) := by
 refine Ev.cU.succ fun n hn _ l hl => ?_
 rw [aa, DY]
 unfold xa
 refine aN (fun q => ∃ i : Nat, q = (((i : Int), (l, ((), ((), ())))), (l.take i, ())) ∧ i ≤ l.length) (fun q => 4000001 - q.1.1.toNat) _ ?_ n _ (by simp only; omega) ⟨0, by simp, Nat.zero_le _⟩
 rintro rec _ ⟨i, rfl, hi⟩ ih
 dsimp only
 rw [aj, ab]
 by_cases h1 : i < l.length
 ·have ht : l.take i ++ [l.getD i (bs [])] = l.take (i + 1) := by
   rw [List.take_add_one, List.getElem?_eq_getElem h1, List.getD_eq_getElem?_getD, List.getElem?_eq_getElem h1]; rfl
  rw [decide_eq_true (show (i : Int) < l.length by omega), cond_true, ah (ae (by omega) (by omega)), Int.toNat_natCast, ht, ah (fV (by rw [List.length_take]; omega)), ar (by omega) (by omega)]
  exact ih _ ⟨i + 1, by simp, by omega⟩ (by simp only; omega)
 ·rw [decide_eq_false (show ¬ (i : Int) < l.length by omega), cond_false]
  obtain rfl : i = l.length := by omega
  rw [List.take_length]
theorem Ix : Ev fun n => ∀ l : List Tn, l.length ≤ 4000000 → j7 ((C B).run n) l = some (l, ()) := by
 refine Ev.cU.succ fun n hn _ l hl => ?_
 rw [aa, D0]
 unfold xc
 refine aN (fun q => ∃ i : Nat, q = (((i : Int), ((), ((), ((), ())))), ((l, ()), (((), ()), (((), ()), (l.take i, ()))))) ∧ i ≤ l.length) (fun q => 4000001 - q.1.1.toNat) _ ?_ n _ (by simp only; omega) ⟨0, by simp, Nat.zero_le _⟩
 rintro rec _ ⟨i, rfl, hi⟩ ih
 dsimp only
 rw [aj, ab]
 by_cases h1 : i < l.length
 ·have ht : l.take i ++ [((l.getD i (0, (0, ((bs []), ())))).1, ((l.getD i (0, (0, ((bs []), ())))).2.1, ((l.getD i (0, (0, ((bs []), ())))).2.2.1, ())))] = l.take (i + 1) := by
   rw [List.take_add_one, List.getElem?_eq_getElem h1, List.getD_eq_getElem?_getD, List.getElem?_eq_getElem h1]; rfl
  rw [decide_eq_true (show (i : Int) < l.length by omega), cond_true, ah (ae (by omega) (by omega)), Int.toNat_natCast, ht, ah (fV (by rw [List.length_take]; omega)), ar (by omega) (by omega)]
  exact ih _ ⟨i + 1, by simp, by omega⟩ (by simp only; omega)
 ·rw [decide_eq_false (show ¬ (i : Int) < l.length by omega), cond_false]
  obtain rfl : i = l.length := by omega
  rw [List.take_length]
end
def Rq (code : Code) (X : List Df) (V : List ByteArray) (L : List Rl) (k : Int) : List Df × (List ByteArray × (List Rl × (Bool × Unit))) :=
 bif QM code X V L k then (X, (Rn k.toNat V, (L, (true, ())))) else ([], ([], ([], (false, ()))))
def Ob (D : Mem Dh) (R : Mem Rh) (S : Mem ByteArray) (N : Mem Tn) (d0 r0 s0 n0 : Nat) (hd hv hr : Hd) (X : List Df) (V : List ByteArray) (L : List Rl) : Prop :=
 (∃ d r p v n m, hd = H d X.length ∧ hv = H v V.length ∧ hr = H r L.length ∧ PA D R S N d r p v n m X V L ∧ d0 ≤ d ∧ r0 ≤ r ∧ s0 ≤ p ∧ s0 ≤ v ∧ n0 ≤ n) ∨
 (hd = (0, (0, 0)) ∧ hv = (0, (0, 0)) ∧ hr = (0, (0, 0)) ∧ X = [] ∧ V = [] ∧ L = [])
section
variable {D D' : Mem Dh} {R R' : Mem Rh} {S S' : Mem ByteArray} {N N' : Mem Tn} {d0 r0 s0 n0 : Nat} {hd hv hr : Hd} {X : List Df} {V : List ByteArray} {L : List Rl}
theorem Ob.ok (h : Ob D R S N d0 r0 s0 n0 hd hv hr X V L) : (((bH D hd) && (List.all (au D hd) fun y => ((bH S y.2.1) && (((bH N y.2.2.1.1) && true) && true)))) && ((bH S hv) && (((bH R hr) && (List.all (au R hr) fun y_1 => (((bH N y_1.2.1.1) && true) && (((bH N y_1.2.2.1.1) && true) && true)))) && true))) = true := by
 rcases h with ⟨d, r, p, v, n, m, rfl, rfl, rfl, h, _⟩ | ⟨rfl, rfl, rfl, _⟩
 ·exact h.ok
 ·rfl
theorem Ob.sD (h : Ob D R S N d0 r0 s0 n0 hd hv hr X V L) : List.map (fun y => (y.1, ((List.map (fun y => y) (au S y.2.1)), (((List.map (iy) (au N y.2.2.1.1)), y.2.2.1.2), y.2.2.2)))) (au D hd) = X := by
 rcases h with ⟨d, r, p, v, n, m, rfl, rfl, rfl, h, _⟩ | ⟨rfl, rfl, rfl, rfl, _⟩
 ·exact h.sD
 ·rfl
theorem Ob.sV (h : Ob D R S N d0 r0 s0 n0 hd hv hr X V L) : List.map (fun y => y) (au S hv) = V := by
 rcases h with ⟨d, r, p, v, n, m, rfl, rfl, rfl, h, _⟩ | ⟨rfl, rfl, rfl, rfl, rfl, _⟩
 ·exact h.sV
 ·rfl
theorem Ob.sR (h : Ob D R S N d0 r0 s0 n0 hd hv hr X V L) : List.map (fun y => (y.1, (((List.map (iy) (au N y.2.1.1)), y.2.1.2), (((List.map (iy) (au N y.2.2.1.1)), y.2.2.1.2), y.2.2.2)))) (au R hr) = L := by
 rcases h with ⟨d, r, p, v, n, m, rfl, rfl, rfl, h, _⟩ | ⟨rfl, rfl, rfl, rfl, rfl, rfl⟩
 ·exact h.sR
 ·rfl
theorem Ob.app (h : Ob D R S N d0 r0 s0 n0 hd hv hr X V L) : Ob (D ++ D') (R ++ R') (S ++ S') (N ++ N') d0 r0 s0 n0 hd hv hr X V L := by
 rcases h with ⟨d, r, p, v, n, m, h1, h2, h3, h, h4⟩ | h
 ·exact .inl ⟨d, r, p, v, n, m, h1, h2, h3, h.app, h4⟩
 ·exact .inr h
theorem Ob.frame (h : Ob D R S N d0 r0 s0 n0 hd hv hr X V L) (fD : ∀ k, d0 ≤ k → D'[k]? = D[k]?) (fR : ∀ k, r0 ≤ k → R'[k]? = R[k]?) (fS : ∀ k, s0 ≤ k → S'[k]? = S[k]?) (fN : ∀ k, n0 ≤ k → N'[k]? = N[k]?) : Ob D' R' S' N' d0 r0 s0 n0 hd hv hr X V L := by
 rcases h with ⟨d, r, p, v, n, m, h1, h2, h3, h, h4, h5, h6, h7, h8⟩ | h
 ·have := h.oN
  refine .inl ⟨d, r, p, v, n, m, h1, h2, h3, ⟨?_, ?_, fun i hi => ?_, ?_, fun i hi => ?_, fun i hi => ?_, h.LS, h.oN⟩, h4, h5, h6, h7, h8⟩
  ·rw [fD _ h4]; exact h.hD
  ·rw [fR _ h5]; exact h.hR
  ·rw [fS _ (by omega)]; exact h.hP i hi
  ·rw [fS _ h7]; exact h.hV
  ·rw [fN _ (by omega)]; exact h.hB i hi
  ·rw [fN _ (by omega)]; exact h.hN i hi
 ·exact .inr h
end
theorem Iy {B : ax} : Ev fun n => ∀ (D : Mem Dh) (R : Mem Rh) (S : Mem ByteArray) (N : Mem Tn), dJ ((C B).run n) D R S N (0, (0, 0)) (0, (0, 0)) (0, (0, 0)) 1 = some (D, (R, (S, (N, (1, ()))))) := by
 have h0 : ∀ n : Nat, 1152921504606846976 ≤ n → ∃ m, n = m + 1 := fun n hn => ⟨n - 1, by omega⟩
 have h1 : Ev fun n => ∀ (D : Mem Dh) (R : Mem Rh) (S : Mem ByteArray) (N : Mem Tn), ep ((C B).run n) D R S N (0, (0, 0)) 1 = some (D, (R, (S, (N, (1, ()))))) := by
  refine Ev.cU.succ fun n hn _ D R S N => ?_
  rw [aa, jl]
  obtain ⟨m, rfl⟩ := h0 n hn
  rfl
 have h2 : Ev fun n => ∀ (D : Mem Dh) (R : Mem Rh) (S : Mem ByteArray) (N : Mem Tn), dE ((C B).run n) D R S N (0, (0, 0)) 1 = some (D, (R, (S, (N, (1, ()))))) := by
  refine Ev.cU.succ fun n hn _ D R S N => ?_
  rw [aa, kq]
  obtain ⟨m, rfl⟩ := h0 n hn
  rfl
 have h3 : Ev fun n => ∀ (D : Mem Dh) (R : Mem Rh) (S : Mem ByteArray) (N : Mem Tn), er ((C B).run n) D R S N (0, (0, 0)) 1 = some (D, (R, (S, (N, (1, ()))))) := by
  refine Ev.cU.succ fun n hn _ D R S N => ?_
  rw [aa, jm]
  obtain ⟨m, rfl⟩ := h0 n hn
  rfl
 refine (h1.and (h2.and h3)).succ fun n hn ⟨k1, k2, k3⟩ D R S N => ?_
 rw [aa, nu]
 unfold iV
 rw [k1]
 simp only [Option.bind_some]
 rw [k2]
 simp only [Option.bind_some]
 rw [k3]
 rfl
end Go.Px.Seat
