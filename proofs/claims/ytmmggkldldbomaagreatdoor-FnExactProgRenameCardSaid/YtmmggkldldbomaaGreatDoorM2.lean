/- Own texts, part M2: PtN PzA PvA. -/
import Derived.Test.YtmmggkldldbomaaGreatDoorM1
import Derived.Test.YtmmggkldldbomaaGreatDoorA5
import Derived.WideShapes
import Derived.ChangeArms
import Derived.ChangeOld
set_option linter.unusedVariables false
namespace Go.Px.Seat
open Go Pm Pt
theorem wq {a b : Bool} : jb (P := (((Bool × Unit)) × Unit)) (R := Bool × Unit) (bif a then some (.inr ((b, ()), ())) else some (.inr ((false, ()), ()))) (fun ((t, _), _) => some (t, ())) = some (a && b, ()) := by cases a <;> rfl
theorem El : Ev fun n => ∀ c : Nat, jP ((C B0).run n) (c : Int) = some (letter c, ()) := by
 refine Ev.cU.succ fun n hn _ c => ?_
 rw [cz, AB]
 refine wq.trans ?_
 unfold letter
 rw [bZ, bZ, decide_eq_decide.2 (show (97 : Int) ≤ c ↔ 97 ≤ c by omega), decide_eq_decide.2 (show (c : Int) ≤ 122 ↔ c ≤ 122 by omega)]
theorem zT : Ev fun n => ∀ c : Nat, ly ((C B0).run n) (c : Int) = some (digit c, ()) := by
 refine Ev.cU.succ fun n hn _ c => ?_
 rw [cz, Cf]
 refine wq.trans ?_
 unfold digit
 rw [bZ, bZ, decide_eq_decide.2 (show (48 : Int) ≤ c ↔ 48 ≤ c by omega), decide_eq_decide.2 (show (c : Int) ≤ 57 ↔ c ≤ 57 by omega)]
theorem QL : Ev fun n => ∀ x a b : Int, tE ((C B0).run n) x a b = some (decide (a ≤ x) && decide (x ≤ b), ()) := by
 refine Ev.cU.succ fun n hn _ x a b => ?_
 rw [cz, JX]
 exact wq
def pre (p l : List Nat) : Bool := decide (l.take p.length = p)
theorem Cp : Ev fun n => ∀ l p : List Nat, Bl l → Bl p → de ((C B0).run n) (bs l) (bs p) = some (pre p l, ()) := by
 refine Ev.cU.succ fun n hn _ l p hl hp => ?_
 rw [cz, iY]
 unfold eU pre
 rw [dD, dD, bZ]
 by_cases h : p.length ≤ l.length
 ·rw [decide_eq_true (show (p.length : Int) ≤ l.length by omega)]
  refine Eq.trans (iZ (p := ((decide (l.take p.length = p), ()), ())) ?_ _) rfl
  simp only [cond_true]
  rw [ah (di (by omega) (by omega) (by omega)), Int.toNat_natCast, zN, kM (GL (Lu hl _) _) hp]
  rfl
 ·rw [decide_eq_false (show ¬ (p.length : Int) ≤ l.length by omega)]
  have : ¬ l.take p.length = p := fun h' => h (by
   have := congrArg List.length h'
   rw [List.length_take] at this
   omega)
  rw [decide_eq_false this]
  rfl
theorem Cq : Ev fun n => ∀ l p : List Nat, Bl l → Bl p → dc ((C B0).run n) (bs l) (bs p) = some (if pre p l = true then (bs (l.drop p.length), (true, ())) else (bs l, (false, ()))) := by
 refine Cp.succ fun n hn h l p hl hp => ?_
 rw [cz, iX]
 unfold eT
 rw [h l p hl hp]
 show (bif !(pre p l) then _ else _) = _
 cases hq : pre p l with
 | false => rfl
 | true =>
  have hle : p.length ≤ l.length := by
   have := congrArg List.length (of_decide_eq_true hq)
   rw [List.length_take] at this
   omega
  simp only [Bool.not_true, cond_false, if_true]
  rw [dD, dD, ah (di (by omega) (by omega) (by omega)), Int.toNat_natCast, Int.toNat_natCast, zN, List.take_of_length_le (Nat.le_refl _)]
theorem Em : Ev fun n => ∀ l p : List Nat, Bl l → Bl p → gY ((C B0).run n) (bs l) (bs p) = some (if pre p l = true then (bs (l.drop p.length), (true, ())) else (bs l, (false, ()))) := by
 refine Cq.succ fun n hn h l p hl hp => ?_
 rw [cz, sj]
 unfold kZ
 rw [h l p hl hp]
 cases pre p l <;> rfl
theorem xZ {p : Nat → Bool} : ∀ l : List Nat, l.take (l.takeWhile p).length = l.takeWhile p
 | [] => rfl
 | c :: l => by
  rw [List.takeWhile_cons]
  split
  ·rw [List.length_cons, List.take_succ_cons, xZ l]
  ·rfl
theorem vf {p : Nat → Bool} : ∀ l : List Nat, l.drop (l.takeWhile p).length = l.dropWhile p
 | [] => rfl
 | c :: l => by
  rw [List.takeWhile_cons, List.dropWhile_cons]
  split
  ·rw [List.length_cons, List.drop_succ_cons, vf l]
  ·rfl
theorem En {p : Nat → Bool} (l : List Nat) : (l.takeWhile p).length ≤ l.length := by
 have := congrArg List.length (xZ (p := p) l)
 rw [List.length_take] at this
 omega
theorem Ns {c : Nat} : ∀ {l : List Nat}, c ∈ l → (l.takeWhile (· != c)).length < l.length
 | x :: l, h => by
  rw [List.takeWhile_cons]
  by_cases hx : x = c
  ·subst hx; simp
  ·have h' : c ∈ l := (List.mem_cons.1 h).resolve_left fun h => hx h.symm
   have := Ns h'
   rw [if_pos (by simpa using hx)]
   simp only [List.length_cons]
   omega
theorem GQ {c : Nat} {l : List Nat} (h : ¬ c ∈ l) : l.takeWhile (· != c) = l ∧ l.dropWhile (· != c) = [] := by
 have h1 : ∀ x ∈ l, (x != c) = true := fun x hx => by
  have : x ≠ c := fun he => h (he ▸ hx)
  simpa using this
 have h2 := jR (r := []) h1
 have h3 := nJ (r := []) h1
 simp only [List.append_nil, List.takeWhile_nil, List.dropWhile_nil] at h2 h3
 exact ⟨h2, h3⟩
theorem Qi : Ev fun n => ∀ (l : List Nat) (c : Nat), Bl l → c < 256 → l.length ≤ 4000000 → hU ((C B0).run n) (bs l) (bs [c]) = some (bs (cutAt c l).1, (bs (cutAt c l).2.1, ((cutAt c l).2.2, ()))) := by
 have k0 : Ev fun n => ∀ (l : List Nat) (c : Nat), Bl l → c < 256 → l.length ≤ 4000000 → ek ((C B0).run n) (bs l) (bs [c]) = some (bs (cutAt c l).1, (bs (cutAt c l).2.1, ((cutAt c l).2.2, ()))) := by
  refine Lw.succ fun n hn h l c hl hc hb => ?_
  rw [cz, mF]
  unfold gD
  rw [h l c hl hc]
  show (bif kG 0 (idx l c) then _ else _) = _
  unfold idx cutAt
  by_cases hm : c ∈ l
  ·have hlt := Ns hm
   rw [if_pos hm, bZ, decide_eq_true (by omega), cond_true, dD, dD]
   rw [ar (by simp <;> omega) (by simp <;> omega)]
   rw [ah (di (by omega) (by omega) (by omega)), ah (di (by omega) (by simp <;> omega) (by omega))]
   rw [zN, zN]
   have e1 : (((l.takeWhile (· != c)).length : Int) + ((List.length [c] : Nat) : Int)).toNat = (l.takeWhile (· != c)).length + 1 := by simp <;> omega
   rw [e1, Int.toNat_natCast, Int.toNat_natCast, List.take_of_length_le (Nat.le_refl _), xZ, ← List.drop_drop, vf]
   have : l.any (· == c) = true := List.any_eq_true.2 ⟨c, hm, by simp⟩
   rw [this]
   rfl
  ·have : l.any (· == c) = false := List.any_eq_false.2 fun x hx => by
    have : x ≠ c := fun he => hm (he ▸ hx)
    simpa using this
   rw [if_neg hm, this, (GQ hm).1, (GQ hm).2]
   rfl
 refine k0.succ fun n hn h l c hl hc hb => ?_
 rw [cz, AF]
 unfold tb
 rw [h l c hl hc hb]
 rfl
theorem Nt {p : Nat → Bool} : ∀ (l : List Nat) (k : Nat), k < (l.takeWhile p).length → k < l.length ∧ p (l.getD k 0) = true
 | c :: l, k, h => by
  rw [List.takeWhile_cons] at h
  split at h
  ·rename_i hc
   match k with
   | 0 => exact ⟨by simp, hc⟩
   | k + 1 =>
    obtain ⟨h1, h2⟩ := Nt l k (by simpa using h)
    exact ⟨by simp only [List.length_cons]; omega, by simpa using h2⟩
  ·simp at h
theorem J8 {p : Nat → Bool} : ∀ (l : List Nat), (l.takeWhile p).length < l.length → p (l.getD (l.takeWhile p).length 0) = false
 | c :: l, h => by
  rw [List.takeWhile_cons] at h ⊢
  split at h
  ·rename_i hc
   rw [if_pos hc]
   simp only [List.length_cons, List.getD_cons_succ] at h ⊢
   exact J8 l (by omega)
  ·rename_i hc
   rw [if_neg hc]
   simpa using hc
theorem getD_drop (l : List Nat) (a k : Nat) : (l.drop a).getD k 0 = l.getD (a + k) 0 := by
 rw [List.getD_eq_getElem?_getD, List.getElem?_drop, ← List.getD_eq_getElem?_getD]
theorem Qj : Ev fun n => ∀ (l : List Nat) (a : Nat), Bl l → a ≤ l.length → l.length ≤ 4000000 → jA ((C B0).run n) (bs l) (a : Int) = some ((((l.drop a).takeWhile digit).length : Int), ()) := by
 refine zT.succ fun n hn kd l a hl ha hb => ?_
 rw [cz, FO]
 unfold zv
 have hw := En (p := digit) (l.drop a)
 rw [List.length_drop] at hw
 refine aN (fun p => ∃ k : Nat, p = (((a : Int), ((k : Int), (bs l, (0, ())))), ()) ∧ k ≤ ((l.drop a).takeWhile digit).length) (fun p => 4000000 - p.1.2.1.toNat) _ ?_ n _ (by simp only; omega) ⟨0, rfl, Nat.zero_le _⟩
 rintro rec p ⟨k, rfl, hk⟩ ih
 simp only
 rw [dD, ar (by omega) (by omega), ab]
 by_cases h1 : a + k < l.length
 ·rw [decide_eq_true (show (a : Int) + k < l.length by omega), cond_true, ah (ae (by omega) (by omega))]
  have e1 : (a : Int) + k = ((a + k : Nat) : Int) := by omega
  rw [e1, nv hl, kd]
  by_cases h2 : k < ((l.drop a).takeWhile digit).length
  ·have h3 := (Nt _ _ h2).2
   rw [getD_drop] at h3
   rw [h3]
   show rec (((a : Int), ((aB .i64 (k : Int) 1), (bs l, (0, ())))), ()) = _
   rw [ar (by omega) (by omega)]
   exact ih _ ⟨k + 1, by simp, by omega⟩ (by simp only; omega)
  ·have hk' : k = ((l.drop a).takeWhile digit).length := by omega
   have h3 := J8 (p := digit) (l.drop a) (by rw [List.length_drop]; omega)
   rw [getD_drop, ← hk'] at h3
   rw [h3, hk']
   rfl
 ·rw [decide_eq_false (show ¬ (a : Int) + k < l.length by omega)]
  have hk' : k = ((l.drop a).takeWhile digit).length := by omega
  rw [hk']
  rfl
theorem Cr {p : Nat → Bool} {l : List Nat} (h : ∀ j, j < l.length → p (l.getD j 0) = true) : l.all p = true := by
 refine List.all_eq_true.2 fun x hx => ?_
 obtain ⟨j, hj, rfl⟩ := List.mem_iff_getElem.1 hx
 have := h j hj
 rwa [List.getD_eq_getElem?_getD, List.getElem?_eq_getElem hj] at this
theorem Cs {p : Nat → Bool} {l : List Nat} {j : Nat} (hj : j < l.length) (h : p (l.getD j 0) = false) : l.all p = false := by
 refine Bool.eq_false_iff.2 fun ha => ?_
 have := List.all_eq_true.1 ha (l.getD j 0) (by
  rw [List.getD_eq_getElem?_getD, List.getElem?_eq_getElem hj]
  exact List.getElem_mem hj)
 rw [h] at this
 cases this
theorem zU : Ev fun n => ∀ l : List Nat, Bl l → l.length ≤ 4000000 → iU ((C B0).run n) (bs l) = some (decide (l ≠ []) && l.all digit, ()) := by
 refine Ev.cU.succ fun n hn _ l hl hb => ?_
 rw [cz, Ch]
 unfold uV
 rw [dD]
 refine aN (fun p => ∃ k : Nat, p = (((k : Int), ((l.length : Int), (bs l, (false, ())))), ()) ∧ k ≤ l.length ∧ ∀ j, j < k → digit (l.getD j 0) = true) (fun p => 4000000 - p.1.1.toNat) _ ?_ n _ (by simp only; omega) ⟨0, rfl, Nat.zero_le _, fun j hj => absurd hj (Nat.not_lt_zero _)⟩
 rintro rec p ⟨k, rfl, hk, hd⟩ ih
 simp only
 rw [ab]
 by_cases h1 : k < l.length
 ·rw [decide_eq_true (show (k : Int) < l.length by omega), cond_true, dD, ah (ae (by omega) (by omega)), nv hl, ab]
  cases hg : digit (l.getD k 0) with
  | true =>
   have hg' := cN.1 hg
   rw [decide_eq_false (show ¬ ((l.getD k 0 : Nat) : Int) < 48 by omega), cond_false, ah (ae (by omega) (by omega)), ab, decide_eq_false (show ¬ (57 : Int) < ((l.getD k 0 : Nat) : Int) by omega)]
   show rec (((aB .i64 (k : Int) 1), ((l.length : Int), (bs l, (false, ())))), ()) = _
   rw [ar (by omega) (by omega)]
   refine ih _ ⟨k + 1, by simp, by omega, fun j hj => ?_⟩ (by simp only; omega)
   by_cases hjk : j = k
   ·rw [hjk]; exact hg
   ·exact hd j (by omega)
  | false =>
   have hg' : ¬ (48 ≤ l.getD k 0 ∧ l.getD k 0 ≤ 57) := fun h => by rw [cN.2 h] at hg; cases hg
   rw [Cs h1 hg]
   by_cases h2 : ((l.getD k 0 : Nat) : Int) < 48
   ·rw [decide_eq_true h2, Bool.and_false]; rfl
   ·rw [decide_eq_false h2, cond_false, ah (ae (by omega) (by omega)), ab, decide_eq_true (show (57 : Int) < ((l.getD k 0 : Nat) : Int) by omega), Bool.and_false]; rfl
 ·rw [decide_eq_false (show ¬ (k : Int) < l.length by omega), cond_false, kM hl (fun x hx => by cases hx), Cr (fun j hj => hd j (by omega))]
  simp
theorem LB : Ev fun n => ∀ l : List Nat, Bl l → l.length ≤ 4000000 → ic ((C B0).run n) (bs l) = some (whole l, ()) := by
 refine zU.succ fun n hn hk l hl hb => ?_
 rw [cz, xH]
 unfold pU
 rw [hk l hl hb]
 unfold whole
 by_cases h0 : l = []
 ·subst h0; rfl
 ·cases ha : l.all digit with
  | false => rw [Bool.and_false, Bool.false_and, Bool.and_false]; rfl
  | true =>
   have hp : 0 < l.length := List.length_pos_iff.2 h0
   rw [decide_eq_true h0]
   show jb (bif seq (bs l) (bs [48]) then _ else _) _ = _
   rw [kM hl (fun x hx => by simp at hx; omega), dD, show (0 : Int) = ((0 : Nat) : Int) from rfl, nv hl]
   by_cases h1 : l = [48]
   ·rw [decide_eq_true h1]; rfl
   ·rw [decide_eq_false h1, cond_false, ah (ae (by omega) (by omega))]
    simp only [Bool.true_and, Bool.false_or]
    show some ((((l.getD 0 0 : Nat) : Int) != 48), ()) = _
    by_cases h2 : l.getD 0 0 = 48
    ·rw [h2]; rfl
    ·rw [decide_eq_true h2]
     have : ((((l.getD 0 0 : Nat) : Int) != 48)) = true := by
      simp only [bne_iff_ne, ne_eq]
      omega
     rw [this]
theorem GR {c : Nat} (l : List Nat) : (cutAt c l).1.length ≤ l.length ∧ (cutAt c l).2.1.length ≤ l.length := by
 have h1 := En (p := (· != c)) l
 have h2 := congrArg List.length (vf (p := (· != c)) l)
 rw [List.length_drop] at h2
 refine ⟨h1, ?_⟩
 show ((l.dropWhile (· != c)).drop 1).length ≤ _
 rw [List.length_drop]
 omega
theorem J9 {c : Nat} {l : List Nat} (h : Bl l) : Bl (cutAt c l).1 ∧ Bl (cutAt c l).2.1 := by
 refine ⟨fun x hx => h x ((List.takeWhile_sublist _).subset hx), fun x hx => h x ?_⟩
 exact (List.dropWhile_sublist _).subset (List.mem_of_mem_drop hx)
theorem Iq (p : List Nat) : (if pre [45] p = true then (bs (p.drop [45].length), (true, ())) else (bs p, (false, ()))) = ((bs (if pre [45] p = true then p.drop 1 else p), (pre [45] p, ())) : ByteArray × (Bool × Unit)) := by
 cases pre [45] p <;> rfl
theorem GS (p : List Nat) : JZ p = Ik (pre [45] p) (if pre [45] p = true then p.drop 1 else p) := by
 match p with
 | [] => rfl
 | c :: r =>
  by_cases h : c = 45
  ·subst h
   have : pre [45] (45 :: r) = true := by simp [pre]
   rw [this]; rfl
  ·have : pre [45] (c :: r) = false := by simp [pre, h]
   rw [this]
   unfold JZ
   split
   ·rename_i h'; cases h'; exact absurd rfl h
   ·rfl
theorem Ct {l : List Nat} (h : whole l = true) : l ≠ [] ∧ ∀ x ∈ l, digit x = true := by
 unfold whole at h
 simp only [Bool.and_eq_true, decide_eq_true_eq] at h
 exact ⟨h.1, List.all_eq_true.1 h.2.1⟩
theorem Ir : Ev fun n => ∀ l : List Nat, Bl l → l.length ≤ 4000000 → ∃ (a b : ByteArray) (v : Int), qO ((C B0).run n) (bs l) = some (a, (b, (v, (num l, ())))) := by
 refine (Qi.and (LB.and (zU.and (Em.and Om)))).succ fun n hn ⟨kc, kw, kd, kp, ka⟩ l hl hb => ?_
 rw [cz, Eb]
 unfold xf
 rw [kc l 101 hl (by decide) hb]
 show ∃ (a b : ByteArray) (v : Int), (hU _ (bs (cutAt 101 l).1) (bs [46])).bind _ = _
 obtain ⟨l1, l2⟩ := GR (c := 101) l
 obtain ⟨b1, b2⟩ := J9 (c := 101) hl
 rw [kc _ 46 b1 (by decide) (by omega)]
 show ∃ (a b : ByteArray) (v : Int), jb _ _ = _
 unfold num
 generalize hB : cutAt 101 l = X at l1 l2 b1 b2
 obtain ⟨B, Pw, hp⟩ := X
 simp only at l1 l2 b1 b2 ⊢
 obtain ⟨m1, m2⟩ := GR (c := 46) B
 obtain ⟨d1, d2⟩ := J9 (c := 46) b1
 generalize cutAt 46 B = Y at m1 m2 d1 d2
 obtain ⟨A, F, pt⟩ := Y
 simp only at m1 m2 d1 d2 ⊢
 rw [kw A d1 (by omega)]
 simp only [Option.bind_some]
 cases hA : whole A with
 | false => exact ⟨_, _, _, rfl⟩
 | true =>
  simp only [Bool.not_true, cond_false]
  have key : ∀ q : Bool, q = (!pt || (decide (F ≠ []) && F.all digit)) → (bif pt then (iU ((C B0).run n) (bs F)).bind fun (r50_1, _) => some ((.inr ((!r50_1, (hp, (bs A, (bs F, (bs Pw, (bs [], (bs [], (0, (false, ()))))))))), ())) : (ByteArray × (ByteArray × (Int × (Bool × Unit)))) ⊕ (((Bool × (Bool × (ByteArray × (ByteArray × (ByteArray × (ByteArray × (ByteArray × (Int × (Bool × Unit)))))))))) × Unit)) else
    some (.inr ((false, (hp, (bs A, (bs F, (bs Pw, (bs [], (bs [], (0, (false, ()))))))))), ()))) = some (.inr ((!q, (hp, (bs A, (bs F, (bs Pw, (bs [], (bs [], (0, (false, ()))))))))), ())) := by
   intro q hq
   subst hq
   cases pt with
   | false => rfl
   | true =>
    simp only [cond_true, kd F d2 (by omega), Bool.not_true, Bool.false_or]
    rfl
  generalize hq : (!pt || (decide (F ≠ []) && F.all digit)) = q
  rw [key q hq.symm]
  show ∃ (a b : ByteArray) (v : Int), (bif !q then _ else _) = _
  cases q with
  | false => exact ⟨_, _, _, rfl⟩
  | true =>
   simp only [Bool.not_true, cond_false, Bool.true_and]
   cases hp with
   | false => exact ⟨_, _, _, rfl⟩
   | true =>
    simp only [Bool.not_true, cond_false, Bool.false_or]
    rw [kp Pw [45] b2 (fun x hx => by simp at hx; omega), Iq, GS]
    simp only [Option.bind_some]
    generalize hm : pre [45] Pw = mi
    have bq : Bl (if mi = true then Pw.drop 1 else Pw) := by
     cases mi
     ·exact b2
     ·exact GL b2 1
    have lq : (if mi = true then Pw.drop 1 else Pw).length ≤ 4000000 := by
     cases mi
     ·show Pw.length ≤ _; omega
     ·show (Pw.drop 1).length ≤ _; rw [List.length_drop]; omega
    generalize (if mi = true then Pw.drop 1 else Pw) = Q at bq lq
    obtain ⟨v, e, hv, hve⟩ := ka Q lq
    rw [hv]
    simp only [Option.bind_some]
    unfold Ik
    cases hw : whole Q with
    | false =>
     cases e with
     | true => exact ⟨_, _, _, rfl⟩
     | false =>
      simp only [cond_false, kw Q bq lq, Option.bind_some, hw, Bool.not_false, cond_true, Bool.false_and]
      exact ⟨_, _, _, rfl⟩
    | true =>
     obtain ⟨q0, qd⟩ := Ct hw
     simp only [Bool.true_and]
     by_cases h3 : Q.length ≤ 3
     ·obtain ⟨rfl, rfl⟩ := hve q0 h3 qd
      simp only [cond_false, kw Q bq lq, Option.bind_some, hw, Bool.not_true]
      rw [dD, ab, ab, decide_eq_false (show ¬ (3 : Int) < Q.length by omega), decide_eq_true h3]
      simp only [cond_false, Bool.true_and]
      by_cases h4 : value Q ≤ 400
      ·rw [decide_eq_false (show ¬ (400 : Int) < (value Q : Nat) by omega), decide_eq_true h4]
       simp only [cond_false, Bool.true_and]
       cases mi with
       | false => exact ⟨_, _, _, rfl⟩
       | true =>
        simp only [cond_true, Bool.true_and]
        by_cases h5 : value Q = 0
        ·rw [h5]; exact ⟨_, _, _, rfl⟩
        ·have : (((value Q : Nat) : Int) == 0) = false := dh (by omega)
         rw [this, decide_eq_false h5]
         exact ⟨_, _, _, rfl⟩
      ·rw [decide_eq_true (show (400 : Int) < (value Q : Nat) by omega), decide_eq_false h4]
       exact ⟨_, _, _, rfl⟩
     ·rw [decide_eq_false h3]
      cases e with
      | true => exact ⟨_, _, _, rfl⟩
      | false =>
       simp only [cond_false, kw Q bq lq, Option.bind_some, hw, Bool.not_true]
       rw [dD, ab, decide_eq_true (show (3 : Int) < Q.length by omega)]
       exact ⟨_, _, _, rfl⟩
theorem LC : Ev fun n => ∀ l : List Nat, Bl l → l.length ≤ 4000000 → vW ((C B0).run n) (bs l) = some (num l && decide (l.length ≤ 60), ()) := by
 refine Ir.succ fun n hn hk l hl hb => ?_
 rw [cz, Ij]
 unfold Bb
 obtain ⟨a, b, v, h⟩ := hk l hl hb
 rw [h, dD, bZ, decide_eq_decide.2 (show (l.length : Int) ≤ 60 ↔ l.length ≤ 60 by omega)]
 show jb (bif num l then _ else _) _ = _
 cases num l <;> rfl
theorem Ka : Ev fun n => ∀ l : List Nat, Bl l → l.length ≤ 4000000 → nI ((C B0).run n) (bs l) = some (num l && decide (l.length ≤ 60), ()) := by
 refine LC.succ fun n hn hk l hl hb => ?_
 rw [cz, AE]
 unfold ta
 rw [hk l hl hb, dD, bZ, decide_eq_decide.2 (show (l.length : Int) ≤ 60 ↔ l.length ≤ 60 by omega)]
 show jb (bif (num l && decide (l.length ≤ 60)) then _ else _) _ = _
 cases num l <;> cases decide (l.length ≤ 60) <;> rfl
theorem Qk {Q : List Nat} (h : (Q.takeWhile digit).length = 3) : (slt (bs (Q.take 3)) (bs [52, 48, 48]) || seq (bs (Q.take 3)) (bs [52, 48, 48])) = decide (value (Q.take 3) ≤ 400) := by
 have e := xZ (p := digit) Q
 rw [h] at e
 have hd : ∀ x ∈ Q.take 3, digit x = true := by rw [e]; exact fY
 have hl : (Q.take 3).length = 3 := by rw [e]; exact h
 generalize Q.take 3 = T at hd hl
 match T, hl with
 | [a, b, c], _ => exact Qg (hd a (by simp)) (hd b (by simp)) (hd c (by simp))
theorem LD {c : Nat} {r : List Nat} : pre [45] (c :: r) = decide (c = 45) := by simp [pre]
theorem drop_cons {l : List Nat} {a : Nat} (h : a < l.length) : l.drop a = l.getD a 0 :: l.drop (a + 1) := by
 rw [List.drop_eq_getElem_cons h, List.getD_eq_getElem?_getD, List.getElem?_eq_getElem h]
 rfl
theorem LF {c : Nat} {s : List Nat} (h : c ≠ 101) : tK (c :: s) = false := by
 unfold tK
 split
 ·rename_i h'; cases h'
 ·rename_i h'; cases h'; exact absurd rfl h
 ·rfl
theorem Kb {r : List Nat} (h : ∀ s, r ≠ 46 :: s) : tc r = tK r := by
 unfold tc
 split
 ·rename_i s; exact absurd rfl (h s)
 ·rfl
theorem LG {p : Nat → Bool} {l r : List Nat} {x : Nat} (h : l.takeWhile p = x :: r) : l.getD 0 0 = x := by
 cases l with
 | nil => cases h
 | cons z l =>
  rw [List.takeWhile_cons] at h
  split at h
  ·exact (List.cons.inj h).1
  ·cases h
theorem Kc {a l : List Nat} (ha : a = l.takeWhile digit) : whole a = !(decide (a.length = 0) || (decide (1 < a.length) && decide (l.getD 0 0 = 48))) := by
 have hd : ∀ x ∈ a, digit x = true := by rw [ha]; exact fY
 unfold whole
 rw [List.all_eq_true.2 hd]
 match a, ha with
 | [], _ => rfl
 | [x], ha => simp <;> omega
 | x :: y :: r, ha =>
  rw [LG ha.symm]
  simp
theorem Kd : Ev fun n => ∀ l : List Nat, Bl l → l.length ≤ 4000000 → nH ((C B0).run n) (bs l) = some (Lv l && decide (l.length ≤ 60), ()) := by
 refine Qj.succ fun n hn kr l hl hb => ?_
 rw [cz, AD]
 unfold s9
 have h0 : jA ((C B0).run n) (bs l) 0 = some ((((l.drop 0).takeWhile digit).length : Int), ()) := kr l 0 hl (Nat.zero_le _) hb
 have hb0 : bt (bs l) 0 = ((l.getD 0 0 : Nat) : Int) := nv hl 0
 rw [h0, List.drop_zero]
 clear h0
 simp only [Option.bind_some]
 have hW := Kc (l := l) rfl
 have aI := vf (p := digit) l
 have hle := En (p := digit) l
 unfold Lv
 rw [← aI, hW]
 clear hW aI
 generalize (l.takeWhile digit).length = k0 at hle ⊢
 rw [dD]
 obtain ⟨b1, hb1⟩ : ∃ b, b = (decide (60 < l.length) || (decide (k0 = 0) || (decide (1 < k0) && decide (l.getD 0 0 = 48)))) := ⟨_, rfl⟩
 refine Eq.trans (iZ (p := ((b1, ((k0 : Int), (bs l, (false, ())))), ())) ?_ _) ?_
 ·rw [ab, ab, decide_eq_decide.2 (show (60 : Int) < l.length ↔ 60 < l.length by omega), decide_eq_decide.2 (show (1 : Int) < k0 ↔ 1 < k0 by omega)]
  rw [hb1]
  by_cases h1 : 60 < l.length
  ·rw [decide_eq_true h1]; rfl
  ·rw [decide_eq_false h1, cond_false, Bool.false_or]
   by_cases h2 : k0 = 0
   ·subst h2; rfl
   ·rw [decide_eq_false h2, Bool.false_or, dh (show ¬ (k0 : Int) = 0 by omega), cond_false]
    by_cases h3 : 1 < k0
    ·rw [decide_eq_true h3, cond_true, ah (ae (by omega) (by omega)), hb0, Bool.true_and]
     by_cases h4 : l.getD 0 0 = 48
     ·rw [h4]; rfl
     ·rw [decide_eq_false h4, dh (by omega)]
    ·rw [decide_eq_false h3]; rfl
 ·show (bif b1 then _ else _) = _
  replace hb1 := hb1.symm
  cases b1 with
  | true =>
   simp only [Bool.or_eq_true] at hb1
   rcases hb1 with h | h
   ·rw [show decide (l.length ≤ 60) = false from decide_eq_false (by have := of_decide_eq_true h; omega), Bool.and_false]; rfl
   ·rw [show (decide (k0 = 0) || (decide (1 < k0) && decide (l.getD 0 0 = 48))) = true from by simpa using h]; rfl
  | false =>
   rw [Bool.or_eq_false_iff] at hb1
   obtain ⟨h60, hb1⟩ := hb1
   rw [hb1, decide_eq_true (show l.length ≤ 60 by have := of_decide_eq_false h60; omega)]
   simp only [cond_false, Bool.not_false, Bool.true_and, Bool.and_true]
   clear hb1 h60
   refine Nr (fun p => ∃ a : Nat, a ≤ l.length ∧ p = (((a : Int), (bs l, (false, ()))), ()) ∧ tc (l.drop k0) = tK (l.drop a)) ?_ ?_
   ·by_cases h46 : k0 < l.length ∧ l.getD k0 0 = 46
    ·obtain ⟨h1, h2⟩ := h46
     have hdc := drop_cons h1
     rw [h2] at hdc
     rw [hdc]
     rw [iZ (p := ((true, (bs l, ((k0 : Int), (false, ())))), ())) (by
      rw [dD, ab, decide_eq_true (by omega), cond_true, ah (ae (by omega) (by omega)), nv hl, h2]; rfl)]
     simp only [cond_true]
     rw [ar (by omega) (by omega), show (k0 : Int) + 1 = ((k0 + 1 : Nat) : Int) by omega, kr l (k0 + 1) hl (by omega) hb]
     simp only [Option.bind_some]
     have hd2 := vf (p := digit) (l.drop (k0 + 1))
     have hl2 := En (p := digit) (l.drop (k0 + 1))
     have hnil : decide ((l.drop (k0 + 1)).takeWhile digit ≠ []) = !(decide (((l.drop (k0 + 1)).takeWhile digit).length = 0)) := by
      cases (l.drop (k0 + 1)).takeWhile digit <;> simp
     unfold tc
     simp only
     rw [← hd2, hnil, List.drop_drop]
     rw [List.length_drop] at hl2
     generalize ((l.drop (k0 + 1)).takeWhile digit).length = k1 at hl2 ⊢
     by_cases h3 : k1 = 0
     ·subst h3
      exact .inl rfl
     ·rw [decide_eq_false h3, dh (show ¬ (k1 : Int) = 0 by omega), cond_false, ar (by omega) (by omega)]
      refine .inr ⟨_, rfl, k0 + 1 + k1, by omega, by simp, ?_⟩
      simp
    ·rw [iZ (p := ((false, (bs l, ((k0 : Int), (false, ())))), ())) (by
      rw [dD, ab]
      by_cases h1 : k0 < l.length
      ·have h9 : l.getD k0 0 ≠ 46 := fun h => h46 ⟨h1, h⟩
       rw [decide_eq_true (by omega), cond_true, ah (ae (by omega) (by omega)), nv hl, dh (by omega)]
      ·rw [decide_eq_false (by omega)]; rfl)]
     refine .inr ⟨_, rfl, k0, hle, rfl, ?_⟩
     refine Kb fun s hs => h46 ?_
     by_cases h1 : k0 < l.length
     ·refine ⟨h1, ?_⟩
      rw [drop_cons h1] at hs
      exact (List.cons.inj hs).1
     ·rw [List.drop_eq_nil_of_le (by omega)] at hs; cases hs
   ·rintro p ⟨a, ha, rfl, hfr⟩
    rw [hfr]
    clear hfr hle
    simp only
    refine Nr (fun p => ∃ z : Nat, z ≤ l.length ∧ p = (((z : Int), (bs l, (false, ()))), ()) ∧ tK (l.drop a) = decide (z = l.length)) ?_ ?_
    ·by_cases h101 : a < l.length ∧ l.getD a 0 = 101
     ·obtain ⟨h1, h2⟩ := h101
      have hdc := drop_cons h1
      rw [h2] at hdc
      rw [hdc]
      rw [iZ (p := ((true, ((a : Int), (bs l, (false, ())))), ())) (by
       rw [dD, ab, decide_eq_true (by omega), cond_true, ah (ae (by omega) (by omega)), nv hl, h2]; rfl)]
      simp only [cond_true]
      rw [ar (by omega) (by omega)]
      rw [show tK (101 :: l.drop (a + 1)) = JZ (l.drop (a + 1)) from rfl]
      rw [GS]
      obtain ⟨m, hm⟩ : ∃ m, m = pre [45] (l.drop (a + 1)) := ⟨_, rfl⟩
      rw [← hm]
      have hm1 : m = decide (a + 1 < l.length ∧ l.getD (a + 1) 0 = 45) := by
       rw [hm]
       by_cases h3 : a + 1 < l.length
       ·rw [drop_cons h3, LD]
        exact decide_eq_decide.2 ⟨fun h => ⟨h3, h⟩, fun h => h.2⟩
       ·rw [List.drop_eq_nil_of_le (by omega), decide_eq_false (fun h => h3 h.1)]
        rfl
      rw [iZ (p := ((m, (((a : Int) + 1), (bs l, (false, ())))), ())) (by
       rw [dD, ab, hm1]
       by_cases h3 : a + 1 < l.length
       ·rw [decide_eq_true (by omega), cond_true, ah (ae (by omega) (by omega)), show (a : Int) + 1 = ((a + 1 : Nat) : Int) by omega, nv hl]
        by_cases h4 : l.getD (a + 1) 0 = 45
        ·rw [h4, decide_eq_true ⟨h3, rfl⟩]; rfl
        ·rw [dh (by omega), decide_eq_false (fun h => h4 h.2)]
       ·rw [decide_eq_false (by omega), decide_eq_false (fun h => h3 h.1)]; rfl)]
      have hma : m = true → a + 1 < l.length := fun h => by
       rw [h] at hm1
       exact (of_decide_eq_true hm1.symm).1
      obtain ⟨a4, ha4⟩ : ∃ a4, a4 = if m = true then a + 2 else a + 1 := ⟨_, rfl⟩
      have hQ : (if m = true then (l.drop (a + 1)).drop 1 else l.drop (a + 1)) = l.drop a4 := by
       rw [ha4]
       cases m
       ·rfl
       ·simp
      have hle4 : a4 ≤ l.length := by
       rw [ha4]
       cases m
       ·simp; omega
       ·have := hma rfl; simp; omega
      rw [hQ, iZ (p := ((bs l, ((a4 : Int), (m, (false, ())))), ())) (by
       rw [ha4]
       cases m
       ·simp
       ·simp only [cond_true, if_true]
        rw [ar (by omega) (by omega)]
        simp; omega)]
      simp only
      rw [kr l a4 hl hle4 hb]
      simp only [Option.bind_some]
      rw [Qh]
      unfold Oo
      have h3k := Qk (Q := l.drop a4)
      have hlk := En (p := digit) (l.drop a4)
      rw [List.length_drop] at hlk
      generalize hk : ((l.drop a4).takeWhile digit).length = k at h3k hlk
      unfold QK
      obtain ⟨b, hb'⟩ : ∃ b, b = (decide (k = 0) || (decide (3 < k) || ((decide ((l.drop a4).getD 0 0 = 48) && (decide (1 < k) || m)) || (decide (k = 3) && !(decide (value ((l.drop a4).take 3) ≤ 400)))))) := ⟨_, rfl⟩
      rw [← hb']
      rw [iZ (p := ((b, ((a4 : Int), ((k : Int), (bs l, (false, ()))))), ())) (by
       rw [hb', ab, ab, decide_eq_decide.2 (show (3 : Int) < k ↔ 3 < k by omega), decide_eq_decide.2 (show (1 : Int) < k ↔ 1 < k by omega)]
       by_cases c0 : k = 0
       ·subst c0; rfl
       ·rw [decide_eq_false c0, dh (show ¬ (k : Int) = 0 by omega), cond_false, Bool.false_or]
        by_cases c3 : 3 < k
        ·rw [decide_eq_true c3]; rfl
        ·rw [decide_eq_false c3, cond_false, Bool.false_or, dD, ah (ae (by omega) (by omega)), nv hl, getD_drop, Nat.add_zero]
         have hsub : k = 3 → (slt (ByteArray.extract (bs l) (Int.toNat (a4 : Int)) (Int.toNat (aB .i64 (a4 : Int) (k : Int)))) (bs [52, 48, 48]) || seq (ByteArray.extract (bs l) (Int.toNat (a4 : Int)) (Int.toNat (aB .i64 (a4 : Int) (k : Int)))) (bs [52, 48, 48])) = decide (value ((l.drop a4).take 3) ≤ 400) := fun h => by
          have e : (l.take (a4 + 3)).drop a4 = (l.drop a4).take 3 := by rw [List.drop_take, show a4 + 3 - a4 = 3 by omega]
          rw [ar (by omega) (by omega), zN, Int.toNat_natCast, show ((a4 : Int) + (k : Int)).toNat = a4 + 3 by omega, e]
          exact h3k h
         have hfin : (bif ((k : Int) == 3) then ok (ba (a4 : Int) (aB .i64 (a4 : Int) (k : Int)) (l.length : Int)) (some ((.inr (((!(slt (ByteArray.extract (bs l) (Int.toNat (a4 : Int)) (Int.toNat (aB .i64 (a4 : Int) (k : Int)))) (bs [52, 48, 48]) || seq (ByteArray.extract (bs l) (Int.toNat (a4 : Int)) (Int.toNat (aB .i64 (a4 : Int) (k : Int)))) (bs [52, 48, 48]))), ((a4 : Int), ((k : Int), (bs l, (false, ()))))), ())) : ((Bool × Unit) ⊕ ((Int × (ByteArray × (Bool × Unit))) × Unit)) ⊕ (((Bool × (Int × (Int × (ByteArray × (Bool × Unit)))))) × Unit))) else some (.inr ((false, ((a4 : Int), ((k : Int), (bs l, (false, ()))))), ()))) = some (.inr (((decide (k = 3) && !(decide (value ((l.drop a4).take 3) ≤ 400))), ((a4 : Int), ((k : Int), (bs l, (false, ()))))), ())) := by
          by_cases c : k = 3
          ·rw [hsub c, decide_eq_true c, show ((k : Int) == 3) = true from by simp; omega, cond_true, ar (by omega) (by omega), ah (di (by omega) (by omega) (by omega))]
           rfl
          ·rw [decide_eq_false c, dh (show ¬ (k : Int) = 3 by omega)]; rfl
         by_cases c48 : l.getD a4 0 = 48
         ·rw [c48, decide_eq_true rfl]
          by_cases c1 : 1 < k
          ·rw [decide_eq_true c1]; rfl
          ·rw [decide_eq_false c1]
           cases m with
           | true => rfl
           | false =>
            show (bif ((k : Int) == 3) then _ else _) = _
            exact hfin
         ·rw [decide_eq_false c48, dh (by omega)]
          show (bif ((k : Int) == 3) then _ else _) = _
          exact hfin)]
      simp only
      cases b with
      | true => exact .inl rfl
      | false =>
       rw [cond_false, ar (by omega) (by omega)]
       refine .inr ⟨_, rfl, a4 + k, by omega, by simp, ?_⟩
       rw [List.length_drop]
       simp only [Bool.not_false, Bool.true_and]
       exact decide_eq_decide.2 (by omega)
     ·rw [iZ (p := ((false, ((a : Int), (bs l, (false, ())))), ())) (by
       rw [dD, ab]
       by_cases h1 : a < l.length
       ·have h9 : l.getD a 0 ≠ 101 := fun h => h101 ⟨h1, h⟩
        rw [decide_eq_true (by omega), cond_true, ah (ae (by omega) (by omega)), nv hl, dh (by omega)]
       ·rw [decide_eq_false (by omega)]; rfl)]
      refine .inr ⟨_, rfl, a, ha, rfl, ?_⟩
      by_cases h1 : a < l.length
      ·rw [drop_cons h1, LF (fun h => h101 ⟨h1, h⟩), decide_eq_false (by omega)]
      ·rw [List.drop_eq_nil_of_le (by omega), decide_eq_true (by omega)]; rfl
    ·rintro p ⟨z, hz, rfl, e⟩
     rw [e, dD]
     show some ((((z : Int) == (l.length : Int))), ()) = _
     by_cases hzl : z = l.length
     ·rw [hzl]; simp
     ·rw [decide_eq_false hzl, dh (by omega)]
def GU (c : Nat) : Bool := letter c || digit c
theorem LH : Ev fun n => ∀ l : List Nat, Bl l → l.length ≤ 4000000 → oZ ((C B0).run n) (bs l) = some (plain l, ()) := by
 refine (El.and zT).succ fun n hn ⟨kl, kf⟩ l hl hb => ?_
 rw [cz, Ca]
 unfold uR
 have hb0 : bt (bs l) 0 = ((l.getD 0 0 : Nat) : Int) := nv hl 0
 rw [iZ (p := ((!(decide (1 ≤ l.length) && (decide (l.length ≤ 8) && letter (l.getD 0 0))), (bs l, (false, ()))), ())) (by
  rw [dD, ab, ab]
  by_cases h1 : 1 ≤ l.length
  ·rw [decide_eq_false (show ¬ (l.length : Int) < 1 by omega), decide_eq_true h1, cond_false]
   by_cases h2 : l.length ≤ 8
   ·rw [decide_eq_false (show ¬ (8 : Int) < l.length by omega), decide_eq_true h2, cond_false, ah (ae (by omega) (by omega)), hb0, kl]
    rfl
   ·rw [decide_eq_true (show (8 : Int) < l.length by omega), decide_eq_false h2]; rfl
  ·rw [decide_eq_true (show (l.length : Int) < 1 by omega), decide_eq_false h1]; rfl)]
 simp only
 unfold plain
 cases hc : (decide (1 ≤ l.length) && (decide (l.length ≤ 8) && letter (l.getD 0 0))) with
 | false =>
  rw [← Bool.and_assoc (decide (l.length ≤ 8)), ← Bool.and_assoc, hc]
  rfl
 | true =>
  rw [← Bool.and_assoc (decide (l.length ≤ 8)), ← Bool.and_assoc, hc]
  simp only [Bool.not_true, cond_false, Bool.true_and]
  have h1 : 1 ≤ l.length := by
   simp only [Bool.and_eq_true, decide_eq_true_eq] at hc
   exact hc.1
  have hl0 : GU (l.getD 0 0) = true := by
   simp only [Bool.and_eq_true] at hc
   unfold GU
   rw [hc.2.2]; rfl
  refine aN (fun p => ∃ k : Nat, p = (((k : Int), (bs l, (false, ()))), ()) ∧ k ≤ l.length ∧ ∀ j, j < k → GU (l.getD j 0) = true) (fun p => 4000000 - p.1.1.toNat) _ ?_ n _ (by simp only; omega) ⟨1, rfl, h1, fun j hj => by rw [show j = 0 by omega]; exact hl0⟩
  rintro rec p ⟨k, rfl, hk, hd⟩ ih
  simp only
  rw [dD, ab]
  by_cases h2 : k < l.length
  ·rw [decide_eq_true (show (k : Int) < l.length by omega), cond_true, ah (ae (by omega) (by omega)), nv hl, kl]
   rw [iZ (p := ((!(GU (l.getD k 0)), ((k : Int), (bs l, (false, ())))), ())) (by
    show (bif !(letter (l.getD k 0)) then _ else _) = _
    unfold GU
    cases letter (l.getD k 0) with
    | true => rfl
    | false =>
     simp only [Bool.not_false, cond_true, Bool.false_or]
     rw [ah (ae (by omega) (by omega)), kf]
     rfl)]
   simp only
   cases hg : GU (l.getD k 0) with
   | true =>
    show rec (((aB .i64 (k : Int) 1), (bs l, (false, ()))), ()) = _
    rw [ar (by omega) (by omega)]
    refine ih _ ⟨k + 1, by simp, by omega, fun j hj => ?_⟩ (by simp only; omega)
    by_cases hjk : j = k
    ·rw [hjk]; exact hg
    ·exact hd j (by omega)
   | false =>
    rw [show (l.all fun c => letter c || digit c) = false from Cs (p := GU) h2 hg]
    rfl
  ·rw [decide_eq_false (show ¬ (k : Int) < l.length by omega)]
   rw [show (l.all fun c => letter c || digit c) = true from Cr (p := GU) (fun j hj => hd j (by omega))]
   rfl
theorem Is : Ev fun n => ∀ l : List Nat, Bl l → qM ((C B0).run n) (bs l) = some (decide (l ∈ words), ()) := by
 refine Ev.cU.succ fun n hn _ l hl => ?_
 rw [cz, DZ]
 unfold xb
 rw [kM hl (by unfold Bl; decide), kM hl (by unfold Bl; decide), kM hl (by unfold Bl; decide), kM hl (by unfold Bl; decide), kM hl (by unfold Bl; decide), kM hl (by unfold Bl; decide)]
 have e : decide (l ∈ words) = (decide (l = [100, 101, 102]) || (decide (l = [118, 97, 114]) || (decide (l = [115, 113, 114, 116]) || (decide (l = [97, 98, 115]) || (decide (l = [109, 105, 110]) || decide (l = [109, 97, 120])))))) := by
  rw [Bool.eq_iff_iff]
  simp [words]
 rw [e]
 cases decide (l = [100, 101, 102]) <;> cases decide (l = [118, 97, 114]) <;> cases decide (l = [115, 113, 114, 116]) <;> cases decide (l = [97, 98, 115]) <;> cases decide (l = [109, 105, 110]) <;> rfl
theorem Bg : Ev fun n => ∀ l : List Nat, Bl l → l.length ≤ 4000000 → da ((C B0).run n) (bs l) = some (jC l, ()) := by
 refine (LH.and Is).succ fun n hn ⟨kp, kw⟩ l hl hb => ?_
 rw [cz, zy]
 unfold qP
 rw [kp l hl hb]
 simp only [Option.bind_some]
 unfold jC
 cases plain l with
 | false => rfl
 | true =>
  rw [cond_true, kw l hl]
  rfl
theorem bq {x y : Int} : (x == y) = decide (x = y) := rfl
theorem Ot : Ev fun n => ∀ (k m : Int) (l : List Nat), Bl l → l.length ≤ 4000000 → nk ((C B0).run n) k m (bs l) = some (dv (k, m, l), ()) := by
 refine (Kd.and Bg).succ fun n hn ⟨kn, km⟩ k m l hl hb => ?_
 rw [cz, D9]
 unfold xd
 have e0 : seq (bs l) (bs []) = decide (l = []) := kM hl (fun x hx => by cases hx)
 have kn' := kn l hl hb
 rw [← J0] at kn'
 have km' := km l hl hb
 unfold dv
 simp only
 by_cases h1 : k = 1
 ·subst h1
  rw [if_pos rfl, show ((1 : Int) == 1) = true from rfl, cond_true]
  by_cases hm : m = 0
  ·subst hm
   rw [show ((0 : Int) == 0) = true from rfl, cond_true, kn']
   unfold J1
   cases (num l && decide (l.length ≤ 60)) <;> rfl
  ·rw [dh hm, cond_false, if_neg (fun h => hm h.1)]; rfl
 rw [if_neg h1, dh h1, cond_false]
 by_cases h2 : k = 2
 ·subst h2
  rw [if_pos rfl, show ((2 : Int) == 2) = true from rfl, cond_true]
  by_cases hm : m = 0
  ·subst hm
   rw [show ((0 : Int) == 0) = true from rfl, cond_true, km']
   cases jC l <;> rfl
  ·rw [dh hm, cond_false, if_neg (fun h => hm h.1)]; rfl
 rw [if_neg h2, dh h2, cond_false]
 rw [iZ (x := bif (k == 3) then _ else _) (p := ((decide (k = 3 ∨ k = 9 ∨ k = 10), ((), (k, (0, ())))), ((k, (m, (bs l, ()))), ()))) (by
  by_cases h3 : k = 3
  ·subst h3; rfl
  ·rw [dh h3, cond_false]
   by_cases h9 : k = 9
   ·subst h9; rfl
   ·rw [dh h9, cond_false, bq, decide_eq_decide.2 (show (k = 3 ∨ k = 9 ∨ k = 10) ↔ k = 10 by omega)])]
 simp only
 have fin : ∀ (v : Int), (jb (P := (((Bool × (Int × Unit))) × Unit)) (bif (m == 0) then some (.inr (((seq (bs l) (bs [])), (0, ())), ())) else some (.inr ((false, (0, ())), ()))) fun ((t36, (t2_3, _)), _) => bif t36 then (some (.inl (v, ())) : Option ((Int × Unit) ⊕ ((Int × Unit) × Unit))) else some (.inr ((t2_3, ()), ()))) = if m = 0 ∧ l = [] then some (.inl (v, ())) else some (.inr ((0, ()), ())) := by
  intro v
  by_cases hm : m = 0
  ·subst hm
   rw [e0]
   by_cases hl0 : l = []
   ·rw [decide_eq_true hl0, if_pos ⟨rfl, hl0⟩]; rfl
   ·rw [decide_eq_false hl0, if_neg (fun h => hl0 h.2)]; rfl
  ·rw [dh hm, if_neg (fun h => hm h.1)]; rfl
 by_cases h3 : k = 3 ∨ k = 9 ∨ k = 10
 ·rw [if_pos h3, decide_eq_true h3, cond_true, fin 1]
  by_cases h : m = 0 ∧ l = []
  ·rw [if_pos h, if_pos h]; rfl
  ·rw [if_neg h, if_neg h]; rfl
 rw [if_neg h3, decide_eq_false h3, cond_false]
 rw [iZ (x := bif (k == 4) then _ else _) (p := ((decide (k = 4 ∨ k = 5 ∨ k = 6 ∨ k = 7 ∨ k = 11 ∨ k = 12), ((), (k, (0, ())))), ((k, (m, (bs l, ()))), ()))) (by
  by_cases h4 : k = 4
  ·subst h4; rfl
  ·rw [dh h4, cond_false]
   by_cases h5 : k = 5
   ·subst h5; rfl
   ·rw [dh h5, cond_false]
    by_cases h6 : k = 6
    ·subst h6; rfl
    ·rw [dh h6, cond_false]
     by_cases h7 : k = 7
     ·subst h7; rfl
     ·rw [dh h7, cond_false]
      by_cases h11 : k = 11
      ·subst h11; rfl
      ·rw [dh h11, cond_false, bq, decide_eq_decide.2 (show (k = 4 ∨ k = 5 ∨ k = 6 ∨ k = 7 ∨ k = 11 ∨ k = 12) ↔ k = 12 by omega)])]
 simp only
 by_cases h4 : k = 4 ∨ k = 5 ∨ k = 6 ∨ k = 7 ∨ k = 11 ∨ k = 12
 ·rw [if_pos h4, decide_eq_true h4, cond_true, fin 2]
  by_cases h : m = 0 ∧ l = []
  ·rw [if_pos h, if_pos h]; rfl
  ·rw [if_neg h, if_neg h]; rfl
 rw [if_neg h4, decide_eq_false h4, cond_false]
 by_cases h8 : k = 8
 ·subst h8
  rw [if_pos rfl, show ((8 : Int) == 8) = true from rfl, cond_true, bZ, bZ, e0]
  by_cases ha : 0 ≤ m
  ·by_cases hb8 : m ≤ 8
   ·by_cases hl0 : l = []
    ·rw [if_pos ⟨ha, hb8, hl0⟩, decide_eq_true ha, decide_eq_true hb8, decide_eq_true hl0]; rfl
    ·rw [if_neg (fun h => hl0 h.2.2), decide_eq_true ha, decide_eq_true hb8, decide_eq_false hl0]; rfl
   ·rw [if_neg (fun h => hb8 h.2.1), decide_eq_true ha, decide_eq_false hb8]; rfl
  ·rw [if_neg (fun h => ha h.1), decide_eq_false ha]; rfl
 rw [if_neg h8, dh h8, cond_false]
 by_cases h13 : k = 13
 ·subst h13
  rw [if_pos rfl, show ((13 : Int) == 13) = true from rfl, cond_true, bZ, bZ, km']
  by_cases ha : 1 ≤ m
  ·by_cases hb6 : m ≤ 6
   ·cases hl0 : jC l with
    | true => rw [if_pos ⟨ha, hb6, rfl⟩, decide_eq_true ha, decide_eq_true hb6]; rfl
    | false => rw [if_neg (fun h => by cases h.2.2), decide_eq_true ha, decide_eq_true hb6]; rfl
   ·rw [if_neg (fun h => hb6 h.2.1), decide_eq_true ha, decide_eq_false hb6]; rfl
  ·rw [if_neg (fun h => ha h.1), decide_eq_false ha]; rfl
 rw [if_neg h13, dh h13]
 rfl
abbrev Rj := Int × (Int × (ByteArray × Unit))
def rh (x : Nd) : Rj := (x.1, (x.2.1, (bs x.2.2, ())))
def ND (l : List Nd) : Prop := ∀ x ∈ l, Bl x.2.2 ∧ x.2.2.length ≤ 4000000
theorem Ke {l : List Nd} (h : ND l) {i : Nat} (hi : i < l.length) : Bl (l.getD i (0, 0, [])).2.2 ∧ (l.getD i (0, 0, [])).2.2.length ≤ 4000000 := by
 rw [List.getD_eq_getElem?_getD, List.getElem?_eq_getElem hi]
 exact h _ (List.getElem_mem hi)
theorem Bh {l : List Nd} {i : Nat} (hi : i < l.length) : (l.map rh).getD i (0, (0, ((bs []), ()))) = rh (l.getD i (0, 0, [])) := by
 rw [List.getD_eq_getElem?_getD, List.getElem?_map, List.getElem?_eq_getElem hi, List.getD_eq_getElem?_getD, List.getElem?_eq_getElem hi]; rfl
theorem GV {l : List Nd} {i : Nat} (h : i < l.length) : l.drop i = l.getD i (0, 0, []) :: l.drop (i + 1) := by
 rw [List.getD_eq_getElem?_getD, List.getElem?_eq_getElem h, List.drop_eq_getElem_cons h]; rfl
theorem Kf : Ev fun n => ∀ l : List Nd, ND l → jx ((C B0).run n) (l.map rh) = some (zP l, ()) := by
 refine Ot.succ fun n hn ka l hl => ?_
 rw [cz, FJ]
 unfold zq zP
 rw [aj, List.length_map, ab]
 by_cases h : (100 : Int) < l.length
 ·rw [decide_eq_true h, decide_eq_false (show ¬ l.length ≤ 100 by omega)]; rfl
 ·rw [decide_eq_false h, decide_eq_true (show l.length ≤ 100 by omega), cond_false, Bool.true_and]
  refine aN (fun q => ∃ (i : Nat) (d : Int), q = (((i : Int), ((), (d, (false, ())))), ((l.map rh, ()), ())) ∧ i ≤ l.length ∧ 0 ≤ d ∧ d ≤ i ∧ scan d (l.drop i) = scan 0 l) (fun q => (200 - q.1.1).toNat) _ ?_ n _ (by simp only; omega) ⟨0, 0, rfl, Nat.zero_le _, by omega, by omega, rfl⟩
  rintro rec _ ⟨i, d, rfl, hi, hd0, hdi, hs⟩ ih
  dsimp only
  rw [aj, List.length_map, ab]
  by_cases hi1 : i < l.length
  ·rw [decide_eq_true (show (i : Int) < l.length by omega), cond_true, ah (ae (by omega) (by omega)), Int.toNat_natCast, Bh hi1]
   have hx := Ke hl hi1
   rw [GV hi1, scan] at hs
   obtain ⟨x, hxe⟩ : ∃ x, x = l.getD i (0, 0, []) := ⟨_, rfl⟩
   rw [← hxe] at hx hs ⊢
   have hr := xg x
   have hka : nk ((C B0).run n) (rh x).1 (rh x).2.1 (rh x).2.2.1 = some (dv x, ()) := ka x.1 x.2.1 x.2.2 hx.1 (by omega)
   rw [hka]
   simp only [Option.bind_some]
   rw [iZ (p := ((decide (dv x < 0 ∨ d < dv x), (d, (dv x, ((i : Int), ((), (false, ())))))), ((l.map rh, ()), ()))) (by
    rw [ab, ab]
    by_cases h1 : dv x < 0
    ·rw [decide_eq_true h1, decide_eq_true (show dv x < 0 ∨ d < dv x from .inl h1)]; rfl
    ·rw [decide_eq_false h1, cond_false, decide_eq_decide.2 (show (dv x < 0 ∨ d < dv x) ↔ d < dv x by omega)])]
   dsimp only
   by_cases h1 : dv x < 0 ∨ d < dv x
   ·rw [if_pos h1] at hs
    rw [decide_eq_true h1, ← hs]; rfl
   ·rw [if_neg h1] at hs
    rw [decide_eq_false h1, cond_false, ar (by omega) (by omega), jQ (by omega) (by omega), ar (by omega) (by omega)]
    exact ih _ ⟨i + 1, d - dv x + 1, by simp, by omega, by omega, by omega, hs⟩ (by simp only; omega)
  ·rw [decide_eq_false (show ¬ (i : Int) < l.length by omega), cond_false, ← hs, List.drop_eq_nil_of_le (by omega)]
   show some (decide (d = 1), ()) = _
   rw [scan, decide_eq_decide.2 (show some d = some (1 : Int) ↔ d = 1 by simp)]
theorem Kg : Ev fun n => ∀ (k m : Int) (l : List Nat), Bl l → l.length ≤ 4000000 → fG ((C B0).run n) k m (bs l) = some (dv (k, m, l), ()) := by
 refine (Ka.and (Ej.and QL)).succ fun n hn ⟨kn, km, ki⟩ k m l hl hb => ?_
 rw [cz, tJ]
 unfold mD
 have e0 : seq (bs l) (bs []) = decide (l = []) := kM hl (fun x hx => by cases hx)
 have kn' := kn l hl hb
 have km' := km l hl (by omega)
 rw [iZ (p := (((), (decide (m = 0 ∧ l = []), (0, ()))), ((k, (m, (bs l, ()))), ()))) (by
  by_cases hm : m = 0
  ·subst hm
   rw [show ((0 : Int) == 0) = true from rfl, cond_true, e0, decide_eq_decide.2 (show ((0 : Int) = 0 ∧ l = []) ↔ l = [] by simp)]
  ·rw [dh hm, cond_false, decide_eq_false (fun h => hm h.1)])]
 unfold dv
 simp only
 by_cases h1 : k = 1
 ·subst h1
  rw [if_pos rfl, show ((1 : Int) == 1) = true from rfl, cond_true]
  by_cases hm : m = 0
  ·subst hm
   rw [show ((0 : Int) == 0) = true from rfl, cond_true, kn']
   unfold J1
   cases (num l && decide (l.length ≤ 60)) <;> rfl
  ·rw [dh hm, cond_false, if_neg (fun h => hm h.1)]; rfl
 rw [if_neg h1, dh h1, cond_false]
 by_cases h2 : k = 2
 ·subst h2
  rw [if_pos rfl, show ((2 : Int) == 2) = true from rfl, cond_true]
  by_cases hm : m = 0
  ·subst hm
   rw [show ((0 : Int) == 0) = true from rfl, cond_true, km']
   cases jC l <;> rfl
  ·rw [dh hm, cond_false, if_neg (fun h => hm h.1)]; rfl
 rw [if_neg h2, dh h2, cond_false]
 obtain ⟨bare, hbare⟩ : ∃ b, b = decide (m = 0 ∧ l = []) := ⟨_, rfl⟩
 rw [← hbare]
 rw [iZ (x := bif (k == 3) then _ else _) (p := ((decide (k = 3 ∨ k = 9 ∨ k = 10), (bare, (k, ((), (0, ()))))), ((k, (m, (bs l, ()))), ()))) (by
  by_cases h3 : k = 3
  ·subst h3; rfl
  ·rw [dh h3, cond_false]
   by_cases h9 : k = 9
   ·subst h9; rfl
   ·rw [dh h9, cond_false, bq, decide_eq_decide.2 (show (k = 3 ∨ k = 9 ∨ k = 10) ↔ k = 10 by omega)])]
 simp only
 by_cases h3 : k = 3 ∨ k = 9 ∨ k = 10
 ·rw [if_pos h3, decide_eq_true h3, cond_true, hbare]
  by_cases h : m = 0 ∧ l = []
  ·rw [if_pos h, decide_eq_true h]; rfl
  ·rw [if_neg h, decide_eq_false h]; rfl
 rw [if_neg h3, decide_eq_false h3, cond_false]
 rw [iZ (x := bif (k == 4) then _ else _) (p := ((decide (k = 4 ∨ k = 5 ∨ k = 6 ∨ k = 7 ∨ k = 11 ∨ k = 12), (bare, (k, ((), (0, ()))))), ((k, (m, (bs l, ()))), ()))) (by
  by_cases h4 : k = 4
  ·subst h4; rfl
  ·rw [dh h4, cond_false]
   by_cases h5 : k = 5
   ·subst h5; rfl
   ·rw [dh h5, cond_false]
    by_cases h6 : k = 6
    ·subst h6; rfl
    ·rw [dh h6, cond_false]
     by_cases h7 : k = 7
     ·subst h7; rfl
     ·rw [dh h7, cond_false]
      by_cases h11 : k = 11
      ·subst h11; rfl
      ·rw [dh h11, cond_false, bq, decide_eq_decide.2 (show (k = 4 ∨ k = 5 ∨ k = 6 ∨ k = 7 ∨ k = 11 ∨ k = 12) ↔ k = 12 by omega)])]
 simp only
 by_cases h4 : k = 4 ∨ k = 5 ∨ k = 6 ∨ k = 7 ∨ k = 11 ∨ k = 12
 ·rw [if_pos h4, decide_eq_true h4, cond_true, hbare]
  by_cases h : m = 0 ∧ l = []
  ·rw [if_pos h, decide_eq_true h]; rfl
  ·rw [if_neg h, decide_eq_false h]; rfl
 rw [if_neg h4, decide_eq_false h4, cond_false]
 by_cases h8 : k = 8
 ·subst h8
  rw [if_pos rfl, show ((8 : Int) == 8) = true from rfl, cond_true, ki, e0]
  by_cases ha : 0 ≤ m
  ·by_cases hb8 : m ≤ 8
   ·by_cases hl0 : l = []
    ·rw [if_pos ⟨ha, hb8, hl0⟩, decide_eq_true ha, decide_eq_true hb8, decide_eq_true hl0]; rfl
    ·rw [if_neg (fun h => hl0 h.2.2), decide_eq_true ha, decide_eq_true hb8, decide_eq_false hl0]; rfl
   ·rw [if_neg (fun h => hb8 h.2.1), decide_eq_true ha, decide_eq_false hb8]; rfl
  ·rw [if_neg (fun h => ha h.1), decide_eq_false ha]; rfl
 rw [if_neg h8, dh h8, cond_false]
 by_cases h13 : k = 13
 ·subst h13
  rw [if_pos rfl, show ((13 : Int) == 13) = true from rfl, cond_true, ki, km']
  by_cases ha : 1 ≤ m
  ·by_cases hb6 : m ≤ 6
   ·cases hl0 : jC l with
    | true => rw [if_pos ⟨ha, hb6, rfl⟩, decide_eq_true ha, decide_eq_true hb6]; rfl
    | false => rw [if_neg (fun h => by cases h.2.2), decide_eq_true ha, decide_eq_true hb6]; rfl
   ·rw [if_neg (fun h => hb6 h.2.1), decide_eq_true ha, decide_eq_false hb6]; rfl
  ·rw [if_neg (fun h => ha h.1), decide_eq_false ha]; rfl
 rw [if_neg h13, dh h13]
 rfl
theorem It : Ev fun n => ∀ l : List Nd, ND l → l.length ≤ 4000000 → jy ((C B0).run n) (l.map rh) = some (zP l, ()) := by
 refine Kg.succ fun n hn ka l hl hlen => ?_
 rw [cz, FL]
 unfold zt zP
 rw [aj, List.length_map]
 refine aN (fun q => ∃ (i : Nat) (d : Int), q = (((i : Int), ((l.length : Int), (l.map rh, (d, ((), (false, ())))))), ((l.map rh, ()), ())) ∧ i ≤ l.length ∧ 0 ≤ d ∧ d ≤ i ∧ scan d (l.drop i) = scan 0 l) (fun q => (4000001 - q.1.1).toNat) _ ?_ n _ (by simp only; omega) ⟨0, 0, rfl, Nat.zero_le _, by omega, by omega, rfl⟩
 rintro rec _ ⟨i, d, rfl, hi, hd0, hdi, hs⟩ ih
 dsimp only
 rw [ab]
 by_cases hi1 : i < l.length
 ·rw [decide_eq_true (show (i : Int) < l.length by omega), cond_true, aj, List.length_map, ah (ae (by omega) (by omega)), Int.toNat_natCast, Bh hi1]
  have hx := Ke hl hi1
  rw [GV hi1, scan] at hs
  obtain ⟨x, hxe⟩ : ∃ x, x = l.getD i (0, 0, []) := ⟨_, rfl⟩
  rw [← hxe] at hx hs ⊢
  have hr := xg x
  have hka : fG ((C B0).run n) (rh x).1 (rh x).2.1 (rh x).2.2.1 = some (dv x, ()) := ka x.1 x.2.1 x.2.2 hx.1 (by omega)
  rw [hka]
  simp only [Option.bind_some]
  rw [iZ (p := ((decide (dv x < 0 ∨ d < dv x), (d, (dv x, ((i : Int), ((l.length : Int), (l.map rh, ((), (false, ())))))))), ((l.map rh, ()), ()))) (by
   rw [ab, ab]
   by_cases h1 : dv x < 0
   ·rw [decide_eq_true h1, decide_eq_true (show dv x < 0 ∨ d < dv x from .inl h1)]; rfl
   ·rw [decide_eq_false h1, cond_false, decide_eq_decide.2 (show (dv x < 0 ∨ d < dv x) ↔ d < dv x by omega)])]
  dsimp only
  by_cases h1 : dv x < 0 ∨ d < dv x
  ·rw [if_pos h1] at hs
   rw [decide_eq_true h1, ← hs, cond_true, decide_eq_false (show ¬ (none : Option Int) = some 1 by simp), Bool.and_false]
  ·rw [if_neg h1] at hs
   rw [decide_eq_false h1, cond_false, ar (by omega) (by omega), jQ (by omega) (by omega), ar (by omega) (by omega)]
   exact ih _ ⟨i + 1, d - dv x + 1, by simp; omega, by omega, by omega, by omega, hs⟩ (by simp only; omega)
 ·rw [decide_eq_false (show ¬ (i : Int) < l.length by omega), cond_false, ← hs, List.drop_eq_nil_of_le (by omega), scan, bq]
  by_cases h : d = 1
  ·subst h
   rw [decide_eq_true (show (1 : Int) = 1 from rfl), cond_true, aj, List.length_map, bZ, decide_eq_decide.2 (show (l.length : Int) ≤ 100 ↔ l.length ≤ 100 by omega), decide_eq_true (show (some (1 : Int)) = some 1 from rfl), Bool.and_true]
   rfl
  ·rw [decide_eq_false h, cond_false, decide_eq_false (show ¬ (some d = some (1 : Int)) from fun h' => h (Option.some.inj h')), Bool.and_false]
   rfl
section
variable {B : ax}
theorem rP (n : Nat) : (C B).run (n + 1) = (C B).step ((C B).run n) n := rfl
theorem Eo : Ev fun n => ∀ c : Nat, lx ((C B).run n) (c : Int) = some (letter c, ()) := by
 refine Ev.cU.succ fun n hn _ c => ?_
 rw [rP, Cc]
 refine wq.trans ?_
 unfold letter
 rw [bZ, bZ, decide_eq_decide.2 (show (97 : Int) ≤ c ↔ 97 ≤ c by omega), decide_eq_decide.2 (show (c : Int) ≤ 122 ↔ c ≤ 122 by omega)]
theorem Ep : Ev fun n => ∀ c : Nat, o7 ((C B).run n) (c : Int) = some (digit c, ()) := by
 refine Ev.cU.succ fun n hn _ c => ?_
 rw [rP, Cd]
 refine wq.trans ?_
 unfold digit
 rw [bZ, bZ, decide_eq_decide.2 (show (48 : Int) ≤ c ↔ 48 ≤ c by omega), decide_eq_decide.2 (show (c : Int) ≤ 57 ↔ c ≤ 57 by omega)]
theorem Nu : Ev fun n => ∀ x a b : Int, tE ((C B).run n) x a b = some (decide (a ≤ x) && decide (x ≤ b), ()) := by
 refine Ev.cU.succ fun n hn _ x a b => ?_
 rw [rP, JX]
 exact wq
theorem Iu : Ev fun n => ∀ l : List Nat, Bl l → l.length ≤ 4000000 → zm ((C B).run n) (bs l) = some (plain l, ()) := by
 refine ((Eo (B := B)).and ((Ep (B := B)).and (Nu (B := B)))).succ fun n hn ⟨kl, kf, ki⟩ l hl hb => ?_
 rw [rP, FK]
 unfold zr
 rw [dD]
 refine aN (fun p => ∃ k : Nat, p = (((k : Int), ((l.length : Int), (bs l, (false, ())))), ()) ∧ k ≤ l.length ∧ ∀ j, j < k → GU (l.getD j 0) = true) (fun p => 4000000 - p.1.1.toNat) _ ?_ n _ (by simp only; omega) ⟨0, rfl, Nat.zero_le _, fun j hj => absurd hj (Nat.not_lt_zero _)⟩
 rintro rec p ⟨k, rfl, hk, hd⟩ ih
 simp only
 rw [ab]
 by_cases h1 : k < l.length
 ·rw [decide_eq_true (show (k : Int) < l.length by omega), cond_true, dD, ah (ae (by omega) (by omega)), nv hl, kl]
  rw [iZ (p := ((!(GU (l.getD k 0)), ((k : Int), ((l.length : Int), (bs l, (false, ()))))), ())) (by
   show (bif !(letter (l.getD k 0)) then _ else _) = _
   unfold GU
   cases letter (l.getD k 0) with
   | true => rfl
   | false =>
    simp only [Bool.not_false, cond_true, Bool.false_or]
    rw [ah (ae (by omega) (by omega)), kf]
    rfl)]
  simp only
  cases hg : GU (l.getD k 0) with
  | true =>
   show rec (((aB .i64 (k : Int) 1), ((l.length : Int), (bs l, (false, ())))), ()) = _
   rw [ar (by omega) (by omega)]
   refine ih _ ⟨k + 1, by simp, by omega, fun j hj => ?_⟩ (by simp only; omega)
   by_cases hjk : j = k
   ·rw [hjk]; exact hg
   ·exact hd j (by omega)
  | false =>
   have : plain l = false := by
    unfold plain
    rw [show (l.all fun c => letter c || digit c) = false from Cs (p := GU) h1 hg]
    simp
   rw [this]; rfl
 ·rw [decide_eq_false (show ¬ (k : Int) < l.length by omega), cond_false]
  have ha : (l.all fun c => letter c || digit c) = true := Cr (p := GU) (fun j hj => hd j (by omega))
  unfold plain
  rw [ha, dD, ki, decide_eq_decide.2 (show (1 : Int) ≤ l.length ↔ 1 ≤ l.length by omega), decide_eq_decide.2 (show (l.length : Int) ≤ 8 ↔ l.length ≤ 8 by omega)]
  simp only [Option.bind_some, Bool.and_true]
  by_cases h2 : 1 ≤ l.length
  ·rw [decide_eq_true h2, Bool.true_and]
   by_cases h3 : l.length ≤ 8
   ·have hb0 : bt (bs l) 0 = ((l.getD 0 0 : Nat) : Int) := nv hl 0
    rw [decide_eq_true h3, cond_true, ah (ae (by omega) (by omega)), hb0, kl]
    rfl
   ·rw [decide_eq_false h3]; rfl
  ·rw [decide_eq_false h2]; rfl
end
end Go.Px.Seat
namespace Go.Px
open Go Go.WideShapes
def GW (P : Program) : Ty → (TypeId → Prop) × (List Field → Nat → Prop)
 | .int k => (fun t => P.underlying t = some (.int k), fun _ _ => False)
 | .bool => (fun t => P.underlying t = some .bool, fun _ _ => False)
 | .str => (fun t => P.underlying t = some .string, fun _ _ => False)
 | .err => (fun _ => False, fun _ _ => False)
 | .aI _ _ => (fun _ => False, fun _ _ => False)
 | .mp .. => (fun _ => False, fun _ _ => False)
 | .slice e => (fun t => ∃ u, P.underlying t = some (.slice u) ∧ P.cellsOf u = e.size ∧ 0 < e.size ∧ (GW P e).1 u, fun _ _ => False)
 | .nil => (fun _ => False, fun fs _ => fs = [])
 | .cons a b =>
  (fun t => ∃ fs, P.underlying t = some (.struct fs) ∧ P.cellsOf t = a.size + b.size ∧ ∃ f r, fs.toList = f :: r ∧ f.offset = 0 ∧ P.cellsOf f.type = a.size ∧ (GW P a).1 f.type ∧ (GW P b).2 r (0 + a.size),
   fun fs off => ∃ f r, fs = f :: r ∧ f.offset = off ∧ P.cellsOf f.type = a.size ∧ (GW P a).1 f.type ∧ (GW P b).2 r (off + a.size))
def Kept : (t : Ty) → t.den → Prop
 | .int k, x => (Lit.int k x).wf = true
 | .bool, _ => True
 | .str, s => ByteArray.size s ≤ maxLen
 | .err, _ => True
 | .aI _ _, _ => True
 | .mp .., _ => True
 | .slice e, l => List.length (α := e.den) l ≤ maxLen ∧ ∀ x ∈ (show List e.den from l), Kept e x
 | .nil, _ => True
 | .cons a b, x => Kept a x.1 ∧ Kept b x.2
section
variable {H : Type} {enc : TypeId × Value → H} {P : Program} {w : World} {spare : Nat → Bool} {held : Bool}
theorem GX {α : Type} {R : List Value → α → Prop} {F : α → Prop} {k : Nat} : ∀ (n : Nat) (V : List Value), n * k ≤ V.length → (∀ i, i < n → ∃ y, R ((V.drop (i * k)).take k) y ∧ F y) → ∃ l : List α, l.length = n ∧ b7 R l (V.take (n * k)) ∧ ∀ y ∈ l, F y
 | 0, V, _, _ => ⟨[], rfl, by rw [Nat.zero_mul]; rfl, fun y hy => by cases hy⟩
 | n + 1, V, hl, h => by
  have hk : (n + 1) * k = k + n * k := by rw [Nat.add_mul, Nat.one_mul, Nat.add_comm]
  obtain ⟨y, h1, h2⟩ := h 0 (Nat.succ_pos n)
  rw [Nat.zero_mul, List.drop_zero] at h1
  obtain ⟨l, e1, e2, e3⟩ := GX (R := R) (F := F) (k := k) n (V.drop k) (by rw [List.length_drop]; omega) (fun i hi => by
   obtain ⟨z, z1, z2⟩ := h (i + 1) (by omega)
   refine ⟨z, ?_, z2⟩
   rw [List.drop_drop]
   rwa [show (i + 1) * k = k + i * k by rw [Nat.add_mul, Nat.one_mul, Nat.add_comm]] at z1)
  refine ⟨y :: l, by rw [List.length_cons, e1], ?_, fun z hz => ?_⟩
  ·rw [hk, List.take_add]
   exact ⟨_, _, rfl, h1, e2⟩
  ·rcases List.mem_cons.1 hz with rfl | hz
   ·exact h2
   ·exact e3 z hz
theorem vg {S : Loc → Prop} (hS : ∀ k : Nat, k < w.heap.size → S k) : ∀ ty : Ty,
  (∀ (t : TypeId) (fuel : Nat) (cs : List Value) (x : DataW H × List MemPlace), (GW P ty).1 t → DataW.trod enc P w 0 spare held fuel t cs = some x → ∃ y : ty.den, bm w.heap S ty cs y ∧ Kept ty y) ∧
  (∀ (fs : List Field) (off fuel : Nat) (cs : List Value) (xs : List (DataW H × List MemPlace)), (GW P ty).2 fs off → cs.length = off + ty.size → xs.length = fs.length →
   (∀ (i : Nat) (f : Field), fs[i]? = some f → DataW.trod enc P w 0 spare held fuel f.type ((cs.drop f.offset).take (P.cellsOf f.type)) = xs[i]?) → ∃ y : ty.den, bm w.heap S ty (cs.drop off) y ∧ Kept ty y)
 | .int k => ⟨fun t fuel cs x ht h => by
   obtain ⟨n, rfl, rfl, hw⟩ := DataW.trod_int ht h
   exact ⟨n, rfl, hw⟩, fun _ _ _ _ _ h => h.elim⟩
 | .bool => ⟨fun t fuel cs x ht h => by
   obtain ⟨b, rfl, rfl⟩ := DataW.trod_bool ht h
   exact ⟨b, rfl, trivial⟩, fun _ _ _ _ _ h => h.elim⟩
 | .str => ⟨fun t fuel cs x ht h => by
   obtain ⟨s, rfl, rfl, hw⟩ := DataW.trod_string ht h
   exact ⟨s, rfl, hw⟩, fun _ _ _ _ _ h => h.elim⟩
 | .err => ⟨fun _ _ _ _ h => h.elim, fun _ _ _ _ _ h => h.elim⟩
 | .aI _ _ => ⟨fun _ _ _ _ h => h.elim, fun _ _ _ _ _ h => h.elim⟩
 | .mp .. => ⟨fun _ _ _ _ h => h.elim, fun _ _ _ _ _ h => h.elim⟩
 | .nil => ⟨fun _ _ _ _ h => h.elim, fun fs off fuel cs xs hf hl hx hat => ⟨(), by
   show cs.drop off = []
   exact List.drop_eq_nil_of_le (by rw [hl]; exact Nat.le_refl _), trivial⟩⟩
 | .slice e => ⟨fun t fuel cs x ⟨u, ht, hc, hpos, hu⟩ h => by
   rcases DataW.trod_slice ht h with ⟨rfl, rfl⟩ | ⟨a, len, cap, elems, rest, n, _, rfl, rfl, hb, hl, hm, hlen, hel, _, _⟩
   ·exact ⟨([] : List e.den), ⟨none, 0, 0, rfl, rfl, Nat.le_refl _, .inl rfl⟩, Nat.zero_le _, fun x hx => by cases hx⟩
   ·by_cases h0 : len = 0
    ·subst h0
     exact ⟨([] : List e.den), ⟨some a, 0, cap, rfl, rfl, Nat.zero_le _, .inl rfl⟩, Nat.zero_le _, fun x hx => by cases hx⟩
    ·have hat : ∀ i, i < len → ∃ ci yi, w.cells? 0 (a.add (i * P.cellsOf u)) (P.cellsOf u) = some ci ∧ DataW.trod enc P w 0 spare held n u ci = some yi := fun i hi => by
      have h1 := hel i hi
      rw [List.getElem?_eq_getElem (by omega)] at h1
      obtain ⟨ci, c1, c2⟩ := Option.bind_eq_some_iff.1 h1
      exact ⟨ci, _, c1, c2⟩
     rw [hc] at hat
     have hcell : ∀ i j ci, i < len → j < e.size → w.cells? 0 (a.add (i * e.size)) e.size = some ci → w.cell? ((a.add (i * e.size)).add j) = ci[j]? := fun i j ci _ hj h => (World.cells?_some h).2.2 j hj
     obtain ⟨b, off, spot⟩ := a
     have hspot : spot = none := by
      obtain ⟨ci, yi, c1, _⟩ := hat 0 (by omega)
      have h1 := hcell 0 0 ci (by omega) hpos c1
      rw [List.getElem?_eq_getElem (by rw [(World.cells?_some c1).2.1]; exact hpos)] at h1
      have := World.cell?_spot h1
      unfold Addr.add at this
      cases spot with
      | none => rfl
      | some s => simp at this
     subst hspot
     have hplace : ∀ i j, ((⟨b, off, none⟩ : Addr).add (i * e.size)).add j = ⟨b, off + i * e.size + j, none⟩ := fun i j => by rw [add_plain, add_plain]
     obtain ⟨arr, et, fr, harr⟩ : ∃ arr et fr, w.heap[b]? = some (.cells arr et fr) := by
      obtain ⟨ci, yi, c1, _⟩ := hat 0 (by omega)
      have h1 := hcell 0 0 ci (by omega) hpos c1
      rw [hplace, List.getElem?_eq_getElem (by rw [(World.cells?_some c1).2.1]; exact hpos)] at h1
      unfold World.cell? at h1
      split at h1
      ·rename_i harr
       exact ⟨_, _, _, harr⟩
      ·cases h1
     have hget : ∀ i j ci, i < len → j < e.size → w.cells? 0 ((⟨b, off, none⟩ : Addr).add (i * e.size)) e.size = some ci → arr[off + i * e.size + j]? = ci[j]? := fun i j ci hi hj h => by
      have h1 := hcell i j ci hi hj h
      rw [hplace] at h1
      simpa [World.cell?, harr] using h1
     have hfit : off + len * e.size ≤ arr.size := by
      obtain ⟨ci, yi, c1, _⟩ := hat (len - 1) (by omega)
      have h1 := hget (len - 1) (e.size - 1) ci (by omega) (by omega) c1
      rw [List.getElem?_eq_getElem (by rw [(World.cells?_some c1).2.1]; omega)] at h1
      have h2 := (Array.getElem?_eq_some_iff.1 h1).1
      have h3 : len * e.size = (len - 1) * e.size + e.size := by
       conv => lhs; rw [show len = (len - 1) + 1 by omega]
       rw [Nat.add_mul, Nat.one_mul]
      omega
     have hV : len * e.size ≤ (arr.toList.drop off).length := by rw [List.length_drop, Array.length_toList]; omega
     obtain ⟨l, l1, l2, l3⟩ := GX (R := bm w.heap S e) (F := Kept e) (k := e.size) len (arr.toList.drop off) hV (fun i hi => by
      obtain ⟨ci, yi, c1, c2⟩ := hat i hi
      obtain ⟨y, r1, r2⟩ := (vg hS e).1 u n ci yi hu c2
      refine ⟨y, ?_, r2⟩
      have : ((arr.toList.drop off).drop (i * e.size)).take e.size = ci := by
       apply List.ext_getElem?
       intro j
       rw [List.drop_drop, List.getElem?_take, List.getElem?_drop]
       by_cases hj : j < e.size
       ·rw [if_pos hj, ← hget i j ci hi hj c1, Array.getElem?_toList]
       ·rw [if_neg hj, List.getElem?_eq_none (by rw [(World.cells?_some c1).2.1]; omega)]
      rw [this]
      exact r1)
     exact ⟨l, ⟨_, len, cap, rfl, l1, hl, .inr ⟨b, off, arr, et, fr, rfl, hS b (Array.getElem?_eq_some_iff.1 harr).1, harr, hfit, l2⟩⟩, by
      show List.length (α := e.den) l ≤ maxLen
      omega, l3⟩, fun _ _ _ _ _ h => h.elim⟩
 | .cons a b => by
  have key : ∀ (fs : List Field) (off fuel : Nat) (cs : List Value) (xs : List (DataW H × List MemPlace)), (GW P (.cons a b)).2 fs off → cs.length = off + (Ty.cons a b).size → xs.length = fs.length →
    (∀ (i : Nat) (f : Field), fs[i]? = some f → DataW.trod enc P w 0 spare held fuel f.type ((cs.drop f.offset).take (P.cellsOf f.type)) = xs[i]?) → ∃ y : (Ty.cons a b).den, bm w.heap S (.cons a b) (cs.drop off) y ∧ Kept (.cons a b) y := by
   rintro fs off fuel cs xs ⟨f, r, rfl, rfl, hc, ha, hb⟩ hl hx hat
   match xs, hx with
   | x0 :: xs', hx =>
    have h0 := hat 0 f rfl
    rw [hc, List.getElem?_cons_zero] at h0
    obtain ⟨y, y1, y2⟩ := (vg hS a).1 f.type fuel _ x0 ha h0
    obtain ⟨z, z1, z2⟩ := (vg hS b).2 r (f.offset + a.size) fuel cs xs' hb (by rw [hl]; show _ = f.offset + a.size + b.size; rw [Nat.add_assoc]; rfl) (by simpa using hx) (fun i g hg => hat (i + 1) g (by simpa using hg))
    refine ⟨(y, z), ⟨_, _, ?_, y1, z1⟩, y2, z2⟩
    conv => lhs; rw [← List.take_append_drop a.size (cs.drop f.offset)]
    rw [List.drop_drop]
  refine ⟨fun t fuel cs x ht h => ?_, key⟩
  obtain ⟨fs, h1, h2, hrest⟩ := ht
  obtain ⟨xs, n, _, rfl, hl, hlen, hf⟩ := DataW.trod_struct h1 h
  have := key fs.toList 0 n cs xs hrest (by rw [hl, h2, Nat.zero_add]; rfl) (by rw [hlen, Array.length_toList]) (fun i f hi => hf i f (by rw [← Array.getElem?_toList]; exact hi))
  rwa [List.drop_zero] at this
end
end Go.Px
namespace Go.Px.Seat
open Go Pm Pt
variable {B : ax}
def Bi (M : Nat) (l : List ByteArray) : Prop := l.length ≤ M ∧ ∀ x ∈ l, x.size ≤ M
def Jj (M : Nat) (l : List Tn) : Prop := l.length ≤ M ∧ ∀ x ∈ l, x.2.2.1.size ≤ M
def K9 (M : Nat) (d : Df) : Prop := d.1.size ≤ M ∧ Bi M d.2.1 ∧ Jj M d.2.2.1.1
def LI (M : Nat) (r : Rl) : Prop := Jj M r.2.1.1 ∧ Jj M r.2.2.1.1
def mO (M : Nat) (l : List Df) : Prop := l.length ≤ M ∧ ∀ x ∈ l, K9 M x
def pb (M : Nat) (l : List Rl) : Prop := l.length ≤ M ∧ ∀ x ∈ l, LI M x
def hY : Nat := 9223372036854775807
def Cu (b : Int) (p : Prop) (r : Int × Unit) : Prop := r.1 < 0 ∨ (0 ≤ r.1 ∧ r.1 ≤ b ∧ p)
theorem aZ {α : Type} {l : List α} {i : Nat} {d : α} (h : i < l.length) : l.getD i d ∈ l := by
 rw [List.getD_eq_getElem?_getD, List.getElem?_eq_getElem h]
 exact List.getElem_mem h
theorem GY {α : Type} {l : List α} {d : α} {p : α → Prop} (h : ∀ j, j < l.length → p (l.getD j d)) : ∀ x ∈ l, p x := fun x hx => by
 obtain ⟨j, hj, rfl⟩ := List.mem_iff_getElem.1 hx
 have := h j hj
 rwa [List.getD_eq_getElem?_getD, List.getElem?_eq_getElem hj] at this
theorem Cv {α : Type} {d : α} {g : α → Int → Option (Int × Unit)} {l : List α} {p : α → Prop} {b : Int} {n : Nat} (hn : 1152921504606846976 ≤ n) (hl : l.length ≤ 1048576) (hb0 : 0 ≤ b) (hb : b ≤ 1048576)
  (hg : ∀ x ∈ l, ∀ c, 0 ≤ c → c ≤ 1048576 → pY (g x c) (Cu c (p x))) :
  pY (iter (P := (Int × List α × Int × Int × Unit) × Unit) (fun rec ((i5, (a0, (left1, (t4, _)))), _) =>
   bif (bS i5 (len a0)) then
    ok (bQ i5 (len a0)) <|
    (g (List.getD a0 (Int.toNat i5) d) left1).bind fun (r108_1, _) =>
    bif (bS r108_1 0) then
     some ((-1), ())
    else
    rec (((aB .i64 i5 1), (a0, (r108_1, (t4, ())))), ())
   else
   some (left1, ())) n ((0, (l, (b, (0, ())))), ())) (Cu b (∀ x ∈ l, p x)) := by
 refine kv (fun q => ∃ (i : Nat) (c : Int), q = (((i : Int), (l, (c, (0, ())))), ()) ∧ i ≤ l.length ∧ 0 ≤ c ∧ c ≤ b ∧ ∀ j, j < i → p (l.getD j d)) (fun q => 1048577 - q.1.1.toNat) (by simp only; omega) ⟨0, b, rfl, Nat.zero_le _, hb0, Int.le_refl _, fun j hj => absurd hj (Nat.not_lt_zero _)⟩ ?_
 rintro rec _ ⟨i, c, rfl, hi, hc0, hc, hj⟩ ih
 dsimp only
 rw [aj, ab]
 by_cases h1 : i < l.length
 ·rw [decide_eq_true (show (i : Int) < l.length by omega), cond_true, ah (ae (by omega) (by omega)), Int.toNat_natCast]
  refine zS _ (hg _ (aZ h1) c hc0 (by omega)) fun r hr => ?_
  obtain ⟨r, u⟩ := r
  dsimp only
  rw [ab]
  by_cases h2 : r < 0
  ·rw [decide_eq_true h2, cond_true]
   exact eo (.inl (by decide))
  ·rw [decide_eq_false h2, cond_false, ar (by omega) (by omega)]
   obtain ⟨hr1, hr2, hr3⟩ := hr.resolve_left h2
   refine ih _ ⟨i + 1, r, by simp, by omega, hr1, by simp only at hr2; omega, fun j hj' => ?_⟩ (by simp only; omega)
   by_cases hji : j = i
   ·subst hji; exact hr3
   ·exact hj j (by omega)
 ·rw [decide_eq_false (show ¬ (i : Int) < l.length by omega), cond_false]
  exact eo (.inr ⟨hc0, hc, GY fun j hj' => hj j (by omega)⟩)
theorem vh {x : Option (Int × Unit)} {l : Nat} {b : Int} {p : Prop} (hb0 : 0 ≤ b) (hb : b ≤ 1048576) (hl : l ≤ hY) (h : l ≤ 1048576 → 0 ≤ b - (l : Int) → pY x (Cu (b - l) p)) :
  pY (bif (bS (mN .i64 b (l : Int)) 0) then some ((-1), ()) else x) (Cu b (l ≤ 1048576 ∧ p)) := by
 unfold hY at hl
 rw [jQ (by omega) (by omega), ab]
 by_cases h1 : b - (l : Int) < 0
 ·rw [decide_eq_true h1, cond_true]; exact eo (.inl (by decide))
 ·rw [decide_eq_false h1, cond_false]
  exact Ek (h (by omega) (by omega)) fun r hr => hr.imp id fun ⟨h2, h3, h4⟩ => ⟨h2, by omega, by omega, h4⟩
theorem x4 {x : Option (Int × Unit)} {f : Int → Option (Int × Unit)} {b : Int} {p q : Prop} (hb : b ≤ 1048576) (h : pY x (Cu b p)) (h' : p → ∀ r, 0 ≤ r → r ≤ b → pY (f r) (Cu r q)) :
  pY (x.bind fun (r, _) => bif (bS r 0) then some ((-1), ()) else f r) (Cu b (p ∧ q)) := by
 refine zS _ h fun r hr => ?_
 obtain ⟨r, u⟩ := r
 dsimp only
 rw [ab]
 by_cases h2 : r < 0
 ·rw [decide_eq_true h2, cond_true]; exact eo (.inl (by decide))
 ·rw [decide_eq_false h2, cond_false]
  obtain ⟨hr1, hr2, hr3⟩ := hr.resolve_left h2
  exact Ek (h' hr3 r hr1 hr2) fun s hs => hs.imp id fun ⟨h3, h4, h5⟩ => ⟨h3, by simp only at hr2; omega, hr3, h5⟩
theorem x5 {x : Option (Int × Unit)} {b : Int} {p : Prop} (h : pY x (Cu b p)) : pY (x.bind fun (r, _) => bif (bS r 0) then some ((-1), ()) else some (r, ())) (Cu b p) := by
 refine zS _ h fun r hr => ?_
 obtain ⟨r, u⟩ := r
 dsimp only
 rw [ab]
 by_cases h2 : r < 0
 ·rw [decide_eq_true h2, cond_true]; exact eo (.inl (by decide))
 ·rw [decide_eq_false h2, cond_false]; exact eo hr
theorem aa (n : Nat) : (C B).run (n + 1) = (C B).step ((C B).run n) n := rfl
theorem Kh {b : Int} (hb0 : 0 ≤ b) (hb : b ≤ 1048576) {s : ByteArray} (hs : s.size ≤ hY) : pY (bif (bS (mN .i64 b (cW s)) 0) then some ((-1), ()) else some ((mN .i64 b (cW s)), ())) (Cu b (s.size ≤ 1048576)) := by
 unfold hY at hs
 rw [rL, jQ (by omega) (by omega), ab]
 by_cases h1 : b - (s.size : Int) < 0
 ·rw [decide_eq_true h1, cond_true]; exact eo (.inl (by decide))
 ·rw [decide_eq_false h1, cond_false]; exact eo (.inr ⟨by omega, by simp only; omega, by omega⟩)
theorem xk : Ev fun n => ∀ (l : List ByteArray) (b : Int), 0 ≤ b → b ≤ 1048576 → Bi hY l → pY (jI ((C B).run n) l b) (Cu b (Bi 1048576 l)) := by
 refine Ev.cU.succ fun n hn _ l b hb0 hb hl => ?_
 rw [aa, Ar]
 unfold sX
 rw [aj]
 refine vh hb0 hb hl.1 fun h h0 => ?_
 rw [jQ (by omega) (by omega)]
 have hx := hl.2
 unfold hY at hx
 refine kv (fun q => ∃ (i : Nat) (c : Int), q = (((i : Int), (l, (c, (0, ())))), ()) ∧ i ≤ l.length ∧ 0 ≤ c ∧ c ≤ b - (l.length : Int) ∧ ∀ j, j < i → (l.getD j (bs [])).size ≤ 1048576) (fun q => 1048577 - q.1.1.toNat) (by simp only; omega) ⟨0, _, rfl, Nat.zero_le _, h0, Int.le_refl _, fun j hj => absurd hj (Nat.not_lt_zero _)⟩ ?_
 rintro rec _ ⟨i, c, rfl, hi, hc0, hc, hj⟩ ih
 dsimp only
 rw [aj, ab]
 by_cases h1 : i < l.length
 ·have hsz := hx _ (aZ (d := bs []) h1)
  rw [decide_eq_true (show (i : Int) < l.length by omega), cond_true, ah (ae (by omega) (by omega)), Int.toNat_natCast, rL, jQ (by omega) (by omega), ab]
  by_cases h2 : c - ((l.getD i (bs [])).size : Int) < 0
  ·rw [decide_eq_true h2, cond_true]
   exact eo (.inl (by decide))
  ·rw [decide_eq_false h2, cond_false, ar (by omega) (by omega)]
   refine ih _ ⟨i + 1, c - ((l.getD i (bs [])).size : Int), by simp, by omega, by omega, by omega, fun j hj' => ?_⟩ (by simp only; omega)
   by_cases hji : j = i
   ·subst hji; omega
   ·exact hj j (by omega)
 ·rw [decide_eq_false (show ¬ (i : Int) < l.length by omega), cond_false]
  exact eo (.inr ⟨hc0, hc, GY fun j hj' => hj j (by omega)⟩)
theorem Cw : Ev fun n => ∀ (x : Tn) (b : Int), 0 ≤ b → b ≤ 1048576 → x.2.2.1.size ≤ hY → pY (iS ((C B).run n) x.1 x.2.1 x.2.2.1 b) (Cu b (x.2.2.1.size ≤ 1048576)) := by
 refine Ev.cU.succ fun n hn _ x b hb0 hb hx => ?_
 rw [aa, zJ]
 exact Kh hb0 hb hx
theorem AG : Ev fun n => ∀ (l : List Tn) (b : Int), 0 ≤ b → b ≤ 1048576 → Jj hY l → pY (kJ ((C B).run n) l b) (Cu b (Jj 1048576 l)) := by
 refine (Cw (B := B)).succ fun n hn k1 l b hb0 hb hl => ?_
 rw [aa, xF]
 unfold pS
 rw [aj]
 refine vh hb0 hb hl.1 fun h h0 => ?_
 rw [jQ (by unfold hY at hl; omega) (by omega)]
 exact Cv (d := (0, (0, ((bs []), ())))) (g := fun (x : Tn) c => iS ((C B).run n) x.1 x.2.1 x.2.2.1 c) (p := fun x : Tn => x.2.2.1.size ≤ 1048576) hn h h0 (by omega) fun x hx c hc0 hc => k1 x c hc0 hc (hl.2 x hx)
theorem Er : Ev fun n => ∀ (l : List Tn) (b : Int), 0 ≤ b → b ≤ 1048576 → Jj hY l → pY (ml ((C B).run n) l b) (Cu b (Jj 1048576 l)) := by
 refine (AG (B := B)).succ fun n hn k1 l b hb0 hb hl => ?_
 rw [aa, FM]
 exact x5 (k1 l b hb0 hb hl)
theorem Es : Ev fun n => ∀ (x : Df) (b : Int), 0 ≤ b → b ≤ 1048576 → K9 hY x → pY (jL ((C B).run n) x.1 x.2.1 x.2.2.1.1 b) (Cu b (K9 1048576 x)) := by
 refine ((xk (B := B)).and (Er (B := B))).succ fun n hn ⟨k1, k2⟩ x b hb0 hb hx => ?_
 rw [aa, Aw]
 unfold s4
 rw [rL]
 refine vh hb0 hb hx.1 fun h h0 => ?_
 rw [jQ (by have := hx.1; unfold hY at this; omega) (by omega)]
 exact x4 (by omega) (k1 _ _ h0 (by omega) hx.2.1) fun _ r h1 h2 => x5 (k2 _ r h1 (by omega) hx.2.2)
theorem Et : Ev fun n => ∀ (x : Rl) (b : Int), 0 ≤ b → b ≤ 1048576 → LI hY x → pY (jM ((C B).run n) x.1 x.2.1.1 x.2.2.1.1 b) (Cu b (LI 1048576 x)) := by
 refine (Er (B := B)).succ fun n hn k2 x b hb0 hb hx => ?_
 rw [aa, Ax]
 unfold s5
 exact x4 hb (k2 _ _ hb0 hb hx.1) fun _ r h1 h2 => x5 (k2 _ r h1 (by omega) hx.2)
theorem Cy : Ev fun n => ∀ (l : List Df) (b : Int), 0 ≤ b → b ≤ 1048576 → mO hY l → pY (mc ((C B).run n) l b) (Cu b (mO 1048576 l)) := by
 refine (Es (B := B)).succ fun n hn k1 l b hb0 hb hl => ?_
 rw [aa, zA]
 unfold qR
 rw [aj]
 refine vh hb0 hb hl.1 fun h h0 => ?_
 rw [jQ (by unfold mO hY at hl; omega) (by omega)]
 exact Cv (d := cg) (g := fun (x : Df) c => jL ((C B).run n) x.1 x.2.1 x.2.2.1.1 c) (p := fun x : Df => K9 1048576 x) hn h h0 (by omega) fun x hx c hc0 hc => k1 x c hc0 hc (hl.2 x hx)
theorem Cz : Ev fun n => ∀ (l : List Rl) (b : Int), 0 ≤ b → b ≤ 1048576 → pb hY l → pY (me ((C B).run n) l b) (Cu b (pb 1048576 l)) := by
 refine (Et (B := B)).succ fun n hn k1 l b hb0 hb hl => ?_
 rw [aa, zB]
 unfold qS
 rw [aj]
 refine vh hb0 hb hl.1 fun h h0 => ?_
 rw [jQ (by unfold pb hY at hl; omega) (by omega)]
 exact Cv (d := dA) (g := fun (x : Rl) c => jM ((C B).run n) x.1 x.2.1.1 x.2.2.1.1 c) (p := fun x : Rl => LI 1048576 x) hn h h0 (by omega) fun x hx c hc0 hc => k1 x c hc0 hc (hl.2 x hx)
theorem Ki : Ev fun n => ∀ (D : List Df) (V : List ByteArray) (L : List Rl) (b : Int), 0 ≤ b → b ≤ 1048576 → mO hY D → Bi hY V → pb hY L → pY (tD ((C B).run n) D V L b) (Cu b (mO 1048576 D ∧ Bi 1048576 V ∧ pb 1048576 L)) := by
 refine ((Cy (B := B)).and ((xk (B := B)).and (Cz (B := B)))).succ fun n hn ⟨k1, k2, k3⟩ D V L b hb0 hb h1 h2 h3 => ?_
 rw [aa, FG]
 unfold zn
 exact x4 hb (k1 _ _ hb0 hb h1) fun _ r g1 g2 => x4 (by omega) (k2 _ r g1 (by omega) h2) fun _ r' g3 g4 => x5 (k3 _ r' g3 (by omega) h3)
end Go.Px.Seat
