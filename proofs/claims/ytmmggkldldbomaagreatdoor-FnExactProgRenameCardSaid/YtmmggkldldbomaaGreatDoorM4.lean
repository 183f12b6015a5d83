/- Own texts, part M4: PwA PvG PdA PdB PvH PvI PwB. -/
import Derived.Test.YtmmggkldldbomaaGreatDoorM3
import Derived.Test.YtmmggkldldbomaaGreatDoorM2
set_option linter.unusedVariables false
namespace Go.Px.Seat
open Go Pm Pt
section
variable {α : Type} {M X : Mem α} {x : Hd} {j k : Nat} {d : α}
theorem Ku (h : fI M k = true) : fI (M ++ X) k = true ∧ ak (M ++ X) k = ak M k := by
 cases k with
 | zero => simp [fI] at h
 | succ k =>
  have hk : k < M.length := by
   by_cases hk : k < M.length
   ·exact hk
   ·simp [fI, List.getD_eq_getElem?_getD, List.getElem?_eq_none (show M.length ≤ k by omega)] at h
  simp only [fI, ak, List.getD_eq_getElem?_getD, List.getElem?_append_left hk] at h ⊢
  exact ⟨h, trivial⟩
theorem FW (h : bH M x = true) : x.2.2 = 0 ∨ (fI M x.1 = true ∧ x.2.1 + x.2.2 ≤ (ak M x.1).length) := by
 unfold bH at h
 simpa only [Bool.or_eq_true, Nat.beq_eq, Bool.and_eq_true, Nat.ble_eq] using h
theorem dU (h : bH M x = true) : bH (M ++ X) x = true ∧ au (M ++ X) x = au M x := by
 rcases FW h with h0 | ⟨h1, h2⟩
 ·constructor
  ·unfold bH; rw [h0]; rfl
  ·unfold au
   rw [h0, Nat.add_zero, List.drop_eq_nil_of_le (by rw [List.length_take]; omega), List.drop_eq_nil_of_le (by rw [List.length_take]; omega)]
 ·obtain ⟨h3, h4⟩ := Ku (X := X) h1
  constructor
  ·unfold bH
   rw [h3, h4, Nat.ble_eq.mpr h2]
   simp
  ·unfold au; rw [h4]
theorem rl (h : bH M x = true) : (au M x).length = x.2.2 := by
 unfold au
 rw [List.length_drop, List.length_take]
 rcases FW h with h0 | ⟨h1, h2⟩ <;> omega
theorem G8 (h : bH M x = true) (hj : j < x.2.2) : dO M x.1 (x.2.1 + j) = true ∧ (ak M x.1).getD (x.2.1 + j) d = (au M x).getD j d := by
 rcases FW h with h0 | ⟨h1, h2⟩
 ·omega
 ·constructor
  ·unfold dO
   rw [h1, Bool.true_and]
   exact Nat.ble_eq.mpr (by omega)
  ·unfold au
   rw [List.getD_eq_getElem?_getD, List.getD_eq_getElem?_getD, List.getElem?_drop, List.getElem?_take, if_pos (by omega)]
end
noncomputable abbrev Ov (S : Mem ByteArray) (N : Mem Tn) : Dh → Df := fun y => (y.1, ((List.map (fun y => y) (au S y.2.1)), (((List.map (iy) (au N y.2.2.1.1)), y.2.2.1.2), y.2.2.2)))
noncomputable abbrev Ow (N : Mem Tn) : Rh → Rl := fun y => (y.1, (((List.map (iy) (au N y.2.1.1)), y.2.1.2), (((List.map (iy) (au N y.2.2.1.1)), y.2.2.1.2), y.2.2.2)))
structure Vw (D : Mem Dh) (R : Mem Rh) (S : Mem ByteArray) (N : Mem Tn) (hd hv hr : Hd) (X : List Df) (V : List ByteArray) (L : List Rl) : Prop where
 ok : (((bH D hd) && (List.all (au D hd) fun y => ((bH S y.2.1) && (((bH N y.2.2.1.1) && true) && true)))) && ((bH S hv) && (((bH R hr) && (List.all (au R hr) fun y_1 => (((bH N y_1.2.1.1) && true) && (((bH N y_1.2.2.1.1) && true) && true)))) && true))) = true
 sD : List.map (Ov S N) (au D hd) = X
 sV : List.map (fun y => y) (au S hv) = V
 sR : List.map (Ow N) (au R hr) = L
section
variable {D D' : Mem Dh} {R R' : Mem Rh} {S S' : Mem ByteArray} {N N' : Mem Tn} {d r p v n m i : Nat} {hd hv hr : Hd} {X : List Df} {V : List ByteArray} {L : List Rl}
theorem PA.vw (h : PA D R S N d r p v n m X V L) : Vw D R S N (H d X.length) (H v V.length) (H r L.length) X V L := ⟨h.ok, h.sD, h.sV, h.sR⟩
theorem Vw.parts (h : Vw D R S N hd hv hr X V L) : bH D hd = true ∧ bH S hv = true ∧ bH R hr = true ∧ (∀ y ∈ au D hd, bH S y.2.1 = true ∧ bH N y.2.2.1.1 = true) ∧ ∀ y ∈ au R hr, bH N y.2.1.1 = true ∧ bH N y.2.2.1.1 = true := by
 have := h.ok
 simp only [Bool.and_true, Bool.and_eq_true, List.all_eq_true] at this
 obtain ⟨⟨h1, h2⟩, h3, h4, h5⟩ := this
 exact ⟨h1, h3, h4, h2, h5⟩
theorem Vw.nD (h : Vw D R S N hd hv hr X V L) : hd.2.2 = X.length := by rw [← rl h.parts.1, ← h.sD, List.length_map]
theorem Vw.vV (h : Vw D R S N hd hv hr X V L) : au S hv = V := by rw [← h.sV, List.map_id']
theorem Vw.nV (h : Vw D R S N hd hv hr X V L) : hv.2.2 = V.length := by rw [← rl h.parts.2.1, h.vV]
theorem Vw.nR (h : Vw D R S N hd hv hr X V L) : hr.2.2 = L.length := by rw [← rl h.parts.2.2.1, ← h.sR, List.length_map]
theorem Vw.QN (h : Vw D R S N hd hv hr X V L) (hi : i < X.length) : dO D hd.1 (hd.2.1 + i) = true ∧ (ak D hd.1).getD (hd.2.1 + i) ox = (au D hd).getD i ox := G8 h.parts.1 (by rw [h.nD]; exact hi)
theorem Vw.QO (h : Vw D R S N hd hv hr X V L) (hi : i < L.length) : dO R hr.1 (hr.2.1 + i) = true ∧ (ak R hr.1).getD (hr.2.1 + i) kT = (au R hr).getD i kT := G8 h.parts.2.2.1 (by rw [h.nR]; exact hi)
theorem z7 (l : List Tn) : List.map iy l = l := by simp
theorem Vw.eD (h : Vw D R S N hd hv hr X V L) (hi : i < X.length) : ∃ e, (au D hd).getD i ox = e ∧ e.1 = (X.getD i cg).1 ∧ bH S e.2.1 = true ∧ au S e.2.1 = (X.getD i cg).2.1 ∧ bH N e.2.2.1.1 = true ∧ au N e.2.2.1.1 = (X.getD i cg).2.2.1.1 := by
 have hl : (au D hd).length = X.length := by rw [← h.sD, List.length_map]
 refine ⟨_, rfl, ?_⟩
 have hm := aZ (d := ox) (show i < (au D hd).length by omega)
 obtain ⟨k1, k2⟩ := h.parts.2.2.2.1 _ hm
 have hx : X.getD i cg = Ov S N ((au D hd).getD i ox) := by
  rw [← h.sD, List.getD_eq_getElem?_getD, List.getD_eq_getElem?_getD, List.getElem?_map, List.getElem?_eq_getElem (by omega)]
  rfl
 rw [hx]
 exact ⟨rfl, k1, (List.map_id' _).symm, k2, (z7 _).symm⟩
theorem Vw.eR (h : Vw D R S N hd hv hr X V L) (hi : i < L.length) : ∃ e, (au R hr).getD i kT = e ∧ e.1 = (L.getD i dA).1 ∧ bH N e.2.1.1 = true ∧ au N e.2.1.1 = (L.getD i dA).2.1.1 ∧ bH N e.2.2.1.1 = true ∧ au N e.2.2.1.1 = (L.getD i dA).2.2.1.1 := by
 have hl : (au R hr).length = L.length := by rw [← h.sR, List.length_map]
 refine ⟨_, rfl, ?_⟩
 have hm := aZ (d := kT) (show i < (au R hr).length by omega)
 obtain ⟨k1, k2⟩ := h.parts.2.2.2.2 _ hm
 have hx : L.getD i dA = Ow N ((au R hr).getD i kT) := by
  rw [← h.sR, List.getD_eq_getElem?_getD, List.getD_eq_getElem?_getD, List.getElem?_map, List.getElem?_eq_getElem (by omega)]
  rfl
 rw [hx]
 exact ⟨rfl, k1, (z7 _).symm, k2, (z7 _).symm⟩
theorem Vw.app (h : Vw D R S N hd hv hr X V L) : Vw (D ++ D') (R ++ R') (S ++ S') (N ++ N') hd hv hr X V L := by
 obtain ⟨h1, h2, h3, h4, h5⟩ := h.parts
 obtain ⟨a1, a2⟩ := dU (X := D') h1
 obtain ⟨b1, b2⟩ := dU (X := S') h2
 obtain ⟨c1, c2⟩ := dU (X := R') h3
 refine ⟨?_, ?_, ?_, ?_⟩
 ·simp only [Bool.and_true, Bool.and_eq_true, List.all_eq_true]
  rw [a2, c2]
  exact ⟨⟨a1, fun y hy => ⟨(dU (h4 y hy).1).1, (dU (h4 y hy).2).1⟩⟩, b1, c1, fun y hy => ⟨(dU (h5 y hy).1).1, (dU (h5 y hy).2).1⟩⟩
 ·rw [a2, ← h.sD]
  exact List.map_congr_left fun y hy => by
   simp only [Ov]
   rw [(dU (h4 y hy).1).2, (dU (h4 y hy).2).2]
 ·rw [b2, h.sV]
 ·rw [c2, ← h.sR]
  exact List.map_congr_left fun y hy => by
   simp only [Ow]
   rw [(dU (h5 y hy).1).2, (dU (h5 y hy).2).2]
noncomputable def FX (D : Mem Dh) (S : Mem ByteArray) (N : Mem Tn) (X : List Df) : Mem Dh := D ++ [some (mP (S.length + 1) N.length X)]
noncomputable def FY (R : Mem Rh) (N : Mem Tn) (X : List Df) (L : List Rl) : Mem Rh := R ++ [some (nN (N.length + X.length) L)]
noncomputable def EF (S : Mem ByteArray) (X : List Df) (V : List ByteArray) : Mem ByteArray := S ++ ([some V] ++ (oK X).map some)
noncomputable def Ox (N : Mem Tn) (X : List Df) (L : List Rl) : Mem Tn := N ++ ((la X).map some ++ (oL L).map some)
theorem NA : PA (FX D S N X) (FY R N X L) (EF S X V) (Ox N X L) D.length R.length (S.length + 1) S.length N.length (N.length + X.length) X V L := by
 have e1 : (S ++ [some V]).length = S.length + 1 := by simp
 have e2 : (N ++ (la X).map some).length = N.length + X.length := by rw [List.length_append, List.length_map, jS]
 refine ⟨ri, ri, ?_, ?_, ?_, ?_, .inl (by omega), Nat.le_refl _⟩
 ·unfold EF; rw [← List.append_assoc, ← e1]; exact rS
 ·unfold EF; rw [← List.append_assoc]; exact zY ri
 ·unfold Ox; rw [← List.append_assoc]; exact rR rS
 ·unfold Ox; rw [← List.append_assoc, ← e2]; exact rS
theorem take_one {α : Type} {l : List α} {i : Nat} {d : α} (h : i < l.length) : l.take (i + 1) = l.take i ++ [l.getD i d] := by
 rw [List.take_add_one, List.getElem?_eq_getElem h, List.getD_eq_getElem?_getD, List.getElem?_eq_getElem h]; rfl
theorem Kv {i : Nat} (h : i < X.length) : mP p n (X.take (i + 1)) = mP p n (X.take i) ++ [((X.getD i cg).1, ((p + i + 1, (0, (X.getD i cg).2.1.length)), (((n + i + 1, (0, (X.getD i cg).2.2.1.1.length)), ()), ())))] := by
 rw [take_one (d := cg) h, G3, List.length_take, Nat.min_eq_left (by omega)]
 rfl
theorem Kw {i : Nat} (h : i < L.length) : nN n (L.take (i + 1)) = nN n (L.take i) ++ [((L.getD i dA).1, (((n + 2 * i + 1, (0, (L.getD i dA).2.1.1.length)), ()), (((n + 2 * i + 2, (0, (L.getD i dA).2.2.1.1.length)), ()), ())))] := by
 rw [take_one (d := dA) h, G4, List.length_take, Nat.min_eq_left (by omega)]
 rfl
end
theorem LU {B : ax} : Ev fun n => ∀ (D : Mem Dh) (R : Mem Rh) (S : Mem ByteArray) (N : Mem Tn) (hd hv hr : Hd) (X : List Df) (V : List ByteArray) (L : List Rl), Vw D R S N hd hv hr X V L → Sm X V L →
  kH ((C B).run n) D R S N hd hv hr = some (FX D S N X, (FY R N X L, (EF S X V, (Ox N X L, (H D.length X.length, (H S.length V.length, (H R.length L.length, ()))))))) := by
 refine ((Iw (B := B)).and (Ix (B := B))).succ fun n hn ⟨k1, k2⟩ D R S N hd hv hr X V L h ⟨hX, hV, hL⟩ => ?_
 rw [aa, xz]
 unfold pM
 have hX1 := hX.1
 have hV1 := hV.1
 have hL1 := hL.1
 rw [h.parts.2.1, ah (show (true && true && true) = true from rfl), h.sV, k1 V (by omega)]
 simp only [Option.bind_some]
 have el : ∀ i, i ≤ X.length → (S ++ ([some V] ++ (oK (X.take i)).map some)).length = S.length + 1 + i := fun i hi => by
  simp [oK]; omega
 have en : ∀ i, i ≤ X.length → (N ++ (la (X.take i)).map some).length = N.length + i := fun i hi => by
  simp [la]; omega
 refine aN (fun q => ∃ i : Nat, q = (((i : Int), ((), ((), ((), ())))), ((hd, (hv, (hr, ()))), (((), (H S.length V.length, ((), ()))), (((), ((), ((), ()))), (mP (S.length + 1) N.length (X.take i), (S ++ ([some V] ++ (oK (X.take i)).map some), (D, (R, (N ++ (la (X.take i)).map some, ()))))))))) ∧ i ≤ X.length) (fun q => 1048577 - q.1.1.toNat) _ ?_ n _ (by simp only; omega) ⟨0, by simp [oK, la, mP], Nat.zero_le _⟩
 rintro rec _ ⟨i, rfl, hi⟩ ih
 dsimp only
 rw [ab, h.nD]
 by_cases h1 : i < X.length
 ·obtain ⟨g1, g2⟩ := h.QN h1
  obtain ⟨e, g3, g4, g5, g6, g7, g8⟩ := h.eD h1
  rw [g3] at g2
  have hsd := hX.2 _ (aZ (d := cg) h1)
  have hsl := hsd.2.1.1
  have hsn := hsd.2.2.1
  obtain ⟨q1, q2⟩ := dU (X := [some V] ++ (oK (X.take i)).map some) g5
  obtain ⟨q3, q4⟩ := dU (X := (la (X.take i)).map some) g7
  rw [decide_eq_true (show (i : Int) < X.length by omega), cond_true, ah (ae (by omega) (by omega))]
  simp only [Int.toNat_natCast]
  rw [g1, ah rfl, ah (ae (by omega) (by omega)), ah rfl, g2, q1, ah (show (true && true && true) = true from rfl), q2, g6, List.map_id', k1 _ (by omega)]
  simp only [Option.bind_some]
  rw [ah (ae (by omega) (by omega)), ah rfl, q3, ah (show (true && true && true) = true from rfl), q4, g8, rW, k2 _ (by omega)]
  simp only [Option.bind_some]
  rw [el i (by omega), en i (by omega), g4, show S.length + 1 + i + 1 = S.length + 1 + i + 1 from rfl, ← Kv h1, ah (fV (by rw [lF, List.length_take]; omega)), ar (by omega) (by omega)]
  refine ih _ ⟨i + 1, ?_, by omega⟩ (by simp only; omega)
  rw [EC h1, ED h1]
  simp
 ·rw [decide_eq_false (show ¬ (i : Int) < X.length by omega), cond_false]
  obtain rfl : i = X.length := by omega
  rw [List.take_length]
  clear ih el en
  have en : ∀ i, i ≤ L.length → (N ++ ((la X).map some ++ (oL (L.take i)).map some)).length = N.length + X.length + 2 * i := fun i hi => by
   simp only [List.length_append, List.length_map, jS, fH, List.length_take]; omega
  have en' : ∀ i, i ≤ L.length → ∀ x : Option (List Tn), (N ++ ((la X).map some ++ (oL (L.take i)).map some) ++ [x]).length = N.length + X.length + 2 * i + 1 := fun i hi x => by
   rw [List.length_append, en i hi]; rfl
  refine aN (fun q => ∃ i : Nat, q = (((i : Int), ((), ((), ((), ())))), ((hd, (hv, (hr, ()))), (((), (H S.length V.length, ((), ()))), (((), ((), ((), ()))), (mP (S.length + 1) N.length X, (nN (N.length + X.length) (L.take i), (S ++ ([some V] ++ (oK X).map some), (D, (R, (N ++ ((la X).map some ++ (oL (L.take i)).map some), ())))))))))) ∧ i ≤ L.length) (fun q => 1048577 - q.1.1.toNat) _ ?_ n _ (by simp only; omega) ⟨0, by simp [oL, nN], Nat.zero_le _⟩
  rintro rec _ ⟨i, rfl, hi⟩ ih
  dsimp only
  rw [ab, h.nR]
  by_cases h1 : i < L.length
  ·obtain ⟨g1, g2⟩ := h.QO h1
   obtain ⟨e, g3, g4, g5, g6, g7, g8⟩ := h.eR h1
   rw [g3] at g2
   have hsd := hL.2 _ (aZ (d := dA) h1)
   have hsl := hsd.1.1
   have hsn := hsd.2.1
   obtain ⟨q1, q2⟩ := dU (X := (la X).map some ++ (oL (L.take i)).map some) g5
   obtain ⟨q3, q4⟩ := dU (X := (la X).map some ++ (oL (L.take i)).map some) g7
   rw [decide_eq_true (show (i : Int) < L.length by omega), cond_true, ah (ae (by omega) (by omega))]
   simp only [Int.toNat_natCast]
   rw [g1, ah rfl, ah (ae (by omega) (by omega)), ah rfl, g2, q1, ah (show (true && true && true) = true from rfl), q2, g6, rW, k2 _ (by omega)]
   simp only [Option.bind_some]
   rw [ah (ae (by omega) (by omega)), ah rfl, q3, ah (show (true && true && true) = true from rfl), q4, g8, rW, k2 _ (by omega)]
   simp only [Option.bind_some]
   rw [en i (by omega), en' i (by omega) _, g4, show N.length + X.length + 2 * i + 1 + 1 = N.length + X.length + 2 * i + 2 from rfl, ← Kw h1, ah (fV (by rw [gN, List.length_take]; omega)), ar (by omega) (by omega)]
   refine ih _ ⟨i + 1, ?_, by omega⟩ (by simp only; omega)
   rw [EE h1]
   simp
  ·rw [decide_eq_false (show ¬ (i : Int) < L.length by omega), cond_false]
   obtain rfl : i = L.length := by omega
   rw [List.take_length, lF, gN]
   rfl
end Go.Px.Seat
namespace Go.Px.Seat
open Go Pm Pt
variable {code : Code}
theorem NB {R : Type} (x : Option R) : ok (true && true) x = x := rfl
theorem wx (b : Bool) : (!(r9 b b)) = false := by cases b <;> rfl
end Go.Px.Seat
namespace Pt
inductive Reach (e : Nat → Nat → Prop) : Nat → Nat → Prop
 | one {i j : Nat} : e i j → Reach e i j
 | step {i k j : Nat} : e i k → Reach e k j → Reach e i j
section
variable {e : Nat → Nat → Prop}
theorem Reach.trans {i k j : Nat} (h : Reach e i k) (h' : Reach e k j) : Reach e i j := by
 induction h with
 | one h => exact .step h h'
 | step h _ ih => exact .step h (ih h')
theorem Reach.last {i k j : Nat} (h : Reach e i k) (h' : e k j) : Reach e i j := h.trans (.one h')
def tab (e : Nat → Nat → Prop) : Nat → Nat → Nat → Prop
 | 0, i, j => e i j
 | k + 1, i, j => tab e k i j ∨ (tab e k i k ∧ tab e k k j)
theorem EG {k i j : Nat} (h : e i j) : tab e k i j := by
 induction k with
 | zero => exact h
 | succ k ih => exact .inl ih
theorem rX : ∀ {k i j : Nat}, tab e k i j → Reach e i j
 | 0, _, _, h => .one h
 | k + 1, _, _, h => h.elim rX fun h => (rX h.1).trans (rX h.2)
theorem rY : ∀ {k c i j : Nat}, c < k → tab e k i c → tab e k c j → tab e k i j
 | 0, _, _, _, h, _, _ => absurd h (Nat.not_lt_zero _)
 | k + 1, c, i, j, hc, h, h' => by
  by_cases hk : c = k
  ·subst hk
   refine .inr ⟨h.elim id And.left, h'.elim id And.right⟩
  ·have hc : c < k := by omega
   rcases h with h | ⟨h1, h2⟩ <;> rcases h' with h' | ⟨h1', h2'⟩
   ·exact .inl (rY hc h h')
   ·exact .inr ⟨rY hc h h1', h2'⟩
   ·exact .inr ⟨h1, rY hc h2 h'⟩
   ·exact .inr ⟨h1, h2'⟩
theorem Kx {m : Nat} (hm : ∀ i j, e i j → j < m) {i j : Nat} (h : Reach e i j) : tab e m i j := by
 induction h with
 | one h => exact EG h
 | step h _ ih => exact rY (hm _ _ h) (EG h) ih
theorem LV {m : Nat} (hm : ∀ i j, e i j → j < m) {i j : Nat} : tab e m i j ↔ Reach e i j := ⟨rX, Kx hm⟩
theorem CM {a : Nat} {M : Nat → Prop} (h0 : ∀ j, e a j → M j) (h1 : ∀ i, M i → ∀ j, e i j → M j) {j : Nat} (h : Reach e a j) : M j := by
 have : ∀ i j, Reach e i j → (∀ k, e i k → M k) → M j := by
  intro i j h
  induction h with
  | one h => exact fun hk => hk _ h
  | step h _ ih => exact fun hk => ih (h1 _ (hk _ h))
 exact this a j h h0
end
def Jk (l : List Bool) : Nat := l.countP fun b => !b
theorem LW {l : List Bool} {k : Nat} (hk : k < l.length) (h : l.getD k false = false) : Jk (l.set k true) + 1 = Jk l := by
 induction l generalizing k with
 | nil => simp at hk
 | cons b l ih =>
  cases k with
  | zero =>
   simp only [List.getD_cons_zero] at h
   subst h
   simp [Jk]
  | succ k =>
   simp only [List.getD_cons_succ] at h
   have := ih (by simpa using hk) h
   simp only [Jk, List.set_cons_succ, List.countP_cons] at this ⊢
   omega
theorem Ky (l : List Bool) : Jk l ≤ l.length := List.countP_le_length ..
end Pt
namespace Pt
def oO (p : Nat → Bool) (m : Nat) : Int := ((List.range m).findSome? fun i => if p i = true then some (i : Int) else none).getD (-1)
theorem EH {R : Type} {g : Nat → Option R} : ∀ m, (List.range (m + 1)).findSome? g = (g 0).or ((List.range m).findSome? fun i => g (i + 1)) := fun m => by
 rw [List.range_succ_eq_map, List.findSome?_cons, List.findSome?_map]
 cases g 0 <;> rfl
theorem G9 {α R : Type} {f : α → Option R} {d : α} : ∀ l : List α, ((List.range l.length).findSome? fun i => f (l.getD i d)) = l.findSome? f
 | [] => rfl
 | x :: l => by
  rw [List.length_cons, EH, List.findSome?_cons]
  have := G9 (f := f) (d := d) l
  simp only [List.getD_cons_succ, List.getD_cons_zero]
  rw [this]
  cases f x <;> rfl
theorem CN {α R : Type} {q : α → Bool} {r : R} : ∀ l : List α, l.findSome? (fun x => if q x = true then none else some r) = if l.all q = true then none else some r
 | [] => rfl
 | x :: l => by
  rw [List.findSome?_cons, CN l, List.all_cons]
  cases q x <;> simp
theorem tM {α R : Type} {q : α → Bool} {r : R} : ∀ l : List α, l.findSome? (fun x => if q x = true then some r else none) = if l.any q = true then some r else none
 | [] => rfl
 | x :: l => by
  rw [List.findSome?_cons, tM l, List.any_cons]
  cases q x <;> simp
theorem wy {p : Nat → Bool} {m : Nat} : (∃ i, i < m ∧ p i = true ∧ oO p m = i) ∨ ((∀ i, i < m → p i = false) ∧ oO p m = -1) := by
 unfold oO
 cases h : (List.range m).findSome? fun i => if p i = true then some (i : Int) else none with
 | none =>
  refine .inr ⟨fun i hi => ?_, rfl⟩
  have := List.findSome?_eq_none_iff.1 h i (List.mem_range.2 hi)
  simpa using this
 | some r =>
  obtain ⟨i, hi, h2⟩ := List.exists_of_findSome?_eq_some h
  split at h2
  ·next hp => exact .inl ⟨i, List.mem_range.1 hi, hp, by simpa using h2.symm⟩
  ·cases h2
theorem mH {p : Nat → Bool} {m : Nat} : decide (0 ≤ oO p m) = (List.range m).any p := by
 rcases wy (p := p) (m := m) with ⟨i, hi, hp, h⟩ | ⟨hp, h⟩
 ·rw [h, List.any_eq_true.2 ⟨i, List.mem_range.2 hi, hp⟩]
  exact decide_eq_true (by omega)
 ·rw [h, List.any_eq_false.2 fun i hi => by rw [hp i (List.mem_range.1 hi)]; simp]
  rfl
theorem z8 {α : Type} {q : α → Bool} {d : α} (l : List α) : ((List.range l.length).any fun i => q (l.getD i d)) = l.any q := by
 rw [Bool.eq_iff_iff, List.any_eq_true, List.any_eq_true]
 constructor
 ·rintro ⟨i, hi, h⟩
  have hi := List.mem_range.1 hi
  rw [List.getD_eq_getElem?_getD, List.getElem?_eq_getElem hi] at h
  exact ⟨_, List.getElem_mem hi, h⟩
 ·rintro ⟨x, hx, h⟩
  obtain ⟨i, hi, rfl⟩ := List.mem_iff_getElem.1 hx
  refine ⟨i, List.mem_range.2 hi, ?_⟩
  rw [List.getD_eq_getElem?_getD, List.getElem?_eq_getElem hi]
  exact h
end Pt
namespace Go.Px.Seat
open Go Pm Pt
variable {B : ax}
theorem dZ {P R : Type} {F : (P → Option R) → P → Option R} (st : Nat → P) (g : Nat → Option R) (K : Option R) {m n : Nat}
  (h1 : ∀ rec i, i < m → F rec (st i) = (g i).or (rec (st (i + 1)))) (h2 : ∀ rec, F rec (st m) = K) (hn : m < n) : iter F n (st 0) = ((List.range m).findSome? g).or K := by
 induction m generalizing st g n with
 | zero =>
  obtain ⟨k, rfl⟩ : ∃ k, n = k + 1 := ⟨n - 1, by omega⟩
  exact h2 _
 | succ m ih =>
  obtain ⟨k, rfl⟩ : ∃ k, n = k + 1 := ⟨n - 1, by omega⟩
  show F (iter F k) (st 0) = _
  rw [h1 _ 0 (by omega), EH, Option.or_assoc, ih (fun i => st (i + 1)) (fun i => g (i + 1)) (fun rec i hi => h1 rec (i + 1) (by omega)) h2 (by omega)]
theorem eJ {α P R : Type} {F : (P → Option R) → P → Option R} (st : Nat → P) (f : α → Option R) (l : List α) (d : α) (K : Option R) {n : Nat}
  (h1 : ∀ rec i, i < l.length → F rec (st i) = (f (l.getD i d)).or (rec (st (i + 1)))) (h2 : ∀ rec, F rec (st l.length) = K) (hn : l.length < n) : iter F n (st 0) = (l.findSome? f).or K := by
 rw [dZ st (fun i => f (l.getD i d)) K h1 h2 hn, G9]
theorem Kz {R : Type} {x : Option R} {a : R} : x.or (some a) = some (x.getD a) := by cases x <;> rfl
theorem seq_eq (a b : ByteArray) : seq a b = decide (a = b) := by
 rw [Cj]
 exact decide_eq_decide.2 ⟨Ci, congrArg pV⟩
def rZ (s : ByteArray) : Bool := jC (pV s)
def P1 (x : Tn) : Nd := (x.1, x.2.1, pV x.2.2.1)
def KA (l : List Tn) : Bool := zP (l.map P1)
theorem Ha (l : List Tn) : (l.map P1).map rh = l := by
 rw [List.map_map]
 refine (List.map_congr_left fun x _ => ?_).trans (List.map_id l)
 show (x.1, (x.2.1, (bs (pV x.2.2.1), ()))) = x
 rw [wi]
theorem KB {l : List Tn} (h : Jj 1048576 l) : ND (l.map P1) := fun y hy => by
 obtain ⟨x, hx, rfl⟩ := List.mem_map.1 hy
 exact ⟨zM _, by have := h.2 x hx; unfold P1; simp only; rw [u9]; omega⟩
theorem LX : Ev fun n => ∀ l : List Tn, Jj 1048576 l → jx ((C B0).run n) l = some (KA l, ()) :=
 Kf.mono fun n k l hl => by
  have := k (l.map P1) (KB hl)
  rwa [Ha] at this
theorem LY : Ev fun n => ∀ l : List Tn, Jj 1048576 l → jy ((C B0).run n) l = some (KA l, ()) :=
 It.mono fun n k l hl => by
  have := k (l.map P1) (KB hl) (by rw [List.length_map]; have := hl.1; omega)
  rwa [Ha] at this
theorem x8 : Ev fun n => ∀ s : ByteArray, s.size ≤ 1048576 → da ((C B0).run n) s = some (rZ s, ()) :=
 Bg.mono fun n k s hs => by
  have := k (pV s) (zM s) (by rw [u9]; omega)
  rwa [wi] at this
theorem x9 : Ev fun n => ∀ s : ByteArray, s.size ≤ 1048576 → c8 ((C B0).run n) s = some (rZ s, ()) :=
 Ej.mono fun n k s hs => by
  have := k (pV s) (zM s) (by rw [u9]; omega)
  rwa [wi] at this
theorem F0 {α R Q : Type} {g : α → Option R} {f : R → Q} : ∀ l : List α, l.findSome? (fun i => (g i).map f) = (l.findSome? g).map f
 | [] => rfl
 | x :: l => by
  rw [List.findSome?_cons, List.findSome?_cons, F0 l]
  cases g x <;> rfl
theorem mI {R : Type} {p : Nat → Bool} {m : Nat} {f : Int → R} : (((List.range m).findSome? fun i => if p i = true then some (f (i : Int)) else none).or (some (f (-1)))) = some (f (oO p m)) := by
 rw [Kz]
 unfold oO
 have : (fun i : Nat => if p i = true then some (f (i : Int)) else none) = fun i => (if p i = true then some (i : Int) else none).map f := by
  funext i
  cases p i <;> rfl
 rw [this, F0]
 cases (List.range m).findSome? fun i => if p i = true then some (i : Int) else none <;> rfl
theorem Hb : Ev fun n => ∀ (l : List ByteArray) (s : ByteArray), l.length ≤ 4000000 → cD ((C B).run n) l s = some (oO (fun i => decide (s = l.getD i (bs []))) l.length, ()) := by
 refine Ev.cU.succ fun n hn _ l s hl => ?_
 rw [aa, kL]
 unfold fQ
 rw [aj]
 refine (dZ (fun i => (((i : Int), ((l.length : Int), (s, (l, (0, ()))))), ())) (fun i => if decide (s = l.getD i (bs [])) = true then some ((i : Int), ()) else none) (some (-1, ())) (m := l.length) ?_ ?_ (by omega)).trans ?_
 ·intro rec i hi
  dsimp only
  rw [ab, decide_eq_true (by omega), cond_true, aj, ah (ae (by omega) (by omega)), Int.toNat_natCast, seq_eq, ar (by omega) (by omega)]
  cases decide (s = l.getD i (bs [])) <;> rfl
 ·intro rec
  dsimp only
  rw [ab, decide_eq_false (by omega), cond_false]
 ·exact mI (f := fun x => (x, ()))
def mJ (s : ByteArray) (l : List ByteArray) : Bool := l.any fun x => decide (s = x)
theorem ya {l : List ByteArray} {s : ByteArray} : (List.range l.length).any (fun i => decide (s = l.getD i (bs []))) = mJ s l := z8 (q := fun x => decide (s = x)) l
theorem tN : Ev fun n => ∀ (l : List ByteArray) (s : ByteArray), l.length ≤ 4000000 → a8 ((C B).run n) l s = some (mJ s l, ()) := by
 refine (Hb (B := B)).succ fun n hn k l s hl => ?_
 rw [aa, jf]
 unfold fe
 rw [k l s hl]
 simp only [Option.bind_some]
 rw [bZ, mH, ya]
theorem r6 : Ev fun n => ∀ (l : List ByteArray) (s : ByteArray), l.length ≤ 4000000 → gy ((C B).run n) l s = some (oO (fun i => decide (s = l.getD i (bs []))) l.length, ()) := by
 refine Ev.cU.succ fun n hn _ l s hl => ?_
 rw [aa, DX]
 unfold w9
 refine (dZ (fun i => (((i : Int), (l, (s, (0, ())))), ())) (fun i => if decide (s = l.getD i (bs [])) = true then some ((i : Int), ()) else none) (some (-1, ())) (m := l.length) ?_ ?_ (by omega)).trans ?_
 ·intro rec i hi
  dsimp only
  rw [aj, ab, decide_eq_true (by omega), cond_true, ah (ae (by omega) (by omega)), Int.toNat_natCast, seq_eq, ar (by omega) (by omega)]
  rw [show decide (l.getD i (bs []) = s) = decide (s = l.getD i (bs [])) from decide_eq_decide.2 eq_comm]
  cases decide (s = l.getD i (bs [])) <;> rfl
 ·intro rec
  dsimp only
  rw [aj, ab, decide_eq_false (by omega), cond_false]
 ·exact mI (f := fun x => (x, ()))
theorem r7 {α : Type} {l : List α} {d : α} {g : α → Option (Bool × Unit)} {p : α → Bool} {n : Nat} (hl : l.length ≤ 4000000) (hn : 1152921504606846976 ≤ n) (hg : ∀ x ∈ l, g x = some (p x, ())) :
  iter (P := (Int × Int × Unit × List α × Int × Unit) × Unit) (fun rec ((t8, (t7, (_, (s0, (t4, _))))), _) =>
   bif (bS t8 t7) then
    ok (bQ t8 (len s0)) <|
    (g (List.getD s0 (Int.toNat t8) d)).bind fun (r100_1, _) =>
    bif r100_1 then
     some (t8, ())
    else
    rec (((aB .i64 t8 1), (t7, ((), (s0, (t4, ()))))), ())
   else
   some ((-1), ())) n ((0, ((len l), ((), (l, (0, ()))))), ()) = some (oO (fun i => p (l.getD i d)) l.length, ()) := by
 rw [aj]
 refine (dZ (fun i => (((i : Int), ((l.length : Int), ((), (l, (0, ()))))), ())) (fun i => if p (l.getD i d) = true then some ((i : Int), ()) else none) (some (-1, ())) (m := l.length) ?_ ?_ (by omega)).trans (mI (f := fun x => (x, ())))
 ·intro rec i hi
  dsimp only
  rw [ab, decide_eq_true (by omega), cond_true, aj, ah (ae (by omega) (by omega)), Int.toNat_natCast, hg _ (aZ hi)]
  simp only [Option.bind_some]
  rw [ar (by omega) (by omega)]
  cases p (l.getD i d) <;> rfl
 ·intro rec
  dsimp only
  rw [ab, decide_eq_false (by omega), cond_false]
theorem vo {α : Type} {l : List α} {d : α} {p : α → Bool} : kG 0 (oO (fun i => p (l.getD i d)) l.length) = l.any p := by
 rw [bZ, mH, z8]
theorem F1 : Ev fun n => ∀ l : List ByteArray, Bi 1048576 l → bf ((C B0).run n) l = some (l.any fun s => !rZ s, ()) := by
 have h0 : Ev fun n => ∀ s : ByteArray, s.size ≤ 1048576 → gg ((C B0).run n) s = some (!rZ s, ()) := by
  refine x9.succ fun n hn k s hs => ?_
  rw [aa, uX]
  unfold np
  rw [k s hs]; rfl
 have h1 : Ev fun n => ∀ l : List ByteArray, Bi 1048576 l → br ((C B0).run n) l = some (oO (fun i => !rZ (l.getD i (bs []))) l.length, ()) := by
  refine h0.succ fun n hn k l hl => ?_
  rw [aa, eF]
  exact r7 (g := fun s => gg ((C B0).run n) s) (p := fun s => !rZ s) (by have := hl.1; omega) hn fun x hx => k x (hl.2 x hx)
 refine h1.succ fun n hn k l hl => ?_
 rw [aa, dX]
 unfold cd
 rw [k l hl]
 simp only [Option.bind_some]
 rw [vo (p := fun s => !rZ s)]
theorem F2 : Ev fun n => ∀ l : List ByteArray, Bi 1048576 l → bg ((C B0).run n) l = some (l.any fun s => !rZ s, ()) := by
 have h0 : Ev fun n => ∀ s : ByteArray, s.size ≤ 1048576 → gh ((C B0).run n) s = some (!rZ s, ()) := by
  refine x9.succ fun n hn k s hs => ?_
  rw [aa, uY]
  unfold nq
  rw [k s hs]; rfl
 have h1 : Ev fun n => ∀ l : List ByteArray, Bi 1048576 l → bu ((C B0).run n) l = some (oO (fun i => !rZ (l.getD i (bs []))) l.length, ()) := by
  refine h0.succ fun n hn k l hl => ?_
  rw [aa, eG]
  exact r7 (g := fun s => gh ((C B0).run n) s) (p := fun s => !rZ s) (by have := hl.1; omega) hn fun x hx => k x (hl.2 x hx)
 refine h1.succ fun n hn k l hl => ?_
 rw [aa, dY]
 unfold cf
 rw [k l hl]
 simp only [Option.bind_some]
 rw [vo (p := fun s => !rZ s)]
theorem KC : Ev fun n => ∀ l : List ByteArray, Bi 1048576 l → lz ((C B0).run n) l = some (l.all rZ, ()) := by
 refine x8.succ fun n hn k l hl => ?_
 have hl1 := hl.1
 rw [aa, Cg]
 unfold uU
 refine (eJ (fun i => (((i : Int), (l, (false, ()))), ())) (fun s => if rZ s = true then none else some (false, ())) l (bs []) (some (true, ())) ?_ ?_ (by omega)).trans ?_
 ·intro rec i hi
  dsimp only
  rw [aj, ab, decide_eq_true (by omega), cond_true, ah (ae (by omega) (by omega)), Int.toNat_natCast, k _ (hl.2 _ (aZ hi))]
  simp only [Option.bind_some]
  rw [ar (by omega) (by omega)]
  cases rZ (l.getD i (bs [])) <;> rfl
 ·intro rec
  dsimp only
  rw [aj, ab, decide_eq_false (by omega), cond_false]
 ·rw [CN]
  cases l.all rZ <;> rfl
def Ql (k : Int) : Bool := decide (1 ≤ k) && decide (k ≤ 3)
theorem LZ : Ev fun n => ∀ k : Int, qN ((C B).run n) k = some (Ql k, ()) := by
 refine Ev.cU.succ fun n hn _ k => ?_
 rw [aa, Ea]
 unfold xe Ql
 by_cases h1 : k = 1
 ·subst h1; rfl
 ·by_cases h2 : k = 2
  ·subst h2; rfl
  ·by_cases h3 : k = 3
   ·subst h3; rfl
   ·have e1 : (k == 1) = false := by simpa using h1
    have e2 : (k == 2) = false := by simpa using h2
    have e3 : (k == 3) = false := by simpa using h3
    rw [e1, e2, e3]
    have : (decide (1 ≤ k) && decide (k ≤ 3)) = false := by
     rw [Bool.and_eq_false_iff, decide_eq_false_iff_not, decide_eq_false_iff_not]; omega
    rw [this]
    rfl
def NC (d : Df) : Bool := KA d.2.2.1.1 && (rZ d.1 && d.2.1.all rZ)
def Oy (r : Rl) : Bool := Ql r.1 && (KA r.2.1.1 && KA r.2.2.1.1)
def fm (X : List Df) (V : List ByteArray) (L : List Rl) : Bool := X.all NC && (L.all Oy && V.all rZ)
theorem Hc (l : List ByteArray) : (l.any fun s => !rZ s) = !(l.all rZ) := by
 induction l with
 | nil => rfl
 | cons x l ih => rw [List.any_cons, ih, List.all_cons, Bool.not_and]
theorem NF {X : List Df} {V : List ByteArray} {L : List Rl} : (X.findSome? fun d => if NC d = true then none else some (false, ())).or ((L.findSome? fun r => if Oy r = true then none else some (false, ())).or (some (V.all rZ, ()))) = some (fm X V L, ()) := by
 rw [CN, CN]
 unfold fm
 cases X.all NC <;> cases L.all Oy <;> cases V.all rZ <;> rfl
theorem Iz : Ev fun n => ∀ X V L, Sm X V L → kI ((C B0).run n) X V L = some (fm X V L, ()) := by
 refine ((LY.and x9).and ((F1.and F2).and (Nu (B := B0)))).succ fun n hn ⟨⟨kt, kn⟩, ⟨kb, kc⟩, ki⟩ X V L ⟨hX, hV, hL⟩ => ?_
 have hX1 := hX.1
 have hV1 := hV.1
 have hL1 := hL.1
 rw [aa, xA]
 unfold pN
 rw [← NF, aj]
 refine eJ (fun i => (((i : Int), ((X.length : Int), (X, ((), (false, ()))))), ((X, (V, (L, ()))), ()))) (fun d => if NC d = true then none else some (false, ())) X cg _ ?_ ?_ (by omega)
 ·intro rec i hi
  have hd := hX.2 _ (aZ (d := cg) hi)
  dsimp only
  rw [aj, ab, decide_eq_true (by omega), cond_true, ah (ae (by omega) (by omega)), Int.toNat_natCast, kt _ hd.2.2, kn _ hd.1, kb _ hd.2.1]
  simp only [Option.bind_some]
  have e : aB .i64 (i : Int) 1 = ((i + 1 : Nat) : Int) := ar (by omega) (by omega)
  rw [Hc]
  unfold NC
  cases KA (X.getD i cg).2.2.1.1 <;> cases rZ (X.getD i cg).1 <;> cases (X.getD i cg).2.1.all rZ <;> first | rfl | (show rec (((aB .i64 (i : Int) 1), _), _) = _; rw [e]; rfl)
 ·intro rec
  dsimp only
  rw [ab, decide_eq_false (by omega), cond_false, aj]
  refine eJ (fun i => (((i : Int), ((L.length : Int), (L, ((), (false, ()))))), ((X, (V, (L, ()))), ()))) (fun r => if Oy r = true then none else some (false, ())) L dA _ ?_ ?_ (by omega)
  ·intro rec i hi
   have hd := hL.2 _ (aZ (d := dA) hi)
   dsimp only
   rw [aj, ab, decide_eq_true (by omega), cond_true, ah (ae (by omega) (by omega)), Int.toNat_natCast, kt _ hd.1, kt _ hd.2, ki]
   simp only [Option.bind_some]
   have e : aB .i64 (i : Int) 1 = ((i + 1 : Nat) : Int) := ar (by omega) (by omega)
   unfold Oy Ql
   cases KA (L.getD i dA).2.1.1 <;> cases KA (L.getD i dA).2.2.1.1 <;> cases (decide (1 ≤ (L.getD i dA).1) && decide ((L.getD i dA).1 ≤ 3)) <;> first | rfl | (show rec (((aB .i64 (i : Int) 1), _), _) = _; rw [e]; rfl)
  ·intro rec
   dsimp only
   rw [ab, decide_eq_false (by omega), cond_false, kc _ hV]
   simp only [Option.bind_some]
   rw [Hc, Bool.not_not]
theorem IA : Ev fun n => ∀ X V L, Sm X V L → nG ((C B0).run n) X V L = some (fm X V L, ()) := by
 refine ((LX.and x8).and (KC.and (LZ (B := B0)))).succ fun n hn ⟨⟨kt, kn⟩, kb, ki⟩ X V L ⟨hX, hV, hL⟩ => ?_
 have hX1 := hX.1
 have hV1 := hV.1
 have hL1 := hL.1
 rw [aa, AA]
 unfold s8
 rw [← NF]
 refine eJ (fun i => (((i : Int), ((), (false, ()))), ((X, (V, (L, ()))), ()))) (fun d => if NC d = true then none else some (false, ())) X cg _ ?_ ?_ (by omega)
 ·intro rec i hi
  have hd := hX.2 _ (aZ (d := cg) hi)
  dsimp only
  rw [aj, ab, decide_eq_true (by omega), cond_true, ah (ae (by omega) (by omega)), ah (ae (by omega) (by omega)), ah (ae (by omega) (by omega)), Int.toNat_natCast, kt _ hd.2.2, kn _ hd.1, kb _ hd.2.1]
  simp only [Option.bind_some]
  have e : aB .i64 (i : Int) 1 = ((i + 1 : Nat) : Int) := ar (by omega) (by omega)
  unfold NC
  cases KA (X.getD i cg).2.2.1.1 <;> cases rZ (X.getD i cg).1 <;> cases (X.getD i cg).2.1.all rZ <;> first | rfl | (show rec (((aB .i64 (i : Int) 1), _), _) = _; rw [e]; rfl)
 ·intro rec
  dsimp only
  rw [aj, ab, decide_eq_false (by omega), cond_false]
  refine eJ (fun i => (((i : Int), ((), (false, ()))), ((X, (V, (L, ()))), ()))) (fun r => if Oy r = true then none else some (false, ())) L dA _ ?_ ?_ (by omega)
  ·intro rec i hi
   have hd := hL.2 _ (aZ (d := dA) hi)
   dsimp only
   rw [aj, ab, decide_eq_true (by omega), cond_true, ah (ae (by omega) (by omega)), Int.toNat_natCast, kt _ hd.1, kt _ hd.2, ki]
   simp only [Option.bind_some]
   have e : aB .i64 (i : Int) 1 = ((i + 1 : Nat) : Int) := ar (by omega) (by omega)
   have hin : bQ (i : Int) (L.length : Int) = true := ae (by omega) (by omega)
   simp only [hin]
   unfold Oy
   cases KA (L.getD i dA).2.1.1 <;> cases KA (L.getD i dA).2.2.1.1 <;> cases Ql (L.getD i dA).1 <;> first | rfl | (show rec (((aB .i64 (i : Int) 1), _), _) = _; rw [e]; rfl)
  ·intro rec
   dsimp only
   rw [aj, ab, decide_eq_false (by omega), cond_false, kb _ hV]
   simp only [Option.bind_some]
end Go.Px.Seat
namespace Go.Px.Seat
open Go Pm Pt
variable {B : ax}
theorem tO {P R : Type} {F : (P → Option R) → P → Option R} (st : Nat → P) (g : Nat → Option R) (K : Option R) {m n : Nat} {p0 : P} (h0 : p0 = st 0)
  (h1 : ∀ rec i, i < m → F rec (st i) = (g i).or (rec (st (i + 1)))) (h2 : ∀ rec, F rec (st m) = K) (hn : m < n) : iter F n p0 = ((List.range m).findSome? g).or K := by
 rw [h0]; exact dZ st g K h1 h2 hn
theorem lO {α : Type} {l : List α} {i : Nat} {d : α} (h : i < l.length) : l.take (i + 1) = l.take i ++ [l.getD i d] := by
 rw [List.take_add_one, List.getElem?_eq_getElem h, List.getD_eq_getElem?_getD, List.getElem?_eq_getElem h]
 rfl
def xI (X : List Df) (s : ByteArray) : Int := oO (fun i => decide ((X.getD i cg).1 = s)) X.length
theorem CO {X : List Df} {s : ByteArray} : (∃ i : Nat, i < X.length ∧ (X.getD i cg).1 = s ∧ xI X s = i) ∨ xI X s = -1 := by
 unfold xI
 rcases wy (p := fun i => decide ((X.getD i cg).1 = s)) (m := X.length) with ⟨i, h1, h2, h3⟩ | ⟨_, h⟩
 ·exact .inl ⟨i, h1, of_decide_eq_true h2, h3⟩
 ·exact .inr h
theorem CP : Ev fun n => ∀ (X : List Df) (V : List ByteArray) (L : List Rl) (s : ByteArray), X.length ≤ 4000000 → fv ((C B).run n) X V L s = some (xI X s, ()) := by
 have h0 : Ev fun n => ∀ (a : ByteArray) (b : List ByteArray) (c : List Tn) (s : ByteArray), jz ((C B).run n) a b c s = some (decide (a = s), (s, ())) := by
  refine Ev.cU.succ fun n hn _ a b c s => ?_
  rw [aa, wg]
  unfold oG
  rw [seq_eq]
 have h1 : Ev fun n => ∀ (X : List Df) (s : ByteArray), X.length ≤ 4000000 → aT ((C B).run n) X s = some (xI X s, (s, ())) := by
  refine h0.succ fun n hn k X s hX => ?_
  rw [aa, du]
  unfold bM
  rw [aj]
  refine (dZ (fun i => (((i : Int), ((X.length : Int), ((), (X, (0, ()))))), ((s, ()), ()))) (fun i => if decide ((X.getD i cg).1 = s) = true then some ((i : Int), (s, ())) else none) (some (-1, (s, ()))) (m := X.length) ?_ ?_ (by omega)).trans (mI (f := fun x => (x, (s, ()))))
  ·intro rec i hi
   dsimp only
   rw [ab, decide_eq_true (by omega), cond_true, aj, ah (ae (by omega) (by omega)), Int.toNat_natCast, k]
   simp only [Option.bind_some]
   rw [ar (by omega) (by omega)]
   cases decide ((X.getD i cg).1 = s) <;> rfl
  ·intro rec
   dsimp only
   rw [ab, decide_eq_false (by omega), cond_false]
 refine h1.succ fun n hn k X V L s hX => ?_
 rw [aa, zE]
 unfold qV
 rw [k X s hX]
 rfl
theorem vp : Ev fun n => ∀ (X : List Df) (V : List ByteArray) (L : List Rl) (s : ByteArray), X.length ≤ 4000000 → gz ((C B).run n) X V L s = some (xI X s, ()) := by
 refine Ev.cU.succ fun n hn _ X V L s hX => ?_
 rw [aa, FI]
 unfold zp
 refine (dZ (fun i => (((i : Int), ((), (s, (0, ())))), ((X, (V, (L, ()))), ()))) (fun i => if decide ((X.getD i cg).1 = s) = true then some ((i : Int), ()) else none) (some (-1, ())) (m := X.length) ?_ ?_ (by omega)).trans (mI (f := fun x => (x, ())))
 ·intro rec i hi
  dsimp only
  rw [aj, ab, decide_eq_true (by omega), cond_true, ah (ae (by omega) (by omega)), Int.toNat_natCast, seq_eq, ar (by omega) (by omega)]
  cases decide ((X.getD i cg).1 = s) <;> rfl
 ·intro rec
  dsimp only
  rw [aj, ab, decide_eq_false (by omega), cond_false]
def CQ (l : List ByteArray) : Bool := (List.range l.length).any fun i => mJ (l.getD i (bs [])) (l.take i)
theorem NG {α : Type} (l : List α) (i : Nat) : List.drop (Int.toNat 0) (List.take i l) = l.take i := rfl
theorem He : Ev fun n => ∀ l : List ByteArray, l.length ≤ 4000000 → rK ((C B).run n) l = some (CQ l, ()) := by
 refine (tN (B := B)).succ fun n hn k l hl => ?_
 rw [aa, Ii]
 unfold Ba
 rw [aj]
 refine (dZ (fun i => (((i : Int), ((l.length : Int), (l, (l, (false, ()))))), ())) (fun i => if mJ (l.getD i (bs [])) (l.take i) = true then some (true, ()) else none) (some (false, ())) (m := l.length) ?_ ?_ (by omega)).trans ?_
 ·intro rec i hi
  dsimp only
  rw [ab, decide_eq_true (by omega), cond_true, aj, ah (ae (by omega) (by omega)), ah (di (by omega) (by omega) (by omega)), Int.toNat_natCast, NG, k _ _ (by rw [List.length_take]; omega)]
  simp only [Option.bind_some]
  rw [ar (by omega) (by omega)]
  cases mJ (l.getD i (bs [])) (l.take i) <;> rfl
 ·intro rec
  dsimp only
  rw [ab, decide_eq_false (by omega), cond_false]
 ·rw [tM]
  unfold CQ
  cases (List.range l.length).any fun i => mJ (l.getD i (bs [])) (l.take i) <;> rfl
theorem F3 : Ev fun n => ∀ l : List ByteArray, l.length ≤ 4000000 → (∀ x ∈ l, x.size ≤ 1048576 ∧ rZ x = true) → fO ((C B0).run n) l = some (!CQ l, ()) := by
 refine ((r6 (B := B0)).and x8).succ fun n hn ⟨kf, kn⟩ l hl hx => ?_
 rw [aa, xD]
 unfold pQ
 refine (dZ (fun i => (((i : Int), (l, (false, ()))), ())) (fun i => if mJ (l.getD i (bs [])) (l.take i) = true then some (false, ()) else none) (some (true, ())) (m := l.length) ?_ ?_ (by omega)).trans ?_
 ·intro rec i hi
  have hxi := hx _ (aZ (d := bs []) hi)
  have hin : bQ (i : Int) (l.length : Int) = true := ae (by omega) (by omega)
  have e : aB .i64 (i : Int) 1 = ((i + 1 : Nat) : Int) := ar (by omega) (by omega)
  dsimp only
  rw [aj, ab, decide_eq_true (by omega), cond_true, ah hin, Int.toNat_natCast, kn _ hxi.1, hxi.2]
  simp only [Option.bind_some]
  rw [Bool.not_true, cond_false, ah (di (by omega) (by omega) (by omega)), ah hin, NG, kf _ _ (by rw [List.length_take]; omega)]
  simp only [Option.bind_some]
  rw [bZ, mH, ya]
  cases mJ (l.getD i (bs [])) (l.take i)
  ·show rec (((aB .i64 (i : Int) 1), _), _) = _
   rw [e]; rfl
  ·rfl
 ·intro rec
  dsimp only
  rw [aj, ab, decide_eq_false (by omega), cond_false]
 ·rw [tM]
  unfold CQ
  cases (List.range l.length).any fun i => mJ (l.getD i (bs [])) (l.take i) <;> rfl
def p6 (d : Df) : Bool := decide (6 < d.2.1.length)
def Qm (X : List Df) (V : List ByteArray) (L : List Rl) : Bool := decide (12 < X.length) || (decide (6 < V.length) || (decide (12 < L.length) || X.any p6))
def dp (d : Df) : Bool := CQ d.2.1
def EI (X : List Df) (V : List ByteArray) : List ByteArray := X.map (fun d => d.1) ++ V
def La (X : List Df) (V : List ByteArray) : Bool := CQ (EI X V) || X.any dp
theorem Oz : Ev fun n => ∀ X V L, Sm X V L → nC ((C B).run n) X V L = some (Qm X V L, ()) := by
 have h0 : Ev fun n => ∀ d : Df, ib ((C B).run n) d.1 d.2.1 d.2.2.1.1 = some (p6 d, ()) := by
  refine Ev.cU.succ fun n hn _ d => ?_
  rw [aa, xC]
  unfold pP p6
  rw [aj, ab]
  exact congrArg (fun x => some (x, ())) (decide_eq_decide.2 (by omega))
 have h1 : Ev fun n => ∀ X : List Df, mO 1048576 X → aU ((C B).run n) X = some (oO (fun i => p6 (X.getD i cg)) X.length, ()) := by
  refine h0.succ fun n hn k X hX => ?_
  rw [aa, dC]
  exact r7 (g := fun d : Df => ib ((C B).run n) d.1 d.2.1 d.2.2.1.1) (p := p6) (by have := hX.1; omega) hn fun x _ => k x
 have h2 : Ev fun n => ∀ X : List Df, mO 1048576 X → aQ ((C B).run n) X = some (X.any p6, ()) := by
  refine h1.succ fun n hn k X hX => ?_
  rw [aa, dj]
  unfold bD
  rw [k X hX]
  simp only [Option.bind_some]
  rw [vo]
 refine h2.succ fun n hn k X V L h => ?_
 rw [aa, Ap]
 unfold sU Qm
 rw [k X h.1, aj, aj, aj, ab, ab, ab, show decide ((12 : Int) < X.length) = decide (12 < X.length) from decide_eq_decide.2 (by omega), show decide ((6 : Int) < V.length) = decide (6 < V.length) from decide_eq_decide.2 (by omega), show decide ((12 : Int) < L.length) = decide (12 < L.length) from decide_eq_decide.2 (by omega)]
 cases decide (12 < X.length) <;> cases decide (6 < V.length) <;> cases decide (12 < L.length) <;> rfl
theorem Bj : Ev fun n => ∀ X V L, Sm X V L → gI ((C B).run n) X V L = some (EI X V, ()) := by
 refine Ev.cU.succ fun n hn _ X V L ⟨hX, hV, _⟩ => ?_
 have hX1 := hX.1
 have hV1 := hV.1
 rw [aa, vX]
 unfold oy EI
 rw [aj]
 refine (dZ (fun i => (((i : Int), ((X.length : Int), (X, ((), ((), ((), ())))))), ((X.take i).map (fun d => d.1), ((X, (V, (L, ()))), ())))) (fun _ => none) (some (X.map (fun d => d.1) ++ V, ())) (m := X.length) ?_ ?_ (by omega)).trans ?_
 ·intro rec i hi
  have ht : (X.take i).map (fun d => d.1) ++ [(X.getD i cg).1] = (X.take (i + 1)).map (fun d => d.1) := by
   rw [lO (d := cg) hi, List.map_append]; rfl
  dsimp only
  rw [ab, decide_eq_true (by omega), cond_true, aj, ah (ae (by omega) (by omega)), Int.toNat_natCast, ht, ah (fV (by rw [List.length_map, List.length_take]; omega)), ar (by omega) (by omega)]
  rfl
 ·intro rec
  dsimp only
  rw [ab, decide_eq_false (by omega), cond_false, List.take_length, ah (fV (by rw [List.length_append, List.length_map]; omega))]
 ·have : (List.range X.length).findSome? (fun _ => (none : Option (List ByteArray × Unit))) = none := by simp
  rw [this]
  rfl
theorem Hf {X : List Df} {V : List ByteArray} : (EI X V).length = X.length + V.length := by simp [EI]
theorem L0 : Ev fun n => ∀ X V L, Sm X V L → mb ((C B).run n) X V L = some (La X V, ()) := by
 have h0 : Ev fun n => ∀ d : Df, K9 1048576 d → gL ((C B).run n) d.1 d.2.1 d.2.2.1.1 = some (dp d, ()) := by
  refine (He (B := B)).succ fun n hn k d hd => ?_
  rw [aa, we]
  unfold oF dp
  rw [k _ (by have := hd.2.1.1; omega)]
  rfl
 have h1 : Ev fun n => ∀ X : List Df, mO 1048576 X → aS ((C B).run n) X = some (oO (fun i => dp (X.getD i cg)) X.length, ()) := by
  refine h0.succ fun n hn k X hX => ?_
  rw [aa, dt]
  exact r7 (g := fun d : Df => gL ((C B).run n) d.1 d.2.1 d.2.2.1.1) (p := dp) (by have := hX.1; omega) hn fun x hx => k x (hX.2 x hx)
 have h2 : Ev fun n => ∀ X : List Df, mO 1048576 X → aP ((C B).run n) X = some (X.any dp, ()) := by
  refine h1.succ fun n hn k X hX => ?_
  rw [aa, df]
  unfold bC
  rw [k X hX]
  simp only [Option.bind_some]
  rw [vo]
 refine (h2.and ((Bj (B := B)).and (He (B := B)))).succ fun n hn ⟨k, k1, k2⟩ X V L h => ?_
 have hX1 := h.1.1
 have hV1 := h.2.1.1
 rw [aa, zz]
 unfold qQ La
 rw [k1 X V L h]
 simp only [Option.bind_some]
 rw [k2 _ (by rw [Hf]; omega), k X h.1]
 cases CQ (EI X V) <;> rfl
def NH (X : List Df) (V : List ByteArray) (L : List Rl) : Int := bif !(fm X V L) then 4 else bif Qm X V L then 5 else bif La X V then 6 else 0
theorem Qn {X : List Df} {V : List ByteArray} {L : List Rl} (h : fm X V L = true) : (∀ d ∈ X, rZ d.1 = true ∧ ∀ s ∈ d.2.1, rZ s = true) ∧ ∀ s ∈ V, rZ s = true := by
 unfold fm NC at h
 simp only [Bool.and_eq_true, List.all_eq_true] at h
 exact ⟨fun d hd => ⟨(h.1 d hd).2.1, (h.1 d hd).2.2⟩, h.2.2⟩
theorem L3 : Ev fun n => ∀ X V L, Sm X V L → oY ((C B0).run n) X V L = some (NH X V L, ()) := by
 refine (IA.and F3).succ fun n hn ⟨kf, kd⟩ X V L h => ?_
 have hX1 := h.1.1
 have hV1 := h.2.1.1
 rw [aa, B9]
 unfold uQ NH
 rw [kf X V L h]
 simp only [Option.bind_some]
 cases hf : fm X V L with
 | false => rfl
 | true =>
  obtain ⟨f1, f2⟩ := Qn hf
  rw [Bool.not_true, cond_false, cond_false, aj, aj, aj, ab, ab, ab, show decide ((12 : Int) < X.length) = decide (12 < X.length) from decide_eq_decide.2 (by omega), show decide ((6 : Int) < V.length) = decide (6 < V.length) from decide_eq_decide.2 (by omega), show decide ((12 : Int) < L.length) = decide (12 < L.length) from decide_eq_decide.2 (by omega)]
  unfold Qm
  cases decide (12 < X.length)
  case true => rfl
  cases decide (6 < V.length)
  case true => rfl
  cases decide (12 < L.length)
  case true => rfl
  simp only [cond_false, cb, Bool.false_or]
  refine (eJ (fun i => (((i : Int), ((), ((), (0, ())))), ((X, (V, (L, ()))), ((X.take i).map (fun d => d.1), ())))) (fun d => if p6 d = true then some (5, ()) else none) X cg (some ((bif La X V then 6 else 0), ())) ?_ ?_ (by omega)).trans ?_
  ·intro rec i hi
   have ht : (X.take i).map (fun d => d.1) ++ [(X.getD i cg).1] = (X.take (i + 1)).map (fun d => d.1) := by
    rw [lO (d := cg) hi, List.map_append]; rfl
   dsimp only
   rw [aj, ab, decide_eq_true (by omega), cond_true, ah (ae (by omega) (by omega)), Int.toNat_natCast, aj, ab, show decide ((6 : Int) < (X.getD i cg).2.1.length) = p6 (X.getD i cg) from decide_eq_decide.2 (by omega), ah (ae (by omega) (by omega)), ht, ah (fV (by rw [List.length_map, List.length_take]; omega)), ar (by omega) (by omega)]
   cases p6 (X.getD i cg) <;> rfl
  ·intro rec
   dsimp only
   rw [aj, ab, decide_eq_false (by omega), cond_false, List.take_length]
   have hno : ∀ m, (List.range m).findSome? (fun _ => (none : Option (Int × Unit))) = none := fun m => by simp
   refine Eq.trans (b := (none : Option (Int × Unit)).or (some ((bif La X V then 6 else 0), ()))) ?_ rfl
   rw [← hno V.length]
   refine Eq.trans (tO (n := n) (fun i => (((i : Int), ((), ((), (0, ())))), ((X, (V, (L, ()))), (X.map (fun d => d.1) ++ V.take i, ())))) (fun _ => none) (some ((bif La X V then 6 else 0), ())) (m := V.length) (by simp) ?_ ?_ (by omega)) ?_
   ·intro rec i hi
    have ht : X.map (fun d => d.1) ++ V.take i ++ [V.getD i (bs [])] = X.map (fun d => d.1) ++ V.take (i + 1) := by
     rw [List.take_add_one, List.getElem?_eq_getElem hi, List.getD_eq_getElem?_getD, List.getElem?_eq_getElem hi]; simp
    have hak : Di (X.map (fun d => d.1) ++ V.take (i + 1)) 16 = true := fV (by rw [List.length_append, List.length_map, List.length_take]; omega)
    dsimp only
    rw [aj, ab, decide_eq_true (by omega), cond_true, ah (ae (by omega) (by omega)), Int.toNat_natCast, ht, ah hak, ar (by omega) (by omega)]
    rfl
   ·intro rec
    dsimp only
    rw [aj, ab, decide_eq_false (by omega), cond_false, List.take_length]
    show (fO ((C B0).run n) (EI X V)).bind _ = _
    rw [kd (EI X V) (by rw [Hf]; omega) fun x hx => by
     rcases List.mem_append.1 hx with hx | hx
     ·obtain ⟨d, hd, rfl⟩ := List.mem_map.1 hx
      exact ⟨(h.1.2 d hd).1, (f1 d hd).1⟩
     ·exact ⟨h.2.1.2 x hx, f2 x hx⟩]
    simp only [Option.bind_some, Bool.not_not]
    refine Eq.trans (tO (n := n) (fun i => (((i : Int), ((), ((CQ (EI X V) || (X.take i).any dp), (0, ())))), ((X, (V, (L, ()))), ()))) (fun _ => none) (some ((bif La X V then 6 else 0), ())) (m := X.length) (by simp) ?_ ?_ (by omega)) ?_
    ·intro rec i hi
     have ht : (X.take (i + 1)).any dp = ((X.take i).any dp || dp (X.getD i cg)) := by
      rw [lO (d := cg) hi, List.any_append, List.any_cons, List.any_nil, Bool.or_false]
     have e : aB .i64 (i : Int) 1 = ((i + 1 : Nat) : Int) := ar (by omega) (by omega)
     have hd := h.1.2 _ (aZ (d := cg) hi)
     have hf := f1 _ (aZ (d := cg) hi)
     dsimp only
     rw [aj, ab, decide_eq_true (by omega), cond_true, ah (ae (by omega) (by omega)), Int.toNat_natCast, kd _ (by have := hd.2.1.1; omega) fun x hx => ⟨hd.2.1.2 x hx, hf.2 x hx⟩, ht]
     simp only [Option.bind_some, Bool.not_not]
     rw [← Bool.or_assoc]
     generalize (CQ (EI X V) || (X.take i).any dp) = q
     show jb (bif q then some (.inr (((i : Int), ((), (true, (0, ())))), ((X, (V, (L, ()))), ()))) else some (.inr (((i : Int), ((), ((dp (X.getD i cg)), (0, ())))), ((X, (V, (L, ()))), ())))) _ = _
     cases q with
     | true =>
      show rec (((aB .i64 (i : Int) 1), _), _) = _
      rw [e]; rfl
     | false =>
      show rec (((aB .i64 (i : Int) 1), _), _) = _
      rw [e]; rfl
    ·intro rec
     dsimp only
     rw [aj, ab, decide_eq_false (by omega), cond_false, List.take_length]
     show (bif La X V then _ else _) = _
     cases La X V <;> rfl
    ·rw [hno]; rfl
   ·rfl
  ·rw [tM]
   cases X.any p6 <;> rfl
end Go.Px.Seat
namespace Go.Px.Seat
open Go Pm Pt
noncomputable def NI (o nm : ByteArray) (x : Tn) : Tn := bif (x.1 == 2) && seq x.2.2.1 o then (x.1, (x.2.1, (nm, ()))) else x
noncomputable abbrev ph (o nm : ByteArray) (l : List Tn) : List Tn := l.map (NI o nm)
noncomputable def QB (o nm : ByteArray) (r : Rl) : Rl := (r.1, ((ph o nm r.2.1.1, ()), ((ph o nm r.2.2.1.1, ()), ())))
noncomputable abbrev Hg (o nm : ByteArray) (L : List Rl) : List Rl := L.map (QB o nm)
noncomputable def OA (l : List ByteArray) (s : ByteArray) : Int := oO (fun i => decide (s = l.getD i (bs []))) l.length
theorem EJ {l : List ByteArray} {s : ByteArray} : (∃ i : Nat, i < l.length ∧ l.getD i (bs []) = s ∧ OA l s = i) ∨ (s ∉ l ∧ OA l s = -1) := by
 unfold OA
 rcases wy (p := fun i => decide (s = l.getD i (bs []))) (m := l.length) with ⟨i, h1, h2, h3⟩ | ⟨h1, h⟩
 ·exact .inl ⟨i, h1, (of_decide_eq_true h2).symm, h3⟩
 ·refine .inr ⟨fun hm => ?_, h⟩
  obtain ⟨j, hj, rfl⟩ := List.mem_iff_getElem.1 hm
  have := h1 j hj
  rw [List.getD_eq_getElem?_getD, List.getElem?_eq_getElem hj] at this
  simp at this
noncomputable def L4 (code : Code) (X : List Df) (V : List ByteArray) (L : List Rl) (o nm : ByteArray) : Bool := decide (code X V L = 0) && (decide (0 ≤ OA V o) && (rZ nm && !(mJ nm (EI X V))))
noncomputable def F4 (code : Code) (X : List Df) (V : List ByteArray) (L : List Rl) (o nm : ByteArray) : List Df × (List ByteArray × (List Rl × (Bool × Unit))) :=
 bif L4 code X V L o nm then (X, (V.set (OA V o).toNat nm, (Hg o nm L, (true, ())))) else ([], ([], ([], (false, ()))))
section
variable {o nm : ByteArray}
theorem KD {l : List Tn} {M : Nat} (oN : nm.size ≤ M) (h : Jj M l) : Jj M (ph o nm l) := ⟨by rw [List.length_map]; exact h.1, fun x hx => by
 obtain ⟨y, hy, rfl⟩ := List.mem_map.1 hx
 unfold NI
 cases (y.1 == 2) && seq y.2.2.1 o
 ·exact h.2 y hy
 ·exact oN⟩
theorem OB {L : List Rl} {M : Nat} (oN : nm.size ≤ M) (h : pb M L) : pb M (Hg o nm L) := ⟨by rw [List.length_map]; exact h.1, fun x hx => by
 obtain ⟨y, hy, rfl⟩ := List.mem_map.1 hx
 exact ⟨KD oN (h.2 y hy).1, KD oN (h.2 y hy).2⟩⟩
theorem OC {V : List ByteArray} {i M : Nat} (oN : nm.size ≤ M) (h : Bi M V) : Bi M (V.set i nm) := ⟨by rw [List.length_set]; exact h.1, fun x hx => by
 rcases List.mem_or_eq_of_mem_set hx with hx | rfl
 ·exact h.2 x hx
 ·exact oN⟩
theorem OD {code : Code} {X : List Df} {V : List ByteArray} {L : List Rl} (oN : nm.size ≤ 1048576) (h : Sm X V L) : Sm (F4 code X V L o nm).1 (F4 code X V L o nm).2.1 (F4 code X V L o nm).2.2.1 := by
 unfold F4
 cases L4 code X V L o nm
 ·exact ⟨⟨by simp, by simp⟩, ⟨by simp, by simp⟩, ⟨by simp, by simp⟩⟩
 ·exact ⟨h.1, OC oN h.2.1, OB oN h.2.2⟩
end
theorem Bk {α : Type} {l : List α} {i : Nat} {d : α} (h : i < l.length) : l.set i (l.getD i d) = l := by
 rw [List.getD_eq_getElem?_getD, List.getElem?_eq_getElem h]
 exact List.set_getElem_self h
theorem EK {α : Type} {l' l : List α} {i : Nat} {e : α} (h : l'.length = l.length) (hi : i < l.length) (he : l'.getD i e = l.getD i e) : mix l' l i = mix l' l (i + 1) := by
 rw [← ij (e := e) h hi, he, ← gP (e := e) h hi]
 exact (Bk (by rw [ig h]; exact hi)).symm
section
variable {D : Mem Dh} {R : Mem Rh} {S : Mem ByteArray} {N : Mem Tn} {d r p v n m i : Nat} {X : List Df} {V : List ByteArray} {L : List Rl}
theorem PA.Qo (h : PA D R S N d r p v n m X V L) {s : ByteArray} : PA D R (S.set v (some (V.set i s))) N d r p v n m X (V.set i s) L := by
 refine ⟨h.hD, h.hR, CF h.hP ?_, wh h.hV, h.hB, h.hN, h.LS, h.oN⟩
 rw [rU]
 exact h.LS
theorem PA.Qp (h : PA D R S N d r p v n m X V L) (hi : i < L.length) {y1 y2 : List Tn} (h1 : y1.length = (L.getD i dA).2.1.1.length) (h2 : y2.length = (L.getD i dA).2.2.1.1.length) :
  PA D R S ((N.set (m + 2 * i) (some y1)).set (m + 2 * i + 1) (some y2)) d r p v n m X V (L.set i ((L.getD i dA).1, ((y1, ()), ((y2, ()), ())))) := by
 have oN := h.oN
 refine ⟨h.hD, ?_, h.hP, h.hV, CF (CF h.hB (.inr (by rw [jS]; omega))) (.inr (by rw [jS]; omega)), ?_, h.LS, h.oN⟩
 ·rw [CI]
  simp only
  rw [h1, h2, ← pd (d := kT) hi, Bk (by rw [gN]; exact hi)]
  exact h.hR
 ·rw [CJ]
  simp only
  rw [Nat.add_assoc]
  refine rT (rT h.hN (by rw [fH]; omega)) ?_
  rw [List.length_set, fH]; omega
end
section
variable {B : ax}
theorem IB : Ev fun n => ∀ (D : Mem Dh) (R : Mem Rh) (S : Mem ByteArray) (N : Mem Tn) (k : Nat) (l : List Tn) (o nm : ByteArray), N[k]? = some (some l) → l.length ≤ 1048576 →
  gJ ((C B).run n) D R S N (H k l.length) o nm = some (D, (R, (S, (N.set k (some (ph o nm l)), ())))) := by
 refine Ev.cU.succ fun n hn _ D R S N k l o nm hS hl => ?_
 rw [aa, vY]
 unfold oz
 have hml : (ph o nm l).length = l.length := List.length_map ..
 have hk := kx hS
 refine aN (fun q => ∃ i : Nat, q = (((i : Int), ((), (o, (nm, ())))), ((H k l.length, ()), (D, (R, (S, (N.set k (some (mix (ph o nm l) l i)), ())))))) ∧ i ≤ l.length) (fun q => 1048577 - q.1.1.toNat) _ ?_ n _ (by simp only; omega) ⟨0, by rw [eW, oM hS]; rfl, Nat.zero_le _⟩
 rintro rec _ ⟨i, rfl, hi⟩ ih
 dsimp only
 rw [ab]
 by_cases h1 : i < l.length
 ·have hil : i < (mix (ph o nm l) l i).length := by rw [ig hml]; exact h1
  have hg : (mix (ph o nm l) l i).getD i (0, (0, ((bs []), ()))) = l.getD i (0, (0, ((bs []), ()))) := gP hml h1
  have hr : (ph o nm l).getD i (0, (0, ((bs []), ()))) = NI o nm (l.getD i (0, (0, ((bs []), ())))) := by
   rw [List.getD_eq_getElem?_getD, List.getElem?_map, List.getD_eq_getElem?_getD, List.getElem?_eq_getElem h1]
   rfl
  have hms := ij (e := (0, (0, ((bs []), ())))) hml h1
  rw [hr] at hms
  have hmx : NI o nm (l.getD i (0, (0, ((bs []), ())))) = l.getD i (0, (0, ((bs []), ()))) → mix (ph o nm l) l i = mix (ph o nm l) l (i + 1) := fun h => EK hml h1 (hr.trans h)
  rw [decide_eq_true (show (i : Int) < l.length by omega), cond_true]
  simp only [Nat.zero_add, Int.toNat_natCast, jT hk, hg, gO hk hil, rk]
  rw [ah (ae (by omega) (by omega)), ah rfl]
  unfold NI at hms hmx
  have hfin : ∀ x : List Tn, x = mix (ph o nm l) l (i + 1) → rec ((aB .i64 (i : Int) 1, ((), (o, (nm, ())))), ((H k l.length, ()), (D, (R, (S, (N.set k (some x), ())))))) = some (D, (R, (S, (N.set k (some (ph o nm l)), ())))) := by
   rintro x rfl
   rw [ar (by omega) (by omega)]
   exact ih _ ⟨i + 1, by simp, by omega⟩ (by simp only; omega)
  cases hc : (l.getD i (0, (0, ((bs []), ())))).1 == 2 <;> simp only [hc, Bool.false_and, Bool.true_and, cond_false, cond_true] at hms hmx
  ·simp only [cond_false, cb]
   exact hfin _ (hmx trivial)
  ·rw [cond_true, ah (ae (by omega) (by omega)), ah rfl]
   cases hs : seq (l.getD i (0, (0, ((bs []), ())))).2.2.1 o <;> simp only [hs, cond_false, cond_true] at hms hmx
   ·simp only [cb, hs, cond_false]
    exact hfin _ (hmx trivial)
   ·simp only [cb, hs, cond_true]
    rw [ah (ae (by omega) (by omega))]
    simp only [Nat.zero_add, Int.toNat_natCast, jT hk, hg, gO hk hil, rk]
    rw [ah rfl]
    simp only [cb]
    exact hfin _ hms
 ·rw [decide_eq_false (show ¬ (i : Int) < l.length by omega), cond_false]
  obtain rfl : i = l.length := by omega
  rw [jc hml]
theorem L5 {X : List Df} {V : List ByteArray} {s : ByteArray} : mJ s (EI X V) = (decide (0 ≤ xI X s) || mJ s V) := by
 unfold EI mJ
 rw [List.any_append, xI, mH, z8 (q := fun x : Df => decide (x.1 = s)) X, List.any_map]
 congr 1
 congr 1
 funext x
 exact decide_eq_decide.2 eq_comm
theorem F5 : Ev fun n => ∀ X V L s, Sm X V L → oX ((C B).run n) X V L s = some (mJ s (EI X V), ()) := by
 refine ((vp (B := B)).and (r6 (B := B))).succ fun n hn ⟨k1, k2⟩ X V L s h => ?_
 have hX1 := h.1.1
 have hV1 := h.2.1.1
 rw [aa, B8]
 unfold uP
 rw [k1 _ _ _ _ (by omega), k2 _ _ (by omega)]
 simp only [Option.bind_some]
 rw [bZ, bZ, mH, ya, L5]
 cases decide (0 ≤ xI X s) <;> rfl
end
section
variable {code : Code}
theorem Hh {D : Mem Dh} {R : Mem Rh} {S : Mem ByteArray} {N : Mem Tn} {X : List Df} {V V' : List ByteArray} {L L' : List Rl} {x : Option (Mem Dh × (Mem Rh × (Mem ByteArray × (Mem Tn × (Hd × (Hd × (Hd × (Bool × Unit))))))))} (hV : V'.length = V.length) (hL : L'.length = L.length)
  (h : pY x fun q => ∃ N1 : Mem Tn, q = (FX D S N X, (FY R N X L, ((EF S X V).set S.length (some V'), (N1, (H D.length X.length, (H S.length V.length, (H R.length L.length, (true, ())))))))) ∧
   PA (FX D S N X) (FY R N X L) ((EF S X V).set S.length (some V')) N1 D.length R.length (S.length + 1) S.length N.length (N.length + X.length) X V' L' ∧ ∃ N', N1 = N ++ N') :
  ∃ D' R' S' N' gd gv gr, x = some (D ++ D', (R ++ R', (S ++ S', (N ++ N', (gd, (gv, (gr, (true, ())))))))) ∧ Ob (D ++ D') (R ++ R') (S ++ S') (N ++ N') D.length R.length S.length N.length gd gv gr X V' L' := by
 obtain ⟨q, rfl, N1, rfl, hpa, N', rfl⟩ := h
 unfold FX FY EF at hpa ⊢
 rw [List.set_append_right _ _ (Nat.le_refl _), Nat.sub_self] at hpa ⊢
 exact ⟨_, _, _, N', H D.length X.length, H S.length V.length, H R.length L.length, rfl, .inl ⟨D.length, R.length, S.length + 1, S.length, N.length, N.length + X.length, rfl, by rw [hV], by rw [hL], hpa, Nat.le_refl _, Nat.le_refl _, by omega, Nat.le_refl _, Nat.le_refl _⟩⟩
theorem Qq {R : Type} (x : Option R) : ok true x = x := rfl
theorem Q6 {x : Bool} (h : x = true) : (x && true && true) = true := by rw [h]; rfl
theorem AH (hs : Ev fun n => ∀ X V L, Sm X V L → iO ((C B0).run n) X V L = some (code X V L, ())) : Ev fun n => ∀ (D : Mem Dh) (R : Mem Rh) (S : Mem ByteArray) (N : Mem Tn) (hd hv hr : Hd) (X : List Df) (V : List ByteArray) (L : List Rl) (o nm : ByteArray), Vw D R S N hd hv hr X V L → Sm X V L → nm.size ≤ 1048576 →
  ∃ D' R' S' N' gd gv gr, gV ((C B0).run n) D R S N hd hv hr o nm = some (D ++ D', (R ++ R', (S ++ S', (N ++ N', (gd, (gv, (gr, ((F4 code X V L o nm).2.2.2.1, ())))))))) ∧
   Ob (D ++ D') (R ++ R') (S ++ S') (N ++ N') D.length R.length S.length N.length gd gv gr (F4 code X V L o nm).1 (F4 code X V L o nm).2.1 (F4 code X V L o nm).2.2.1 := by
 refine ((hs.and (LU (B := B0))).and (((r6 (B := B0)).and x8).and ((F5 (B := B0)).and (IB (B := B0))))).succ fun n hn ⟨⟨kc, ko⟩, ⟨kf, kn⟩, kt, ku⟩ D R S N hd hv hr X V L o nm h hm oN => ?_
 rw [aa, se]
 unfold kW F4 L4
 have hV1 := hm.2.1.1
 have hL1 := hm.2.2.1
 rw [h.ok, ah (Q6 h.parts.2.1), h.sD, h.sV, h.sR, kf V o (by omega), kc X V L hm, kn nm oN, kt X V L nm hm]
 simp only [Option.bind_some]
 have hno : ∀ (x : Option (Mem Dh × (Mem Rh × (Mem ByteArray × (Mem Tn × (Hd × (Hd × (Hd × (Bool × Unit)))))))) ), x = some (D, (R, (S, (N, ((0, (0, 0)), ((0, (0, 0)), ((0, (0, 0)), (false, ())))))))) → ∃ D' R' S' N' gd gv gr, x = some (D ++ D', (R ++ R', (S ++ S', (N ++ N', (gd, (gv, (gr, (false, ())))))))) ∧
   Ob (D ++ D') (R ++ R') (S ++ S') (N ++ N') D.length R.length S.length N.length gd gv gr [] [] [] := by
  rintro x rfl
  exact ⟨[], [], [], [], (0, (0, 0)), (0, (0, 0)), (0, (0, 0)), by simp, .inr ⟨rfl, rfl, rfl, rfl, rfl, rfl⟩⟩
 have hix : oO (fun i => decide (o = V.getD i (bs []))) V.length = OA V o := rfl
 rw [hix, ab]
 by_cases h0 : code X V L = 0
 ·rw [h0]
  rcases EJ (l := V) (s := o) with ⟨a, ha, hao, hat⟩ | ⟨_, hat⟩
  ·rw [hat]
   cases hn1 : rZ nm with
   | false => exact hno _ rfl
   | true =>
    cases hn2 : mJ nm (EI X V) with
    | true => exact hno _ rfl
    | false =>
     rw [decide_eq_false (show ¬ (a : Int) < 0 by omega), decide_eq_true (show (0 : Int) ≤ (a : Int) by omega)]
     simp only [show ((0 : Int) != 0) = false from rfl, cond_false, Bool.not_true, Bool.not_false, Qq, cb, Bool.and_self, cond_true, decide_true, Int.toNat_natCast]
     rw [ko D R S N hd hv hr X V L h hm]
     simp only [Option.bind_some]
     have hp := NA (D := D) (R := R) (S := S) (N := N) (X := X) (V := V) (L := L)
     rw [ah (ae (by omega) (by omega)), ah (pc hp.hV (by rw [Nat.zero_add]; exact ha)), Nat.zero_add, kN hp.hV, Ez]
     have hp1 := hp.Qo (i := a) (s := nm)
     have hlen : (Hg o nm L).length = L.length := List.length_map ..
     refine Hh (V' := V.set a nm) (L' := Hg o nm L) (List.length_set ..) hlen ?_
     refine kv (fun q => ∃ (i : Nat) (N1 : Mem Tn), q = (((i : Int), ((), (o, (nm, ((), (false, ())))))), ((H D.length X.length, (H S.length V.length, (H R.length L.length, ()))), (((), ((), ((), ()))), ((EF S X V).set S.length (some (V.set a nm)), (N1, (FY R N X L, (FX D S N X, ()))))))) ∧ i ≤ L.length ∧
       PA (FX D S N X) (FY R N X L) ((EF S X V).set S.length (some (V.set a nm))) N1 D.length R.length (S.length + 1) S.length N.length (N.length + X.length) X (V.set a nm) (mix (Hg o nm L) L i) ∧ ∃ N', N1 = N ++ N') (fun q => 1048577 - q.1.1.toNat) (by simp only; omega)
      ⟨0, Ox N X L, rfl, Nat.zero_le _, by rw [eW]; exact hp1, _, rfl⟩ ?_
     rintro rec _ ⟨i, N1, rfl, hi, hpa, N', rfl⟩ ih
     dsimp only
     rw [ab]
     by_cases h1 : i < L.length
     ·have hil : i < (mix (Hg o nm L) L i).length := by rw [ig hlen]; exact h1
      have hg : (mix (Hg o nm L) L i).getD i dA = L.getD i dA := gP hlen h1
      have hsd := hm.2.2.2 _ (aZ (d := dA) h1)
      have hsl := hsd.1.1
      have hsn := hsd.2.1
      have hrow := pd (n := N.length + X.length) (d := kT) (e := dA) hil
      rw [hg] at hrow
      have hR := hpa.hR
      have hN1 := hpa.hN (2 * i) (by rw [fH]; omega)
      have hN2 := hpa.hN (2 * i + 1) (by rw [fH]; omega)
      rw [(pf (e := dA) hil).1, hg] at hN1
      rw [(pf (e := dA) hil).2, hg] at hN2
      rw [decide_eq_true (show (i : Int) < L.length by omega), cond_true, ah (ae (by omega) (by omega))]
      simp only [Int.toNat_natCast, Nat.zero_add]
      rw [pc hR (by rw [gN]; exact hil), ah rfl, kN hR, hrow]
      simp only
      have t1 := ku (FX D S N X) (FY R N X L) ((EF S X V).set S.length (some (V.set a nm))) (N ++ N') (N.length + X.length + 2 * i) _ o nm hN1 hsl
      rw [t1]
      simp only [Option.bind_some]
      rw [ah (ae (by omega) (by omega)), pc hR (by rw [gN]; exact hil), ah rfl, kN hR, hrow]
      simp only
      have hN3 : ((N ++ N').set (N.length + X.length + 2 * i) (some (ph o nm (L.getD i dA).2.1.1)))[N.length + X.length + 2 * i + 1]? = some (some (L.getD i dA).2.2.1.1) := by
       rw [vl (by omega), Nat.add_assoc]; exact hN2
      have t2 := ku (FX D S N X) (FY R N X L) ((EF S X V).set S.length (some (V.set a nm))) ((N ++ N').set (N.length + X.length + 2 * i) (some (ph o nm (L.getD i dA).2.1.1))) (N.length + X.length + 2 * i + 1) _ o nm hN3 hsn
      rw [t2]
      simp only [Option.bind_some]
      rw [ar (by omega) (by omega)]
      refine ih _ ⟨i + 1, _, rfl, by omega, ?_, ?_⟩ (by simp only; omega)
      ·have hms := ij (e := dA) hlen h1
       have hgr : (Hg o nm L).getD i dA = QB o nm (L.getD i dA) := by
        rw [List.getD_eq_getElem?_getD, List.getElem?_map, List.getD_eq_getElem?_getD, List.getElem?_eq_getElem h1]
        rfl
       rw [hgr] at hms
       rw [← hms]
       have := hpa.Qp (i := i) hil (y1 := ph o nm (L.getD i dA).2.1.1) (y2 := ph o nm (L.getD i dA).2.2.1.1) (by rw [hg, List.length_map]) (by rw [hg, List.length_map])
       rw [hg] at this
       exact this
      ·refine ⟨(N'.set (X.length + 2 * i) (some (ph o nm (L.getD i dA).2.1.1))).set (X.length + 2 * i + 1) (some (ph o nm (L.getD i dA).2.2.1.1)), ?_⟩
       rw [List.set_append_right _ _ (by omega), List.set_append_right _ _ (by omega), show N.length + X.length + 2 * i - N.length = X.length + 2 * i by omega, show N.length + X.length + 2 * i + 1 - N.length = X.length + 2 * i + 1 by omega]
     ·rw [decide_eq_false (show ¬ (i : Int) < L.length by omega), cond_false]
      obtain rfl : i = L.length := by omega
      rw [jc hlen] at hpa
      exact eo ⟨_, rfl, hpa, _, rfl⟩
  ·rw [hat]
   exact hno _ rfl
 ·rw [show (code X V L != 0) = true by simpa using h0, decide_eq_false h0]
  exact hno _ rfl
end
end Go.Px.Seat
