/- Own texts, part M5: PwC PwD PvJ PvK. -/
import Derived.Test.YtmmggkldldbomaaGreatDoorM4
set_option linter.unusedVariables false
namespace Go.Px.Seat
open Go Pm Pt
theorem IC : Ev fun n => ∀ (D : Mem Dh) (R : Mem Rh) (S : Mem ByteArray) (N : Mem Tn) (hd hv hr : Hd) (X : List Df) (V : List ByteArray) (L : List Rl), Vw D R S N hd hv hr X V L → Sm X V L →
  gx ((C B0).run n) D R S N hd hv hr = some (FX D S N X, (FY R N X L, (EF S X V, (Ox N X L, (H D.length X.length, (H S.length V.length, (H R.length L.length, ()))))))) := by
 refine ((Kr.and Ks).and (Kp.and Kq)).succ fun n hn ⟨⟨k1, k2⟩, k3, k4⟩ D R S N hd hv hr X V L h ⟨hX, hV, hL⟩ => ?_
 rw [aa, q9]
 unfold j8
 have hX1 := hX.1
 have hV1 := hV.1
 have hL1 := hL.1
 obtain ⟨o1, o2, o3, -, -⟩ := h.parts
 obtain ⟨lD, hlD⟩ : ∃ l, au D hd = l := ⟨_, rfl⟩
 obtain ⟨lR, hlR⟩ : ∃ l, au R hr = l := ⟨_, rfl⟩
 have nD : lD.length = X.length := by rw [← hlD, rl o1, h.nD]
 have nR : lR.length = L.length := by rw [← hlR, rl o3, h.nR]
 rw [k1 _ _ _ _ _ _ o1 hlD (by omega)]
 simp only [Option.bind_some]
 rw [o2, ah (show (true && true && true) = true from rfl), h.sV, k3 _ (by omega)]
 simp only [Option.bind_some]
 rw [k2 _ _ _ _ _ _ o3 hlR (by omega)]
 simp only [Option.bind_some]
 rw [nD, nR]
 have el : ∀ i, i ≤ X.length → (S ++ ([some V] ++ (oK (X.take i)).map some)).length = S.length + 1 + i := fun i hi => by
  simp [oK]; omega
 have en : ∀ i, i ≤ X.length → (N ++ (la (X.take i)).map some).length = N.length + i := fun i hi => by
  simp [la]; omega
 have hm1 : (mP (S.length + 1) N.length X).length = lD.length := by rw [lF, nD]
 refine aN (fun q => ∃ i : Nat, q = (((i : Int), ((X.length : Int), (H D.length X.length, ((), ((), ()))))), ((H D.length X.length, (H S.length V.length, (H R.length L.length, ()))), (((), ((), ((), ()))), (S ++ ([some V] ++ (oK (X.take i)).map some), (N ++ (la (X.take i)).map some, (R ++ [some lR], (D ++ [some (mix (mP (S.length + 1) N.length X) lD i)], ()))))))) ∧ i ≤ X.length) (fun q => 1048577 - q.1.1.toNat) _ ?_ n _ (by simp only; omega) ⟨0, by rw [eW]; simp [oK, la], Nat.zero_le _⟩
 rintro rec _ ⟨i, rfl, hi⟩ ih
 dsimp only
 rw [ab]
 by_cases h1 : i < X.length
 ·have hil : i < (mix (mP (S.length + 1) N.length X) lD i).length := by rw [ig hm1, nD]; exact h1
  have hsd := hX.2 _ (aZ (d := cg) h1)
  have hsl := hsd.2.1.1
  have hsn := hsd.2.2.1
  obtain ⟨e, g3, g4, g5, g6, g7, g8⟩ := h.eD h1
  rw [hlD] at g3
  have hg : (mix (mP (S.length + 1) N.length X) lD i).getD i ox = e := (gP hm1 (by rw [nD]; exact h1)).trans g3
  obtain ⟨q1, q2⟩ := dU (X := [some V] ++ (oK (X.take i)).map some) g5
  obtain ⟨q3, q4⟩ := dU (X := (la (X.take i)).map some) g7
  rw [decide_eq_true (show (i : Int) < X.length by omega), cond_true, ah (ae (by omega) (by omega))]
  simp only [Nat.zero_add, Int.toNat_natCast]
  rw [ah (rV hil)]
  have hls : ∀ x : Dh, i < ((mix (mP (S.length + 1) N.length X) lD i).set i x).length := fun x => by rw [List.length_set]; exact hil
  simp only [uh, hg, Kt, ja hil, List.set_set, rV (hls _)]
  rw [q1, ah (show (true && true && true) = true from rfl), q2, g6, List.map_id', k3 _ (by omega)]
  simp only [Option.bind_some]
  rw [ah (ae (by omega) (by omega)), ah (rV hil), q3, ah (show (true && true && true) = true from rfl), q4, g8, rW, k4 _ (by omega)]
  simp only [Option.bind_some]
  rw [ah (ae (by omega) (by omega)), ah rfl, ar (by omega) (by omega), el i (by omega), en i (by omega), g4]
  have hms := ij (e := ox) hm1 (i := i) (by rw [nD]; exact h1)
  rw [x7 (e := cg) h1] at hms
  rw [hms]
  refine ih _ ⟨i + 1, ?_, by omega⟩ (by simp only; omega)
  rw [EC h1, ED h1]
  simp
 ·rw [decide_eq_false (show ¬ (i : Int) < X.length by omega), cond_false]
  obtain rfl : i = X.length := by omega
  rw [List.take_length, ← nD, jc hm1, nD]
  clear ih el en
  have en : ∀ i, i ≤ L.length → (N ++ ((la X).map some ++ (oL (L.take i)).map some)).length = N.length + X.length + 2 * i := fun i hi => by
   simp only [List.length_append, List.length_map, jS, fH, List.length_take]; omega
  have en' : ∀ i, i ≤ L.length → ∀ x : Option (List Tn), (N ++ ((la X).map some ++ (oL (L.take i)).map some) ++ [x]).length = N.length + X.length + 2 * i + 1 := fun i hi x => by
   rw [List.length_append, en i hi]; rfl
  have hm1 : (nN (N.length + X.length) L).length = lR.length := by rw [gN, nR]
  refine aN (fun q => ∃ i : Nat, q = (((i : Int), ((L.length : Int), (H R.length L.length, ((), ((), ()))))), ((H D.length X.length, (H S.length V.length, (H R.length L.length, ()))), (((), ((), ((), ()))), (S ++ ([some V] ++ (oK X).map some), (N ++ ((la X).map some ++ (oL (L.take i)).map some), (R ++ [some (mix (nN (N.length + X.length) L) lR i)], (D ++ [some (mP (S.length + 1) N.length X)], ()))))))) ∧ i ≤ L.length) (fun q => 1048577 - q.1.1.toNat) _ ?_ n _ (by simp only; omega) ⟨0, by rw [eW]; simp [oL], Nat.zero_le _⟩
  rintro rec _ ⟨i, rfl, hi⟩ ih
  dsimp only
  rw [ab]
  by_cases h1 : i < L.length
  ·have hil : i < (mix (nN (N.length + X.length) L) lR i).length := by rw [ig hm1, nR]; exact h1
   have hsd := hL.2 _ (aZ (d := dA) h1)
   have hsl := hsd.1.1
   have hsn := hsd.2.1
   obtain ⟨e, g3, g4, g5, g6, g7, g8⟩ := h.eR h1
   rw [hlR] at g3
   have hg : (mix (nN (N.length + X.length) L) lR i).getD i kT = e := (gP hm1 (by rw [nR]; exact h1)).trans g3
   obtain ⟨q1, q2⟩ := dU (X := (la X).map some ++ (oL (L.take i)).map some) g5
   obtain ⟨q3, q4⟩ := dU (X := (la X).map some ++ (oL (L.take i)).map some ++ [some (L.getD i dA).2.1.1]) g7
   rw [← List.append_assoc] at q3 q4
   rw [decide_eq_true (show (i : Int) < L.length by omega), cond_true, ah (ae (by omega) (by omega))]
   simp only [Nat.zero_add, Int.toNat_natCast]
   rw [ah (rV hil)]
   have hls : ∀ x : Rh, i < ((mix (nN (N.length + X.length) L) lR i).set i x).length := fun x => by rw [List.length_set]; exact hil
   simp only [uh, hg, Kt, ja hil, List.set_set, rV (hls _)]
   rw [q1, ah (show (true && true && true) = true from rfl), q2, g6, rW, k4 _ (by omega)]
   simp only [Option.bind_some]
   rw [ah (ae (by omega) (by omega)), ah (rV hil), q3, ah (show (true && true && true) = true from rfl), q4, g8, rW, k4 _ (by omega)]
   simp only [Option.bind_some]
   rw [ah (ae (by omega) (by omega)), ah rfl, ar (by omega) (by omega), en i (by omega), en' i (by omega) _, g4]
   have hms := ij (e := kT) hm1 (i := i) (by rw [nR]; exact h1)
   rw [pd (e := dA) h1] at hms
   rw [show N.length + X.length + 2 * i + 1 + 1 = N.length + X.length + 2 * i + 2 from rfl, hms]
   refine ih _ ⟨i + 1, ?_, by omega⟩ (by simp only; omega)
   rw [EE h1]
   simp
  ·rw [decide_eq_false (show ¬ (i : Int) < L.length by omega), cond_false]
   obtain rfl : i = L.length := by omega
   rw [List.take_length, ← nR, jc hm1, nR]
   rfl
section
variable {code : Code}
theorem AI (hs : Ev fun n => ∀ X V L, Sm X V L → iN ((C B0).run n) X V L = some (code X V L, ())) : Ev fun n => ∀ (D : Mem Dh) (R : Mem Rh) (S : Mem ByteArray) (N : Mem Tn) (hd hv hr : Hd) (X : List Df) (V : List ByteArray) (L : List Rl) (o nm : ByteArray), Vw D R S N hd hv hr X V L → Sm X V L → nm.size ≤ 1048576 →
  ∃ D' R' S' N' gd gv gr, fh ((C B0).run n) D R S N hd hv hr o nm = some (D ++ D', (R ++ R', (S ++ S', (N ++ N', (gd, (gv, (gr, ((F4 code X V L o nm).2.2.2.1, ())))))))) ∧
   Ob (D ++ D') (R ++ R') (S ++ S') (N ++ N') D.length R.length S.length N.length gd gv gr (F4 code X V L o nm).1 (F4 code X V L o nm).2.1 (F4 code X V L o nm).2.2.1 := by
 refine ((hs.and IC).and (((Hb (B := B0)).and x9).and ((Bj (B := B0)).and (tN (B := B0))))).succ fun n hn ⟨⟨kc, ko⟩, ⟨kf, kn⟩, kt, ku⟩ D R S N hd hv hr X V L o nm h hm oN => ?_
 rw [aa, sc]
 unfold kU F4 L4
 have hX1 := hm.1.1
 have hV1 := hm.2.1.1
 have hL1 := hm.2.2.1
 rw [h.ok, ah (Q6 h.parts.2.1), h.sD, h.sV, h.sR, kf V o (by omega), kc X V L hm, kn nm oN, kt X V L hm]
 simp only [Option.bind_some]
 rw [ku _ nm (by unfold EI; rw [List.length_append, List.length_map]; omega)]
 simp only [Option.bind_some]
 have hno : ∀ (x : Option (Mem Dh × (Mem Rh × (Mem ByteArray × (Mem Tn × (Hd × (Hd × (Hd × (Bool × Unit)))))))) ), x = some (D, (R, (S, (N, ((0, (0, 0)), ((0, (0, 0)), ((0, (0, 0)), (false, ())))))))) → ∃ D' R' S' N' gd gv gr, x = some (D ++ D', (R ++ R', (S ++ S', (N ++ N', (gd, (gv, (gr, (false, ())))))))) ∧
   Ob (D ++ D') (R ++ R') (S ++ S') (N ++ N') D.length R.length S.length N.length gd gv gr [] [] [] := by
  rintro x rfl
  exact ⟨[], [], [], [], (0, (0, 0)), (0, (0, 0)), (0, (0, 0)), by simp, .inr ⟨rfl, rfl, rfl, rfl, rfl, rfl⟩⟩
 have hix : oO (fun i => decide (o = V.getD i (bs []))) V.length = OA V o := rfl
 rw [hix, ab]
 by_cases h0 : code X V L = 0
 ·rw [h0]
  rcases EJ (l := V) (s := o) with ⟨a, ha, hao, hat⟩ | ⟨_, hat⟩
  ·rw [hat]
   cases hn1 : rZ nm with
   | false => exact hno _ rfl
   | true =>
    cases hn2 : mJ nm (EI X V) with
    | true => exact hno _ rfl
    | false =>
     rw [decide_eq_false (show ¬ (a : Int) < 0 by omega), decide_eq_true (show (0 : Int) ≤ (a : Int) by omega)]
     simp only [show ((0 : Int) != 0) = false from rfl, cond_false, Bool.not_true, Bool.not_false, Qq, cb, Bool.and_self, cond_true, decide_true, Int.toNat_natCast]
     rw [ko D R S N hd hv hr X V L h hm]
     simp only [Option.bind_some]
     have hp := NA (D := D) (R := R) (S := S) (N := N) (X := X) (V := V) (L := L)
     rw [ah (ae (by omega) (by omega)), ah (pc hp.hV (by rw [Nat.zero_add]; exact ha)), Nat.zero_add, kN hp.hV, Ez]
     have hp1 := hp.Qo (i := a) (s := nm)
     have hlen : (Hg o nm L).length = L.length := List.length_map ..
     refine Hh (V' := V.set a nm) (L' := Hg o nm L) (List.length_set ..) hlen ?_
     refine kv (fun q => ∃ (i : Nat) (N1 : Mem Tn), q = (((i : Int), ((L.length : Int), (H R.length L.length, (o, (nm, ((), ((), (false, ())))))))), ((H D.length X.length, (H S.length V.length, (H R.length L.length, ()))), (((), ((), ((), ()))), ((EF S X V).set S.length (some (V.set a nm)), (N1, (FY R N X L, (FX D S N X, ()))))))) ∧ i ≤ L.length ∧
       PA (FX D S N X) (FY R N X L) ((EF S X V).set S.length (some (V.set a nm))) N1 D.length R.length (S.length + 1) S.length N.length (N.length + X.length) X (V.set a nm) (mix (Hg o nm L) L i) ∧ ∃ N', N1 = N ++ N') (fun q => 1048577 - q.1.1.toNat) (by simp only; omega)
      ⟨0, Ox N X L, rfl, Nat.zero_le _, by rw [eW]; exact hp1, _, rfl⟩ ?_
     rintro rec _ ⟨i, N1, rfl, hi, hpa, N', rfl⟩ ih
     dsimp only
     rw [ab]
     by_cases h1 : i < L.length
     ·have hil : i < (mix (Hg o nm L) L i).length := by rw [ig hlen]; exact h1
      have hg : (mix (Hg o nm L) L i).getD i dA = L.getD i dA := gP hlen h1
      have hsd := hm.2.2.2 _ (aZ (d := dA) h1)
      have hsl := hsd.1.1
      have hsn := hsd.2.1
      have hrow := pd (n := N.length + X.length) (d := kT) (e := dA) hil
      rw [hg] at hrow
      have hR := hpa.hR
      have hN1 := hpa.hN (2 * i) (by rw [fH]; omega)
      have hN2 := hpa.hN (2 * i + 1) (by rw [fH]; omega)
      rw [(pf (e := dA) hil).1, hg] at hN1
      rw [(pf (e := dA) hil).2, hg] at hN2
      rw [decide_eq_true (show (i : Int) < L.length by omega), cond_true, ah (ae (by omega) (by omega))]
      simp only [Int.toNat_natCast, Nat.zero_add]
      rw [pc hR (by rw [gN]; exact hil), ah rfl, kN hR, hrow]
      simp only
      obtain ⟨k1, hk1⟩ : ∃ k, N.length + X.length + 2 * i = k := ⟨_, rfl⟩
      obtain ⟨l1, hl1⟩ : ∃ l, (L.getD i dA).2.1.1 = l := ⟨_, rfl⟩
      obtain ⟨l2, hl2⟩ : ∃ l, (L.getD i dA).2.2.1.1 = l := ⟨_, rfl⟩
      rw [hl1] at hsl hN1
      rw [hl2] at hsn hN2
      rw [hk1] at hN1
      rw [← Nat.add_assoc, hk1] at hN2
      rw [hl1, hl2, hk1]
      have turn : ∀ (M : Mem Tn) (k : Nat) (l : List Tn), M[k]? = some (some l) → l.length ≤ 1048576 → ∀ {Z : Type} (st : Int → Mem Tn → Z), True := fun _ _ _ _ _ _ _ => trivial
      refine (aN (fun q => ∃ (j : Nat) (M : Mem Tn), q = (((j : Int), ((2 : Int), ((), (o, (nm, ((i : Int), ((L.length : Int), (H R.length L.length, ((), ((), (false, ()))))))))))), ([H k1 l1.length, (k1 + 2, (0, l2.length))], ((H D.length X.length, (H S.length V.length, (H R.length L.length, ()))), (((), ((), ((), ()))), ((EF S X V).set S.length (some (V.set a nm)), (M, (FY R N X L, (FX D S N X, ())))))))) ∧ j ≤ 2 ∧ M = (if j = 0 then N ++ N' else if j = 1 then (N ++ N').set k1 (some (ph o nm l1)) else ((N ++ N').set k1 (some (ph o nm l1))).set (k1 + 1) (some (ph o nm l2))))
       (fun q => 3 - q.1.1.toNat) (rec (((i : Int) + 1, ((L.length : Int), (H R.length L.length, (o, (nm, ((), ((), (false, ())))))))), ((H D.length X.length, (H S.length V.length, (H R.length L.length, ()))), (((), ((), ((), ()))), ((EF S X V).set S.length (some (V.set a nm)), (((N ++ N').set k1 (some (ph o nm l1))).set (k1 + 1) (some (ph o nm l2)), (FY R N X L, (FX D S N X, ())))))))) ?_ n _ (by simp only; omega) ⟨0, _, rfl, by omega, rfl⟩) ▸ ?_
      ·rintro rec1 _ ⟨j, M, rfl, hj, hM⟩ ih1
       dsimp only
       rw [ab]
       by_cases hj2 : j < 2
       ·obtain ⟨k, l, hkl, hMk, hlen2⟩ : ∃ k l, List.getD [H k1 l1.length, (k1 + 2, (0, l2.length))] j (0, (0, 0)) = H k l.length ∧ M[k]? = some (some l) ∧ l.length ≤ 1048576 ∧ M.set k (some (ph o nm l)) = (if j + 1 = 0 then N ++ N' else if j + 1 = 1 then (N ++ N').set k1 (some (ph o nm l1)) else ((N ++ N').set k1 (some (ph o nm l1))).set (k1 + 1) (some (ph o nm l2))) := by
         rcases (show j = 0 ∨ j = 1 by omega) with rfl | rfl
         ·exact ⟨k1, l1, rfl, by rw [hM]; exact hN1, hsl, by rw [hM]; rfl⟩
         ·exact ⟨k1 + 1, l2, rfl, by rw [hM]; exact (vl (by omega)).trans hN2, hsn, by rw [hM]; rfl⟩
        obtain ⟨hl, hMn⟩ := hlen2
        have hk := kx hMk
        have hml : (ph o nm l).length = l.length := List.length_map ..
        rw [decide_eq_true (show (j : Int) < 2 by omega), cond_true, aj, ah (ae (by omega) (by simp only [List.length_cons, List.length_nil]; omega)), Int.toNat_natCast, hkl]
        refine aN (fun q => ∃ t : Nat, q = (((t : Int), ((l.length : Int), (H k l.length, (o, (H k l.length, (nm, ((j : Int), ((2 : Int), ((), ((i : Int), ((L.length : Int), (H R.length L.length, ((), ((), (false, ()))))))))))))))), ([H k1 l1.length, (k1 + 2, (0, l2.length))], ((H D.length X.length, (H S.length V.length, (H R.length L.length, ()))), (((), ((), ((), ()))), ((EF S X V).set S.length (some (V.set a nm)), (M.set k (some (mix (ph o nm l) l t)), (FY R N X L, (FX D S N X, ())))))))) ∧ t ≤ l.length) (fun q => 1048577 - q.1.1.toNat) _ ?_ n _ (by simp only; omega) ⟨0, by rw [eW, oM hMk]; rfl, Nat.zero_le _⟩
        rintro rec2 _ ⟨t, rfl, ht⟩ ih2
        dsimp only
        rw [ab]
        by_cases h2 : t < l.length
        ·have hil : t < (mix (ph o nm l) l t).length := by rw [ig hml]; exact h2
         have hg : (mix (ph o nm l) l t).getD t (0, (0, ((bs []), ()))) = l.getD t (0, (0, ((bs []), ()))) := gP hml h2
         have hr : (ph o nm l).getD t (0, (0, ((bs []), ()))) = NI o nm (l.getD t (0, (0, ((bs []), ())))) := by
          rw [List.getD_eq_getElem?_getD, List.getElem?_map, List.getD_eq_getElem?_getD, List.getElem?_eq_getElem h2]
          rfl
         have hms := ij (e := (0, (0, ((bs []), ())))) hml h2
         rw [hr] at hms
         have hmx : NI o nm (l.getD t (0, (0, ((bs []), ())))) = l.getD t (0, (0, ((bs []), ()))) → mix (ph o nm l) l t = mix (ph o nm l) l (t + 1) := fun h => EK hml h2 (hr.trans h)
         rw [decide_eq_true (show (t : Int) < l.length by omega), cond_true]
         simp only [Nat.zero_add, Int.toNat_natCast, jT hk, hg, gO hk hil, rk]
         rw [ah (ae (by omega) (by omega)), ah rfl]
         unfold NI at hms hmx
         cases hc : (l.getD t (0, (0, ((bs []), ())))).1 == 2 <;> simp only [hc, Bool.false_and, Bool.true_and, cond_false, cond_true] at hms hmx
         ·simp only [cond_false, cb]
          rw [hmx trivial, ar (by omega) (by omega)]
          exact ih2 _ ⟨t + 1, by simp, by omega⟩ (by simp only; omega)
         ·cases hs : seq (l.getD t (0, (0, ((bs []), ())))).2.2.1 o <;> simp only [hs, cond_false, cond_true] at hms hmx
          ·simp only [cond_true, cb, hs, cond_false]
           rw [hmx trivial, ar (by omega) (by omega)]
           exact ih2 _ ⟨t + 1, by simp, by omega⟩ (by simp only; omega)
          ·simp only [cb, hs, cond_true]
           rw [ah (ae (by omega) (by omega))]
           simp only [Nat.zero_add, Int.toNat_natCast, jT hk, hg, gO hk hil, rk]
           rw [ah rfl]
           simp only [cb]
           rw [hms, ar (by omega) (by omega)]
           exact ih2 _ ⟨t + 1, by simp, by omega⟩ (by simp only; omega)
        ·rw [decide_eq_false (show ¬ (t : Int) < l.length by omega), cond_false]
         obtain rfl : t = l.length := by omega
         rw [jc hml, hMn, ar (by omega) (by omega)]
         exact ih1 _ ⟨j + 1, _, rfl, by omega, rfl⟩ (by simp only; omega)
       ·obtain rfl : j = 2 := by omega
        rw [decide_eq_false (by omega), cond_false, ar (by omega) (by omega), hM]
        rfl
      ·refine ih _ ⟨i + 1, _, rfl, by omega, ?_, ?_⟩ (by simp only; omega)
       ·have hms := ij (e := dA) hlen h1
        have hgr : (Hg o nm L).getD i dA = QB o nm (L.getD i dA) := by
         rw [List.getD_eq_getElem?_getD, List.getElem?_map, List.getD_eq_getElem?_getD, List.getElem?_eq_getElem h1]
         rfl
        rw [hgr] at hms
        rw [← hms]
        have := hpa.Qp (i := i) hil (y1 := ph o nm (L.getD i dA).2.1.1) (y2 := ph o nm (L.getD i dA).2.2.1.1) (by rw [hg, List.length_map]) (by rw [hg, List.length_map])
        rw [hg, hk1, hl1, hl2] at this
        unfold QB
        rw [hl1, hl2]
        exact this
       ·refine ⟨(N'.set (X.length + 2 * i) (some (ph o nm l1))).set (X.length + 2 * i + 1) (some (ph o nm l2)), ?_⟩
        rw [← hk1, List.set_append_right _ _ (by omega), List.set_append_right _ _ (by omega), show N.length + X.length + 2 * i - N.length = X.length + 2 * i by omega, show N.length + X.length + 2 * i + 1 - N.length = X.length + 2 * i + 1 by omega]
     ·rw [decide_eq_false (show ¬ (i : Int) < L.length by omega), cond_false]
      obtain rfl : i = L.length := by omega
      rw [jc hlen] at hpa
      exact eo ⟨_, rfl, hpa, _, rfl⟩
  ·rw [hat]
   exact hno _ rfl
 ·rw [show (code X V L != 0) = true by simpa using h0, decide_eq_false h0]
  exact hno _ rfl
end
end Go.Px.Seat
namespace Go.Px.Seat
open Go Pm Pt
theorem xn {B : ax} : Ev fun n => ∀ (D : Mem Dh) (R : Mem Rh) (S : Mem ByteArray) (N : Mem Tn) (d r p v n' m : Nat) (X : List Df) (V : List ByteArray) (L : List Rl), PA D R S N d r p v n' m X V L → Sm X V L →
  ∃ D' R' S' N', dJ ((C B).run n) D R S N (H d X.length) (H v V.length) (H r L.length) 1 = some (D', (R', (S', (N', (Eu X V L, ()))))) ∧
   PA D' R' S' N' d r p v n' m (CB X) (Kk X V) (Kl X V L) ∧ (∀ k, k ≠ d → D'[k]? = D[k]?) ∧ (∀ k, k ≠ r → R'[k]? = R[k]?) ∧ (∀ k, k ≠ v → (k < p ∨ p + X.length ≤ k) → S'[k]? = S[k]?) ∧ (∀ k, (k < n' ∨ n' + X.length ≤ k) → (k < m ∨ m + 2 * L.length ≤ k) → N'[k]? = N[k]?) := by
 refine ((zZ (B := B)).and ((tj (B := B)).and (z6 (B := B)))).succ fun n hn ⟨kd, ks, kr⟩ D R S N d r p v n' m X V L h ⟨hX, hV, hL⟩ => ?_
 rw [aa, nu]
 unfold iV
 have b1 := Ew hX
 have b2 := hV.1
 obtain ⟨S1, N1, e1, s1, n1, fs, fn⟩ := kd D R S N d p n' X 1 h.hD h.hP h.hB hX (by omega) (by omega)
 rw [e1]
 simp only [Option.bind_some]
 have LS := h.LS
 have oN := h.oN
 rw [ks _ _ _ _ v V _ (by rw [fs.2 _ (by omega)]; exact h.hV) b2 (by omega) (by omega)]
 simp only [Option.bind_some]
 obtain ⟨N2, e2, n2, fn2⟩ := kr (D.set d (some (mP p n' (gE 1 X)))) R (S1.set v (some (vk (1 + (dG jE X : Nat)) V))) N1 r m L (1 + (dG jE X : Nat) + V.length) h.hR (Ko fn h.hN (.inr (by omega))) hL (by omega) (by omega)
 rw [e2]
 simp only [Option.bind_some]
 have l1 : (oK (CB X)).length = X.length := by rw [rU]; exact cB
 have l2 : (la (CB X)).length = X.length := by rw [jS]; exact cB
 refine ⟨_, _, _, _, rfl, ⟨wh h.hD, wh h.hR, CF s1 (by rw [l1]; omega), wh (l := V) (by rw [fs.2 _ (by omega)]; exact h.hV), Ko fn2 n1 (.inl (by rw [l2]; omega)), n2, ?_, ?_⟩, fun k hk => vl (by omega), fun k hk => vl (by omega), fun k h1 h2 => ?_, fun k h1 h2 => ?_⟩
 ·unfold CB; rw [cB]; exact LS
 ·unfold CB; rw [cB]; exact oN
 ·rw [vl (by omega), fs.2 _ h2]
 ·rw [fn2.2 _ h2, fn.2 _ h1]
def Ag {α : Type} (M M' : Mem α) : Prop := ∀ k, k < M.length → M'[k]? = M[k]?
theorem Ag.app {α : Type} {M M' X : Mem α} (h : Ag M M') : Ag M (M' ++ X) := fun k hk => by
 have h1 := h k hk
 rw [List.getElem?_eq_getElem hk] at h1
 have : k < M'.length := by
  by_cases h2 : k < M'.length
  ·exact h2
  ·rw [List.getElem?_eq_none (by omega)] at h1; cases h1
 rw [List.getElem?_append_left this]
 exact h k hk
theorem Ag.new {α : Type} {M X : Mem α} : Ag M (M ++ X) := fun k hk => List.getElem?_append_left hk
structure Lb (D D' : Mem Dh) (R R' : Mem Rh) (S S' : Mem ByteArray) (N N' : Mem Tn) : Prop where
 hD : Ag D D'
 hR : Ag R R'
 hS : Ag S S'
 hN : Ag N N'
section
variable {D D' D2 : Mem Dh} {R R' R2 : Mem Rh} {S S' S2 : Mem ByteArray} {N N' N2 : Mem Tn} {d0 r0 s0 n0 : Nat} {hd hv hr : Hd} {X : List Df} {V : List ByteArray} {L : List Rl}
theorem Lb.app (h : Lb D D' R R' S S' N N') : Lb D (D' ++ D2) R (R' ++ R2) S (S' ++ S2) N (N' ++ N2) := ⟨h.hD.app, h.hR.app, h.hS.app, h.hN.app⟩
theorem Lb.new : Lb D (D ++ D2) R (R ++ R2) S (S ++ S2) N (N ++ N2) := ⟨.new, .new, .new, .new⟩
theorem Ob.ag (h : Ob D R S N d0 r0 s0 n0 hd hv hr X V L) (a : Lb D D' R R' S S' N N') : Ob D' R' S' N' d0 r0 s0 n0 hd hv hr X V L := by
 rcases h with ⟨d, r, p, v, n, m, h1, h2, h3, h, h4⟩ | h
 ·refine .inl ⟨d, r, p, v, n, m, h1, h2, h3, ⟨?_, ?_, fun i hi => ?_, ?_, fun i hi => ?_, fun i hi => ?_, h.LS, h.oN⟩, h4⟩
  ·rw [a.hD _ (kx h.hD)]; exact h.hD
  ·rw [a.hR _ (kx h.hR)]; exact h.hR
  ·rw [a.hS _ (kx (h.hP i hi))]; exact h.hP i hi
  ·rw [a.hS _ (kx h.hV)]; exact h.hV
  ·rw [a.hN _ (kx (h.hB i hi))]; exact h.hB i hi
  ·rw [a.hN _ (kx (h.hN i hi))]; exact h.hN i hi
 ·exact .inr h
end
theorem ID {B : ax} : Ev fun n => ∀ (D : Mem Dh) (R : Mem Rh) (S : Mem ByteArray) (N : Mem Tn) d0 r0 s0 n0 hd hv hr X V L, Ob D R S N d0 r0 s0 n0 hd hv hr X V L → Sm X V L →
  ∃ D' R' S' N', dJ ((C B).run n) D R S N hd hv hr 1 = some (D', (R', (S', (N', (Eu X V L, ()))))) ∧ Ob D' R' S' N' d0 r0 s0 n0 hd hv hr (CB X) (Kk X V) (Kl X V L) ∧
   (∀ k, k < d0 → D'[k]? = D[k]?) ∧ (∀ k, k < r0 → R'[k]? = R[k]?) ∧ (∀ k, k < s0 → S'[k]? = S[k]?) ∧ ∀ k, k < n0 → N'[k]? = N[k]? := by
 refine ((xn (B := B)).and (Iy (B := B))).mono fun n ⟨k1, k2⟩ D R S N d0 r0 s0 n0 hd hv hr X V L h hm => ?_
 rcases h with ⟨d, r, p, v, n, m, rfl, rfl, rfl, h, h4, h5, h6, h7, h8⟩ | ⟨rfl, rfl, rfl, rfl, rfl, rfl⟩
 ·obtain ⟨D', R', S', N', e, hp, f1, f2, f3, f4⟩ := k1 D R S N d r p v n m X V L h hm
  have := h.oN
  refine ⟨D', R', S', N', e, .inl ⟨d, r, p, v, n, m, ?_, ?_, ?_, hp, h4, h5, h6, h7, h8⟩, fun k hk => f1 k (by omega), fun k hk => f2 k (by omega), fun k hk => f3 k (by omega) (by omega), fun k hk => f4 k (by omega) (by omega)⟩
  ·unfold CB; rw [cB]
  ·unfold Kk; rw [cB]
  ·unfold Kl; rw [cB]
 ·exact ⟨D, R, S, N, k2 D R S N, .inr ⟨rfl, rfl, rfl, rfl, rfl, rfl⟩, fun _ _ => rfl, fun _ _ => rfl, fun _ _ => rfl, fun _ _ => rfl⟩
theorem QC {a b : Bool} (ha : a = true) (hb : b = true) : (a && (b && true)) = true := by rw [ha, hb]; rfl
variable {code : Code}
theorem sk (hi : Ev fun n => ∀ X V L, Sm X V L → iN ((C B0).run n) X V L = some (code X V L, ())) (hs : Ev fun n => ∀ X V L, Sm X V L → iO ((C B0).run n) X V L = some (code X V L, ())) :
  Ev fun n => ∀ (D : Mem Dh) (R : Mem Rh) (S : Mem ByteArray) (N : Mem Tn) (X : List Df) (V : List ByteArray) (L : List Rl) (o nm : ByteArray), mO hY X → Bi hY V → pb hY L →
   ∃ D' R' S' N', ej ((C B0).run n) D R S N X V L o nm = some (D', (R', (S', (N', (true, ()))))) := by
 refine (((Ki (B := B0)).and (Kn (B := B0))).and (((AH hs).and (AI hi)).and ((Km (B := B0)).and ((ID (B := B0)).and ((xn (B := B0)).and (FV (B := B0))))))).succ
  fun n hn ⟨⟨ksz, kto⟩, ⟨ks, ki⟩, keq, kmo, kmp, kh⟩ D R S N X V L o nm hX hV hL => ?_
 rw [aa, mE]
 unfold gC
 rw [rL, rL, ab, ab]
 by_cases ho : (1048576 : Int) < o.size
 ·rw [decide_eq_true ho, cond_true]
  exact ⟨D, R, S, N, rfl⟩
 by_cases oN : (1048576 : Int) < nm.size
 ·rw [decide_eq_false ho, cond_false, decide_eq_true oN, cond_true]
  exact ⟨D, R, S, N, rfl⟩
 rw [decide_eq_false ho, cond_false, decide_eq_false oN, cond_false]
 have oN : nm.size ≤ 1048576 := by omega
 obtain ⟨⟨b, ub⟩, eb, hb⟩ := ksz X V L 1048576 (by decide) (by decide) hX hV hL
 rw [eb]
 simp only [Option.bind_some]
 rw [ab]
 rcases hb with hb | ⟨hb0, _, hm⟩
 ·rw [decide_eq_true hb, cond_true]
  exact ⟨D, R, S, N, rfl⟩
 ·have hm : Sm X V L := ⟨hm.1, hm.2.1, hm.2.2⟩
  rw [decide_eq_false (show ¬ b < 0 by simp only at hb0; omega), cond_false]
  obtain ⟨D1, R1, S1, N1, e1, p1, -, -⟩ := kto D R S N X V L hm.1 hm.2.1 hm.2.2
  rw [e1]
  simp only [Option.bind_some]
  obtain ⟨Dw, Rw, Sw, Nw, wd, wv, wr, ew, ow⟩ := ks _ _ _ _ _ _ _ X V L o nm p1.vw hm oN
  rw [ew]
  simp only [Option.bind_some]
  obtain ⟨D2, R2, S2, N2, e2, p2, l2, l3⟩ := kto (D ++ D1 ++ Dw) (R ++ R1 ++ Rw) (S ++ S1 ++ Sw) (N ++ N1 ++ Nw) X V L hm.1 hm.2.1 hm.2.2
  rw [e2]
  simp only [Option.bind_some]
  obtain ⟨D3, R3, S3, N3, gd, gv, gr, e3, o3⟩ := ki _ _ _ _ _ _ _ X V L o nm p2.vw hm oN
  rw [e3]
  have hws := OD (code := code) (o := o) oN hm
  rcases hw : F4 code X V L o nm with ⟨wX, wV, wL, wk, wu⟩
  rw [hw] at o3 hws ow
  simp only [Option.bind_some]
  simp only at o3 hws ow
  have ow3 := ow.app (D' := D2) (R' := R2) (S' := S2) (N' := N2) |>.app (D' := D3) (R' := R3) (S' := S3) (N' := N3)
  rw [ah (QC o3.ok ow3.ok), o3.sD, o3.sV, o3.sR, ow3.sD, ow3.sV, ow3.sR, keq wX wV wL hws.1 hws.2.1 hws.2.2]
  simp only [Option.bind_some, Bool.not_true, cond_false, wx, cb]
  have ag3 : Lb (D ++ D1 ++ Dw) (D ++ D1 ++ Dw ++ D2 ++ D3) (R ++ R1 ++ Rw) (R ++ R1 ++ Rw ++ R2 ++ R3) (S ++ S1 ++ Sw) (S ++ S1 ++ Sw ++ S2 ++ S3) (N ++ N1 ++ Nw) (N ++ N1 ++ Nw ++ N2 ++ N3) := Lb.new.app
  obtain ⟨D4, R4, S4, N4, e4, p4, -, -⟩ := kto (D ++ D1 ++ Dw ++ D2 ++ D3) (R ++ R1 ++ Rw ++ R2 ++ R3) (S ++ S1 ++ Sw ++ S2 ++ S3) (N ++ N1 ++ Nw ++ N2 ++ N3) X V L hm.1 hm.2.1 hm.2.2
  rw [e4]
  simp only [Option.bind_some]
  have p2' := (p2.app (D' := D3) (R' := R3) (S' := S3) (N' := N3)).app (D' := D4) (R' := R4) (S' := S4) (N' := N4)
  have o4 := o3.app (D' := D4) (R' := R4) (S' := S4) (N' := N4)
  have ag4 := ag3.app (D2 := D4) (R2 := R4) (S2 := S4) (N2 := N4)
  rw [ah (QC p2'.ok p4.ok), p2'.sD, p2'.sV, p2'.sR, p4.sD, p4.sV, p4.sR, keq X V L hm.1 hm.2.1 hm.2.2]
  simp only [Option.bind_some, Bool.not_true, cond_false]
  obtain ⟨D5, R5, S5, N5, e5, -, f1, f2, f3, f4⟩ := kmp _ _ _ _ _ _ _ _ _ _ X V L p2' hm
  rw [e5]
  simp only [Option.bind_some]
  have hc : ¬ Eu X V L < 0 := by unfold Eu; omega
  have hdl := kx p2.hD
  have hrl := kx p2.hR
  have o5 := o4.frame (D' := D5) (R' := R5) (S' := S5) (N' := N5) (fun k hk => f1 k (by omega)) (fun k hk => f2 k (by omega)) (fun k hk => f3 k (by omega) (by omega)) (fun k hk => f4 k (by omega) (by omega))
  have ag5 : Lb (D ++ D1 ++ Dw) D5 (R ++ R1 ++ Rw) R5 (S ++ S1 ++ Sw) S5 (N ++ N1 ++ Nw) N5 := ⟨fun k hk => by rw [f1 k (by omega)]; exact ag4.hD k hk, fun k hk => by rw [f2 k (by omega)]; exact ag4.hR k hk, fun k hk => by rw [f3 k (by omega) (by omega)]; exact ag4.hS k hk, fun k hk => by rw [f4 k (by omega) (by omega)]; exact ag4.hN k hk⟩
  have ow5 := ow.ag ag5
  rw [ab, decide_eq_false hc, cond_false, ah (QC o5.ok ow5.ok), o5.sD, o5.sV, o5.sR, ow5.sD, ow5.sV, ow5.sR, keq wX wV wL hws.1 hws.2.1 hws.2.2]
  simp only [Option.bind_some, Bool.not_true, cond_false, wx, cb]
  obtain ⟨D6, R6, S6, N6, e6, o6, h1, h2, h3, h4⟩ := kmo _ _ _ _ _ _ _ _ _ _ _ _ _ _ o5 hws
  rw [e6]
  simp only [Option.bind_some]
  have ag6 : Lb (D ++ D1 ++ Dw) D6 (R ++ R1 ++ Rw) R6 (S ++ S1 ++ Sw) S6 (N ++ N1 ++ Nw) N6 := ⟨fun k hk => by rw [h1 k (by rw [List.length_append]; omega)]; exact ag5.hD k hk, fun k hk => by rw [h2 k (by rw [List.length_append]; omega)]; exact ag5.hR k hk, fun k hk => by rw [h3 k (by rw [List.length_append]; omega)]; exact ag5.hS k hk, fun k hk => by rw [h4 k (by rw [List.length_append]; omega)]; exact ag5.hN k hk⟩
  rw [o6.ok, NB, o6.sD, o6.sV, o6.sR, kh wX wV wL hws.1 hws.2.1 hws.2.2]
  simp only [Option.bind_some]
  have hc2 : ¬ Eu wX wV wL < 0 := by unfold Eu; omega
  rw [ab, decide_eq_false hc2, cond_false, eV, cond_false]
  obtain ⟨D7, R7, S7, N7, e7, p7, -, -⟩ := kto D6 R6 S6 N6 X V L hm.1 hm.2.1 hm.2.2
  rw [e7]
  simp only [Option.bind_some]
  obtain ⟨D8, R8, S8, N8, qd, qv, qr, e8, o8⟩ := ki _ _ _ _ _ _ _ X V L o nm p7.vw hm oN
  rw [e8]
  rw [hw] at o8 ⊢
  simp only [Option.bind_some]
  simp only at o8
  have ow8 := ow.ag (ag6.app (D2 := D7) (R2 := R7) (S2 := S7) (N2 := N7) |>.app (D2 := D8) (R2 := R8) (S2 := S8) (N2 := N8))
  rw [ah (QC o8.ok ow8.ok), o8.sD, o8.sV, o8.sR, ow8.sD, ow8.sV, ow8.sR, keq wX wV wL hws.1 hws.2.1 hws.2.2]
  simp only [Option.bind_some, Bool.not_true, cond_false, wx, cb]
  have o9 := (o6.app (D' := D7) (R' := R7) (S' := S7) (N' := N7)).app (D' := D8) (R' := R8) (S' := S8) (N' := N8)
  refine ⟨D6 ++ D7 ++ D8, R6 ++ R7 ++ R8, S6 ++ S7 ++ S8, N6 ++ N7 ++ N8, ?_⟩
  rw [o9.ok, NB, o9.sD, o9.sV, o9.sR, kh wX wV wL hws.1 hws.2.1 hws.2.2]
  simp only [Option.bind_some]
  rw [ab, decide_eq_false hc2, cond_false, eV, cond_false]
end Go.Px.Seat
namespace Go.Px.Seat
open Go Pm Pt
variable {B : ax}
def tP {α : Type} (f : α → Int) (l : List α) : Int := (l.findSome? fun x => if f x = 0 then none else some (f x)).getD 0
theorem OE {α : Type} {f : α → Int} {l : List α} : (∃ r, (l.findSome? fun x => if f x = 0 then none else some (f x)) = some r ∧ r ≠ 0 ∧ tP f l = r) ∨ ((l.findSome? fun x => if f x = 0 then none else some (f x)) = none ∧ tP f l = 0) := by
 unfold tP
 cases h : l.findSome? fun x => if f x = 0 then none else some (f x) with
 | none => exact .inr ⟨rfl, rfl⟩
 | some r =>
  obtain ⟨x, _, h2⟩ := List.exists_of_findSome?_eq_some h
  split at h2
  ·cases h2
  ·next hx => cases h2; exact .inl ⟨_, rfl, hx, rfl⟩
theorem F6 {α R : Type} {f : α → Int} {l : List α} {g : Int → R} {K : Option R} : (l.findSome? fun x => if f x = 0 then none else some (g (f x))).or K = if tP f l = 0 then K else some (g (tP f l)) := by
 have : (fun x => if f x = 0 then none else some (g (f x))) = fun x => (if f x = 0 then none else some (f x)).map g := by
  funext x
  split <;> rfl
 rw [this, F0]
 rcases OE (f := f) (l := l) with ⟨r, h1, h2, h3⟩ | ⟨h1, h2⟩
 ·rw [h1, h3, if_neg h2]; rfl
 ·rw [h1, h2, if_pos rfl]; rfl
theorem Hi {α : Type} {f : α → Int} : tP f [] = 0 := rfl
theorem vq {α : Type} {f : α → Int} {x : α} {l : List α} : tP f (x :: l) = if f x = 0 then tP f l else f x := by
 unfold tP
 rw [List.findSome?_cons]
 split <;> rename_i h <;> split at h <;> simp_all
theorem yb {α : Type} {f : α → Int} : ∀ {a b : List α}, tP f (a ++ b) = if tP f a = 0 then tP f b else tP f a
 | [], b => by rw [List.nil_append, Hi, if_pos rfl]
 | x :: a, b => by
  rw [List.cons_append, vq, vq, yb]
  by_cases h : f x = 0
  ·rw [if_pos h, if_pos h]
  ·rw [if_neg h, if_neg h, if_neg h]
def yc (X : List Df) (own : List ByteArray) (x : Tn) : Int :=
 if x.1 ≠ 2 ∧ x.1 ≠ 13 then 0
 else if mJ x.2.2.1 own = true then (if x.1 = 13 then 9 else 0)
 else if xI X x.2.2.1 < 0 then 8
 else if ((X.getD (xI X x.2.2.1).toNat cg).2.1.length : Int) ≠ x.2.1 then 9 else 0
def OF (X : List Df) (l : List Tn) (own : List ByteArray) : Int := tP (yc X own) l
section
variable {X : List Df} {own : List ByteArray} {x : Tn}
theorem EL (h2 : x.1 ≠ 2) (h13 : x.1 ≠ 13) : yc X own x = 0 := by unfold yc; rw [if_pos ⟨h2, h13⟩]
theorem Bm (h : x.1 = 13) (hm : mJ x.2.2.1 own = true) : yc X own x = 9 := by
 unfold yc; rw [if_neg (fun h' => h'.2 h), if_pos hm, if_pos h]
theorem EM (h : x.1 = 2) (hm : mJ x.2.2.1 own = true) : yc X own x = 0 := by
 unfold yc; rw [if_neg (fun h' => h'.1 h), if_pos hm, if_neg (by omega)]
theorem KE (h : x.1 = 2 ∨ x.1 = 13) (hm : mJ x.2.2.1 own = false) (hd : xI X x.2.2.1 = -1) : yc X own x = 8 := by
 unfold yc; rw [if_neg (by omega), if_neg (by rw [hm]; decide), if_pos (by omega)]
theorem Hj {j : Nat} (h : x.1 = 2 ∨ x.1 = 13) (hm : mJ x.2.2.1 own = false) (hd : xI X x.2.2.1 = j) : yc X own x = if ((X.getD j cg).2.1.length : Int) ≠ x.2.1 then 9 else 0 := by
 unfold yc; rw [if_neg (by omega), if_neg (by rw [hm]; decide), if_neg (by omega), hd, Int.toNat_natCast]
end
theorem bne_eq {a b : Int} : (a != b) = decide (a ≠ b) := by
 by_cases h : a = b <;> simp [h]
theorem Hk {X : List Df} {l : List Tn} {own : List ByteArray} : (l.findSome? fun x => if yc X own x = 0 then none else some (yc X own x, ())).or (some (0, ())) = some (OF X l own, ()) := by
 rw [F6 (g := fun x => (x, ()))]
 unfold OF
 split
 ·next h => rw [h]
 ·rfl
theorem KF : Ev fun n => ∀ (X : List Df) (V : List ByteArray) (L : List Rl) (l : List Tn) (own : List ByteArray), X.length ≤ 4000000 → l.length ≤ 4000000 → own.length ≤ 4000000 → jK ((C B).run n) X V L l own = some (OF X l own, ()) := by
 refine ((CP (B := B)).and (tN (B := B))).succ fun n hn ⟨kd, kc⟩ X V L l own hX hl ho => ?_
 rw [aa, Au]
 unfold sZ
 rw [← Hk, aj]
 refine eJ (fun i => (((i : Int), ((l.length : Int), (l, ((), (own, (0, ())))))), ((X, (V, (L, ()))), ()))) (fun x => if yc X own x = 0 then none else some (yc X own x, ())) l (0, (0, ((bs []), ()))) _ ?_ ?_ (by omega)
 ·intro rec i hi
  have e : aB .i64 (i : Int) 1 = ((i + 1 : Nat) : Int) := ar (by omega) (by omega)
  dsimp only
  rw [ab, decide_eq_true (by omega), cond_true, aj, ah (ae (by omega) (by omega)), Int.toNat_natCast]
  generalize l.getD i (0, (0, ((bs []), ()))) = x
  rw [bne_eq, bne_eq]
  have hgo : x.1 = 2 ∨ x.1 = 13 → jb (R := Int × Unit) (P := (Int × Int × List Tn × Unit × List ByteArray × Int × Unit) × (List Df × List ByteArray × List Rl × Unit) × Unit) ((fv ((C B).run n) X V L x.2.2.1).bind fun (r72_1, _) =>
      (a8 ((C B).run n) own x.2.2.1).bind fun (r37_1, _) =>
      bif r37_1 then
       bif (x.1 == 13) then
        some (.inl (9, ()))
       else
       some (.inr (((i : Int), ((l.length : Int), (l, ((), (own, (0, ())))))), ((X, (V, (L, ()))), ())))
      else
      bif (bS r72_1 0) then
       some (.inl (8, ()))
      else
      ok (bQ r72_1 (len X)) <|
      bif ((len (List.getD X (Int.toNat r72_1) cg).2.1) != x.2.1) then
       some (.inl (9, ()))
      else
      some (.inr (((i : Int), ((l.length : Int), (l, ((), (own, (0, ())))))), ((X, (V, (L, ()))), ()))))
    (fun ((t12_2, (t11_2, (t10_2, (_, (own2_2, (t6_2, _)))))), ((o0a_2, (o0b_2, (o0c_2, _))), _)) =>
    rec (((aB .i64 t12_2 1), (t11_2, (t10_2, ((), (own2_2, (t6_2, ())))))), ((o0a_2, (o0b_2, (o0c_2, ()))), ()))) =
   (if yc X own x = 0 then none else some (yc X own x, ())).or (rec ((((i + 1 : Nat) : Int), ((l.length : Int), (l, ((), (own, (0, ())))))), ((X, (V, (L, ()))), ()))) := by
   intro hx
   rw [kd _ _ _ _ hX, kc _ _ ho]
   simp only [Option.bind_some]
   rw [ab]
   cases hm : mJ x.2.2.1 own with
   | true =>
    rcases hx with hx | hx
    ·have h13 : (x.1 == 13) = false := by rw [hx]; rfl
     rw [EM hx hm, h13]
     show rec (((aB .i64 (i : Int) 1), _), _) = _
     rw [e]; rfl
    ·have h13 : (x.1 == 13) = true := by rw [hx]; rfl
     rw [Bm hx hm, h13]
     rfl
   | false =>
    rcases CO (X := X) (s := x.2.2.1) with ⟨j, hj, _, hd⟩ | hd
    ·rw [Hj hx hm hd, hd, decide_eq_false (by omega)]
     simp only [cond_false]
     rw [ah (ae (by omega) (by rw [aj]; omega)), Int.toNat_natCast, aj, bne_eq]
     by_cases hp : (((X.getD j cg).2.1.length : Nat) : Int) ≠ x.2.1
     ·rw [decide_eq_true hp, if_pos hp]; rfl
     ·rw [decide_eq_false hp, if_neg hp]
      show rec (((aB .i64 (i : Int) 1), _), _) = _
      rw [e]; rfl
    ·rw [KE hx hm hd, hd, decide_eq_true (by decide)]; rfl
  by_cases h2 : x.1 = 2
  ·rw [decide_eq_false (show ¬ (x.1 ≠ 2) from fun h => h h2)]
   simp only [cond_false, cb]
   exact hgo (.inl h2)
  ·rw [decide_eq_true (show (x.1 ≠ 2) from h2)]
   simp only [cond_true, cb]
   by_cases h13 : x.1 = 13
   ·rw [decide_eq_false (show ¬ (x.1 ≠ 13) from fun h => h h13)]
    simp only [cond_false]
    exact hgo (.inr h13)
   ·rw [decide_eq_true (show (x.1 ≠ 13) from h13), EL h2 h13]
    show rec (((aB .i64 (i : Int) 1), _), _) = _
    rw [e]; rfl
 ·intro rec
  dsimp only
  rw [ab, decide_eq_false (by omega), cond_false]
theorem Hl : Ev fun n => ∀ (X : List Df) (V : List ByteArray) (L : List Rl) (l : List Tn) (own : List ByteArray), X.length ≤ 4000000 → l.length ≤ 4000000 → own.length ≤ 4000000 → iQ ((C B).run n) X V L l own = some (OF X l own, ()) := by
 refine ((vp (B := B)).and (r6 (B := B))).succ fun n hn ⟨kd, kc⟩ X V L l own hX hl ho => ?_
 rw [aa, Ce]
 unfold uT
 rw [← Hk]
 refine eJ (fun i => (((i : Int), ((), ((), (own, (0, ()))))), ((l, ()), ((X, (V, (L, ()))), ())))) (fun x => if yc X own x = 0 then none else some (yc X own x, ())) l (0, (0, ((bs []), ()))) _ ?_ ?_ (by omega)
 ·intro rec i hi
  have e : aB .i64 (i : Int) 1 = ((i + 1 : Nat) : Int) := ar (by omega) (by omega)
  dsimp only
  rw [aj, ab, decide_eq_true (by omega), cond_true, ah (ae (by omega) (by omega)), Int.toNat_natCast]
  generalize l.getD i (0, (0, ((bs []), ()))) = x
  rw [bne_eq, bne_eq]
  have hgo : x.1 = 2 ∨ x.1 = 13 → jb (R := Int × Unit) (P := (Int × Unit × Unit × List ByteArray × Int × Unit) × (List Tn × Unit) × (List Df × List ByteArray × List Rl × Unit) × Unit) ((gz ((C B).run n) X V L x.2.2.1).bind fun (r74_1, _) =>
      (gy ((C B).run n) own x.2.2.1).bind fun (r40_1, _) =>
      jb (P := (Bool × Bool × Unit × Unit × Int × Int × Unit × List ByteArray × Int × Unit) × Tn × (List Df × List ByteArray × List Rl × Unit) × (List Tn × Unit) × Unit) (
        bif (bS r74_1 0) then
         some (.inr (((!(kG 0 r40_1)), ((kG 0 r40_1), ((), ((), (r74_1, ((i : Int), ((), (own, (0, ()))))))))), ((x.1, (x.2.1, (x.2.2.1, ()))), ((X, (V, (L, ()))), ((l, ()), ())))))
        else
        some (.inr ((false, ((kG 0 r40_1), ((), ((), (r74_1, ((i : Int), ((), (own, (0, ()))))))))), ((x.1, (x.2.1, (x.2.2.1, ()))), ((X, (V, (L, ()))), ((l, ()), ())))))) fun ((t45, (mine10, (_, (_, (k9, (i7_2, (_, (own2_2, (t6_2, _))))))))), ((o0a_1, (o0b_1, (o0c_1, _))), ((o1a_2, (o1b_2, (o1c_2, _))), ((o2_1, _), _)))) =>
      bif t45 then
       some (.inl (8, ()))
      else
      bif mine10 then
       bif (o0a_1 == 13) then
        some (.inl (9, ()))
       else
       some (.inr ((i7_2, ((), ((), (own2_2, (t6_2, ()))))), ((o2_1, ()), ((o1a_2, (o1b_2, (o1c_2, ()))), ()))))
      else
      ok (bQ k9 (len o1a_2)) <|
      bif ((len (List.getD o1a_2 (Int.toNat k9) cg).2.1) != o0b_1) then
       some (.inl (9, ()))
      else
      some (.inr ((i7_2, ((), ((), (own2_2, (t6_2, ()))))), ((o2_1, ()), ((o1a_2, (o1b_2, (o1c_2, ()))), ())))))
    (fun ((i7_3, (_, (_, (own2_3, (t6_3, _))))), ((o0_1, _), ((o1a_3, (o1b_3, (o1c_3, _))), _))) =>
    rec (((aB .i64 i7_3 1), ((), ((), (own2_3, (t6_3, ()))))), ((o0_1, ()), ((o1a_3, (o1b_3, (o1c_3, ()))), ())))) =
   (if yc X own x = 0 then none else some (yc X own x, ())).or (rec ((((i + 1 : Nat) : Int), ((), ((), (own, (0, ()))))), ((l, ()), ((X, (V, (L, ()))), ())))) := by
   intro hx
   rw [kd _ _ _ _ hX, kc _ _ ho]
   simp only [Option.bind_some]
   rw [bZ, mH, ya, ab]
   cases hm : mJ x.2.2.1 own with
   | true =>
    rcases hx with hx | hx
    ·have h13 : (x.1 == 13) = false := by rw [hx]; rfl
     rw [EM hx hm]
     cases decide (xI X x.2.2.1 < 0) <;> simp only [cond_true, cond_false, cb, Bool.not_true, h13] <;> (rw [e]; rfl)
    ·have h13 : (x.1 == 13) = true := by rw [hx]; rfl
     rw [Bm hx hm]
     cases decide (xI X x.2.2.1 < 0) <;> simp only [cond_true, cond_false, cb, Bool.not_true, h13] <;> rfl
   | false =>
    rcases CO (X := X) (s := x.2.2.1) with ⟨j, hj, _, hd⟩ | hd
    ·rw [Hj hx hm hd, hd, decide_eq_false (by omega)]
     simp only [cond_false, cb]
     rw [ah (ae (by omega) (by rw [aj]; omega)), Int.toNat_natCast, aj, bne_eq]
     by_cases hp : (((X.getD j cg).2.1.length : Nat) : Int) ≠ x.2.1
     ·rw [decide_eq_true hp, if_pos hp]; rfl
     ·rw [decide_eq_false hp, if_neg hp]
      show rec (((aB .i64 (i : Int) 1), _), _) = _
      rw [e]; rfl
    ·rw [KE hx hm hd, hd, decide_eq_true (by decide)]; rfl
  by_cases h2 : x.1 = 2
  ·rw [decide_eq_false (show ¬ (x.1 ≠ 2) from fun h => h h2)]
   simp only [cond_false, cb]
   exact hgo (.inl h2)
  ·rw [decide_eq_true (show (x.1 ≠ 2) from h2)]
   simp only [cond_true, cb]
   by_cases h13 : x.1 = 13
   ·rw [decide_eq_false (show ¬ (x.1 ≠ 13) from fun h => h h13)]
    simp only [cond_false]
    exact hgo (.inr h13)
   ·rw [decide_eq_true (show (x.1 ≠ 13) from h13), EL h2 h13]
    show rec (((aB .i64 (i : Int) 1), _), _) = _
    rw [e]; rfl
 ·intro rec
  dsimp only
  rw [aj, ab, decide_eq_false (by omega), cond_false]
def KG (X : List Df) (s : ByteArray) : Bool := decide (0 ≤ xI X s)
def KH (X : List Df) (d : Df) : Int := bif d.2.1.any (KG X) then 7 else OF X d.2.2.1.1 d.2.1
def Jl (X : List Df) (V : List ByteArray) (r : Rl) : Int := tP (yc X V) (r.2.1.1 ++ r.2.2.1.1)
theorem IE : Ev fun n => ∀ X V L d, Sm X V L → K9 1048576 d → jt ((C B).run n) X V L d.1 d.2.1 d.2.2.1.1 = some (KH X d, ()) := by
 have h0 : Ev fun n => ∀ (s : ByteArray) X V L, Sm X V L → ir ((C B).run n) s X V L = some (KG X s, (X, (V, (L, ())))) := by
  refine (CP (B := B)).succ fun n hn k s X V L h => ?_
  rw [aa, tG]
  unfold my
  rw [k _ _ _ _ (by have := h.1.1; omega)]
  rfl
 have h1 : Ev fun n => ∀ (l : List ByteArray) X V L, Sm X V L → l.length ≤ 1048576 → bp ((C B).run n) l X V L = some (oO (fun i => KG X (l.getD i (bs []))) l.length, (X, (V, (L, ())))) := by
  refine h0.succ fun n hn k l X V L h hl => ?_
  rw [aa, eu]
  unfold cu
  rw [aj]
  refine (dZ (fun i => (((i : Int), ((l.length : Int), ((), (l, (0, ()))))), ((X, (V, (L, ()))), ()))) (fun i => if KG X (l.getD i (bs [])) = true then some ((i : Int), (X, (V, (L, ())))) else none) (some (-1, (X, (V, (L, ()))))) (m := l.length) ?_ ?_ (by omega)).trans (mI (f := fun x => (x, (X, (V, (L, ()))))))
  ·intro rec i hi
   dsimp only
   rw [ab, decide_eq_true (by omega), cond_true, aj, ah (ae (by omega) (by omega)), Int.toNat_natCast, k _ _ _ _ h]
   simp only [Option.bind_some]
   rw [ar (by omega) (by omega)]
   cases KG X (l.getD i (bs [])) <;> rfl
  ·intro rec
   dsimp only
   rw [ab, decide_eq_false (by omega), cond_false]
 have h2 : Ev fun n => ∀ (l : List ByteArray) X V L, Sm X V L → l.length ≤ 1048576 → bd ((C B).run n) l X V L = some (l.any (KG X), (X, (V, (L, ())))) := by
  refine h1.succ fun n hn k l X V L h hl => ?_
  rw [aa, dT]
  unfold ca
  rw [k _ _ _ _ h hl]
  simp only [Option.bind_some]
  rw [vo]
 refine (h2.and (KF (B := B))).succ fun n hn ⟨k1, k2⟩ X V L d h hd => ?_
 rw [aa, vZ]
 unfold oA KH
 have a1 := hd.2.1.1
 have a2 := hd.2.2.1
 have a3 := h.1.1
 rw [k1 _ _ _ _ h a1]
 simp only [Option.bind_some]
 rw [k2 _ _ _ _ _ (by omega) (by omega) (by omega)]
 cases d.2.1.any (KG X) <;> rfl
theorem CR : Ev fun n => ∀ X V L d, Sm X V L → K9 1048576 d → mh ((C B).run n) X V L d.1 d.2.1 d.2.2.1.1 = some (KH X d, ()) := by
 refine ((vp (B := B)).and (Hl (B := B))).succ fun n hn ⟨k1, k2⟩ X V L d h hd => ?_
 rw [aa, zF]
 unfold qW KH
 have a1 := hd.2.1.1
 have a2 := hd.2.2.1
 have a3 := h.1.1
 refine (eJ (fun i => (((i : Int), ((), ((), (0, ())))), ((d.1, (d.2.1, (d.2.2.1.1, ()))), ((X, (V, (L, ()))), ())))) (fun s => if KG X s = true then some (7, ()) else none) d.2.1 (bs []) (some (OF X d.2.2.1.1 d.2.1, ())) ?_ ?_ (by omega)).trans ?_
 ·intro rec i hi
  dsimp only
  rw [aj, ab, decide_eq_true (by omega), cond_true, ah (ae (by omega) (by omega)), Int.toNat_natCast, k1 _ _ _ _ (by omega)]
  simp only [Option.bind_some]
  rw [bZ, ar (by omega) (by omega), show decide (0 ≤ xI X (d.2.1.getD i (bs []))) = KG X (d.2.1.getD i (bs [])) from rfl]
  cases KG X (d.2.1.getD i (bs [])) <;> rfl
 ·intro rec
  dsimp only
  rw [aj, ab, decide_eq_false (by omega), cond_false, k2 _ _ _ _ _ (by omega) (by omega) (by omega)]
  rfl
 ·rw [tM]
  cases d.2.1.any (KG X) <;> rfl
theorem IF : Ev fun n => ∀ X V L r, Sm X V L → LI 1048576 r → ju ((C B0).run n) X V L r.1 r.2.1.1 r.2.2.1.1 = some (Jl X V r, ()) := by
 refine (Iv.and (KF (B := B0))).succ fun n hn ⟨k1, k2⟩ X V L r h hr => ?_
 have a1 := hr.1.1
 have a2 := hr.2.1
 have a3 := h.1.1
 have a4 := h.2.1.1
 have ef : [r.2.1.1, r.2.2.1.1].flatten = r.2.1.1 ++ r.2.2.1.1 := by simp
 rw [aa, v7]
 unfold oB
 rw [k1 _ (by simp) (by rw [ef, List.length_append]; omega), ef]
 simp only [Option.bind_some]
 rw [k2 _ _ _ _ _ (by omega) (by rw [List.length_append]; omega) (by omega)]
 rfl
theorem CS : Ev fun n => ∀ X V L r, Sm X V L → LI 1048576 r → mj ((C B0).run n) X V L r.1 r.2.1.1 r.2.2.1.1 = some (Jl X V r, ()) := by
 refine (Hl (B := B0)).succ fun n hn k X V L r h hr => ?_
 have a1 := hr.1.1
 have a2 := hr.2.1
 have a3 := h.1.1
 have a4 := h.2.1.1
 rw [aa, zG]
 unfold qX Jl
 rw [k _ _ _ _ _ (by omega) (by omega) (by omega), k _ _ _ _ _ (by omega) (by omega) (by omega), yb]
 unfold OF
 by_cases h0 : tP (yc X V) r.2.1.1 = 0
 ·rw [if_pos h0, h0]; rfl
 ·rw [if_neg h0]
  simp only [Option.bind_some]
  rw [show (tP (yc X V) r.2.1.1 == 0) = false by simpa using h0]
  rfl
end Go.Px.Seat
namespace Go.Px.Seat
open Go Pm Pt
variable {B : ax}
def KI (x : Tn) : Bool := x.1 == 2 || x.1 == 13
def kB (X : List Df) (i j : Nat) : Bool := (X.getD i cg).2.2.1.1.any fun x => KI x && (xI X x.2.2.1 == (j : Int))
theorem CT {X : List Df} {i j : Nat} : kB X i j = true ↔ ∃ x ∈ (X.getD i cg).2.2.1.1, KI x = true ∧ xI X x.2.2.1 = j := by
 unfold kB
 rw [List.any_eq_true]
 simp
theorem OG {X : List Df} {i j : Nat} (h : kB X i j = true) : j < X.length := by
 obtain ⟨x, _, _, h⟩ := CT.1 h
 rcases CO (X := X) (s := x.2.2.1) with ⟨k, hk, _, hd⟩ | hd <;> omega
theorem IG : Ev fun n => ∀ X V L, ∀ i j : Nat, Sm X V L → i < X.length → gA ((C B).run n) X V L i j 1 = some (kB X i j, ()) := by
 refine (vp (B := B)).succ fun n hn kd X V L a j h ha => ?_
 have hX1 := h.1.1
 have hd := h.1.2 _ (aZ (d := cg) ha)
 have hl := hd.2.2.1
 rw [aa, zH]
 unfold qY
 refine (eJ (fun i => (((i : Int), ((), ((a : Int), ((j : Int), (1, (false, ())))))), ((X, (V, (L, ()))), ()))) (fun x => if (KI x && (xI X x.2.2.1 == (j : Int))) = true then some (true, ()) else none) (X.getD a cg).2.2.1.1 (0, (0, ((bs []), ()))) (some (false, ())) ?_ ?_ (by omega)).trans ?_
 ·intro rec i hi
  have e : aB .i64 (i : Int) 1 = ((i + 1 : Nat) : Int) := ar (by omega) (by omega)
  have hin : bQ (a : Int) (len X) = true := ae (by omega) (by rw [aj]; omega)
  have hin2 : bQ (i : Int) (len (X.getD a cg).2.2.1.1) = true := ae (by omega) (by rw [aj]; omega)
  dsimp only
  rw [ah hin, Int.toNat_natCast, aj, ab, decide_eq_true (by omega), cond_true]
  rw [aj] at hin2
  rw [ah hin, ah hin2, Int.toNat_natCast]
  generalize (X.getD a cg).2.2.1.1.getD i (0, (0, ((bs []), ()))) = x
  rw [bne_eq, bne_eq]
  have hgo : jb (R := Bool × Unit) (P := (Int × Unit × Int × Int × Int × Bool × Unit) × (List Df × List ByteArray × List Rl × Unit) × Unit) ((gz ((C B).run n) X V L x.2.2.1).bind fun (r74_1, _) =>
      jb (P := (Bool × Int × Unit × Int × Int × Int × Bool × Unit) × (List Df × List ByteArray × List Rl × Unit) × Unit) (
        bif (r74_1 == (j : Int)) then
         some (.inr ((true, ((i : Int), ((), ((a : Int), ((j : Int), (1, (false, ()))))))), ((X, (V, (L, ()))), ())))
        else
        bif (kG 0 r74_1) then
         bif (bS 1 1) then
          (gA ((C B).run n) X V L r74_1 j (mN .i64 1 1)).bind fun (r139_1, _) =>
          some (.inr ((r139_1, ((i : Int), ((), ((a : Int), ((j : Int), (1, (false, ()))))))), ((X, (V, (L, ()))), ())))
         else
         some (.inr ((false, ((i : Int), ((), ((a : Int), ((j : Int), (1, (false, ()))))))), ((X, (V, (L, ()))), ())))
        else
        some (.inr ((false, ((i : Int), ((), ((a : Int), ((j : Int), (1, (false, ()))))))), ((X, (V, (L, ()))), ())))) fun ((t64, (i9_2, (_, (from1_2, (to2_2, (steps3_2, (t8_2, _))))))), ((o0a_2, (o0b_2, (o0c_2, _))), _)) =>
      bif t64 then
       some (.inl (true, ()))
      else
      some (.inr ((i9_2, ((), (from1_2, (to2_2, (steps3_2, (t8_2, ())))))), ((o0a_2, (o0b_2, (o0c_2, ()))), ()))))
     (fun ((i9_3, (_, (from1_3, (to2_3, (steps3_3, (t8_3, _)))))), ((o0a_3, (o0b_3, (o0c_3, _))), _)) =>
    rec (((aB .i64 i9_3 1), ((), (from1_3, (to2_3, (steps3_3, (t8_3, ())))))), ((o0a_3, (o0b_3, (o0c_3, ()))), ()))) =
    (if (true && (xI X x.2.2.1 == (j : Int))) = true then some (true, ()) else none).or (rec ((((i + 1 : Nat) : Int), ((), ((a : Int), ((j : Int), (1, (false, ())))))), ((X, (V, (L, ()))), ()))) := by
   rw [kd _ _ _ _ (by omega)]
   simp only [Option.bind_some]
   rw [show bS (1 : Int) 1 = false from rfl]
   cases hdj : (xI X x.2.2.1 == (j : Int)) with
   | true => rfl
   | false =>
    cases kG 0 (xI X x.2.2.1) <;> (show rec (((aB .i64 (i : Int) 1), _), _) = _; rw [e]; rfl)
  unfold KI
  by_cases h2 : x.1 = 2
  ·rw [decide_eq_false (show ¬ (x.1 ≠ 2) from fun h => h h2)]
   rw [show (x.1 == 2) = true by simpa using h2, Bool.true_or]
   simp only [cond_false, cb]
   exact hgo
  ·rw [decide_eq_true (show (x.1 ≠ 2) from h2)]
   simp only [cond_true, cb]
   by_cases h13 : x.1 = 13
   ·rw [decide_eq_false (show ¬ (x.1 ≠ 13) from fun h => h h13)]
    rw [show (x.1 == 13) = true by simpa using h13, Bool.or_true]
    simp only [cond_false]
    exact hgo
   ·rw [decide_eq_true (show (x.1 ≠ 13) from h13)]
    rw [show (x.1 == 13) = false by simpa using h13, show (x.1 == 2) = false by simpa using h2]
    show rec (((aB .i64 (i : Int) 1), _), _) = _
    rw [e]; rfl
 ·intro rec
  dsimp only
  rw [ah (ae (by omega) (by rw [aj]; omega)), Int.toNat_natCast, aj, ab, decide_eq_false (by omega), cond_false]
 ·rw [tM]
  unfold kB
  cases (X.getD a cg).2.2.1.1.any fun x => KI x && (xI X x.2.2.1 == (j : Int)) <;> rfl
def pj (m : Nat) (T : Nat → Bool) : List Bool := (List.range m).map T
def pk (m : Nat) (T : Nat → Nat → Bool) : Mem Bool := (List.range m).map fun i => some (pj m (T i))
theorem Aa {m : Nat} {T : Nat → Bool} : (pj m T).length = m := by simp [pj]
theorem vr {m j : Nat} {T : Nat → Bool} (h : j < m) : (pj m T).getD j false = T j := by simp [pj, List.getD_eq_getElem?_getD, h]
theorem pn {m i : Nat} {T : Nat → Nat → Bool} (h : i < m) : (pk m T)[i]? = some (some (pj m (T i))) := by simp [pk, h]
theorem Ab {m : Nat} {T T' : Nat → Bool} (h : ∀ j, j < m → T j = T' j) : pj m T = pj m T' := List.map_congr_left fun j hj => h j (List.mem_range.1 hj)
theorem mK {m : Nat} {T T' : Nat → Nat → Bool} (h : ∀ i j, i < m → j < m → T i j = T' i j) : pk m T = pk m T' :=
 List.map_congr_left fun i hi => by rw [Ab fun j hj => h i j (List.mem_range.1 hi) hj]
theorem KJ {m i j : Nat} {T T' : Nat → Nat → Bool} {b : Bool} (hi : i < m) (hj : j < m) (h : ∀ i' j', T' i' j' = if i' = i ∧ j' = j then b else T i' j') : (pk m T).set i (some ((pj m (T i)).set j b)) = pk m T' := by
 apply List.ext_getElem?
 intro k
 rw [List.getElem?_set]
 by_cases hk : i = k
 ·subst hk
  rw [if_pos rfl, if_pos (by simp [pk]; exact hi), pn hi]
  congr 2
  apply List.ext_getElem?
  intro q
  rw [List.getElem?_set]
  by_cases hq : j = q
  ·subst hq
   simp [pj, hj, h]
  ·rw [if_neg hq]
   unfold pj
   rw [List.getElem?_map, List.getElem?_map]
   cases hr : (List.range m)[q]? with
   | none => rfl
   | some v =>
    have : v = q := by
     rw [List.getElem?_range] at hr
     ·simpa using hr.symm
     ·by_cases hqm : q < m
      ·exact hqm
      ·rw [List.getElem?_eq_none (by simp; omega)] at hr; cases hr
    subst this
    simp only [Option.map_some]
    rw [h, if_neg (fun hh => hq hh.2.symm)]
 ·rw [if_neg hk]
  by_cases hkm : k < m
  ·rw [pn hkm, pn hkm]
   congr 2
   exact Ab fun q _ => by rw [h, if_neg (fun hh => hk hh.1.symm)]
  ·rw [List.getElem?_eq_none (by simp [pk]; omega), List.getElem?_eq_none (by simp [pk]; omega)]
def gQ (e : Nat → Nat → Bool) : Nat → Nat → Nat → Bool
 | 0, i, j => e i j
 | k + 1, i, j => gQ e k i j || (gQ e k i k && gQ e k k j)
theorem vt {e : Nat → Nat → Bool} : ∀ {k i j : Nat}, gQ e k i j = true ↔ tab (fun i j => e i j = true) k i j
 | 0, _, _ => Iff.rfl
 | k + 1, i, j => by
  rw [gQ, tab, Bool.or_eq_true, Bool.and_eq_true, vt, vt, vt]
theorem lP {P R : Type} {F : (P → Option R) → P → Option R} (st : Nat → P) (K : Option R) {m n : Nat} {p0 : P} (h0 : p0 = st 0)
  (h1 : ∀ rec i, i < m → F rec (st i) = rec (st (i + 1))) (h2 : ∀ rec, F rec (st m) = K) (hn : m < n) : iter F n p0 = K := by
 rw [tO st (fun _ => none) K h0 (fun rec i hi => (h1 rec i hi).trans rfl) h2 hn]
 have : ∀ l : List Nat, l.findSome? (fun _ => (none : Option R)) = none := fun l => List.findSome?_eq_none_iff.2 fun _ _ => rfl
 rw [this]
 rfl
def Jm (m : Nat) : List Hd := (List.range m).map fun i => H i m
theorem CU {m i : Nat} (h : i < m) : (Jm m).getD i (0, (0, 0)) = H i m := by simp [Jm, List.getD_eq_getElem?_getD, h]
theorem lG {m : Nat} : (Jm m).length = m := by simp [Jm]
def xo (e : Nat → Nat → Bool) (k i j : Nat) : Nat → Nat → Bool := fun i' j' => if i' < i ∨ (i' = i ∧ j' < j) then gQ e (k + 1) i' j' else gQ e k i' j'
theorem OH {e : Nat → Nat → Bool} {k i j i' : Nat} : xo e k i j i' k = gQ e k i' k := by
 unfold xo
 split
 ·rw [gQ]; cases gQ e k i' k <;> simp
 ·rfl
theorem OI {e : Nat → Nat → Bool} {k i j j' : Nat} : xo e k i j k j' = gQ e k k j' := by
 unfold xo
 split
 ·rw [gQ]; cases gQ e k k j' <;> simp
 ·rfl
theorem L6 : Ev fun n => ∀ X V L, Sm X V L → iP ((C B).run n) [] X V L = some (pk X.length (gQ (kB X) X.length), (Jm X.length, ())) := by
 refine (IG (B := B)).succ fun n hn kr X V L h => ?_
 have hX1 := h.1.1
 rw [aa, uW]
 unfold nn
 have ha : ∀ (m : Nat) (f : Nat → Option (List Bool)), (List.range (m + 1)).map f = (List.range m).map f ++ [f m] := fun m f => by rw [List.range_succ, List.map_append]; rfl
 have hb : ∀ (m : Nat) (f : Nat → Hd), (List.range (m + 1)).map f = (List.range m).map f ++ [f m] := fun m f => by rw [List.range_succ, List.map_append]; rfl
 have hc : ∀ i, (pj X.length (kB X i)).length = X.length := fun i => Aa
 refine lP (fun i => (((i : Int), ((), ((), ((), ())))), ((X, (V, (L, ()))), ((List.range i).map (fun i => H i X.length), ((List.range i).map (fun i => some (pj X.length (kB X i))), ()))))) _ (m := X.length) (by rfl) ?_ ?_ (by omega)
 ·intro rec i hi
  dsimp only
  rw [aj, ab, decide_eq_true (by omega), cond_true, ah (jB (by omega) (by omega) (by omega)), Int.toNat_natCast]
  refine lP (fun j => (((j : Int), ((), ((), ((i : Int), ((), ((), ())))))), ((X, (V, (L, ()))), (mix (pj X.length (kB X i)) (List.replicate X.length false) j, ((List.range i).map (fun i => H i X.length), ((List.range i).map (fun i => some (pj X.length (kB X i))), ())))))) _ (m := X.length) (by rw [eW]; rfl) ?_ ?_ (by omega)
  ·intro rec j hj
   have hlr : (List.replicate X.length false).length = X.length := List.length_replicate
   have hml : (pj X.length (kB X i)).length = (List.replicate X.length false).length := by rw [hc, hlr]
   have hms := ij (e := false) hml (i := j) (by rw [hlr]; exact hj)
   rw [vr hj] at hms
   dsimp only
   rw [aj, ab, decide_eq_true (by omega), cond_true, kr X V L i j h hi]
   simp only [Option.bind_some]
   rw [aj, ig hml, hlr, ah (ae (by omega) (by omega)), Int.toNat_natCast, hms, ar (by omega) (by omega)]
   rfl
  ·intro rec2
   have hlr : (List.replicate X.length false).length = X.length := List.length_replicate
   have hml : (pj X.length (kB X i)).length = (List.replicate X.length false).length := by rw [hc, hlr]
   have hma := jc hml
   rw [hlr] at hma
   dsimp only
   rw [aj, ab, decide_eq_false (by omega), cond_false, hma, hc, List.length_map, List.length_range, ← hb i (fun i => H i X.length), ← ha i (fun i => some (pj X.length (kB X i))), ah (fV (by rw [List.length_map, List.length_range]; omega)), ar (by omega) (by omega)]
   rfl
 ·intro rec
  dsimp only
  rw [aj, ab, decide_eq_false (by omega), cond_false]
  show iter _ n ((0, ((), ((), ()))), (Jm X.length, (pk X.length (kB X), ()))) = _
  have hM : ∀ k i j, i < X.length → ak (pk X.length (xo (kB X) k i j)) = ak (pk X.length (xo (kB X) k i j)) := fun _ _ _ _ => rfl
  refine lP (fun k => (((k : Int), ((), ((), ()))), (Jm X.length, (pk X.length (gQ (kB X) k), ())))) _ (m := X.length) rfl ?_ ?_ (by omega)
  ·intro rec k hk
   dsimp only
   rw [aj, lG, ab, decide_eq_true (by omega), cond_true]
   refine lP (fun i => (((i : Int), ((), ((k : Int), ((), ())))), (Jm X.length, (pk X.length (xo (kB X) k i 0), ())))) _ (m := X.length) (by
    rw [mK fun i j _ _ => show gQ (kB X) k i j = xo (kB X) k 0 0 i j by unfold xo; rw [if_neg (by omega)]]; rfl) ?_ ?_ (by omega)
   ·intro rec i hi
    dsimp only
    rw [aj, lG, ab, decide_eq_true (by omega), cond_true]
    refine lP (fun j => (((j : Int), ((), ((i : Int), ((k : Int), ((), ()))))), (Jm X.length, (pk X.length (xo (kB X) k i j), ())))) _ (m := X.length) rfl ?_ ?_ (by omega)
    ·intro rec j hj
     dsimp only
     have hT : ∀ T : Nat → Nat → Bool, ∀ a, a < X.length → ak (pk X.length T) (a + 1) = pj X.length (T a) := fun T a ha => kN (pn ha)
     have hH : ∀ T : Nat → Nat → Bool, ∀ a b, a < X.length → b < X.length → dO (pk X.length T) (a + 1) b = true := fun T a b ha hb => pc (pn ha) (by rw [Aa]; exact hb)
     have hik : bQ (i : Int) (X.length : Int) = true := ae (by omega) (by omega)
     have hkk : bQ (k : Int) (X.length : Int) = true := ae (by omega) (by omega)
     have hjj : bQ (j : Int) (X.length : Int) = true := ae (by omega) (by omega)
     have e : aB .i64 (j : Int) 1 = ((j + 1 : Nat) : Int) := ar (by omega) (by omega)
     have e1 : (Jm X.length).getD i (0, (0, 0)) = H i X.length := CU hi
     have e2 : (Jm X.length).getD k (0, (0, 0)) = H k X.length := CU hk
     rw [aj, lG, ab, decide_eq_true (by omega), cond_true]
     simp only [Int.toNat_natCast, e1, e2, hik, hkk, hjj, Nat.zero_add, hT _ _ hi, hT _ _ hk, hH _ _ _ hi hk, hH _ _ _ hk hj, vr hk, vr hj, OH, OI]
     have hset : xo (kB X) k i j i j = gQ (kB X) k i j := by unfold xo; rw [if_neg (by omega)]
     have hnext : ∀ i' j', xo (kB X) k i (j + 1) i' j' = if i' = i ∧ j' = j then gQ (kB X) (k + 1) i j else xo (kB X) k i j i' j' := fun i' j' => by
      unfold xo
      by_cases hc : i' = i ∧ j' = j
      ·obtain ⟨rfl, rfl⟩ := hc
       rw [if_pos (by omega), if_pos ⟨rfl, rfl⟩]
      ·rw [if_neg hc]
       by_cases hc2 : i' < i ∨ (i' = i ∧ j' < j)
       ·rw [if_pos (by omega), if_pos hc2]
       ·rw [if_neg (by omega), if_neg hc2]
     cases h1 : gQ (kB X) k i k with
     | false =>
      show rec (((aB .i64 (j : Int) 1), _), _) = _
      rw [e, mK fun i' j' _ _ => show xo (kB X) k i j i' j' = xo (kB X) k i (j + 1) i' j' by
       rw [hnext]
       split
       ·next hc => rw [hc.1, hc.2, hset, gQ, h1]; simp
       ·rfl]
     | true =>
      cases h2 : gQ (kB X) k k j with
      | false =>
       show rec (((aB .i64 (j : Int) 1), _), _) = _
       rw [e, mK fun i' j' _ _ => show xo (kB X) k i j i' j' = xo (kB X) k i (j + 1) i' j' by
        rw [hnext]
        split
        ·next hc => rw [hc.1, hc.2, hset, gQ, h1, h2]; simp
        ·rfl]
      | true =>
       have hm := KJ (b := true) (T := xo (kB X) k i j) (T' := xo (kB X) k i (j + 1)) hi hj fun i' j' => by
        rw [hnext, gQ, h1, h2]; simp
       simp only [cond_true, cb, ah]
       rw [aj, lG]
       simp only [Int.toNat_natCast, e1, hik, hjj, Nat.zero_add, hT _ _ hi, hH _ _ _ hi hj, Ez, cb, ah, hm, e]
    ·intro rec2
     dsimp only
     rw [aj, lG, ab, decide_eq_false (by omega), cond_false, ar (by omega) (by omega), mK fun i' j' hi' hj' => show xo (kB X) k i X.length i' j' = xo (kB X) k (i + 1) 0 i' j' by
      unfold xo
      by_cases hc : i' ≤ i
      ·rw [if_pos (by omega), if_pos (by omega)]
      ·rw [if_neg (by omega), if_neg (by omega)]]
     rfl
   ·intro rec2
    dsimp only
    rw [aj, lG, ab, decide_eq_false (by omega), cond_false, ar (by omega) (by omega), mK fun i' j' hi' hj' => show xo (kB X) k X.length 0 i' j' = gQ (kB X) (k + 1) i' j' by
     unfold xo
     rw [if_pos (by omega)]]
    rfl
  ·intro rec
   dsimp only
   rw [aj, lG, ab, decide_eq_false (by omega), cond_false]
end Go.Px.Seat
