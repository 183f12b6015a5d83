/- Own texts, part M4: PvE PvF PvG PdA PdB PvH. -/
import Derived.Test.YtmmggkldldbomaaGreatDoorM3
import Derived.Test.YtmmggkldldbomaaGreatDoorM1
import Derived.Test.YtmmggkldldbomaaGreatDoorM2
set_option linter.unusedVariables false

/- Copies; the two sides' shift. Seat G. -/
namespace Go.Px.Seat
open Go Pm Pt
set_option linter.unusedVariables false
theorem k_Grow_iter {α : Type} {w : Nat} {g : Int → Option (List α × Unit)} (hg : ∀ k : Int, 0 ≤ k → k ≤ 4000000 → g k = some ([], ())) {n : Nat} (hn : 1152921504606846976 ≤ n) (hw : w ≤ 1000) {LL : List (List α)} (hL : LL.length ≤ 4000000) (hf : LL.flatten.length ≤ 4000000) :
  iter (P := (Int × Int × List (List α) × Int × List (List α) × Unit × Unit) × Unit) (fun rec ((t11, (t10, (t9, (size3, (slices0, (_, _)))))), _) =>
      bif (ilt t11 t10) then
        jb (P := (Int × Int × List (List α) × Int × List (List α) × Unit × Unit) × Unit) (
            ok (inB t11 (len t9)) <|
            bif (ilt (iadd .i64 size3 (len (List.getD t9 (Int.toNat t11) []))) 0) then
              none
            else
            some (.inr ((t11, (t10, (t9, ((iadd .i64 size3 (len (List.getD t9 (Int.toNat t11) []))), (slices0, ((), ())))))), ()))) fun ((t11_1, (t10_1, (t9_1, (size3_1, (slices0_1, (_, _)))))), _) =>
        rec (((iadd .i64 t11_1 1), (t10_1, (t9_1, (size3_1, (slices0_1, ((), ())))))), ())
      else
      (g size3).bind fun (r107_1, _) =>
      iter (P := (Int × Int × List (List α) × Unit × Unit × Unit) × List α × Unit) (fun rec_1 ((t27, (t26, (t25, (_, (_, _))))), (o0, _)) =>
          bif (ilt t27 t26) then
            ok (inB t27 (len t25)) <|
            ok (aok (o0 ++ (List.getD t25 (Int.toNat t27) [])) w) <|
            rec_1 (((iadd .i64 t27 1), (t26, (t25, ((), ((), ()))))), ((o0 ++ (List.getD t25 (Int.toNat t27) [])), ()))
          else
          some (o0, ())) n ((0, ((len slices0), (slices0, ((), ((), ()))))), (r107_1, ()))) n ((0, ((len LL), (LL, (0, (LL, ((), ())))))), ()) = some (LL.flatten, ()) := by
  have hfl : ∀ i, (LL.take i).flatten.length ≤ LL.flatten.length := fun i => by
    have : LL.flatten = (LL.take i).flatten ++ (LL.drop i).flatten := by rw [← List.flatten_append, List.take_append_drop]
    rw [this, List.length_append]; omega
  have hst : ∀ i, i < LL.length → (LL.take (i + 1)).flatten = (LL.take i).flatten ++ LL.getD i [] := fun i hi => by
    rw [List.take_add_one, List.flatten_append, List.getElem?_eq_getElem hi, List.getD_eq_getElem?_getD, List.getElem?_eq_getElem hi]
    simp
  refine iter_const (fun q => ∃ i : Nat, q = (((i : Int), ((LL.length : Int), (LL, (((LL.take i).flatten.length : Int), (LL, ((), ())))))), ()) ∧ i ≤ LL.length) (fun q => 4000001 - q.1.1.toNat) _ ?_ n _ (by simp only; omega) ⟨0, by rw [len_eq]; simp, Nat.zero_le _⟩
  rintro rec _ ⟨i, rfl, hi⟩ ih
  dsimp only
  rw [ilt_iff]
  by_cases h1 : i < LL.length
  · have h2 := hfl (i + 1)
    rw [hst i h1, List.length_append] at h2
    rw [decide_eq_true (show (i : Int) < LL.length by omega), cond_true, len_eq, ok_of (inB_true (by omega) (by omega)), Int.toNat_natCast, len_eq, iadd_eq (by omega) (by omega), ilt_iff, decide_eq_false (by omega), cond_false]
    show rec ((iadd .i64 (i : Int) 1, ((LL.length : Int), (LL, ((((LL.take i).flatten.length : Nat) : Int) + (((LL.getD i []).length : Nat) : Int), (LL, ((), ())))))), ()) = _
    rw [iadd_eq (by omega) (by omega)]
    refine ih _ ⟨i + 1, ?_, by omega⟩ (by simp only; omega)
    rw [hst i h1, List.length_append]
    simp
  · rw [decide_eq_false (show ¬ (i : Int) < LL.length by omega), cond_false]
    obtain rfl : i = LL.length := by omega
    rw [List.take_length, hg _ (by omega) (by omega)]
    simp only [Option.bind_some]
    refine iter_const (fun q => ∃ i : Nat, q = (((i : Int), ((LL.length : Int), (LL, ((), ((), ()))))), ((LL.take i).flatten, ())) ∧ i ≤ LL.length) (fun q => 4000001 - q.1.1.toNat) _ ?_ n _ (by simp only; omega) ⟨0, by rw [len_eq]; simp, Nat.zero_le _⟩
    rintro rec _ ⟨i, rfl, hi⟩ ih
    dsimp only
    rw [ilt_iff]
    by_cases h1 : i < LL.length
    · have h2 := hfl (i + 1)
      rw [hst i h1] at h2
      rw [decide_eq_true (show (i : Int) < LL.length by omega), cond_true, len_eq, ok_of (inB_true (by omega) (by omega)), Int.toNat_natCast, ← hst i h1, ok_of (aok_true (Nat.le_trans (Nat.mul_le_mul (Nat.le_trans (hfl _) hf) hw) (by decide))), iadd_eq (by omega) (by omega)]
      exact ih _ ⟨i + 1, by simp, by omega⟩ (by simp only; omega)
    · rw [decide_eq_false (show ¬ (i : Int) < LL.length by omega), cond_false]
      obtain rfl : i = LL.length := by omega
      rw [List.take_length]
theorem k_ConcatS : Ev fun n => ∀ LL : List (List ByteArray), LL.length ≤ 4000000 → LL.flatten.length ≤ 4000000 → c_slices_Concat_string_string ((C B0).run n) LL = some (LL.flatten, ()) := by
  refine k_GrowS.succ fun n hn kg LL h1 h2 => ?_
  rw [run_succB', e_slices_Concat_string_string]
  exact k_Grow_iter kg hn (by decide) h1 h2
theorem k_ConcatT : Ev fun n => ∀ LL : List (List Tn), LL.length ≤ 4000000 → LL.flatten.length ≤ 4000000 → c_slices_Concat_impl_TermNode_impl_TermNode ((C B0).run n) LL = some (LL.flatten, ()) := by
  refine k_GrowT.succ fun n hn kg LL h1 h2 => ?_
  rw [run_succB', e_slices_Concat_impl_TermNode_impl_TermNode]
  exact k_Grow_iter kg hn (by decide) h1 h2
theorem clip_eq {α : Type} {R : Type} (l : List α) (f : List α → Option R) : (ok ((sliceOk 0 (len l) (len l)) && (ile (len l) (len l))) <| f (List.drop (Int.toNat 0) (List.take (Int.toNat (len l)) l))) = f l := by
  rw [ok_of (by rw [len_eq, sliceOk_true (by omega) (by omega) (by omega), ile_iff]; simp), len_eq, Int.toNat_natCast, List.take_length]
  rfl
theorem k_ClipS {B : Run} : Ev fun n => ∀ l : List ByteArray, c_slices_Clip_string_string ((C B).run n) l = some (l, ()) := by
  refine Ev.triv.succ fun n hn _ l => ?_
  rw [run_succB', e_slices_Clip_string_string]
  exact clip_eq l fun l => some (l, ())
theorem k_ClipT {B : Run} : Ev fun n => ∀ l : List Tn, c_slices_Clip_impl_TermNode_impl_TermNode ((C B).run n) l = some (l, ()) := by
  refine Ev.triv.succ fun n hn _ l => ?_
  rw [run_succB', e_slices_Clip_impl_TermNode_impl_TermNode]
  exact clip_eq l fun l => some (l, ())
theorem k_cloneS : Ev fun n => ∀ l : List ByteArray, l.length ≤ 4000000 → c_i_clone_string ((C B0).run n) l = some (l, ()) := by
  refine (k_CloneS.and (k_ClipS (B := B0))).succ fun n hn ⟨k1, k2⟩ l hl => ?_
  rw [run_succB', e_i_clone_string]
  unfold p_i_clone_string
  rw [k1 l hl]
  simp only [Option.bind_some]
  rw [k2]
  rfl
theorem k_cloneT : Ev fun n => ∀ l : List Tn, l.length ≤ 4000000 → c_i_clone_impl_TermNode ((C B0).run n) l = some (l, ()) := by
  refine (k_CloneT.and (k_ClipT (B := B0))).succ fun n hn ⟨k1, k2⟩ l hl => ?_
  rw [run_succB', e_i_clone_impl_TermNode]
  unfold p_i_clone_impl_TermNode
  rw [k1 l hl]
  simp only [Option.bind_some]
  rw [k2]
  rfl
theorem k_cloneD : Ev fun n => ∀ (D : Mem Dh) (R : Mem Rh) (S : Mem ByteArray) (N : Mem Tn) (x : Hd) (l : List Dh), mok D x = true → mval D x = l → l.length ≤ 4000000 → c_i_clone_impl_ProgDef_deep ((C B0).run n) D R S N x = some (D ++ [some l], (R, (S, (N, (H D.length l.length, ()))))) := by
  have h0 : Ev fun n => ∀ (D : Mem Dh) (R : Mem Rh) (S : Mem ByteArray) (N : Mem Tn) (x : Hd), x.2.2 ≤ 4000000 → c_slices_Clip_impl_ProgDef_impl_ProgDef_deep ((C B0).run n) D R S N x = some (D, (R, (S, (N, (x, ()))))) := by
    refine Ev.triv.succ fun n hn _ D R S N x hx => ?_
    rw [run_succB', e_slices_Clip_impl_ProgDef_impl_ProgDef_deep]
    unfold p_slices_Clip_impl_ProgDef_impl_ProgDef_deep
    rw [ok_of (by rw [sliceOk_true (by omega) (by omega) (by omega), ile_iff]; simp), Int.toNat_natCast]
  refine (k_CloneD.and h0).succ fun n hn ⟨k1, k2⟩ D R S N x l h1 h2 h3 => ?_
  subst h2
  rw [run_succB', e_i_clone_impl_ProgDef_deep]
  unfold p_i_clone_impl_ProgDef_deep
  rw [k1 D R S N x h1 h3]
  simp only [Option.bind_some]
  rw [k2 _ _ _ _ _ h3]
  rfl
theorem k_cloneR : Ev fun n => ∀ (D : Mem Dh) (R : Mem Rh) (S : Mem ByteArray) (N : Mem Tn) (x : Hd) (l : List Rh), mok R x = true → mval R x = l → l.length ≤ 4000000 → c_i_clone_impl_ProgRel_deep ((C B0).run n) D R S N x = some (D, (R ++ [some l], (S, (N, (H R.length l.length, ()))))) := by
  have h0 : Ev fun n => ∀ (D : Mem Dh) (R : Mem Rh) (S : Mem ByteArray) (N : Mem Tn) (x : Hd), x.2.2 ≤ 4000000 → c_slices_Clip_impl_ProgRel_impl_ProgRel_deep ((C B0).run n) D R S N x = some (D, (R, (S, (N, (x, ()))))) := by
    refine Ev.triv.succ fun n hn _ D R S N x hx => ?_
    rw [run_succB', e_slices_Clip_impl_ProgRel_impl_ProgRel_deep]
    unfold p_slices_Clip_impl_ProgRel_impl_ProgRel_deep
    rw [ok_of (by rw [sliceOk_true (by omega) (by omega) (by omega), ile_iff]; simp), Int.toNat_natCast]
  refine (k_CloneR.and h0).succ fun n hn ⟨k1, k2⟩ D R S N x l h1 h2 h3 => ?_
  subst h2
  rw [run_succB', e_i_clone_impl_ProgRel_deep]
  unfold p_i_clone_impl_ProgRel_deep
  rw [k1 D R S N x h1 h3]
  simp only [Option.bind_some]
  rw [k2 _ _ _ _ _ h3]
  rfl
section
variable {α : Type} {M : Mem α} {l l' : List α} {j : Nat}
theorem row_new : mrow (M ++ [some l]) (M.length + 1) = l := row_at at_new
theorem wr_new {x : Option (List α)} : mwr (M ++ [some l]) x (M.length + 1) = M ++ [x] := by
  rw [wr_at, List.set_append_right _ _ (Nat.le_refl _), Nat.sub_self]; rfl
theorem hit_new (h : j < l.length) : mhit (M ++ [some l]) (M.length + 1) j = true := hit_at at_new h
end
theorem psD_take {X : List Df} {i : Nat} (h : i < X.length) : psD (X.take (i + 1)) = psD (X.take i) ++ [(X.getD i dDf).2.1] := by
  unfold psD
  rw [List.take_add_one, List.map_append, List.getElem?_eq_getElem h, List.getD_eq_getElem?_getD, List.getElem?_eq_getElem h]
  rfl
theorem bdD_take {X : List Df} {i : Nat} (h : i < X.length) : bdD (X.take (i + 1)) = bdD (X.take i) ++ [(X.getD i dDf).2.2.1.1] := by
  unfold bdD
  rw [List.take_add_one, List.map_append, List.getElem?_eq_getElem h, List.getD_eq_getElem?_getD, List.getElem?_eq_getElem h]
  rfl
theorem ndR_take {X : List Rl} {i : Nat} (h : i < X.length) : ndR (X.take (i + 1)) = ndR (X.take i) ++ [(X.getD i dRl).2.1.1, (X.getD i dRl).2.2.1.1] := by
  unfold ndR
  rw [List.take_add_one, List.flatMap_append, List.getElem?_eq_getElem h, List.getD_eq_getElem?_getD, List.getElem?_eq_getElem h]
  simp
theorem map_idT (l : List Tn) : List.map idT l = l := by simp
theorem k_copyOf : Ev fun n => ∀ (D : Mem Dh) (R : Mem Rh) (S : Mem ByteArray) (N : Mem Tn) (d r p v n' m : Nat) (X : List Df) (V : List ByteArray) (L : List Rl), PA D R S N d r p v n' m X V L → SmDs 1048576 X → SmL 1048576 V → SmRs 1048576 L →
    ∃ D' R' S' N', c_i_Prog_copyOf_deep ((C B0).run n) D R S N (H d X.length) (H v V.length) (H r L.length) = some (D ++ D', (R ++ R', (S ++ S', (N ++ N', (H D.length X.length, (H S.length V.length, (H R.length L.length, ()))))))) ∧
      PA (D ++ D') (R ++ R') (S ++ S') (N ++ N') D.length R.length (S.length + 1) S.length N.length (N.length + X.length) X V L ∧ (S ++ S').length = S.length + 1 + X.length := by
  refine ((k_cloneD.and k_cloneR).and (k_cloneS.and k_cloneT)).succ fun n hn ⟨⟨k1, k2⟩, k3, k4⟩ D R S N d r p v n' m X V L h hX hV hL => ?_
  rw [run_succB', e_i_Prog_copyOf_deep]
  unfold p_i_Prog_copyOf_deep
  have hX1 := hX.1
  have hV1 := hV.1
  have hL1 := hL.1
  have o1 := ok_at h.hD
  have o2 := ok_at h.hR
  rw [hdD_len] at o1
  rw [hdR_len] at o2
  rw [k1 _ _ _ _ _ _ o1 h.vD (by rw [hdD_len]; omega)]
  simp only [Option.bind_some]
  rw [ok_at h.hV, ok_of (show (true && true && true) = true from rfl), h.sV, k3 _ (by omega)]
  simp only [Option.bind_some]
  rw [k2 _ _ _ _ _ _ o2 h.vR (by rw [hdR_len]; omega)]
  simp only [Option.bind_some]
  rw [hdD_len, hdR_len]
  -- the plan of the memory behind
  suffices hs : ∀ x, x = some (D ++ [some (hdD (S.length + 1) N.length X)], (R ++ [some (hdR (N.length + X.length) L)], (S ++ ([some V] ++ (psD X).map some), (N ++ ((bdD X).map some ++ (ndR L).map some), (H D.length X.length, (H S.length V.length, (H R.length L.length, ()))))))) → ∃ D' R' S' N', x = some (D ++ D', (R ++ R', (S ++ S', (N ++ N', (H D.length X.length, (H S.length V.length, (H R.length L.length, ()))))))) ∧
      PA (D ++ D') (R ++ R') (S ++ S') (N ++ N') D.length R.length (S.length + 1) S.length N.length (N.length + X.length) X V L ∧ (S ++ S').length = S.length + 1 + X.length by
    apply hs
    clear hs
    have el : ∀ i, i ≤ X.length → (S ++ ([some V] ++ (psD (X.take i)).map some)).length = S.length + 1 + i := fun i hi => by
      simp [psD]; omega
    have en : ∀ i, i ≤ X.length → (N ++ (bdD (X.take i)).map some).length = N.length + i := fun i hi => by
      simp [bdD]; omega
    have hm1 : (hdD (S.length + 1) N.length X).length = (hdD p n' X).length := by rw [hdD_len, hdD_len]
    refine iter_const (fun q => ∃ i : Nat, q = (((i : Int), ((X.length : Int), (H D.length X.length, ((), ((), ()))))), ((H D.length X.length, (H S.length V.length, (H R.length L.length, ()))), (((), ((), ((), ()))), (S ++ ([some V] ++ (psD (X.take i)).map some), (N ++ (bdD (X.take i)).map some, (R ++ [some (hdR m L)], (D ++ [some (mix (hdD (S.length + 1) N.length X) (hdD p n' X) i)], ()))))))) ∧ i ≤ X.length) (fun q => 1048577 - q.1.1.toNat) _ ?_ n _ (by simp only; omega) ⟨0, by rw [mix_zero]; simp [psD, bdD], Nat.zero_le _⟩
    rintro rec _ ⟨i, rfl, hi⟩ ih
    dsimp only
    rw [ilt_iff]
    by_cases h1 : i < X.length
    · have hil : i < (mix (hdD (S.length + 1) N.length X) (hdD p n' X) i).length := by rw [mix_len hm1, hdD_len]; exact h1
      have hsd := hX.2 _ (getD_mem (d := dDf) h1)
      have hsl := hsd.2.1.1
      have hsn := hsd.2.2.1
      have hg : (mix (hdD (S.length + 1) N.length X) (hdD p n' X) i).getD i dDh = _ := (mix_get hm1 (by rw [hdD_len]; exact h1)).trans (hdD_get (e := dDf) h1)
      have hSi := seg_app (X := [some V] ++ (psD (X.take i)).map some) h.hP i (by rw [psD_len]; exact h1)
      have hNi := seg_app (X := (bdD (X.take i)).map some) h.hB i (by rw [bdD_len]; exact h1)
      rw [psD_get (e := dDf) h1] at hSi
      rw [bdD_get (e := dDf) h1] at hNi
      rw [decide_eq_true (show (i : Int) < X.length by omega), cond_true, ok_of (inB_true (by omega) (by omega))]
      simp only [Nat.zero_add, Int.toNat_natCast]
      rw [ok_of (hit_new hil)]
      have hls : ∀ x : Dh, i < ((mix (hdD (S.length + 1) N.length X) (hdD p n' X) i).set i x).length := fun x => by rw [List.length_set]; exact hil
      simp only [row_new, hg, wr_new, getD_set hil, List.set_set, hit_new (hls _)]
      rw [ok_at hSi, ok_of (show (true && true && true) = true from rfl), val_at hSi, List.map_id', k3 _ (by omega)]
      simp only [Option.bind_some]
      rw [ok_of (inB_true (by omega) (by omega)), ok_of (hit_new hil), ok_at hNi, ok_of (show (true && true && true) = true from rfl), val_at hNi, map_idT, k4 _ (by omega)]
      simp only [Option.bind_some]
      rw [ok_of (inB_true (by omega) (by omega)), ok_of rfl, iadd_eq (by omega) (by omega), el i (by omega), en i (by omega)]
      have hms := mix_set (e := dDh) hm1 (i := i) (by rw [hdD_len]; exact h1)
      rw [hdD_get (e := dDf) h1] at hms
      rw [hms]
      refine ih _ ⟨i + 1, ?_, by omega⟩ (by simp only; omega)
      rw [psD_take h1, bdD_take h1]
      simp
    · rw [decide_eq_false (show ¬ (i : Int) < X.length by omega), cond_false]
      obtain rfl : i = X.length := by omega
      rw [List.take_length, ← hdD_len (p := p) (n := n') (l := X), mix_all hm1, hdD_len]
      have en : ∀ i, i ≤ L.length → (N ++ ((bdD X).map some ++ (ndR (L.take i)).map some)).length = N.length + X.length + 2 * i := fun i hi => by
        simp only [List.length_append, List.length_map, bdD_len, ndR_len, List.length_take]; omega
      have en' : ∀ i, i ≤ L.length → ∀ x : Option (List Tn), (N ++ ((bdD X).map some ++ (ndR (L.take i)).map some) ++ [x]).length = N.length + X.length + 2 * i + 1 := fun i hi x => by
        rw [List.length_append, en i hi]; rfl
      have hm1 : (hdR (N.length + X.length) L).length = (hdR m L).length := by rw [hdR_len, hdR_len]
      clear ih
      refine iter_const (fun q => ∃ i : Nat, q = (((i : Int), ((L.length : Int), (H R.length L.length, ((), ((), ()))))), ((H D.length X.length, (H S.length V.length, (H R.length L.length, ()))), (((), ((), ((), ()))), (S ++ ([some V] ++ (psD X).map some), (N ++ ((bdD X).map some ++ (ndR (L.take i)).map some), (R ++ [some (mix (hdR (N.length + X.length) L) (hdR m L) i)], (D ++ [some (hdD (S.length + 1) N.length X)], ()))))))) ∧ i ≤ L.length) (fun q => 1048577 - q.1.1.toNat) _ ?_ n _ (by simp only; omega) ⟨0, by rw [mix_zero]; simp [ndR], Nat.zero_le _⟩
      rintro rec _ ⟨i, rfl, hi⟩ ih
      dsimp only
      rw [ilt_iff]
      by_cases h1 : i < L.length
      · have hil : i < (mix (hdR (N.length + X.length) L) (hdR m L) i).length := by rw [mix_len hm1, hdR_len]; exact h1
        have hsd := hL.2 _ (getD_mem (d := dRl) h1)
        have hsl := hsd.1.1
        have hsn := hsd.2.1
        have hg : (mix (hdR (N.length + X.length) L) (hdR m L) i).getD i dRh = _ := (mix_get hm1 (by rw [hdR_len]; exact h1)).trans (hdR_get (e := dRl) h1)
        have hSi := seg_app (X := (bdD X).map some ++ (ndR (L.take i)).map some) h.hN (2 * i) (by rw [ndR_len]; omega)
        have hNi := seg_app (X := [some (L.getD i dRl).2.1.1]) (seg_app (X := (bdD X).map some ++ (ndR (L.take i)).map some) h.hN) (2 * i + 1) (by rw [ndR_len]; omega)
        rw [(ndR_get (e := dRl) h1).1] at hSi
        rw [(ndR_get (e := dRl) h1).2] at hNi
        have hNv := val_at hNi
        have hNo := ok_at hNi
        rw [show m + (2 * i + 1) + 1 = m + 2 * i + 2 by omega] at hNv hNo
        rw [decide_eq_true (show (i : Int) < L.length by omega), cond_true, ok_of (inB_true (by omega) (by omega))]
        simp only [Nat.zero_add, Int.toNat_natCast]
        rw [ok_of (hit_new hil)]
        have hls : ∀ x : Rh, i < ((mix (hdR (N.length + X.length) L) (hdR m L) i).set i x).length := fun x => by rw [List.length_set]; exact hil
        simp only [row_new, hg, wr_new, getD_set hil, List.set_set, hit_new (hls _)]
        rw [ok_at hSi, ok_of (show (true && true && true) = true from rfl), val_at hSi, map_idT, k4 _ (by omega)]
        simp only [Option.bind_some]
        rw [ok_of (inB_true (by omega) (by omega)), ok_of (hit_new hil), hNo, ok_of (show (true && true && true) = true from rfl), hNv, map_idT, k4 _ (by omega)]
        simp only [Option.bind_some]
        rw [ok_of (inB_true (by omega) (by omega)), ok_of rfl, iadd_eq (by omega) (by omega), en i (by omega), en' i (by omega) _]
        have hms := mix_set (e := dRh) hm1 (i := i) (by rw [hdR_len]; exact h1)
        rw [hdR_get (e := dRl) h1] at hms
        rw [show N.length + X.length + 2 * i + 1 + 1 = N.length + X.length + 2 * i + 2 from rfl, hms]
        refine ih _ ⟨i + 1, ?_, by omega⟩ (by simp only; omega)
        rw [ndR_take h1]
        simp
      · rw [decide_eq_false (show ¬ (i : Int) < L.length by omega), cond_false]
        obtain rfl : i = L.length := by omega
        rw [List.take_length, ← hdR_len (n := m) (l := L), mix_all hm1, hdR_len]
  rintro x rfl
  have e1 : (S ++ [some V]).length = S.length + 1 := by simp
  have e2 : (N ++ (bdD X).map some).length = N.length + X.length := by rw [List.length_append, List.length_map, bdD_len]
  refine ⟨_, _, _, _, rfl, ⟨at_new, at_new, ?_, ?_, ?_, ?_, .inl (by omega), Nat.le_refl _⟩, ?_⟩
  · rw [← List.append_assoc, ← e1]; exact seg_new
  · rw [← List.append_assoc]; exact at_app at_new
  · rw [← List.append_assoc]; exact seg_app seg_new
  · rw [← List.append_assoc, ← e2]; exact seg_new
  · simp [psD]; omega
end Go.Px.Seat

/- The two sides' shift; the law, given that the two sides find the same code. Seat G. -/
namespace Go.Px.Seat
open Go Pm Pt
set_option linter.unusedVariables false
def Sm (X : List Df) (V : List ByteArray) (L : List Rl) : Prop := SmDs 1048576 X ∧ SmL 1048576 V ∧ SmRs 1048576 L
def rot (k : Nat) (V : List ByteArray) : List ByteArray := V.drop k ++ V.take k
theorem rot_len {k : Nat} {V : List ByteArray} (h : k ≤ V.length) : (rot k V).length = V.length := by
  unfold rot
  rw [List.length_append, List.length_drop, List.length_take]; omega
theorem rot_get {k i : Nat} {V : List ByteArray} {d : ByteArray} (hk : k < V.length) (hi : i < V.length) : (rot k V).getD i d = V.getD ((i + k) % V.length) d := by
  unfold rot
  rw [List.getD_eq_getElem?_getD, List.getD_eq_getElem?_getD]
  by_cases h : i < V.length - k
  · rw [List.getElem?_append_left (by rw [List.length_drop]; exact h), List.getElem?_drop, Nat.mod_eq_of_lt (by omega), Nat.add_comm]
  · rw [List.getElem?_append_right (by rw [List.length_drop]; omega), List.length_drop, List.getElem?_take, if_pos (by omega), Nat.mod_eq_sub_mod (by omega), Nat.mod_eq_of_lt (by omega)]
    congr 2
    omega
theorem rot_sm {k : Nat} {V : List ByteArray} (h : k ≤ V.length) (hV : SmL 1048576 V) : SmL 1048576 (rot k V) := ⟨by rw [rot_len h]; exact hV.1, fun x hx => by
  unfold rot at hx
  rcases List.mem_append.mp hx with hx | hx
  · exact hV.2 x (List.mem_of_mem_drop hx)
  · exact hV.2 x (List.mem_of_mem_take hx)⟩
abbrev Code := List Df → List ByteArray → List Rl → Int
def good (code : Code) (X : List Df) (V : List ByteArray) (L : List Rl) (k : Int) : Bool := decide (code X V L = 0) && (decide (0 ≤ k) && decide (k < V.length))
theorem good_of {code : Code} {X : List Df} {V : List ByteArray} {L : List Rl} {k : Int} (h : good code X V L k = true) : code X V L = 0 ∧ 0 ≤ k ∧ k < V.length := by
  simpa [good] using h
variable {code : Code}
/-! The reference's side -/
section
variable {B : Run}
theorem k_l14Copy : Ev fun n => ∀ l : List ByteArray, l.length ≤ 4000000 → c_s_l14Copy ((C B).run n) l = some (l, ()) := by
  refine Ev.triv.succ fun n hn _ l hl => ?_
  rw [run_succB', e_s_l14Copy]
  unfold p_s_l14Copy
  refine iter_const (fun q => ∃ i : Nat, q = (((i : Int), (l, ((), ((), ())))), (l.take i, ())) ∧ i ≤ l.length) (fun q => 4000001 - q.1.1.toNat) _ ?_ n _ (by simp only; omega) ⟨0, by simp, Nat.zero_le _⟩
  rintro rec _ ⟨i, rfl, hi⟩ ih
  dsimp only
  rw [len_eq, ilt_iff]
  by_cases h1 : i < l.length
  · have ht : l.take i ++ [l.getD i (bs [])] = l.take (i + 1) := by
      rw [List.take_add_one, List.getElem?_eq_getElem h1, List.getD_eq_getElem?_getD, List.getElem?_eq_getElem h1]; rfl
    rw [decide_eq_true (show (i : Int) < l.length by omega), cond_true, ok_of (inB_true (by omega) (by omega)), Int.toNat_natCast, ht, ok_of (aok_true (by rw [List.length_take]; omega)), iadd_eq (by omega) (by omega)]
    exact ih _ ⟨i + 1, by simp, by omega⟩ (by simp only; omega)
  · rw [decide_eq_false (show ¬ (i : Int) < l.length by omega), cond_false]
    obtain rfl : i = l.length := by omega
    rw [List.take_length]
theorem k_l14Same : Ev fun n => ∀ l : List Tn, l.length ≤ 4000000 → c_s_l14Same ((C B).run n) l = some (l, ()) := by
  refine Ev.triv.succ fun n hn _ l hl => ?_
  rw [run_succB', e_s_l14Same]
  unfold p_s_l14Same
  refine iter_const (fun q => ∃ i : Nat, q = (((i : Int), ((), ((), ((), ())))), ((l, ()), (((), ()), (((), ()), (l.take i, ()))))) ∧ i ≤ l.length) (fun q => 4000001 - q.1.1.toNat) _ ?_ n _ (by simp only; omega) ⟨0, by simp, Nat.zero_le _⟩
  rintro rec _ ⟨i, rfl, hi⟩ ih
  dsimp only
  rw [len_eq, ilt_iff]
  by_cases h1 : i < l.length
  · have ht : l.take i ++ [((l.getD i (0, (0, ((bs []), ())))).1, ((l.getD i (0, (0, ((bs []), ())))).2.1, ((l.getD i (0, (0, ((bs []), ())))).2.2.1, ())))] = l.take (i + 1) := by
      rw [List.take_add_one, List.getElem?_eq_getElem h1, List.getD_eq_getElem?_getD, List.getElem?_eq_getElem h1]; rfl
    rw [decide_eq_true (show (i : Int) < l.length by omega), cond_true, ok_of (inB_true (by omega) (by omega)), Int.toNat_natCast, ht, ok_of (aok_true (by rw [List.length_take]; omega)), iadd_eq (by omega) (by omega)]
    exact ih _ ⟨i + 1, by simp, by omega⟩ (by simp only; omega)
  · rw [decide_eq_false (show ¬ (i : Int) < l.length by omega), cond_false]
    obtain rfl : i = l.length := by omega
    rw [List.take_length]
theorem k_l14Own : Ev fun n => ∀ X V L, Sm X V L → c_s_l14Own ((C B).run n) X V L = some (X, (V, (L, ()))) := by
  refine ((k_l14Copy (B := B)).and (k_l14Same (B := B))).succ fun n hn ⟨k1, k2⟩ X V L ⟨hX, hV, hL⟩ => ?_
  have hX1 := hX.1
  have hV1 := hV.1
  have hL1 := hL.1
  rw [run_succB', e_s_l14Own]
  unfold p_s_l14Own
  rw [k1 V (by omega)]
  simp only [Option.bind_some]
  refine iter_const (fun q => ∃ i : Nat, q = (((i : Int), ((), ((), ((), ())))), ((X, (V, (L, ()))), (((), ((), ((), ()))), (((), ((), ((), ()))), (X.take i, (V, ())))))) ∧ i ≤ X.length) (fun q => 1048577 - q.1.1.toNat) _ ?_ n _ (by simp only; omega) ⟨0, by simp, Nat.zero_le _⟩
  rintro rec _ ⟨i, rfl, hi⟩ ih
  dsimp only
  rw [len_eq, ilt_iff]
  by_cases h1 : i < X.length
  · have hsd := hX.2 _ (getD_mem (d := dDf) h1)
    have hsl := hsd.2.1.1
    have hsn := hsd.2.2.1
    have ht : X.take i ++ [((X.getD i dDf).1, ((X.getD i dDf).2.1, (((X.getD i dDf).2.2.1.1, ()), ())))] = X.take (i + 1) := by
      rw [List.take_add_one, List.getElem?_eq_getElem h1, List.getD_eq_getElem?_getD, List.getElem?_eq_getElem h1]; rfl
    rw [decide_eq_true (show (i : Int) < X.length by omega), cond_true, ok_of (inB_true (by omega) (by omega)), ok_of (inB_true (by omega) (by omega)), Int.toNat_natCast, k1 _ (by omega)]
    simp only [Option.bind_some]
    rw [ok_of (inB_true (by omega) (by omega)), k2 _ (by omega)]
    simp only [Option.bind_some]
    rw [ht, ok_of (aok_true (by rw [List.length_take]; omega)), iadd_eq (by omega) (by omega)]
    exact ih _ ⟨i + 1, by simp, by omega⟩ (by simp only; omega)
  · rw [decide_eq_false (show ¬ (i : Int) < X.length by omega), cond_false]
    obtain rfl : i = X.length := by omega
    rw [List.take_length]
    clear ih
    refine iter_const (fun q => ∃ i : Nat, q = (((i : Int), ((), ((), ((), ())))), ((X, (V, (L, ()))), (((), ((), ((), ()))), (((), ((), ((), ()))), (X, (V, (L.take i, ()))))))) ∧ i ≤ L.length) (fun q => 1048577 - q.1.1.toNat) _ ?_ n _ (by simp only; omega) ⟨0, by simp, Nat.zero_le _⟩
    rintro rec _ ⟨i, rfl, hi⟩ ih
    dsimp only
    rw [len_eq, ilt_iff]
    by_cases h1 : i < L.length
    · have hsd := hL.2 _ (getD_mem (d := dRl) h1)
      have hsl := hsd.1.1
      have hsn := hsd.2.1
      have ht : L.take i ++ [((L.getD i dRl).1, (((L.getD i dRl).2.1.1, ()), (((L.getD i dRl).2.2.1.1, ()), ())))] = L.take (i + 1) := by
        rw [List.take_add_one, List.getElem?_eq_getElem h1, List.getD_eq_getElem?_getD, List.getElem?_eq_getElem h1]; rfl
      rw [decide_eq_true (show (i : Int) < L.length by omega), cond_true, ok_of (inB_true (by omega) (by omega)), ok_of (inB_true (by omega) (by omega)), Int.toNat_natCast, k2 _ (by omega)]
      simp only [Option.bind_some]
      rw [ok_of (inB_true (by omega) (by omega)), k2 _ (by omega)]
      simp only [Option.bind_some]
      rw [ht, ok_of (aok_true (by rw [List.length_take]; omega)), iadd_eq (by omega) (by omega)]
      exact ih _ ⟨i + 1, by simp, by omega⟩ (by simp only; omega)
    · rw [decide_eq_false (show ¬ (i : Int) < L.length by omega), cond_false]
      obtain rfl : i = L.length := by omega
      rw [List.take_length]
end
def shV (code : Code) (X : List Df) (V : List ByteArray) (L : List Rl) (k : Int) : List Df × (List ByteArray × (List Rl × (Bool × Unit))) :=
  bif good code X V L k then (X, (rot k.toNat V, (L, (true, ())))) else ([], ([], ([], (false, ()))))
theorem k_sProgShift (hs : Ev fun n => ∀ X V L, Sm X V L → c_s_ProgCode ((C B0).run n) X V L = some (code X V L, ())) : Ev fun n => ∀ X V L k, Sm X V L → c_s_ProgShift ((C B0).run n) X V L k = some (shV code X V L k) := by
  refine (hs.and (k_l14Own (B := B0))).succ fun n hn ⟨kc, ko⟩ X V L k hm => ?_
  rw [run_succB', e_s_ProgShift]
  unfold p_s_ProgShift shV good
  have hV1 := hm.2.1.1
  rw [kc X V L hm]
  simp only [Option.bind_some]
  by_cases h0 : code X V L = 0
  · rw [h0, show ((0 : Int) != 0) = false from rfl, cond_false, ilt_iff, len_eq, ile_iff]
    by_cases h1 : k < 0
    · rw [decide_eq_true h1, cond_true, decide_eq_false (show ¬ 0 ≤ k by omega)]
      rfl
    · rw [decide_eq_false h1, cond_false, decide_eq_true (show 0 ≤ k by omega)]
      by_cases h2 : k < V.length
      · rw [decide_eq_false (show ¬ (V.length : Int) ≤ k by omega), decide_eq_true h2]
        show ((c_s_l14Own ((C B0).run n) X V L).bind fun (r44_1, (r44b, (r44c, _))) => _) = _
        rw [ko X V L hm]
        obtain ⟨j, rfl⟩ : ∃ j : Nat, k = (j : Int) := ⟨k.toNat, by omega⟩
        have hj : j < V.length := by omega
        simp only [Option.bind_some, decide_true, Bool.and_self, cond_true, Int.toNat_natCast]
        have hml : (rot j V).length = V.length := rot_len (by omega)
        refine iter_const (fun q => ∃ i : Nat, q = (((i : Int), ((), ((), ((j : Int), ((), (false, ())))))), ((X, (V, (L, ()))), (((), ((), ((), ()))), (((), ((), ((), ()))), (X, (mix (rot j V) V i, (L, ()))))))) ∧ i ≤ V.length) (fun q => 1048577 - q.1.1.toNat) _ ?_ n _ (by simp only; omega) ⟨0, by rw [mix_zero]; rfl, Nat.zero_le _⟩
        rintro rec _ ⟨i, rfl, hi⟩ ih
        dsimp only
        rw [len_eq, ilt_iff]
        by_cases h1 : i < V.length
        · have h0' : ((V.length : Int) == 0) = false := by
            rw [beq_eq_false_iff_ne]; omega
          have hmod : ((i : Int) + (j : Int)) % (V.length : Int) = (((i + j) % V.length : Nat) : Int) := by rw [Int.natCast_emod, Int.natCast_add]
          have hml2 := Nat.mod_lt (i + j) (show V.length > 0 by omega)
          rw [decide_eq_true (show (i : Int) < V.length by omega), cond_true, h0', Bool.not_false, ok_of rfl, iadd_eq (x := (i : Int)) (y := (j : Int)) (by omega) (by omega), irem_eq (by omega), hmod, ok_of (inB_true (by omega) (by omega)), len_eq, mix_len hml, ok_of (inB_true (by omega) (by omega)), Int.toNat_natCast, Int.toNat_natCast, iadd_eq (by omega) (by omega)]
          have hms := mix_set (e := bs []) hml h1
          rw [rot_get hj h1] at hms
          rw [hms]
          exact ih _ ⟨i + 1, by simp, by omega⟩ (by simp only; omega)
        · rw [decide_eq_false (show ¬ (i : Int) < V.length by omega), cond_false]
          obtain rfl : i = V.length := by omega
          rw [mix_all hml]
      · rw [decide_eq_true (show (V.length : Int) ≤ k by omega), decide_eq_false h2]
        rfl
  · rw [show (code X V L != 0) = true by simpa using h0, cond_true, decide_eq_false h0]
    rfl
/-! The program's side -/
/-- A program in the arenas, above given places; or nothing. -/
def Ob (D : Mem Dh) (R : Mem Rh) (S : Mem ByteArray) (N : Mem Tn) (d0 r0 s0 n0 : Nat) (hd hv hr : Hd) (X : List Df) (V : List ByteArray) (L : List Rl) : Prop :=
  (∃ d r p v n m, hd = H d X.length ∧ hv = H v V.length ∧ hr = H r L.length ∧ PA D R S N d r p v n m X V L ∧ d0 ≤ d ∧ r0 ≤ r ∧ s0 ≤ p ∧ s0 ≤ v ∧ n0 ≤ n) ∨
  (hd = (0, (0, 0)) ∧ hv = (0, (0, 0)) ∧ hr = (0, (0, 0)) ∧ X = [] ∧ V = [] ∧ L = [])
section
variable {D D' : Mem Dh} {R R' : Mem Rh} {S S' : Mem ByteArray} {N N' : Mem Tn} {d0 r0 s0 n0 : Nat} {hd hv hr : Hd} {X : List Df} {V : List ByteArray} {L : List Rl}
theorem Ob.ok (h : Ob D R S N d0 r0 s0 n0 hd hv hr X V L) : (((mok D hd) && (List.all (mval D hd) fun y => ((mok S y.2.1) && (((mok N y.2.2.1.1) && true) && true)))) && ((mok S hv) && (((mok R hr) && (List.all (mval R hr) fun y_1 => (((mok N y_1.2.1.1) && true) && (((mok N y_1.2.2.1.1) && true) && true)))) && true))) = true := by
  rcases h with ⟨d, r, p, v, n, m, rfl, rfl, rfl, h, _⟩ | ⟨rfl, rfl, rfl, _⟩
  · exact h.ok
  · rfl
theorem Ob.sD (h : Ob D R S N d0 r0 s0 n0 hd hv hr X V L) : List.map (fun y => (y.1, ((List.map (fun y => y) (mval S y.2.1)), (((List.map (idT) (mval N y.2.2.1.1)), y.2.2.1.2), y.2.2.2)))) (mval D hd) = X := by
  rcases h with ⟨d, r, p, v, n, m, rfl, rfl, rfl, h, _⟩ | ⟨rfl, rfl, rfl, rfl, _⟩
  · exact h.sD
  · rfl
theorem Ob.sV (h : Ob D R S N d0 r0 s0 n0 hd hv hr X V L) : List.map (fun y => y) (mval S hv) = V := by
  rcases h with ⟨d, r, p, v, n, m, rfl, rfl, rfl, h, _⟩ | ⟨rfl, rfl, rfl, rfl, rfl, _⟩
  · exact h.sV
  · rfl
theorem Ob.sR (h : Ob D R S N d0 r0 s0 n0 hd hv hr X V L) : List.map (fun y => (y.1, (((List.map (idT) (mval N y.2.1.1)), y.2.1.2), (((List.map (idT) (mval N y.2.2.1.1)), y.2.2.1.2), y.2.2.2)))) (mval R hr) = L := by
  rcases h with ⟨d, r, p, v, n, m, rfl, rfl, rfl, h, _⟩ | ⟨rfl, rfl, rfl, rfl, rfl, rfl⟩
  · exact h.sR
  · rfl
theorem Ob.app (h : Ob D R S N d0 r0 s0 n0 hd hv hr X V L) : Ob (D ++ D') (R ++ R') (S ++ S') (N ++ N') d0 r0 s0 n0 hd hv hr X V L := by
  rcases h with ⟨d, r, p, v, n, m, h1, h2, h3, h, h4⟩ | h
  · exact .inl ⟨d, r, p, v, n, m, h1, h2, h3, h.app, h4⟩
  · exact .inr h
theorem Ob.frame (h : Ob D R S N d0 r0 s0 n0 hd hv hr X V L) (fD : ∀ k, d0 ≤ k → D'[k]? = D[k]?) (fR : ∀ k, r0 ≤ k → R'[k]? = R[k]?) (fS : ∀ k, s0 ≤ k → S'[k]? = S[k]?) (fN : ∀ k, n0 ≤ k → N'[k]? = N[k]?) : Ob D' R' S' N' d0 r0 s0 n0 hd hv hr X V L := by
  rcases h with ⟨d, r, p, v, n, m, h1, h2, h3, h, h4, h5, h6, h7, h8⟩ | h
  · have := h.hnm
    refine .inl ⟨d, r, p, v, n, m, h1, h2, h3, ⟨?_, ?_, fun i hi => ?_, ?_, fun i hi => ?_, fun i hi => ?_, h.hpv, h.hnm⟩, h4, h5, h6, h7, h8⟩
    · rw [fD _ h4]; exact h.hD
    · rw [fR _ h5]; exact h.hR
    · rw [fS _ (by omega)]; exact h.hP i hi
    · rw [fS _ h7]; exact h.hV
    · rw [fN _ (by omega)]; exact h.hB i hi
    · rw [fN _ (by omega)]; exact h.hN i hi
  · exact .inr h
end
theorem k_markNil {B : Run} : Ev fun n => ∀ (D : Mem Dh) (R : Mem Rh) (S : Mem ByteArray) (N : Mem Tn), c_w_markProg_deep ((C B).run n) D R S N (0, (0, 0)) (0, (0, 0)) (0, (0, 0)) 1 = some (D, (R, (S, (N, (1, ()))))) := by
  have h0 : ∀ n : Nat, 1152921504606846976 ≤ n → ∃ m, n = m + 1 := fun n hn => ⟨n - 1, by omega⟩
  have h1 : Ev fun n => ∀ (D : Mem Dh) (R : Mem Rh) (S : Mem ByteArray) (N : Mem Tn), c_w_markProgDefS_deep ((C B).run n) D R S N (0, (0, 0)) 1 = some (D, (R, (S, (N, (1, ()))))) := by
    refine Ev.triv.succ fun n hn _ D R S N => ?_
    rw [run_succB', e_w_markProgDefS_deep]
    obtain ⟨m, rfl⟩ := h0 n hn
    rfl
  have h2 : Ev fun n => ∀ (D : Mem Dh) (R : Mem Rh) (S : Mem ByteArray) (N : Mem Tn), c_w_markStringS_deep ((C B).run n) D R S N (0, (0, 0)) 1 = some (D, (R, (S, (N, (1, ()))))) := by
    refine Ev.triv.succ fun n hn _ D R S N => ?_
    rw [run_succB', e_w_markStringS_deep]
    obtain ⟨m, rfl⟩ := h0 n hn
    rfl
  have h3 : Ev fun n => ∀ (D : Mem Dh) (R : Mem Rh) (S : Mem ByteArray) (N : Mem Tn), c_w_markProgRelS_deep ((C B).run n) D R S N (0, (0, 0)) 1 = some (D, (R, (S, (N, (1, ()))))) := by
    refine Ev.triv.succ fun n hn _ D R S N => ?_
    rw [run_succB', e_w_markProgRelS_deep]
    obtain ⟨m, rfl⟩ := h0 n hn
    rfl
  refine (h1.and (h2.and h3)).succ fun n hn ⟨k1, k2, k3⟩ D R S N => ?_
  rw [run_succB', e_w_markProg_deep]
  unfold p_w_markProg_deep
  rw [k1]
  simp only [Option.bind_some]
  rw [k2]
  simp only [Option.bind_some]
  rw [k3]
  rfl
theorem k_markOb {B : Run} : Ev fun n => ∀ (D : Mem Dh) (R : Mem Rh) (S : Mem ByteArray) (N : Mem Tn) d0 r0 s0 n0 hd hv hr X V L, Ob D R S N d0 r0 s0 n0 hd hv hr X V L → Sm X V L →
    ∃ D' R' S' N', c_w_markProg_deep ((C B).run n) D R S N hd hv hr 1 = some (D', (R', (S', (N', (cntP X V L, ()))))) ∧ Ob D' R' S' N' d0 r0 s0 n0 hd hv hr (mkD1 X) (mkV1 X V) (mkR1 X V L) := by
  refine ((k_markProg (B := B)).and (k_markNil (B := B))).mono fun n ⟨k1, k2⟩ D R S N d0 r0 s0 n0 hd hv hr X V L h hm => ?_
  rcases h with ⟨d, r, p, v, n, m, rfl, rfl, rfl, h, h4⟩ | ⟨rfl, rfl, rfl, rfl, rfl, rfl⟩
  · obtain ⟨D', R', S', N', e, hp, _⟩ := k1 D R S N d r p v n m X V L h hm.1 hm.2.1 hm.2.2
    refine ⟨D', R', S', N', e, .inl ⟨d, r, p, v, n, m, ?_, ?_, ?_, hp, h4⟩⟩
    · unfold mkD1; rw [markW_len]
    · unfold mkV1; rw [markW_len]
    · unfold mkR1; rw [markW_len]
  · exact ⟨D, R, S, N, k2 D R S N, .inr ⟨rfl, rfl, rfl, rfl, rfl, rfl⟩⟩
end Go.Px.Seat

/- The program's shift; the law, given that the two sides find the same code. Seat G. -/
namespace Go.Px.Seat
open Go Pm Pt
set_option linter.unusedVariables false
variable {code : Code}
theorem ok_tt {R : Type} (x : Option R) : ok (true && true) x = x := rfl
theorem k_iProgShift (hs : Ev fun n => ∀ X V L, Sm X V L → c_i_ProgCode ((C B0).run n) X V L = some (code X V L, ())) : Ev fun n => ∀ (D : Mem Dh) (R : Mem Rh) (S : Mem ByteArray) (N : Mem Tn) (d r p v n' m : Nat) (X : List Df) (V : List ByteArray) (L : List Rl) (k : Int), PA D R S N d r p v n' m X V L → Sm X V L →
    ∃ D' R' S' N' hd hv hr, c_i_ProgShift_deep ((C B0).run n) D R S N (H d X.length) (H v V.length) (H r L.length) k = some (D ++ D', (R ++ R', (S ++ S', (N ++ N', (hd, (hv, (hr, ((shV code X V L k).2.2.2.1, ())))))))) ∧
      Ob (D ++ D') (R ++ R') (S ++ S') (N ++ N') D.length R.length S.length N.length hd hv hr (shV code X V L k).1 (shV code X V L k).2.1 (shV code X V L k).2.2.1 := by
  refine ((hs.and k_copyOf).and ((k_inB (B := B0)).and (k_ConcatS.and (k_ClipS (B := B0))))).succ fun n hn ⟨⟨kc, kp⟩, ki, kk, kl⟩ D R S N d r p v n' m X V L k h hm => ?_
  rw [run_succB', e_i_ProgShift_deep]
  unfold p_i_ProgShift_deep shV good
  have hV1 := hm.2.1.1
  rw [h.ok, ok_tt, h.sD, h.sV, h.sR, kc X V L hm]
  simp only [Option.bind_some]
  have hno : ∀ (x : Option (Mem Dh × (Mem Rh × (Mem ByteArray × (Mem Tn × (Hd × (Hd × (Hd × (Bool × Unit)))))))) ), x = some (D, (R, (S, (N, ((0, (0, 0)), ((0, (0, 0)), ((0, (0, 0)), (false, ())))))))) → ∃ D' R' S' N' hd hv hr, x = some (D ++ D', (R ++ R', (S ++ S', (N ++ N', (hd, (hv, (hr, (false, ())))))))) ∧
      Ob (D ++ D') (R ++ R') (S ++ S') (N ++ N') D.length R.length S.length N.length hd hv hr [] [] [] := by
    rintro x rfl
    exact ⟨[], [], [], [], (0, (0, 0)), (0, (0, 0)), (0, (0, 0)), by simp, .inr ⟨rfl, rfl, rfl, rfl, rfl, rfl⟩⟩
  by_cases h0 : code X V L = 0
  · rw [h0, show ((0 : Int) != 0) = false from rfl, cond_false, ki, isub_eq (x := (V.length : Int)) (by omega) (by omega)]
    simp only [Option.bind_some]
    by_cases h1 : 0 ≤ k ∧ k < V.length
    · obtain ⟨h1, h2⟩ := h1
      obtain ⟨j, rfl⟩ : ∃ j : Nat, k = (j : Int) := ⟨k.toNat, by omega⟩
      have hj : j < V.length := by omega
      rw [decide_eq_true h1, decide_eq_true (show (j : Int) ≤ (V.length : Int) - 1 by omega), decide_eq_true h2]
      obtain ⟨D1, R1, S1, N1, e1, p1, l1⟩ := kp D R S N d r p v n' m X V L h hm.1 hm.2.1 hm.2.2
      show ∃ D' R' S' N' hd hv hr, ((c_i_Prog_copyOf_deep ((C B0).run n) D R S N (H d X.length) (H v V.length) (H r L.length)).bind fun (r39_1, (r39b, (r39c, (r39d, (r39e, (r39f, (x, _))))))) => _) = _ ∧ _
      rw [e1]
      simp only [Option.bind_some, decide_true, Bool.and_self, cond_true, Int.toNat_natCast]
      have hv := at_app (X := S1) h.hV
      rw [ok_of (sliceOk_true (by omega) (by omega) (by omega)), ok_of (sliceOk_true (by omega) (by omega) (by omega))]
      simp only [List.all_cons, List.all_nil, List.map_cons, List.map_nil]
      rw [ok_le hv (by omega), ok_le hv (by omega), ok_of (show (true && (true && true) && true && true) = true from rfl), val_le hv, val_le hv]
      have ev1 : (V.take (0 + j + (V.length - j))).drop (0 + j) = V.drop j := by
        rw [List.take_of_length_le (by omega), Nat.zero_add]
      have ev2 : (V.take (0 + j)).drop 0 = V.take j := by simp
      have ev3 : [V.drop j, V.take j].flatten = rot j V := by simp [rot]
      have hrl := rot_len (V := V) (show j ≤ V.length by omega)
      rw [ev1, ev2, List.map_id', List.map_id', kk _ (by simp) (by rw [ev3, hrl]; omega), ev3]
      simp only [Option.bind_some]
      rw [kl]
      simp only [Option.bind_some]
      have p2 := p1.app (D' := []) (R' := []) (S' := [some (rot j V)]) (N' := [])
      rw [List.append_nil, List.append_nil, List.append_nil] at p2
      refine ⟨D1, R1, S1 ++ [some (rot j V)], N1, H D.length X.length, H (S ++ S1).length (rot j V).length, H R.length L.length, by rw [List.append_assoc], .inl ⟨D.length, R.length, S.length + 1, (S ++ S1).length, N.length, N.length + X.length, rfl, rfl, rfl, ?_, Nat.le_refl _, Nat.le_refl _, by omega, by rw [List.length_append]; omega, Nat.le_refl _⟩⟩
      rw [← List.append_assoc]
      exact ⟨p2.hD, p2.hR, p2.hP, at_new, p2.hB, p2.hN, .inr (by omega), p2.hnm⟩
    · have hb : (decide (0 ≤ k) && decide (k < (V.length : Int))) = false := by
        rw [Bool.and_eq_false_iff, decide_eq_false_iff_not, decide_eq_false_iff_not]
        omega
      have hb2 : (decide (0 ≤ k) && decide (k ≤ (V.length : Int) - 1)) = false := by
        rw [Bool.and_eq_false_iff, decide_eq_false_iff_not, decide_eq_false_iff_not]
        omega
      rw [hb, hb2]
      exact hno _ rfl
  · rw [show (code X V L != 0) = true by simpa using h0, cond_true, decide_eq_false h0]
    exact hno _ rfl
theorem shV_sm {X : List Df} {V : List ByteArray} {L : List Rl} {k : Int} (h : Sm X V L) : Sm (shV code X V L k).1 (shV code X V L k).2.1 (shV code X V L k).2.2.1 := by
  unfold shV
  cases hg : good code X V L k with
  | true =>
    have := good_of hg
    exact ⟨h.1, rot_sm (by omega) h.2.1, h.2.2⟩
  | false => exact ⟨⟨by simp, by simp⟩, ⟨by simp, by simp⟩, ⟨by simp, by simp⟩⟩
theorem beqB_self (b : Bool) : (!(beqB b b)) = false := by cases b <;> rfl
theorem k_FnExactProgShift (hi : Ev fun n => ∀ X V L, Sm X V L → c_i_ProgCode ((C B0).run n) X V L = some (code X V L, ())) (hs : Ev fun n => ∀ X V L, Sm X V L → c_s_ProgCode ((C B0).run n) X V L = some (code X V L, ())) :
    Ev fun n => ∀ (D : Mem Dh) (R : Mem Rh) (S : Mem ByteArray) (N : Mem Tn) (X : List Df) (V : List ByteArray) (L : List Rl) (k : Int), SmDs bigL X → SmL bigL V → SmRs bigL L →
      ∃ D' R' S' N', c_w_FnExactProgShift_deep ((C B0).run n) D R S N X V L k = some (D', (R', (S', (N', (true, ()))))) := by
  refine (((k_szProg (B := B0)).and (k_toProg (B := B0))).and (((k_sProgShift hs).and (k_iProgShift hi)).and ((k_eqProg (B := B0)).and ((k_markOb (B := B0)).and ((k_markProg (B := B0)).and (k_heldProg (B := B0))))))).succ
    fun n hn ⟨⟨ksz, kto⟩, ⟨ks, ki⟩, keq, kmo, kmp, kh⟩ D R S N X V L k hX hV hL => ?_
  rw [run_succB', e_w_FnExactProgShift_deep]
  unfold p_w_FnExactProgShift_deep
  obtain ⟨⟨b, ub⟩, eb, hb⟩ := ksz X V L 1048576 (by decide) (by decide) hX hV hL
  rw [eb]
  simp only [Option.bind_some]
  rw [ilt_iff]
  rcases hb with hb | ⟨hb0, _, hm⟩
  · rw [decide_eq_true hb, cond_true]
    exact ⟨D, R, S, N, rfl⟩
  · have hm : Sm X V L := ⟨hm.1, hm.2.1, hm.2.2⟩
    rw [decide_eq_false (show ¬ b < 0 by simp only at hb0; omega), cond_false]
    obtain ⟨D1, R1, S1, N1, e1, p1, -, -⟩ := kto D R S N X V L hm.1 hm.2.1 hm.2.2
    rw [e1]
    simp only [Option.bind_some]
    rw [p1.ok, ok_tt, p1.sD, p1.sV, p1.sR, ks X V L k hm]
    simp only [Option.bind_some]
    obtain ⟨D2, R2, S2, N2, e2, p2, l2, l3⟩ := kto (D ++ D1) (R ++ R1) (S ++ S1) (N ++ N1) X V L hm.1 hm.2.1 hm.2.2
    rw [e2]
    simp only [Option.bind_some]
    obtain ⟨D3, R3, S3, N3, gd, gv, gr, e3, o3⟩ := ki _ _ _ _ _ _ _ _ _ _ X V L k p2 hm
    rw [e3]
    have hws := shV_sm (code := code) (k := k) hm
    rcases hw : shV code X V L k with ⟨wX, wV, wL, wk, wu⟩
    rw [hw] at o3 hws
    simp only [Option.bind_some]
    simp only at o3 hws
    rw [o3.ok, ok_tt, o3.sD, o3.sV, o3.sR, keq wX wV wL hws.1 hws.2.1 hws.2.2]
    simp only [Option.bind_some, Bool.not_true, cond_false, beqB_self]
    show ∃ D' R' S' N', ((c_w_toProg_deep ((C B0).run n) (D ++ D1 ++ D2 ++ D3) (R ++ R1 ++ R2 ++ R3) (S ++ S1 ++ S2 ++ S3) (N ++ N1 ++ N2 ++ N3) X V L).bind fun (r19_3_1, (r19_3b, (r19_3c, (r19_3d, (r19_3e, (r19_3f, (x_4, _))))))) => _) = _
    obtain ⟨D4, R4, S4, N4, e4, p4, -, -⟩ := kto (D ++ D1 ++ D2 ++ D3) (R ++ R1 ++ R2 ++ R3) (S ++ S1 ++ S2 ++ S3) (N ++ N1 ++ N2 ++ N3) X V L hm.1 hm.2.1 hm.2.2
    rw [e4]
    simp only [Option.bind_some]
    have p2' := (p2.app (D' := D3) (R' := R3) (S' := S3) (N' := N3)).app (D' := D4) (R' := R4) (S' := S4) (N' := N4)
    have o4 := o3.app (D' := D4) (R' := R4) (S' := S4) (N' := N4)
    rw [p2'.ok, p4.ok, ok_of (show (true && (true && true)) = true from rfl), p2'.sD, p2'.sV, p2'.sR, p4.sD, p4.sV, p4.sR, keq X V L hm.1 hm.2.1 hm.2.2]
    simp only [Option.bind_some, Bool.not_true, cond_false]
    obtain ⟨D5, R5, S5, N5, e5, -, f1, f2, f3, f4⟩ := kmp _ _ _ _ _ _ _ _ _ _ X V L p2' hm.1 hm.2.1 hm.2.2
    rw [e5]
    simp only [Option.bind_some]
    have hc : ¬ cntP X V L < 0 := by unfold cntP; omega
    have hdl := at_lt p2.hD
    have hrl := at_lt p2.hR
    have o5 := o4.frame (D' := D5) (R' := R5) (S' := S5) (N' := N5) (fun k hk => f1 k (by omega)) (fun k hk => f2 k (by omega)) (fun k hk => f3 k (by omega) (by omega)) (fun k hk => f4 k (by omega))
    rw [ilt_iff, decide_eq_false hc, cond_false, o5.ok, ok_tt, o5.sD, o5.sV, o5.sR, keq wX wV wL hws.1 hws.2.1 hws.2.2]
    simp only [Option.bind_some, Bool.not_true, cond_false, beqB_self]
    show ∃ D' R' S' N', ((c_w_markProg_deep ((C B0).run n) D5 R5 S5 N5 gd gv gr 1).bind fun (r21_2_1, (r21_2b, (r21_2c, (r21_2d, (r21_2e, _))))) => _) = _
    obtain ⟨D6, R6, S6, N6, e6, o6⟩ := kmo _ _ _ _ _ _ _ _ _ _ _ _ _ _ o5 hws
    rw [e6]
    simp only [Option.bind_some]
    rw [o6.ok, ok_tt, o6.sD, o6.sV, o6.sR, kh wX wV wL hws.1 hws.2.1 hws.2.2]
    simp only [Option.bind_some]
    have hc2 : ¬ cntP wX wV wL < 0 := by unfold cntP; omega
    rw [ilt_iff, decide_eq_false hc2, cond_false, int_ne_self, cond_false]
    obtain ⟨D7, R7, S7, N7, e7, p7, -, -⟩ := kto D6 R6 S6 N6 X V L hm.1 hm.2.1 hm.2.2
    rw [e7]
    simp only [Option.bind_some]
    obtain ⟨D8, R8, S8, N8, qd, qv, qr, e8, o8⟩ := ki _ _ _ _ _ _ _ _ _ _ X V L k p7 hm
    rw [e8]
    rw [hw] at o8 ⊢
    simp only [Option.bind_some]
    simp only at o8
    rw [o8.ok, ok_tt, o8.sD, o8.sV, o8.sR, keq wX wV wL hws.1 hws.2.1 hws.2.2]
    simp only [Option.bind_some, Bool.not_true, cond_false, beqB_self]
    have o9 := (o6.app (D' := D7) (R' := R7) (S' := S7) (N' := N7)).app (D' := D8) (R' := R8) (S' := S8) (N' := N8)
    refine ⟨D6 ++ D7 ++ D8, R6 ++ R7 ++ R8, S6 ++ S7 ++ S8, N6 ++ N7 ++ N8, ?_⟩
    have hfin : ∀ {Q : Type} (x : Option Q), (bif false then none else x) = x := fun _ => rfl
    show (ok ((((mok (D6 ++ D7 ++ D8) gd) && (List.all (mval (D6 ++ D7 ++ D8) gd) fun y_63 => ((mok (S6 ++ S7 ++ S8) y_63.2.1) && (((mok (N6 ++ N7 ++ N8) y_63.2.2.1.1) && true) && true)))) && ((mok (S6 ++ S7 ++ S8) gv) && (((mok (R6 ++ R7 ++ R8) gr) && (List.all (mval (R6 ++ R7 ++ R8) gr) fun y_64 => (((mok (N6 ++ N7 ++ N8) y_64.2.1.1) && true) && (((mok (N6 ++ N7 ++ N8) y_64.2.2.1.1) && true) && true)))) && true))) && true) <| _) = _
    rw [o9.ok, ok_tt, o9.sD, o9.sV, o9.sR, kh wX wV wL hws.1 hws.2.1 hws.2.2]
    simp only [Option.bind_some]
    rw [ilt_iff, decide_eq_false hc2, cond_false, int_ne_self, cond_false]
end Go.Px.Seat

/- What one comes to by uses: plain. -/
namespace Pt
inductive Reach (e : Nat → Nat → Prop) : Nat → Nat → Prop
  | one {i j : Nat} : e i j → Reach e i j
  | step {i k j : Nat} : e i k → Reach e k j → Reach e i j
section
variable {e : Nat → Nat → Prop}
theorem Reach.trans {i k j : Nat} (h : Reach e i k) (h' : Reach e k j) : Reach e i j := by
  induction h with
  | one h => exact .step h h'
  | step h _ ih => exact .step h (ih h')
theorem Reach.last {i k j : Nat} (h : Reach e i k) (h' : e k j) : Reach e i j := h.trans (.one h')
/-- The table after k rounds. -/
def tab (e : Nat → Nat → Prop) : Nat → Nat → Nat → Prop
  | 0, i, j => e i j
  | k + 1, i, j => tab e k i j ∨ (tab e k i k ∧ tab e k k j)
theorem tab_mono {k i j : Nat} (h : e i j) : tab e k i j := by
  induction k with
  | zero => exact h
  | succ k ih => exact .inl ih
theorem tab_sound : ∀ {k i j : Nat}, tab e k i j → Reach e i j
  | 0, _, _, h => .one h
  | k + 1, _, _, h => h.elim tab_sound fun h => (tab_sound h.1).trans (tab_sound h.2)
theorem tab_trans : ∀ {k c i j : Nat}, c < k → tab e k i c → tab e k c j → tab e k i j
  | 0, _, _, _, h, _, _ => absurd h (Nat.not_lt_zero _)
  | k + 1, c, i, j, hc, h, h' => by
    by_cases hk : c = k
    · subst hk
      refine .inr ⟨h.elim id And.left, h'.elim id And.right⟩
    · have hc : c < k := by omega
      rcases h with h | ⟨h1, h2⟩ <;> rcases h' with h' | ⟨h1', h2'⟩
      · exact .inl (tab_trans hc h h')
      · exact .inr ⟨tab_trans hc h h1', h2'⟩
      · exact .inr ⟨h1, tab_trans hc h2 h'⟩
      · exact .inr ⟨h1, h2'⟩
theorem tab_full {m : Nat} (hm : ∀ i j, e i j → j < m) {i j : Nat} (h : Reach e i j) : tab e m i j := by
  induction h with
  | one h => exact tab_mono h
  | step h _ ih => exact tab_trans (hm _ _ h) (tab_mono h) ih
theorem tab_iff {m : Nat} (hm : ∀ i j, e i j → j < m) {i j : Nat} : tab e m i j ↔ Reach e i j := ⟨tab_sound, tab_full hm⟩
/-- What is marked and closed has all that is reached. -/
theorem reach_closed {a : Nat} {M : Nat → Prop} (h0 : ∀ j, e a j → M j) (h1 : ∀ i, M i → ∀ j, e i j → M j) {j : Nat} (h : Reach e a j) : M j := by
  have : ∀ i j, Reach e i j → (∀ k, e i k → M k) → M j := by
    intro i j h
    induction h with
    | one h => exact fun hk => hk _ h
    | step h _ ih => exact fun hk => ih (h1 _ (hk _ h))
  exact this a j h h0
end
/-- how many are not marked -/
def unm (l : List Bool) : Nat := l.countP fun b => !b
theorem unm_set {l : List Bool} {k : Nat} (hk : k < l.length) (h : l.getD k false = false) : unm (l.set k true) + 1 = unm l := by
  induction l generalizing k with
  | nil => simp at hk
  | cons b l ih =>
    cases k with
    | zero =>
      simp only [List.getD_cons_zero] at h
      subst h
      simp [unm]
    | succ k =>
      simp only [List.getD_cons_succ] at h
      have := ih (by simpa using hk) h
      simp only [unm, List.set_cons_succ, List.countP_cons] at this ⊢
      omega
theorem unm_le (l : List Bool) : unm l ≤ l.length := List.countP_le_length ..
end Pt

/- Loops that look for something: plain. -/
namespace Pt
/-- The first place where p holds, or -1. -/
def idxI (p : Nat → Bool) (m : Nat) : Int := ((List.range m).findSome? fun i => if p i = true then some (i : Int) else none).getD (-1)
theorem fs_range {R : Type} {g : Nat → Option R} : ∀ m, (List.range (m + 1)).findSome? g = (g 0).or ((List.range m).findSome? fun i => g (i + 1)) := fun m => by
  rw [List.range_succ_eq_map, List.findSome?_cons, List.findSome?_map]
  cases g 0 <;> rfl
theorem fs_list {α R : Type} {f : α → Option R} {d : α} : ∀ l : List α, ((List.range l.length).findSome? fun i => f (l.getD i d)) = l.findSome? f
  | [] => rfl
  | x :: l => by
    rw [List.length_cons, fs_range, List.findSome?_cons]
    have := fs_list (f := f) (d := d) l
    simp only [List.getD_cons_succ, List.getD_cons_zero]
    rw [this]
    cases f x <;> rfl
theorem fs_all {α R : Type} {q : α → Bool} {r : R} : ∀ l : List α, l.findSome? (fun x => if q x = true then none else some r) = if l.all q = true then none else some r
  | [] => rfl
  | x :: l => by
    rw [List.findSome?_cons, fs_all l, List.all_cons]
    cases q x <;> simp
theorem fs_any {α R : Type} {q : α → Bool} {r : R} : ∀ l : List α, l.findSome? (fun x => if q x = true then some r else none) = if l.any q = true then some r else none
  | [] => rfl
  | x :: l => by
    rw [List.findSome?_cons, fs_any l, List.any_cons]
    cases q x <;> simp
theorem idxI_spec {p : Nat → Bool} {m : Nat} : (∃ i, i < m ∧ p i = true ∧ idxI p m = i) ∨ ((∀ i, i < m → p i = false) ∧ idxI p m = -1) := by
  unfold idxI
  cases h : (List.range m).findSome? fun i => if p i = true then some (i : Int) else none with
  | none =>
    refine .inr ⟨fun i hi => ?_, rfl⟩
    have := List.findSome?_eq_none_iff.1 h i (List.mem_range.2 hi)
    simpa using this
  | some r =>
    obtain ⟨i, hi, h2⟩ := List.exists_of_findSome?_eq_some h
    split at h2
    · next hp => exact .inl ⟨i, List.mem_range.1 hi, hp, by simpa using h2.symm⟩
    · cases h2
theorem idxI_any {p : Nat → Bool} {m : Nat} : decide (0 ≤ idxI p m) = (List.range m).any p := by
  rcases idxI_spec (p := p) (m := m) with ⟨i, hi, hp, h⟩ | ⟨hp, h⟩
  · rw [h, List.any_eq_true.2 ⟨i, List.mem_range.2 hi, hp⟩]
    exact decide_eq_true (by omega)
  · rw [h, List.any_eq_false.2 fun i hi => by rw [hp i (List.mem_range.1 hi)]; simp]
    rfl
theorem any_list {α : Type} {q : α → Bool} {d : α} (l : List α) : ((List.range l.length).any fun i => q (l.getD i d)) = l.any q := by
  rw [Bool.eq_iff_iff, List.any_eq_true, List.any_eq_true]
  constructor
  · rintro ⟨i, hi, h⟩
    have hi := List.mem_range.1 hi
    rw [List.getD_eq_getElem?_getD, List.getElem?_eq_getElem hi] at h
    exact ⟨_, List.getElem_mem hi, h⟩
  · rintro ⟨x, hx, h⟩
    obtain ⟨i, hi, rfl⟩ := List.mem_iff_getElem.1 hx
    refine ⟨i, List.mem_range.2 hi, ?_⟩
    rw [List.getD_eq_getElem?_getD, List.getElem?_eq_getElem hi]
    exact h
end Pt

/- Names, terms, what is well formed: both sides. Seat G. -/
namespace Go.Px.Seat
open Go Pm Pt
set_option linter.unusedVariables false
variable {B : Run}
theorem find_rule {P R : Type} {F : (P → Option R) → P → Option R} (st : Nat → P) (g : Nat → Option R) (K : Option R) {m n : Nat}
    (h1 : ∀ rec i, i < m → F rec (st i) = (g i).or (rec (st (i + 1)))) (h2 : ∀ rec, F rec (st m) = K) (hn : m < n) : iter F n (st 0) = ((List.range m).findSome? g).or K := by
  induction m generalizing st g n with
  | zero =>
    obtain ⟨k, rfl⟩ : ∃ k, n = k + 1 := ⟨n - 1, by omega⟩
    exact h2 _
  | succ m ih =>
    obtain ⟨k, rfl⟩ : ∃ k, n = k + 1 := ⟨n - 1, by omega⟩
    show F (iter F k) (st 0) = _
    rw [h1 _ 0 (by omega), fs_range, Option.or_assoc, ih (fun i => st (i + 1)) (fun i => g (i + 1)) (fun rec i hi => h1 rec (i + 1) (by omega)) h2 (by omega)]
theorem find_list {α P R : Type} {F : (P → Option R) → P → Option R} (st : Nat → P) (f : α → Option R) (l : List α) (d : α) (K : Option R) {n : Nat}
    (h1 : ∀ rec i, i < l.length → F rec (st i) = (f (l.getD i d)).or (rec (st (i + 1)))) (h2 : ∀ rec, F rec (st l.length) = K) (hn : l.length < n) : iter F n (st 0) = (l.findSome? f).or K := by
  rw [find_rule st (fun i => f (l.getD i d)) K h1 h2 hn, fs_list]
theorem or_some' {R : Type} {x : Option R} {a : R} : x.or (some a) = some (x.getD a) := by cases x <;> rfl
theorem seq_eq (a b : ByteArray) : seq a b = decide (a = b) := by
  rw [seq_chs]
  exact decide_eq_decide.2 ⟨chs_inj, congrArg chs⟩
def nmB (s : ByteArray) : Bool := nameOk (chs s)
def unN (x : Tn) : Nd := (x.1, x.2.1, chs x.2.2.1)
def tmB (l : List Tn) : Bool := termOk (l.map unN)
theorem enc_unN (l : List Tn) : (l.map unN).map encN = l := by
  rw [List.map_map]
  refine (List.map_congr_left fun x _ => ?_).trans (List.map_id l)
  show (x.1, (x.2.1, (bs (chs x.2.2.1), ()))) = x
  rw [bs_chs]
theorem nd_unN {l : List Tn} (h : SmN 1048576 l) : ND (l.map unN) := fun y hy => by
  obtain ⟨x, hx, rfl⟩ := List.mem_map.1 hy
  exact ⟨bl_chs _, by have := h.2 x hx; unfold unN; simp only; rw [chs_len]; omega⟩
theorem k_sTerm : Ev fun n => ∀ l : List Tn, SmN 1048576 l → c_s_TermOk ((C B0).run n) l = some (tmB l, ()) :=
  k_termOk.mono fun n k l hl => by
    have := k (l.map unN) (nd_unN hl)
    rwa [enc_unN] at this
theorem k_iTerm : Ev fun n => ∀ l : List Tn, SmN 1048576 l → c_i_TermOk ((C B0).run n) l = some (tmB l, ()) :=
  k_iTermOk.mono fun n k l hl => by
    have := k (l.map unN) (nd_unN hl) (by rw [List.length_map]; have := hl.1; omega)
    rwa [enc_unN] at this
theorem k_sName : Ev fun n => ∀ s : ByteArray, s.size ≤ 1048576 → c_s_LangNameOk ((C B0).run n) s = some (nmB s, ()) :=
  k_sNameOk.mono fun n k s hs => by
    have := k (chs s) (bl_chs s) (by rw [chs_len]; omega)
    rwa [bs_chs] at this
theorem k_iName : Ev fun n => ∀ s : ByteArray, s.size ≤ 1048576 → c_i_LangNameOk ((C B0).run n) s = some (nmB s, ()) :=
  k_NameOk.mono fun n k s hs => by
    have := k (chs s) (bl_chs s) (by rw [chs_len]; omega)
    rwa [bs_chs] at this
/-! lists of names -/
theorem fs_map {α R Q : Type} {g : α → Option R} {f : R → Q} : ∀ l : List α, l.findSome? (fun i => (g i).map f) = (l.findSome? g).map f
  | [] => rfl
  | x :: l => by
    rw [List.findSome?_cons, List.findSome?_cons, fs_map l]
    cases g x <;> rfl
theorem idx_unit {R : Type} {p : Nat → Bool} {m : Nat} {f : Int → R} : (((List.range m).findSome? fun i => if p i = true then some (f (i : Int)) else none).or (some (f (-1)))) = some (f (idxI p m)) := by
  rw [or_some']
  unfold idxI
  have : (fun i : Nat => if p i = true then some (f (i : Int)) else none) = fun i => (if p i = true then some (i : Int) else none).map f := by
    funext i
    cases p i <;> rfl
  rw [this, fs_map]
  cases (List.range m).findSome? fun i => if p i = true then some (i : Int) else none <;> rfl
theorem k_Index : Ev fun n => ∀ (l : List ByteArray) (s : ByteArray), l.length ≤ 4000000 → c_slices_Index_string_string ((C B).run n) l s = some (idxI (fun i => decide (s = l.getD i (bs []))) l.length, ()) := by
  refine Ev.triv.succ fun n hn _ l s hl => ?_
  rw [run_succB', e_slices_Index_string_string]
  unfold p_slices_Index_string_string
  rw [len_eq]
  refine (find_rule (fun i => (((i : Int), ((l.length : Int), (s, (l, (0, ()))))), ())) (fun i => if decide (s = l.getD i (bs [])) = true then some ((i : Int), ()) else none) (some (-1, ())) (m := l.length) ?_ ?_ (by omega)).trans ?_
  · intro rec i hi
    dsimp only
    rw [ilt_iff, decide_eq_true (by omega), cond_true, len_eq, ok_of (inB_true (by omega) (by omega)), Int.toNat_natCast, seq_eq, iadd_eq (by omega) (by omega)]
    cases decide (s = l.getD i (bs [])) <;> rfl
  · intro rec
    dsimp only
    rw [ilt_iff, decide_eq_false (by omega), cond_false]
  · exact idx_unit (f := fun x => (x, ()))
def memB (s : ByteArray) (l : List ByteArray) : Bool := l.any fun x => decide (s = x)
theorem any_mem {l : List ByteArray} {s : ByteArray} : (List.range l.length).any (fun i => decide (s = l.getD i (bs []))) = memB s l := any_list (q := fun x => decide (s = x)) l
theorem k_Contains : Ev fun n => ∀ (l : List ByteArray) (s : ByteArray), l.length ≤ 4000000 → c_slices_Contains_string_string ((C B).run n) l s = some (memB s l, ()) := by
  refine (k_Index (B := B)).succ fun n hn k l s hl => ?_
  rw [run_succB', e_slices_Contains_string_string]
  unfold p_slices_Contains_string_string
  rw [k l s hl]
  simp only [Option.bind_some]
  rw [ile_iff, idxI_any, any_mem]
theorem k_l12Find : Ev fun n => ∀ (l : List ByteArray) (s : ByteArray), l.length ≤ 4000000 → c_s_l12Find ((C B).run n) l s = some (idxI (fun i => decide (s = l.getD i (bs []))) l.length, ()) := by
  refine Ev.triv.succ fun n hn _ l s hl => ?_
  rw [run_succB', e_s_l12Find]
  unfold p_s_l12Find
  refine (find_rule (fun i => (((i : Int), (l, (s, (0, ())))), ())) (fun i => if decide (s = l.getD i (bs [])) = true then some ((i : Int), ()) else none) (some (-1, ())) (m := l.length) ?_ ?_ (by omega)).trans ?_
  · intro rec i hi
    dsimp only
    rw [len_eq, ilt_iff, decide_eq_true (by omega), cond_true, ok_of (inB_true (by omega) (by omega)), Int.toNat_natCast, seq_eq, iadd_eq (by omega) (by omega)]
    rw [show decide (l.getD i (bs []) = s) = decide (s = l.getD i (bs [])) from decide_eq_decide.2 eq_comm]
    cases decide (s = l.getD i (bs [])) <;> rfl
  · intro rec
    dsimp only
    rw [len_eq, ilt_iff, decide_eq_false (by omega), cond_false]
  · exact idx_unit (f := fun x => (x, ()))
/-- slices.IndexFunc: the same loop for each function handed over -/
theorem indexFunc {α : Type} {l : List α} {d : α} {g : α → Option (Bool × Unit)} {p : α → Bool} {n : Nat} (hl : l.length ≤ 4000000) (hn : 1152921504606846976 ≤ n) (hg : ∀ x ∈ l, g x = some (p x, ())) :
    iter (P := (Int × Int × Unit × List α × Int × Unit) × Unit) (fun rec ((t8, (t7, (_, (s0, (t4, _))))), _) =>
      bif (ilt t8 t7) then
        ok (inB t8 (len s0)) <|
        (g (List.getD s0 (Int.toNat t8) d)).bind fun (r100_1, _) =>
        bif r100_1 then
          some (t8, ())
        else
        rec (((iadd .i64 t8 1), (t7, ((), (s0, (t4, ()))))), ())
      else
      some ((-1), ())) n ((0, ((len l), ((), (l, (0, ()))))), ()) = some (idxI (fun i => p (l.getD i d)) l.length, ()) := by
  rw [len_eq]
  refine (find_rule (fun i => (((i : Int), ((l.length : Int), ((), (l, (0, ()))))), ())) (fun i => if p (l.getD i d) = true then some ((i : Int), ()) else none) (some (-1, ())) (m := l.length) ?_ ?_ (by omega)).trans (idx_unit (f := fun x => (x, ())))
  · intro rec i hi
    dsimp only
    rw [ilt_iff, decide_eq_true (by omega), cond_true, len_eq, ok_of (inB_true (by omega) (by omega)), Int.toNat_natCast, hg _ (getD_mem hi)]
    simp only [Option.bind_some]
    rw [iadd_eq (by omega) (by omega)]
    cases p (l.getD i d) <;> rfl
  · intro rec
    dsimp only
    rw [ilt_iff, decide_eq_false (by omega), cond_false]
theorem ile_idx {α : Type} {l : List α} {d : α} {p : α → Bool} : ile 0 (idxI (fun i => p (l.getD i d)) l.length) = l.any p := by
  rw [ile_iff, idxI_any, any_list]
theorem k_badName1 : Ev fun n => ∀ l : List ByteArray, SmL 1048576 l → c_slices_ContainsFunc_string_string_i_Prog_formed_1 ((C B0).run n) l = some (l.any fun s => !nmB s, ()) := by
  have h0 : Ev fun n => ∀ s : ByteArray, s.size ≤ 1048576 → c_i_Prog_formed_1 ((C B0).run n) s = some (!nmB s, ()) := by
    refine k_iName.succ fun n hn k s hs => ?_
    rw [run_succB', e_i_Prog_formed_1]
    unfold p_i_Prog_formed_1
    rw [k s hs]; rfl
  have h1 : Ev fun n => ∀ l : List ByteArray, SmL 1048576 l → c_slices_IndexFunc_string_string_i_Prog_formed_1 ((C B0).run n) l = some (idxI (fun i => !nmB (l.getD i (bs []))) l.length, ()) := by
    refine h0.succ fun n hn k l hl => ?_
    rw [run_succB', e_slices_IndexFunc_string_string_i_Prog_formed_1]
    exact indexFunc (g := fun s => c_i_Prog_formed_1 ((C B0).run n) s) (p := fun s => !nmB s) (by have := hl.1; omega) hn fun x hx => k x (hl.2 x hx)
  refine h1.succ fun n hn k l hl => ?_
  rw [run_succB', e_slices_ContainsFunc_string_string_i_Prog_formed_1]
  unfold p_slices_ContainsFunc_string_string_i_Prog_formed_1
  rw [k l hl]
  simp only [Option.bind_some]
  rw [ile_idx (p := fun s => !nmB s)]
theorem k_badName2 : Ev fun n => ∀ l : List ByteArray, SmL 1048576 l → c_slices_ContainsFunc_string_string_i_Prog_formed_2 ((C B0).run n) l = some (l.any fun s => !nmB s, ()) := by
  have h0 : Ev fun n => ∀ s : ByteArray, s.size ≤ 1048576 → c_i_Prog_formed_2 ((C B0).run n) s = some (!nmB s, ()) := by
    refine k_iName.succ fun n hn k s hs => ?_
    rw [run_succB', e_i_Prog_formed_2]
    unfold p_i_Prog_formed_2
    rw [k s hs]; rfl
  have h1 : Ev fun n => ∀ l : List ByteArray, SmL 1048576 l → c_slices_IndexFunc_string_string_i_Prog_formed_2 ((C B0).run n) l = some (idxI (fun i => !nmB (l.getD i (bs []))) l.length, ()) := by
    refine h0.succ fun n hn k l hl => ?_
    rw [run_succB', e_slices_IndexFunc_string_string_i_Prog_formed_2]
    exact indexFunc (g := fun s => c_i_Prog_formed_2 ((C B0).run n) s) (p := fun s => !nmB s) (by have := hl.1; omega) hn fun x hx => k x (hl.2 x hx)
  refine h1.succ fun n hn k l hl => ?_
  rw [run_succB', e_slices_ContainsFunc_string_string_i_Prog_formed_2]
  unfold p_slices_ContainsFunc_string_string_i_Prog_formed_2
  rw [k l hl]
  simp only [Option.bind_some]
  rw [ile_idx (p := fun s => !nmB s)]
theorem k_sNames : Ev fun n => ∀ l : List ByteArray, SmL 1048576 l → c_s_l13Names ((C B0).run n) l = some (l.all nmB, ()) := by
  refine k_sName.succ fun n hn k l hl => ?_
  have hl1 := hl.1
  rw [run_succB', e_s_l13Names]
  unfold p_s_l13Names
  refine (find_list (fun i => (((i : Int), (l, (false, ()))), ())) (fun s => if nmB s = true then none else some (false, ())) l (bs []) (some (true, ())) ?_ ?_ (by omega)).trans ?_
  · intro rec i hi
    dsimp only
    rw [len_eq, ilt_iff, decide_eq_true (by omega), cond_true, ok_of (inB_true (by omega) (by omega)), Int.toNat_natCast, k _ (hl.2 _ (getD_mem hi))]
    simp only [Option.bind_some]
    rw [iadd_eq (by omega) (by omega)]
    cases nmB (l.getD i (bs [])) <;> rfl
  · intro rec
    dsimp only
    rw [len_eq, ilt_iff, decide_eq_false (by omega), cond_false]
  · rw [fs_all]
    cases l.all nmB <;> rfl
def kdB (k : Int) : Bool := decide (1 ≤ k) && decide (k ≤ 3)
theorem k_sKind : Ev fun n => ∀ k : Int, c_s_l13Kind ((C B).run n) k = some (kdB k, ()) := by
  refine Ev.triv.succ fun n hn _ k => ?_
  rw [run_succB', e_s_l13Kind]
  unfold p_s_l13Kind kdB
  by_cases h1 : k = 1
  · subst h1; rfl
  · by_cases h2 : k = 2
    · subst h2; rfl
    · by_cases h3 : k = 3
      · subst h3; rfl
      · have e1 : (k == 1) = false := by simpa using h1
        have e2 : (k == 2) = false := by simpa using h2
        have e3 : (k == 3) = false := by simpa using h3
        rw [e1, e2, e3]
        have : (decide (1 ≤ k) && decide (k ≤ 3)) = false := by
          rw [Bool.and_eq_false_iff, decide_eq_false_iff_not, decide_eq_false_iff_not]; omega
        rw [this]
        rfl
/-! what is well formed -/
def fmD (d : Df) : Bool := tmB d.2.2.1.1 && (nmB d.1 && d.2.1.all nmB)
def fmR (r : Rl) : Bool := kdB r.1 && (tmB r.2.1.1 && tmB r.2.2.1.1)
def fm (X : List Df) (V : List ByteArray) (L : List Rl) : Bool := X.all fmD && (L.all fmR && V.all nmB)
theorem any_not (l : List ByteArray) : (l.any fun s => !nmB s) = !(l.all nmB) := by
  induction l with
  | nil => rfl
  | cons x l ih => rw [List.any_cons, ih, List.all_cons, Bool.not_and]
theorem fm_or {X : List Df} {V : List ByteArray} {L : List Rl} : (X.findSome? fun d => if fmD d = true then none else some (false, ())).or ((L.findSome? fun r => if fmR r = true then none else some (false, ())).or (some (V.all nmB, ()))) = some (fm X V L, ()) := by
  rw [fs_all, fs_all]
  unfold fm
  cases X.all fmD <;> cases L.all fmR <;> cases V.all nmB <;> rfl
theorem k_iFormed : Ev fun n => ∀ X V L, Sm X V L → c_i_Prog_formed ((C B0).run n) X V L = some (fm X V L, ()) := by
  refine ((k_iTerm.and k_iName).and ((k_badName1.and k_badName2).and (k_inB (B := B0)))).succ fun n hn ⟨⟨kt, kn⟩, ⟨kb, kc⟩, ki⟩ X V L ⟨hX, hV, hL⟩ => ?_
  have hX1 := hX.1
  have hV1 := hV.1
  have hL1 := hL.1
  rw [run_succB', e_i_Prog_formed]
  unfold p_i_Prog_formed
  rw [← fm_or, len_eq]
  refine find_list (fun i => (((i : Int), ((X.length : Int), (X, ((), (false, ()))))), ((X, (V, (L, ()))), ()))) (fun d => if fmD d = true then none else some (false, ())) X dDf _ ?_ ?_ (by omega)
  · intro rec i hi
    have hd := hX.2 _ (getD_mem (d := dDf) hi)
    dsimp only
    rw [len_eq, ilt_iff, decide_eq_true (by omega), cond_true, ok_of (inB_true (by omega) (by omega)), Int.toNat_natCast, kt _ hd.2.2, kn _ hd.1, kb _ hd.2.1]
    simp only [Option.bind_some]
    have e : iadd .i64 (i : Int) 1 = ((i + 1 : Nat) : Int) := iadd_eq (by omega) (by omega)
    rw [any_not]
    unfold fmD
    cases tmB (X.getD i dDf).2.2.1.1 <;> cases nmB (X.getD i dDf).1 <;> cases (X.getD i dDf).2.1.all nmB <;> first | rfl | (show rec (((iadd .i64 (i : Int) 1), _), _) = _; rw [e]; rfl)
  · intro rec
    dsimp only
    rw [ilt_iff, decide_eq_false (by omega), cond_false, len_eq]
    refine find_list (fun i => (((i : Int), ((L.length : Int), (L, ((), (false, ()))))), ((X, (V, (L, ()))), ()))) (fun r => if fmR r = true then none else some (false, ())) L dRl _ ?_ ?_ (by omega)
    · intro rec i hi
      have hd := hL.2 _ (getD_mem (d := dRl) hi)
      dsimp only
      rw [len_eq, ilt_iff, decide_eq_true (by omega), cond_true, ok_of (inB_true (by omega) (by omega)), Int.toNat_natCast, kt _ hd.1, kt _ hd.2, ki]
      simp only [Option.bind_some]
      have e : iadd .i64 (i : Int) 1 = ((i + 1 : Nat) : Int) := iadd_eq (by omega) (by omega)
      unfold fmR kdB
      cases tmB (L.getD i dRl).2.1.1 <;> cases tmB (L.getD i dRl).2.2.1.1 <;> cases (decide (1 ≤ (L.getD i dRl).1) && decide ((L.getD i dRl).1 ≤ 3)) <;> first | rfl | (show rec (((iadd .i64 (i : Int) 1), _), _) = _; rw [e]; rfl)
    · intro rec
      dsimp only
      rw [ilt_iff, decide_eq_false (by omega), cond_false, kc _ hV]
      simp only [Option.bind_some]
      rw [any_not, Bool.not_not]
theorem k_sFormed : Ev fun n => ∀ X V L, Sm X V L → c_s_l13Formed ((C B0).run n) X V L = some (fm X V L, ()) := by
  refine ((k_sTerm.and k_sName).and (k_sNames.and (k_sKind (B := B0)))).succ fun n hn ⟨⟨kt, kn⟩, kb, ki⟩ X V L ⟨hX, hV, hL⟩ => ?_
  have hX1 := hX.1
  have hV1 := hV.1
  have hL1 := hL.1
  rw [run_succB', e_s_l13Formed]
  unfold p_s_l13Formed
  rw [← fm_or]
  refine find_list (fun i => (((i : Int), ((), (false, ()))), ((X, (V, (L, ()))), ()))) (fun d => if fmD d = true then none else some (false, ())) X dDf _ ?_ ?_ (by omega)
  · intro rec i hi
    have hd := hX.2 _ (getD_mem (d := dDf) hi)
    dsimp only
    rw [len_eq, ilt_iff, decide_eq_true (by omega), cond_true, ok_of (inB_true (by omega) (by omega)), ok_of (inB_true (by omega) (by omega)), ok_of (inB_true (by omega) (by omega)), Int.toNat_natCast, kt _ hd.2.2, kn _ hd.1, kb _ hd.2.1]
    simp only [Option.bind_some]
    have e : iadd .i64 (i : Int) 1 = ((i + 1 : Nat) : Int) := iadd_eq (by omega) (by omega)
    unfold fmD
    cases tmB (X.getD i dDf).2.2.1.1 <;> cases nmB (X.getD i dDf).1 <;> cases (X.getD i dDf).2.1.all nmB <;> first | rfl | (show rec (((iadd .i64 (i : Int) 1), _), _) = _; rw [e]; rfl)
  · intro rec
    dsimp only
    rw [len_eq, ilt_iff, decide_eq_false (by omega), cond_false]
    refine find_list (fun i => (((i : Int), ((), (false, ()))), ((X, (V, (L, ()))), ()))) (fun r => if fmR r = true then none else some (false, ())) L dRl _ ?_ ?_ (by omega)
    · intro rec i hi
      have hd := hL.2 _ (getD_mem (d := dRl) hi)
      dsimp only
      rw [len_eq, ilt_iff, decide_eq_true (by omega), cond_true, ok_of (inB_true (by omega) (by omega)), Int.toNat_natCast, kt _ hd.1, kt _ hd.2, ki]
      simp only [Option.bind_some]
      have e : iadd .i64 (i : Int) 1 = ((i + 1 : Nat) : Int) := iadd_eq (by omega) (by omega)
      have hin : inB (i : Int) (L.length : Int) = true := inB_true (by omega) (by omega)
      simp only [hin]
      unfold fmR
      cases tmB (L.getD i dRl).2.1.1 <;> cases tmB (L.getD i dRl).2.2.1.1 <;> cases kdB (L.getD i dRl).1 <;> first | rfl | (show rec (((iadd .i64 (i : Int) 1), _), _) = _; rw [e]; rfl)
    · intro rec
      dsimp only
      rw [len_eq, ilt_iff, decide_eq_false (by omega), cond_false, kb _ hV]
      simp only [Option.bind_some]
end Go.Px.Seat
