/- Own texts, part M5: PvI PvJ PvK PvL PvM. -/
import Derived.Test.YtmmggkldldbomaaGreatDoorM4
set_option linter.unusedVariables false

/- Codes of definitions and relations: both sides. Seat G. -/
namespace Go.Px.Seat
open Go Pm Pt
set_option linter.unusedVariables false
variable {B : Run}
theorem find_rule0 {P R : Type} {F : (P → Option R) → P → Option R} (st : Nat → P) (g : Nat → Option R) (K : Option R) {m n : Nat} {p0 : P} (h0 : p0 = st 0)
    (h1 : ∀ rec i, i < m → F rec (st i) = (g i).or (rec (st (i + 1)))) (h2 : ∀ rec, F rec (st m) = K) (hn : m < n) : iter F n p0 = ((List.range m).findSome? g).or K := by
  rw [h0]; exact find_rule st g K h1 h2 hn
theorem take_snoc {α : Type} {l : List α} {i : Nat} {d : α} (h : i < l.length) : l.take (i + 1) = l.take i ++ [l.getD i d] := by
  rw [List.take_add_one, List.getElem?_eq_getElem h, List.getD_eq_getElem?_getD, List.getElem?_eq_getElem h]
  rfl
def dAt (X : List Df) (s : ByteArray) : Int := idxI (fun i => decide ((X.getD i dDf).1 = s)) X.length
theorem dAt_lt {X : List Df} {s : ByteArray} : (∃ i : Nat, i < X.length ∧ (X.getD i dDf).1 = s ∧ dAt X s = i) ∨ dAt X s = -1 := by
  unfold dAt
  rcases idxI_spec (p := fun i => decide ((X.getD i dDf).1 = s)) (m := X.length) with ⟨i, h1, h2, h3⟩ | ⟨_, h⟩
  · exact .inl ⟨i, h1, of_decide_eq_true h2, h3⟩
  · exact .inr h
theorem k_defAt : Ev fun n => ∀ (X : List Df) (V : List ByteArray) (L : List Rl) (s : ByteArray), X.length ≤ 4000000 → c_i_Prog_defAt ((C B).run n) X V L s = some (dAt X s, ()) := by
  have h0 : Ev fun n => ∀ (a : ByteArray) (b : List ByteArray) (c : List Tn) (s : ByteArray), c_i_Prog_defAt_1 ((C B).run n) a b c s = some (decide (a = s), (s, ())) := by
    refine Ev.triv.succ fun n hn _ a b c s => ?_
    rw [run_succB', e_i_Prog_defAt_1]
    unfold p_i_Prog_defAt_1
    rw [seq_eq]
  have h1 : Ev fun n => ∀ (X : List Df) (s : ByteArray), X.length ≤ 4000000 → c_slices_IndexFunc_impl_ProgDef_impl_ProgDef_i_Prog_defAt_1 ((C B).run n) X s = some (dAt X s, (s, ())) := by
    refine h0.succ fun n hn k X s hX => ?_
    rw [run_succB', e_slices_IndexFunc_impl_ProgDef_impl_ProgDef_i_Prog_defAt_1]
    unfold p_slices_IndexFunc_impl_ProgDef_impl_ProgDef_i_Prog_defAt_1
    rw [len_eq]
    refine (find_rule (fun i => (((i : Int), ((X.length : Int), ((), (X, (0, ()))))), ((s, ()), ()))) (fun i => if decide ((X.getD i dDf).1 = s) = true then some ((i : Int), (s, ())) else none) (some (-1, (s, ()))) (m := X.length) ?_ ?_ (by omega)).trans (idx_unit (f := fun x => (x, (s, ()))))
    · intro rec i hi
      dsimp only
      rw [ilt_iff, decide_eq_true (by omega), cond_true, len_eq, ok_of (inB_true (by omega) (by omega)), Int.toNat_natCast, k]
      simp only [Option.bind_some]
      rw [iadd_eq (by omega) (by omega)]
      cases decide ((X.getD i dDf).1 = s) <;> rfl
    · intro rec
      dsimp only
      rw [ilt_iff, decide_eq_false (by omega), cond_false]
  refine h1.succ fun n hn k X V L s hX => ?_
  rw [run_succB', e_i_Prog_defAt]
  unfold p_i_Prog_defAt
  rw [k X s hX]
  rfl
theorem k_l13Def : Ev fun n => ∀ (X : List Df) (V : List ByteArray) (L : List Rl) (s : ByteArray), X.length ≤ 4000000 → c_s_l13Def ((C B).run n) X V L s = some (dAt X s, ()) := by
  refine Ev.triv.succ fun n hn _ X V L s hX => ?_
  rw [run_succB', e_s_l13Def]
  unfold p_s_l13Def
  refine (find_rule (fun i => (((i : Int), ((), (s, (0, ())))), ((X, (V, (L, ()))), ()))) (fun i => if decide ((X.getD i dDf).1 = s) = true then some ((i : Int), ()) else none) (some (-1, ())) (m := X.length) ?_ ?_ (by omega)).trans (idx_unit (f := fun x => (x, ())))
  · intro rec i hi
    dsimp only
    rw [len_eq, ilt_iff, decide_eq_true (by omega), cond_true, ok_of (inB_true (by omega) (by omega)), Int.toNat_natCast, seq_eq, iadd_eq (by omega) (by omega)]
    cases decide ((X.getD i dDf).1 = s) <;> rfl
  · intro rec
    dsimp only
    rw [len_eq, ilt_iff, decide_eq_false (by omega), cond_false]
/-! names twice -/
def dupB (l : List ByteArray) : Bool := (List.range l.length).any fun i => memB (l.getD i (bs [])) (l.take i)
theorem take0 {α : Type} (l : List α) (i : Nat) : List.drop (Int.toNat 0) (List.take i l) = l.take i := rfl
theorem k_twice : Ev fun n => ∀ l : List ByteArray, l.length ≤ 4000000 → c_i_twice ((C B).run n) l = some (dupB l, ()) := by
  refine (k_Contains (B := B)).succ fun n hn k l hl => ?_
  rw [run_succB', e_i_twice]
  unfold p_i_twice
  rw [len_eq]
  refine (find_rule (fun i => (((i : Int), ((l.length : Int), (l, (l, (false, ()))))), ())) (fun i => if memB (l.getD i (bs [])) (l.take i) = true then some (true, ()) else none) (some (false, ())) (m := l.length) ?_ ?_ (by omega)).trans ?_
  · intro rec i hi
    dsimp only
    rw [ilt_iff, decide_eq_true (by omega), cond_true, len_eq, ok_of (inB_true (by omega) (by omega)), ok_of (sliceOk_true (by omega) (by omega) (by omega)), Int.toNat_natCast, take0, k _ _ (by rw [List.length_take]; omega)]
    simp only [Option.bind_some]
    rw [iadd_eq (by omega) (by omega)]
    cases memB (l.getD i (bs [])) (l.take i) <;> rfl
  · intro rec
    dsimp only
    rw [ilt_iff, decide_eq_false (by omega), cond_false]
  · rw [fs_any]
    unfold dupB
    cases (List.range l.length).any fun i => memB (l.getD i (bs [])) (l.take i) <;> rfl
theorem k_distinct : Ev fun n => ∀ l : List ByteArray, l.length ≤ 4000000 → (∀ x ∈ l, x.size ≤ 1048576 ∧ nmB x = true) → c_s_l13Distinct ((C B0).run n) l = some (!dupB l, ()) := by
  refine ((k_l12Find (B := B0)).and k_sName).succ fun n hn ⟨kf, kn⟩ l hl hx => ?_
  rw [run_succB', e_s_l13Distinct]
  unfold p_s_l13Distinct
  refine (find_rule (fun i => (((i : Int), (l, (false, ()))), ())) (fun i => if memB (l.getD i (bs [])) (l.take i) = true then some (false, ()) else none) (some (true, ())) (m := l.length) ?_ ?_ (by omega)).trans ?_
  · intro rec i hi
    have hxi := hx _ (getD_mem (d := bs []) hi)
    have hin : inB (i : Int) (l.length : Int) = true := inB_true (by omega) (by omega)
    have e : iadd .i64 (i : Int) 1 = ((i + 1 : Nat) : Int) := iadd_eq (by omega) (by omega)
    dsimp only
    rw [len_eq, ilt_iff, decide_eq_true (by omega), cond_true, ok_of hin, Int.toNat_natCast, kn _ hxi.1, hxi.2]
    simp only [Option.bind_some]
    rw [Bool.not_true, cond_false, ok_of (sliceOk_true (by omega) (by omega) (by omega)), ok_of hin, take0, kf _ _ (by rw [List.length_take]; omega)]
    simp only [Option.bind_some]
    rw [ile_iff, idxI_any, any_mem]
    cases memB (l.getD i (bs [])) (l.take i)
    · show rec (((iadd .i64 (i : Int) 1), _), _) = _
      rw [e]; rfl
    · rfl
  · intro rec
    dsimp only
    rw [len_eq, ilt_iff, decide_eq_false (by omega), cond_false]
  · rw [fs_any]
    unfold dupB
    cases (List.range l.length).any fun i => memB (l.getD i (bs [])) (l.take i) <;> rfl
/-! too many; again -/
def p6 (d : Df) : Bool := decide (6 < d.2.1.length)
def mnB (X : List Df) (V : List ByteArray) (L : List Rl) : Bool := decide (12 < X.length) || (decide (6 < V.length) || (decide (12 < L.length) || X.any p6))
def dp (d : Df) : Bool := dupB d.2.1
def nms (X : List Df) (V : List ByteArray) : List ByteArray := X.map (fun d => d.1) ++ V
def agB (X : List Df) (V : List ByteArray) : Bool := dupB (nms X V) || X.any dp
theorem k_many : Ev fun n => ∀ X V L, Sm X V L → c_i_Prog_many ((C B).run n) X V L = some (mnB X V L, ()) := by
  have h0 : Ev fun n => ∀ d : Df, c_i_Prog_many_1 ((C B).run n) d.1 d.2.1 d.2.2.1.1 = some (p6 d, ()) := by
    refine Ev.triv.succ fun n hn _ d => ?_
    rw [run_succB', e_i_Prog_many_1]
    unfold p_i_Prog_many_1 p6
    rw [len_eq, ilt_iff]
    exact congrArg (fun x => some (x, ())) (decide_eq_decide.2 (by omega))
  have h1 : Ev fun n => ∀ X : List Df, SmDs 1048576 X → c_slices_IndexFunc_impl_ProgDef_impl_ProgDef_i_Prog_many_1 ((C B).run n) X = some (idxI (fun i => p6 (X.getD i dDf)) X.length, ()) := by
    refine h0.succ fun n hn k X hX => ?_
    rw [run_succB', e_slices_IndexFunc_impl_ProgDef_impl_ProgDef_i_Prog_many_1]
    exact indexFunc (g := fun d : Df => c_i_Prog_many_1 ((C B).run n) d.1 d.2.1 d.2.2.1.1) (p := p6) (by have := hX.1; omega) hn fun x _ => k x
  have h2 : Ev fun n => ∀ X : List Df, SmDs 1048576 X → c_slices_ContainsFunc_impl_ProgDef_impl_ProgDef_i_Prog_many_1 ((C B).run n) X = some (X.any p6, ()) := by
    refine h1.succ fun n hn k X hX => ?_
    rw [run_succB', e_slices_ContainsFunc_impl_ProgDef_impl_ProgDef_i_Prog_many_1]
    unfold p_slices_ContainsFunc_impl_ProgDef_impl_ProgDef_i_Prog_many_1
    rw [k X hX]
    simp only [Option.bind_some]
    rw [ile_idx]
  refine h2.succ fun n hn k X V L h => ?_
  rw [run_succB', e_i_Prog_many]
  unfold p_i_Prog_many mnB
  rw [k X h.1, len_eq, len_eq, len_eq, ilt_iff, ilt_iff, ilt_iff, show decide ((12 : Int) < X.length) = decide (12 < X.length) from decide_eq_decide.2 (by omega), show decide ((6 : Int) < V.length) = decide (6 < V.length) from decide_eq_decide.2 (by omega), show decide ((12 : Int) < L.length) = decide (12 < L.length) from decide_eq_decide.2 (by omega)]
  cases decide (12 < X.length) <;> cases decide (6 < V.length) <;> cases decide (12 < L.length) <;> rfl
theorem k_namesOf : Ev fun n => ∀ X V L, Sm X V L → c_i_Prog_namesOf ((C B).run n) X V L = some (nms X V, ()) := by
  refine Ev.triv.succ fun n hn _ X V L ⟨hX, hV, _⟩ => ?_
  have hX1 := hX.1
  have hV1 := hV.1
  rw [run_succB', e_i_Prog_namesOf]
  unfold p_i_Prog_namesOf nms
  rw [len_eq]
  refine (find_rule (fun i => (((i : Int), ((X.length : Int), (X, ((), ((), ((), ())))))), ((X.take i).map (fun d => d.1), ((X, (V, (L, ()))), ())))) (fun _ => none) (some (X.map (fun d => d.1) ++ V, ())) (m := X.length) ?_ ?_ (by omega)).trans ?_
  · intro rec i hi
    have ht : (X.take i).map (fun d => d.1) ++ [(X.getD i dDf).1] = (X.take (i + 1)).map (fun d => d.1) := by
      rw [take_snoc (d := dDf) hi, List.map_append]; rfl
    dsimp only
    rw [ilt_iff, decide_eq_true (by omega), cond_true, len_eq, ok_of (inB_true (by omega) (by omega)), Int.toNat_natCast, ht, ok_of (aok_true (by rw [List.length_map, List.length_take]; omega)), iadd_eq (by omega) (by omega)]
    rfl
  · intro rec
    dsimp only
    rw [ilt_iff, decide_eq_false (by omega), cond_false, List.take_length, ok_of (aok_true (by rw [List.length_append, List.length_map]; omega))]
  · have : (List.range X.length).findSome? (fun _ => (none : Option (List ByteArray × Unit))) = none := by simp
    rw [this]
    rfl
theorem nms_len {X : List Df} {V : List ByteArray} : (nms X V).length = X.length + V.length := by simp [nms]
theorem k_again : Ev fun n => ∀ X V L, Sm X V L → c_i_Prog_again ((C B).run n) X V L = some (agB X V, ()) := by
  have h0 : Ev fun n => ∀ d : Df, SmD 1048576 d → c_i_Prog_again_1 ((C B).run n) d.1 d.2.1 d.2.2.1.1 = some (dp d, ()) := by
    refine (k_twice (B := B)).succ fun n hn k d hd => ?_
    rw [run_succB', e_i_Prog_again_1]
    unfold p_i_Prog_again_1 dp
    rw [k _ (by have := hd.2.1.1; omega)]
    rfl
  have h1 : Ev fun n => ∀ X : List Df, SmDs 1048576 X → c_slices_IndexFunc_impl_ProgDef_impl_ProgDef_i_Prog_again_1 ((C B).run n) X = some (idxI (fun i => dp (X.getD i dDf)) X.length, ()) := by
    refine h0.succ fun n hn k X hX => ?_
    rw [run_succB', e_slices_IndexFunc_impl_ProgDef_impl_ProgDef_i_Prog_again_1]
    exact indexFunc (g := fun d : Df => c_i_Prog_again_1 ((C B).run n) d.1 d.2.1 d.2.2.1.1) (p := dp) (by have := hX.1; omega) hn fun x hx => k x (hX.2 x hx)
  have h2 : Ev fun n => ∀ X : List Df, SmDs 1048576 X → c_slices_ContainsFunc_impl_ProgDef_impl_ProgDef_i_Prog_again_1 ((C B).run n) X = some (X.any dp, ()) := by
    refine h1.succ fun n hn k X hX => ?_
    rw [run_succB', e_slices_ContainsFunc_impl_ProgDef_impl_ProgDef_i_Prog_again_1]
    unfold p_slices_ContainsFunc_impl_ProgDef_impl_ProgDef_i_Prog_again_1
    rw [k X hX]
    simp only [Option.bind_some]
    rw [ile_idx]
  refine (h2.and ((k_namesOf (B := B)).and (k_twice (B := B)))).succ fun n hn ⟨k, k1, k2⟩ X V L h => ?_
  have hX1 := h.1.1
  have hV1 := h.2.1.1
  rw [run_succB', e_i_Prog_again]
  unfold p_i_Prog_again agB
  rw [k1 X V L h]
  simp only [Option.bind_some]
  rw [k2 _ (by rw [nms_len]; omega), k X h.1]
  cases dupB (nms X V) <;> rfl
def shp (X : List Df) (V : List ByteArray) (L : List Rl) : Int := bif !(fm X V L) then 4 else bif mnB X V L then 5 else bif agB X V then 6 else 0
theorem fm_of {X : List Df} {V : List ByteArray} {L : List Rl} (h : fm X V L = true) : (∀ d ∈ X, nmB d.1 = true ∧ ∀ s ∈ d.2.1, nmB s = true) ∧ ∀ s ∈ V, nmB s = true := by
  unfold fm fmD at h
  simp only [Bool.and_eq_true, List.all_eq_true] at h
  exact ⟨fun d hd => ⟨(h.1 d hd).2.1, (h.1 d hd).2.2⟩, h.2.2⟩
theorem k_shape : Ev fun n => ∀ X V L, Sm X V L → c_s_l13Shape ((C B0).run n) X V L = some (shp X V L, ()) := by
  refine (k_sFormed.and k_distinct).succ fun n hn ⟨kf, kd⟩ X V L h => ?_
  have hX1 := h.1.1
  have hV1 := h.2.1.1
  rw [run_succB', e_s_l13Shape]
  unfold p_s_l13Shape shp
  rw [kf X V L h]
  simp only [Option.bind_some]
  cases hf : fm X V L with
  | false => rfl
  | true =>
    obtain ⟨f1, f2⟩ := fm_of hf
    rw [Bool.not_true, cond_false, cond_false, len_eq, len_eq, len_eq, ilt_iff, ilt_iff, ilt_iff, show decide ((12 : Int) < X.length) = decide (12 < X.length) from decide_eq_decide.2 (by omega), show decide ((6 : Int) < V.length) = decide (6 < V.length) from decide_eq_decide.2 (by omega), show decide ((12 : Int) < L.length) = decide (12 < L.length) from decide_eq_decide.2 (by omega)]
    unfold mnB
    cases decide (12 < X.length)
    case true => rfl
    cases decide (6 < V.length)
    case true => rfl
    cases decide (12 < L.length)
    case true => rfl
    simp only [cond_false, jb_inr, Bool.false_or]
    refine (find_list (fun i => (((i : Int), ((), ((), (0, ())))), ((X, (V, (L, ()))), ((X.take i).map (fun d => d.1), ())))) (fun d => if p6 d = true then some (5, ()) else none) X dDf (some ((bif agB X V then 6 else 0), ())) ?_ ?_ (by omega)).trans ?_
    · intro rec i hi
      have ht : (X.take i).map (fun d => d.1) ++ [(X.getD i dDf).1] = (X.take (i + 1)).map (fun d => d.1) := by
        rw [take_snoc (d := dDf) hi, List.map_append]; rfl
      dsimp only
      rw [len_eq, ilt_iff, decide_eq_true (by omega), cond_true, ok_of (inB_true (by omega) (by omega)), Int.toNat_natCast, len_eq, ilt_iff, show decide ((6 : Int) < (X.getD i dDf).2.1.length) = p6 (X.getD i dDf) from decide_eq_decide.2 (by omega), ok_of (inB_true (by omega) (by omega)), ht, ok_of (aok_true (by rw [List.length_map, List.length_take]; omega)), iadd_eq (by omega) (by omega)]
      cases p6 (X.getD i dDf) <;> rfl
    · intro rec
      dsimp only
      rw [len_eq, ilt_iff, decide_eq_false (by omega), cond_false, List.take_length]
      have hno : ∀ m, (List.range m).findSome? (fun _ => (none : Option (Int × Unit))) = none := fun m => by simp
      refine Eq.trans (b := (none : Option (Int × Unit)).or (some ((bif agB X V then 6 else 0), ()))) ?_ rfl
      rw [← hno V.length]
      refine Eq.trans (find_rule0 (n := n) (fun i => (((i : Int), ((), ((), (0, ())))), ((X, (V, (L, ()))), (X.map (fun d => d.1) ++ V.take i, ())))) (fun _ => none) (some ((bif agB X V then 6 else 0), ())) (m := V.length) (by simp) ?_ ?_ (by omega)) ?_
      · intro rec i hi
        have ht : X.map (fun d => d.1) ++ V.take i ++ [V.getD i (bs [])] = X.map (fun d => d.1) ++ V.take (i + 1) := by
          rw [List.take_add_one, List.getElem?_eq_getElem hi, List.getD_eq_getElem?_getD, List.getElem?_eq_getElem hi]; simp
        have hak : aok (X.map (fun d => d.1) ++ V.take (i + 1)) 16 = true := aok_true (by rw [List.length_append, List.length_map, List.length_take]; omega)
        dsimp only
        rw [len_eq, ilt_iff, decide_eq_true (by omega), cond_true, ok_of (inB_true (by omega) (by omega)), Int.toNat_natCast, ht, ok_of hak, iadd_eq (by omega) (by omega)]
        rfl
      · intro rec
        dsimp only
        rw [len_eq, ilt_iff, decide_eq_false (by omega), cond_false, List.take_length]
        show (c_s_l13Distinct ((C B0).run n) (nms X V)).bind _ = _
        rw [kd (nms X V) (by rw [nms_len]; omega) fun x hx => by
          rcases List.mem_append.1 hx with hx | hx
          · obtain ⟨d, hd, rfl⟩ := List.mem_map.1 hx
            exact ⟨(h.1.2 d hd).1, (f1 d hd).1⟩
          · exact ⟨h.2.1.2 x hx, f2 x hx⟩]
        simp only [Option.bind_some, Bool.not_not]
        refine Eq.trans (find_rule0 (n := n) (fun i => (((i : Int), ((), ((dupB (nms X V) || (X.take i).any dp), (0, ())))), ((X, (V, (L, ()))), ()))) (fun _ => none) (some ((bif agB X V then 6 else 0), ())) (m := X.length) (by simp) ?_ ?_ (by omega)) ?_
        · intro rec i hi
          have ht : (X.take (i + 1)).any dp = ((X.take i).any dp || dp (X.getD i dDf)) := by
            rw [take_snoc (d := dDf) hi, List.any_append, List.any_cons, List.any_nil, Bool.or_false]
          have e : iadd .i64 (i : Int) 1 = ((i + 1 : Nat) : Int) := iadd_eq (by omega) (by omega)
          have hd := h.1.2 _ (getD_mem (d := dDf) hi)
          have hf := f1 _ (getD_mem (d := dDf) hi)
          dsimp only
          rw [len_eq, ilt_iff, decide_eq_true (by omega), cond_true, ok_of (inB_true (by omega) (by omega)), Int.toNat_natCast, kd _ (by have := hd.2.1.1; omega) fun x hx => ⟨hd.2.1.2 x hx, hf.2 x hx⟩, ht]
          simp only [Option.bind_some, Bool.not_not]
          rw [← Bool.or_assoc]
          generalize (dupB (nms X V) || (X.take i).any dp) = q
          show jb (bif q then some (.inr (((i : Int), ((), (true, (0, ())))), ((X, (V, (L, ()))), ()))) else some (.inr (((i : Int), ((), ((dp (X.getD i dDf)), (0, ())))), ((X, (V, (L, ()))), ())))) _ = _
          cases q with
          | true =>
            show rec (((iadd .i64 (i : Int) 1), _), _) = _
            rw [e]; rfl
          | false =>
            show rec (((iadd .i64 (i : Int) 1), _), _) = _
            rw [e]; rfl
        · intro rec
          dsimp only
          rw [len_eq, ilt_iff, decide_eq_false (by omega), cond_false, List.take_length]
          show (bif agB X V then _ else _) = _
          cases agB X V <;> rfl
        · rw [hno]; rfl
      · rfl
    · rw [fs_any]
      cases X.any p6 <;> rfl
end Go.Px.Seat

/- What a term uses; codes of definitions and relations: both sides. Seat G. -/
namespace Go.Px.Seat
open Go Pm Pt
set_option linter.unusedVariables false
variable {B : Run}
/-- The first code that is not zero. -/
def fnz {α : Type} (f : α → Int) (l : List α) : Int := (l.findSome? fun x => if f x = 0 then none else some (f x)).getD 0
theorem fnz_ne {α : Type} {f : α → Int} {l : List α} : (∃ r, (l.findSome? fun x => if f x = 0 then none else some (f x)) = some r ∧ r ≠ 0 ∧ fnz f l = r) ∨ ((l.findSome? fun x => if f x = 0 then none else some (f x)) = none ∧ fnz f l = 0) := by
  unfold fnz
  cases h : l.findSome? fun x => if f x = 0 then none else some (f x) with
  | none => exact .inr ⟨rfl, rfl⟩
  | some r =>
    obtain ⟨x, _, h2⟩ := List.exists_of_findSome?_eq_some h
    split at h2
    · cases h2
    · next hx => cases h2; exact .inl ⟨_, rfl, hx, rfl⟩
theorem fnz_or {α R : Type} {f : α → Int} {l : List α} {g : Int → R} {K : Option R} : (l.findSome? fun x => if f x = 0 then none else some (g (f x))).or K = if fnz f l = 0 then K else some (g (fnz f l)) := by
  have : (fun x => if f x = 0 then none else some (g (f x))) = fun x => (if f x = 0 then none else some (f x)).map g := by
    funext x
    split <;> rfl
  rw [this, fs_map]
  rcases fnz_ne (f := f) (l := l) with ⟨r, h1, h2, h3⟩ | ⟨h1, h2⟩
  · rw [h1, h3, if_neg h2]; rfl
  · rw [h1, h2, if_pos rfl]; rfl
theorem fnz_nil {α : Type} {f : α → Int} : fnz f [] = 0 := rfl
theorem fnz_cons {α : Type} {f : α → Int} {x : α} {l : List α} : fnz f (x :: l) = if f x = 0 then fnz f l else f x := by
  unfold fnz
  rw [List.findSome?_cons]
  split <;> rename_i h <;> split at h <;> simp_all
theorem fnz_app {α : Type} {f : α → Int} : ∀ {a b : List α}, fnz f (a ++ b) = if fnz f a = 0 then fnz f b else fnz f a
  | [], b => by rw [List.nil_append, fnz_nil, if_pos rfl]
  | x :: a, b => by
    rw [List.cons_append, fnz_cons, fnz_cons, fnz_app]
    by_cases h : f x = 0
    · rw [if_pos h, if_pos h]
    · rw [if_neg h, if_neg h, if_neg h]
/-- What is found at a node. -/
def ndC (X : List Df) (own : List ByteArray) (x : Tn) : Int :=
  if x.1 ≠ 2 ∧ x.1 ≠ 13 then 0
  else if memB x.2.2.1 own = true then (if x.1 = 13 then 9 else 0)
  else if dAt X x.2.2.1 < 0 then 8
  else if ((X.getD (dAt X x.2.2.1).toNat dDf).2.1.length : Int) ≠ x.2.1 then 9 else 0
def ftC (X : List Df) (l : List Tn) (own : List ByteArray) : Int := fnz (ndC X own) l
section
variable {X : List Df} {own : List ByteArray} {x : Tn}
theorem ndC_skip (h2 : x.1 ≠ 2) (h13 : x.1 ≠ 13) : ndC X own x = 0 := by unfold ndC; rw [if_pos ⟨h2, h13⟩]
theorem ndC_own13 (h : x.1 = 13) (hm : memB x.2.2.1 own = true) : ndC X own x = 9 := by
  unfold ndC; rw [if_neg (fun h' => h'.2 h), if_pos hm, if_pos h]
theorem ndC_own2 (h : x.1 = 2) (hm : memB x.2.2.1 own = true) : ndC X own x = 0 := by
  unfold ndC; rw [if_neg (fun h' => h'.1 h), if_pos hm, if_neg (by omega)]
theorem ndC_no (h : x.1 = 2 ∨ x.1 = 13) (hm : memB x.2.2.1 own = false) (hd : dAt X x.2.2.1 = -1) : ndC X own x = 8 := by
  unfold ndC; rw [if_neg (by omega), if_neg (by rw [hm]; decide), if_pos (by omega)]
theorem ndC_cnt {j : Nat} (h : x.1 = 2 ∨ x.1 = 13) (hm : memB x.2.2.1 own = false) (hd : dAt X x.2.2.1 = j) : ndC X own x = if ((X.getD j dDf).2.1.length : Int) ≠ x.2.1 then 9 else 0 := by
  unfold ndC; rw [if_neg (by omega), if_neg (by rw [hm]; decide), if_neg (by omega), hd, Int.toNat_natCast]
end
theorem bne_eq {a b : Int} : (a != b) = decide (a ≠ b) := by
  by_cases h : a = b <;> simp [h]
theorem ft_tail {X : List Df} {l : List Tn} {own : List ByteArray} : (l.findSome? fun x => if ndC X own x = 0 then none else some (ndC X own x, ())).or (some (0, ())) = some (ftC X l own, ()) := by
  rw [fnz_or (g := fun x => (x, ()))]
  unfold ftC
  split
  · next h => rw [h]
  · rfl
theorem k_fits : Ev fun n => ∀ (X : List Df) (V : List ByteArray) (L : List Rl) (l : List Tn) (own : List ByteArray), X.length ≤ 4000000 → l.length ≤ 4000000 → own.length ≤ 4000000 → c_i_Prog_fits ((C B).run n) X V L l own = some (ftC X l own, ()) := by
  refine ((k_defAt (B := B)).and (k_Contains (B := B))).succ fun n hn ⟨kd, kc⟩ X V L l own hX hl ho => ?_
  rw [run_succB', e_i_Prog_fits]
  unfold p_i_Prog_fits
  rw [← ft_tail, len_eq]
  refine find_list (fun i => (((i : Int), ((l.length : Int), (l, ((), (own, (0, ())))))), ((X, (V, (L, ()))), ()))) (fun x => if ndC X own x = 0 then none else some (ndC X own x, ())) l (0, (0, ((bs []), ()))) _ ?_ ?_ (by omega)
  · intro rec i hi
    have e : iadd .i64 (i : Int) 1 = ((i + 1 : Nat) : Int) := iadd_eq (by omega) (by omega)
    dsimp only
    rw [ilt_iff, decide_eq_true (by omega), cond_true, len_eq, ok_of (inB_true (by omega) (by omega)), Int.toNat_natCast]
    generalize l.getD i (0, (0, ((bs []), ()))) = x
    rw [bne_eq, bne_eq]
    have hgo : x.1 = 2 ∨ x.1 = 13 → jb (R := Int × Unit) (P := (Int × Int × List Tn × Unit × List ByteArray × Int × Unit) × (List Df × List ByteArray × List Rl × Unit) × Unit) ((c_i_Prog_defAt ((C B).run n) X V L x.2.2.1).bind fun (r72_1, _) =>
            (c_slices_Contains_string_string ((C B).run n) own x.2.2.1).bind fun (r37_1, _) =>
            bif r37_1 then
              bif (x.1 == 13) then
                some (.inl (9, ()))
              else
              some (.inr (((i : Int), ((l.length : Int), (l, ((), (own, (0, ())))))), ((X, (V, (L, ()))), ())))
            else
            bif (ilt r72_1 0) then
              some (.inl (8, ()))
            else
            ok (inB r72_1 (len X)) <|
            bif ((len (List.getD X (Int.toNat r72_1) dDf).2.1) != x.2.1) then
              some (.inl (9, ()))
            else
            some (.inr (((i : Int), ((l.length : Int), (l, ((), (own, (0, ())))))), ((X, (V, (L, ()))), ()))))
        (fun ((t12_2, (t11_2, (t10_2, (_, (own2_2, (t6_2, _)))))), ((o0a_2, (o0b_2, (o0c_2, _))), _)) =>
        rec (((iadd .i64 t12_2 1), (t11_2, (t10_2, ((), (own2_2, (t6_2, ())))))), ((o0a_2, (o0b_2, (o0c_2, ()))), ()))) =
      (if ndC X own x = 0 then none else some (ndC X own x, ())).or (rec ((((i + 1 : Nat) : Int), ((l.length : Int), (l, ((), (own, (0, ())))))), ((X, (V, (L, ()))), ()))) := by
      intro hx
      rw [kd _ _ _ _ hX, kc _ _ ho]
      simp only [Option.bind_some]
      rw [ilt_iff]
      cases hm : memB x.2.2.1 own with
      | true =>
        rcases hx with hx | hx
        · have h13 : (x.1 == 13) = false := by rw [hx]; rfl
          rw [ndC_own2 hx hm, h13]
          show rec (((iadd .i64 (i : Int) 1), _), _) = _
          rw [e]; rfl
        · have h13 : (x.1 == 13) = true := by rw [hx]; rfl
          rw [ndC_own13 hx hm, h13]
          rfl
      | false =>
        rcases dAt_lt (X := X) (s := x.2.2.1) with ⟨j, hj, _, hd⟩ | hd
        · rw [ndC_cnt hx hm hd, hd, decide_eq_false (by omega)]
          simp only [cond_false]
          rw [ok_of (inB_true (by omega) (by rw [len_eq]; omega)), Int.toNat_natCast, len_eq, bne_eq]
          by_cases hp : (((X.getD j dDf).2.1.length : Nat) : Int) ≠ x.2.1
          · rw [decide_eq_true hp, if_pos hp]; rfl
          · rw [decide_eq_false hp, if_neg hp]
            show rec (((iadd .i64 (i : Int) 1), _), _) = _
            rw [e]; rfl
        · rw [ndC_no hx hm hd, hd, decide_eq_true (by decide)]; rfl
    by_cases h2 : x.1 = 2
    · rw [decide_eq_false (show ¬ (x.1 ≠ 2) from fun h => h h2)]
      simp only [cond_false, jb_inr]
      exact hgo (.inl h2)
    · rw [decide_eq_true (show (x.1 ≠ 2) from h2)]
      simp only [cond_true, jb_inr]
      by_cases h13 : x.1 = 13
      · rw [decide_eq_false (show ¬ (x.1 ≠ 13) from fun h => h h13)]
        simp only [cond_false]
        exact hgo (.inr h13)
      · rw [decide_eq_true (show (x.1 ≠ 13) from h13), ndC_skip h2 h13]
        show rec (((iadd .i64 (i : Int) 1), _), _) = _
        rw [e]; rfl
  · intro rec
    dsimp only
    rw [ilt_iff, decide_eq_false (by omega), cond_false]
theorem k_known : Ev fun n => ∀ (X : List Df) (V : List ByteArray) (L : List Rl) (l : List Tn) (own : List ByteArray), X.length ≤ 4000000 → l.length ≤ 4000000 → own.length ≤ 4000000 → c_s_l13Known ((C B).run n) X V L l own = some (ftC X l own, ()) := by
  refine ((k_l13Def (B := B)).and (k_l12Find (B := B))).succ fun n hn ⟨kd, kc⟩ X V L l own hX hl ho => ?_
  rw [run_succB', e_s_l13Known]
  unfold p_s_l13Known
  rw [← ft_tail]
  refine find_list (fun i => (((i : Int), ((), ((), (own, (0, ()))))), ((l, ()), ((X, (V, (L, ()))), ())))) (fun x => if ndC X own x = 0 then none else some (ndC X own x, ())) l (0, (0, ((bs []), ()))) _ ?_ ?_ (by omega)
  · intro rec i hi
    have e : iadd .i64 (i : Int) 1 = ((i + 1 : Nat) : Int) := iadd_eq (by omega) (by omega)
    dsimp only
    rw [len_eq, ilt_iff, decide_eq_true (by omega), cond_true, ok_of (inB_true (by omega) (by omega)), Int.toNat_natCast]
    generalize l.getD i (0, (0, ((bs []), ()))) = x
    rw [bne_eq, bne_eq]
    have hgo : x.1 = 2 ∨ x.1 = 13 → jb (R := Int × Unit) (P := (Int × Unit × Unit × List ByteArray × Int × Unit) × (List Tn × Unit) × (List Df × List ByteArray × List Rl × Unit) × Unit) ((c_s_l13Def ((C B).run n) X V L x.2.2.1).bind fun (r74_1, _) =>
            (c_s_l12Find ((C B).run n) own x.2.2.1).bind fun (r40_1, _) =>
            jb (P := (Bool × Bool × Unit × Unit × Int × Int × Unit × List ByteArray × Int × Unit) × Tn × (List Df × List ByteArray × List Rl × Unit) × (List Tn × Unit) × Unit) (
                bif (ilt r74_1 0) then
                  some (.inr (((!(ile 0 r40_1)), ((ile 0 r40_1), ((), ((), (r74_1, ((i : Int), ((), (own, (0, ()))))))))), ((x.1, (x.2.1, (x.2.2.1, ()))), ((X, (V, (L, ()))), ((l, ()), ())))))
                else
                some (.inr ((false, ((ile 0 r40_1), ((), ((), (r74_1, ((i : Int), ((), (own, (0, ()))))))))), ((x.1, (x.2.1, (x.2.2.1, ()))), ((X, (V, (L, ()))), ((l, ()), ())))))) fun ((t45, (mine10, (_, (_, (k9, (i7_2, (_, (own2_2, (t6_2, _))))))))), ((o0a_1, (o0b_1, (o0c_1, _))), ((o1a_2, (o1b_2, (o1c_2, _))), ((o2_1, _), _)))) =>
            bif t45 then
              some (.inl (8, ()))
            else
            bif mine10 then
              bif (o0a_1 == 13) then
                some (.inl (9, ()))
              else
              some (.inr ((i7_2, ((), ((), (own2_2, (t6_2, ()))))), ((o2_1, ()), ((o1a_2, (o1b_2, (o1c_2, ()))), ()))))
            else
            ok (inB k9 (len o1a_2)) <|
            bif ((len (List.getD o1a_2 (Int.toNat k9) dDf).2.1) != o0b_1) then
              some (.inl (9, ()))
            else
            some (.inr ((i7_2, ((), ((), (own2_2, (t6_2, ()))))), ((o2_1, ()), ((o1a_2, (o1b_2, (o1c_2, ()))), ())))))
        (fun ((i7_3, (_, (_, (own2_3, (t6_3, _))))), ((o0_1, _), ((o1a_3, (o1b_3, (o1c_3, _))), _))) =>
        rec (((iadd .i64 i7_3 1), ((), ((), (own2_3, (t6_3, ()))))), ((o0_1, ()), ((o1a_3, (o1b_3, (o1c_3, ()))), ())))) =
      (if ndC X own x = 0 then none else some (ndC X own x, ())).or (rec ((((i + 1 : Nat) : Int), ((), ((), (own, (0, ()))))), ((l, ()), ((X, (V, (L, ()))), ())))) := by
      intro hx
      rw [kd _ _ _ _ hX, kc _ _ ho]
      simp only [Option.bind_some]
      rw [ile_iff, idxI_any, any_mem, ilt_iff]
      cases hm : memB x.2.2.1 own with
      | true =>
        rcases hx with hx | hx
        · have h13 : (x.1 == 13) = false := by rw [hx]; rfl
          rw [ndC_own2 hx hm]
          cases decide (dAt X x.2.2.1 < 0) <;> simp only [cond_true, cond_false, jb_inr, Bool.not_true, h13] <;> (rw [e]; rfl)
        · have h13 : (x.1 == 13) = true := by rw [hx]; rfl
          rw [ndC_own13 hx hm]
          cases decide (dAt X x.2.2.1 < 0) <;> simp only [cond_true, cond_false, jb_inr, Bool.not_true, h13] <;> rfl
      | false =>
        rcases dAt_lt (X := X) (s := x.2.2.1) with ⟨j, hj, _, hd⟩ | hd
        · rw [ndC_cnt hx hm hd, hd, decide_eq_false (by omega)]
          simp only [cond_false, jb_inr]
          rw [ok_of (inB_true (by omega) (by rw [len_eq]; omega)), Int.toNat_natCast, len_eq, bne_eq]
          by_cases hp : (((X.getD j dDf).2.1.length : Nat) : Int) ≠ x.2.1
          · rw [decide_eq_true hp, if_pos hp]; rfl
          · rw [decide_eq_false hp, if_neg hp]
            show rec (((iadd .i64 (i : Int) 1), _), _) = _
            rw [e]; rfl
        · rw [ndC_no hx hm hd, hd, decide_eq_true (by decide)]; rfl
    by_cases h2 : x.1 = 2
    · rw [decide_eq_false (show ¬ (x.1 ≠ 2) from fun h => h h2)]
      simp only [cond_false, jb_inr]
      exact hgo (.inl h2)
    · rw [decide_eq_true (show (x.1 ≠ 2) from h2)]
      simp only [cond_true, jb_inr]
      by_cases h13 : x.1 = 13
      · rw [decide_eq_false (show ¬ (x.1 ≠ 13) from fun h => h h13)]
        simp only [cond_false]
        exact hgo (.inr h13)
      · rw [decide_eq_true (show (x.1 ≠ 13) from h13), ndC_skip h2 h13]
        show rec (((iadd .i64 (i : Int) 1), _), _) = _
        rw [e]; rfl
  · intro rec
    dsimp only
    rw [len_eq, ilt_iff, decide_eq_false (by omega), cond_false]
/-! definitions, relations -/
def isD (X : List Df) (s : ByteArray) : Bool := decide (0 ≤ dAt X s)
def dfC (X : List Df) (d : Df) : Int := bif d.2.1.any (isD X) then 7 else ftC X d.2.2.1.1 d.2.1
def rlC (X : List Df) (V : List ByteArray) (r : Rl) : Int := fnz (ndC X V) (r.2.1.1 ++ r.2.2.1.1)
theorem k_defCode : Ev fun n => ∀ X V L d, Sm X V L → SmD 1048576 d → c_i_Prog_defCode ((C B).run n) X V L d.1 d.2.1 d.2.2.1.1 = some (dfC X d, ()) := by
  have h0 : Ev fun n => ∀ (s : ByteArray) X V L, Sm X V L → c_i_Prog_defCode_1 ((C B).run n) s X V L = some (isD X s, (X, (V, (L, ())))) := by
    refine (k_defAt (B := B)).succ fun n hn k s X V L h => ?_
    rw [run_succB', e_i_Prog_defCode_1]
    unfold p_i_Prog_defCode_1
    rw [k _ _ _ _ (by have := h.1.1; omega)]
    rfl
  have h1 : Ev fun n => ∀ (l : List ByteArray) X V L, Sm X V L → l.length ≤ 1048576 → c_slices_IndexFunc_string_string_i_Prog_defCode_1 ((C B).run n) l X V L = some (idxI (fun i => isD X (l.getD i (bs []))) l.length, (X, (V, (L, ())))) := by
    refine h0.succ fun n hn k l X V L h hl => ?_
    rw [run_succB', e_slices_IndexFunc_string_string_i_Prog_defCode_1]
    unfold p_slices_IndexFunc_string_string_i_Prog_defCode_1
    rw [len_eq]
    refine (find_rule (fun i => (((i : Int), ((l.length : Int), ((), (l, (0, ()))))), ((X, (V, (L, ()))), ()))) (fun i => if isD X (l.getD i (bs [])) = true then some ((i : Int), (X, (V, (L, ())))) else none) (some (-1, (X, (V, (L, ()))))) (m := l.length) ?_ ?_ (by omega)).trans (idx_unit (f := fun x => (x, (X, (V, (L, ()))))))
    · intro rec i hi
      dsimp only
      rw [ilt_iff, decide_eq_true (by omega), cond_true, len_eq, ok_of (inB_true (by omega) (by omega)), Int.toNat_natCast, k _ _ _ _ h]
      simp only [Option.bind_some]
      rw [iadd_eq (by omega) (by omega)]
      cases isD X (l.getD i (bs [])) <;> rfl
    · intro rec
      dsimp only
      rw [ilt_iff, decide_eq_false (by omega), cond_false]
  have h2 : Ev fun n => ∀ (l : List ByteArray) X V L, Sm X V L → l.length ≤ 1048576 → c_slices_ContainsFunc_string_string_i_Prog_defCode_1 ((C B).run n) l X V L = some (l.any (isD X), (X, (V, (L, ())))) := by
    refine h1.succ fun n hn k l X V L h hl => ?_
    rw [run_succB', e_slices_ContainsFunc_string_string_i_Prog_defCode_1]
    unfold p_slices_ContainsFunc_string_string_i_Prog_defCode_1
    rw [k _ _ _ _ h hl]
    simp only [Option.bind_some]
    rw [ile_idx]
  refine (h2.and (k_fits (B := B))).succ fun n hn ⟨k1, k2⟩ X V L d h hd => ?_
  rw [run_succB', e_i_Prog_defCode]
  unfold p_i_Prog_defCode dfC
  have a1 := hd.2.1.1
  have a2 := hd.2.2.1
  have a3 := h.1.1
  rw [k1 _ _ _ _ h a1]
  simp only [Option.bind_some]
  rw [k2 _ _ _ _ _ (by omega) (by omega) (by omega)]
  cases d.2.1.any (isD X) <;> rfl
theorem k_l13DefCode : Ev fun n => ∀ X V L d, Sm X V L → SmD 1048576 d → c_s_l13DefCode ((C B).run n) X V L d.1 d.2.1 d.2.2.1.1 = some (dfC X d, ()) := by
  refine ((k_l13Def (B := B)).and (k_known (B := B))).succ fun n hn ⟨k1, k2⟩ X V L d h hd => ?_
  rw [run_succB', e_s_l13DefCode]
  unfold p_s_l13DefCode dfC
  have a1 := hd.2.1.1
  have a2 := hd.2.2.1
  have a3 := h.1.1
  refine (find_list (fun i => (((i : Int), ((), ((), (0, ())))), ((d.1, (d.2.1, (d.2.2.1.1, ()))), ((X, (V, (L, ()))), ())))) (fun s => if isD X s = true then some (7, ()) else none) d.2.1 (bs []) (some (ftC X d.2.2.1.1 d.2.1, ())) ?_ ?_ (by omega)).trans ?_
  · intro rec i hi
    dsimp only
    rw [len_eq, ilt_iff, decide_eq_true (by omega), cond_true, ok_of (inB_true (by omega) (by omega)), Int.toNat_natCast, k1 _ _ _ _ (by omega)]
    simp only [Option.bind_some]
    rw [ile_iff, iadd_eq (by omega) (by omega), show decide (0 ≤ dAt X (d.2.1.getD i (bs []))) = isD X (d.2.1.getD i (bs [])) from rfl]
    cases isD X (d.2.1.getD i (bs [])) <;> rfl
  · intro rec
    dsimp only
    rw [len_eq, ilt_iff, decide_eq_false (by omega), cond_false, k2 _ _ _ _ _ (by omega) (by omega) (by omega)]
    rfl
  · rw [fs_any]
    cases d.2.1.any (isD X) <;> rfl
theorem k_relCode : Ev fun n => ∀ X V L r, Sm X V L → SmR 1048576 r → c_i_Prog_relCode ((C B0).run n) X V L r.1 r.2.1.1 r.2.2.1.1 = some (rlC X V r, ()) := by
  refine (k_ConcatT.and (k_fits (B := B0))).succ fun n hn ⟨k1, k2⟩ X V L r h hr => ?_
  have a1 := hr.1.1
  have a2 := hr.2.1
  have a3 := h.1.1
  have a4 := h.2.1.1
  have ef : [r.2.1.1, r.2.2.1.1].flatten = r.2.1.1 ++ r.2.2.1.1 := by simp
  rw [run_succB', e_i_Prog_relCode]
  unfold p_i_Prog_relCode
  rw [k1 _ (by simp) (by rw [ef, List.length_append]; omega), ef]
  simp only [Option.bind_some]
  rw [k2 _ _ _ _ _ (by omega) (by rw [List.length_append]; omega) (by omega)]
  rfl
theorem k_l13RelCode : Ev fun n => ∀ X V L r, Sm X V L → SmR 1048576 r → c_s_l13RelCode ((C B0).run n) X V L r.1 r.2.1.1 r.2.2.1.1 = some (rlC X V r, ()) := by
  refine (k_known (B := B0)).succ fun n hn k X V L r h hr => ?_
  have a1 := hr.1.1
  have a2 := hr.2.1
  have a3 := h.1.1
  have a4 := h.2.1.1
  rw [run_succB', e_s_l13RelCode]
  unfold p_s_l13RelCode rlC
  rw [k _ _ _ _ _ (by omega) (by omega) (by omega), k _ _ _ _ _ (by omega) (by omega) (by omega), fnz_app]
  unfold ftC
  by_cases h0 : fnz (ndC X V) r.2.1.1 = 0
  · rw [if_pos h0, h0]; rfl
  · rw [if_neg h0]
    simp only [Option.bind_some]
    rw [show (fnz (ndC X V) r.2.1.1 == 0) = false by simpa using h0]
    rfl
end Go.Px.Seat

/- Which definitions come to themselves: both sides. Seat G. -/
namespace Go.Px.Seat
open Go Pm Pt
set_option linter.unusedVariables false
variable {B : Run}
def isU (x : Tn) : Bool := x.1 == 2 || x.1 == 13
/-- Definition i uses definition j. -/
def egB (X : List Df) (i j : Nat) : Bool := (X.getD i dDf).2.2.1.1.any fun x => isU x && (dAt X x.2.2.1 == (j : Int))
theorem egB_iff {X : List Df} {i j : Nat} : egB X i j = true ↔ ∃ x ∈ (X.getD i dDf).2.2.1.1, isU x = true ∧ dAt X x.2.2.1 = j := by
  unfold egB
  rw [List.any_eq_true]
  simp
theorem egB_lt {X : List Df} {i j : Nat} (h : egB X i j = true) : j < X.length := by
  obtain ⟨x, _, _, h⟩ := egB_iff.1 h
  rcases dAt_lt (X := X) (s := x.2.2.1) with ⟨k, hk, _, hd⟩ | hd <;> omega
/-! the reference's table -/
theorem k_reaches : Ev fun n => ∀ X V L, ∀ i j : Nat, Sm X V L → i < X.length → c_s_l13Reaches ((C B).run n) X V L i j 1 = some (egB X i j, ()) := by
  refine (k_l13Def (B := B)).succ fun n hn kd X V L a j h ha => ?_
  have hX1 := h.1.1
  have hd := h.1.2 _ (getD_mem (d := dDf) ha)
  have hl := hd.2.2.1
  rw [run_succB', e_s_l13Reaches]
  unfold p_s_l13Reaches
  refine (find_list (fun i => (((i : Int), ((), ((a : Int), ((j : Int), (1, (false, ())))))), ((X, (V, (L, ()))), ()))) (fun x => if (isU x && (dAt X x.2.2.1 == (j : Int))) = true then some (true, ()) else none) (X.getD a dDf).2.2.1.1 (0, (0, ((bs []), ()))) (some (false, ())) ?_ ?_ (by omega)).trans ?_
  · intro rec i hi
    have e : iadd .i64 (i : Int) 1 = ((i + 1 : Nat) : Int) := iadd_eq (by omega) (by omega)
    have hin : inB (a : Int) (len X) = true := inB_true (by omega) (by rw [len_eq]; omega)
    have hin2 : inB (i : Int) (len (X.getD a dDf).2.2.1.1) = true := inB_true (by omega) (by rw [len_eq]; omega)
    dsimp only
    rw [ok_of hin, Int.toNat_natCast, len_eq, ilt_iff, decide_eq_true (by omega), cond_true]
    rw [len_eq] at hin2
    rw [ok_of hin, ok_of hin2, Int.toNat_natCast]
    generalize (X.getD a dDf).2.2.1.1.getD i (0, (0, ((bs []), ()))) = x
    rw [bne_eq, bne_eq]
    have hgo : jb (R := Bool × Unit) (P := (Int × Unit × Int × Int × Int × Bool × Unit) × (List Df × List ByteArray × List Rl × Unit) × Unit) ((c_s_l13Def ((C B).run n) X V L x.2.2.1).bind fun (r74_1, _) =>
            jb (P := (Bool × Int × Unit × Int × Int × Int × Bool × Unit) × (List Df × List ByteArray × List Rl × Unit) × Unit) (
                bif (r74_1 == (j : Int)) then
                  some (.inr ((true, ((i : Int), ((), ((a : Int), ((j : Int), (1, (false, ()))))))), ((X, (V, (L, ()))), ())))
                else
                bif (ile 0 r74_1) then
                  bif (ilt 1 1) then
                    (c_s_l13Reaches ((C B).run n) X V L r74_1 j (isub .i64 1 1)).bind fun (r139_1, _) =>
                    some (.inr ((r139_1, ((i : Int), ((), ((a : Int), ((j : Int), (1, (false, ()))))))), ((X, (V, (L, ()))), ())))
                  else
                  some (.inr ((false, ((i : Int), ((), ((a : Int), ((j : Int), (1, (false, ()))))))), ((X, (V, (L, ()))), ())))
                else
                some (.inr ((false, ((i : Int), ((), ((a : Int), ((j : Int), (1, (false, ()))))))), ((X, (V, (L, ()))), ())))) fun ((t64, (i9_2, (_, (from1_2, (to2_2, (steps3_2, (t8_2, _))))))), ((o0a_2, (o0b_2, (o0c_2, _))), _)) =>
            bif t64 then
              some (.inl (true, ()))
            else
            some (.inr ((i9_2, ((), (from1_2, (to2_2, (steps3_2, (t8_2, ())))))), ((o0a_2, (o0b_2, (o0c_2, ()))), ()))))
          (fun ((i9_3, (_, (from1_3, (to2_3, (steps3_3, (t8_3, _)))))), ((o0a_3, (o0b_3, (o0c_3, _))), _)) =>
        rec (((iadd .i64 i9_3 1), ((), (from1_3, (to2_3, (steps3_3, (t8_3, ())))))), ((o0a_3, (o0b_3, (o0c_3, ()))), ()))) =
        (if (true && (dAt X x.2.2.1 == (j : Int))) = true then some (true, ()) else none).or (rec ((((i + 1 : Nat) : Int), ((), ((a : Int), ((j : Int), (1, (false, ())))))), ((X, (V, (L, ()))), ()))) := by
      rw [kd _ _ _ _ (by omega)]
      simp only [Option.bind_some]
      rw [show ilt (1 : Int) 1 = false from rfl]
      cases hdj : (dAt X x.2.2.1 == (j : Int)) with
      | true => rfl
      | false =>
        cases ile 0 (dAt X x.2.2.1) <;> (show rec (((iadd .i64 (i : Int) 1), _), _) = _; rw [e]; rfl)
    unfold isU
    by_cases h2 : x.1 = 2
    · rw [decide_eq_false (show ¬ (x.1 ≠ 2) from fun h => h h2)]
      rw [show (x.1 == 2) = true by simpa using h2, Bool.true_or]
      simp only [cond_false, jb_inr]
      exact hgo
    · rw [decide_eq_true (show (x.1 ≠ 2) from h2)]
      simp only [cond_true, jb_inr]
      by_cases h13 : x.1 = 13
      · rw [decide_eq_false (show ¬ (x.1 ≠ 13) from fun h => h h13)]
        rw [show (x.1 == 13) = true by simpa using h13, Bool.or_true]
        simp only [cond_false]
        exact hgo
      · rw [decide_eq_true (show (x.1 ≠ 13) from h13)]
        rw [show (x.1 == 13) = false by simpa using h13, show (x.1 == 2) = false by simpa using h2]
        show rec (((iadd .i64 (i : Int) 1), _), _) = _
        rw [e]; rfl
  · intro rec
    dsimp only
    rw [ok_of (inB_true (by omega) (by rw [len_eq]; omega)), Int.toNat_natCast, len_eq, ilt_iff, decide_eq_false (by omega), cond_false]
  · rw [fs_any]
    unfold egB
    cases (X.getD a dDf).2.2.1.1.any fun x => isU x && (dAt X x.2.2.1 == (j : Int)) <;> rfl
/-! tables in an arena -/
def rowT (m : Nat) (T : Nat → Bool) : List Bool := (List.range m).map T
def memT (m : Nat) (T : Nat → Nat → Bool) : Mem Bool := (List.range m).map fun i => some (rowT m (T i))
theorem rowT_len {m : Nat} {T : Nat → Bool} : (rowT m T).length = m := by simp [rowT]
theorem rowT_get {m j : Nat} {T : Nat → Bool} (h : j < m) : (rowT m T).getD j false = T j := by simp [rowT, List.getD_eq_getElem?_getD, h]
theorem memT_at {m i : Nat} {T : Nat → Nat → Bool} (h : i < m) : (memT m T)[i]? = some (some (rowT m (T i))) := by simp [memT, h]
theorem rowT_congr {m : Nat} {T T' : Nat → Bool} (h : ∀ j, j < m → T j = T' j) : rowT m T = rowT m T' := List.map_congr_left fun j hj => h j (List.mem_range.1 hj)
theorem memT_congr {m : Nat} {T T' : Nat → Nat → Bool} (h : ∀ i j, i < m → j < m → T i j = T' i j) : memT m T = memT m T' :=
  List.map_congr_left fun i hi => by rw [rowT_congr fun j hj => h i j (List.mem_range.1 hi) hj]
theorem memT_set {m i j : Nat} {T T' : Nat → Nat → Bool} {b : Bool} (hi : i < m) (hj : j < m) (h : ∀ i' j', T' i' j' = if i' = i ∧ j' = j then b else T i' j') : (memT m T).set i (some ((rowT m (T i)).set j b)) = memT m T' := by
  apply List.ext_getElem?
  intro k
  rw [List.getElem?_set]
  by_cases hk : i = k
  · subst hk
    rw [if_pos rfl, if_pos (by simp [memT]; exact hi), memT_at hi]
    congr 2
    apply List.ext_getElem?
    intro q
    rw [List.getElem?_set]
    by_cases hq : j = q
    · subst hq
      simp [rowT, hj, h]
    · rw [if_neg hq]
      unfold rowT
      rw [List.getElem?_map, List.getElem?_map]
      cases hr : (List.range m)[q]? with
      | none => rfl
      | some v =>
        have : v = q := by
          rw [List.getElem?_range] at hr
          · simpa using hr.symm
          · by_cases hqm : q < m
            · exact hqm
            · rw [List.getElem?_eq_none (by simp; omega)] at hr; cases hr
        subst this
        simp only [Option.map_some]
        rw [h, if_neg (fun hh => hq hh.2.symm)]
  · rw [if_neg hk]
    by_cases hkm : k < m
    · rw [memT_at hkm, memT_at hkm]
      congr 2
      exact rowT_congr fun q _ => by rw [h, if_neg (fun hh => hk hh.1.symm)]
    · rw [List.getElem?_eq_none (by simp [memT]; omega), List.getElem?_eq_none (by simp [memT]; omega)]
def tabB (e : Nat → Nat → Bool) : Nat → Nat → Nat → Bool
  | 0, i, j => e i j
  | k + 1, i, j => tabB e k i j || (tabB e k i k && tabB e k k j)
theorem tabB_iff {e : Nat → Nat → Bool} : ∀ {k i j : Nat}, tabB e k i j = true ↔ tab (fun i j => e i j = true) k i j
  | 0, _, _ => Iff.rfl
  | k + 1, i, j => by
    rw [tabB, tab, Bool.or_eq_true, Bool.and_eq_true, tabB_iff, tabB_iff, tabB_iff]
theorem loop_rule {P R : Type} {F : (P → Option R) → P → Option R} (st : Nat → P) (K : Option R) {m n : Nat} {p0 : P} (h0 : p0 = st 0)
    (h1 : ∀ rec i, i < m → F rec (st i) = rec (st (i + 1))) (h2 : ∀ rec, F rec (st m) = K) (hn : m < n) : iter F n p0 = K := by
  rw [find_rule0 st (fun _ => none) K h0 (fun rec i hi => (h1 rec i hi).trans rfl) h2 hn]
  have : ∀ l : List Nat, l.findSome? (fun _ => (none : Option R)) = none := fun l => List.findSome?_eq_none_iff.2 fun _ _ => rfl
  rw [this]
  rfl
def hdT (m : Nat) : List Hd := (List.range m).map fun i => H i m
theorem hdT_get {m i : Nat} (h : i < m) : (hdT m).getD i (0, (0, 0)) = H i m := by simp [hdT, List.getD_eq_getElem?_getD, h]
theorem hdT_len {m : Nat} : (hdT m).length = m := by simp [hdT]
/-- Where the table stands inside a round. -/
def stT (e : Nat → Nat → Bool) (k i j : Nat) : Nat → Nat → Bool := fun i' j' => if i' < i ∨ (i' = i ∧ j' < j) then tabB e (k + 1) i' j' else tabB e k i' j'
theorem stT_ik {e : Nat → Nat → Bool} {k i j i' : Nat} : stT e k i j i' k = tabB e k i' k := by
  unfold stT
  split
  · rw [tabB]; cases tabB e k i' k <;> simp
  · rfl
theorem stT_kj {e : Nat → Nat → Bool} {k i j j' : Nat} : stT e k i j k j' = tabB e k k j' := by
  unfold stT
  split
  · rw [tabB]; cases tabB e k k j' <;> simp
  · rfl
theorem k_table : Ev fun n => ∀ X V L, Sm X V L → c_s_l13Table_k778 ((C B).run n) [] X V L = some (memT X.length (tabB (egB X) X.length), (hdT X.length, ())) := by
  refine (k_reaches (B := B)).succ fun n hn kr X V L h => ?_
  have hX1 := h.1.1
  rw [run_succB', e_s_l13Table_k778]
  unfold p_s_l13Table_k778
  have ha : ∀ (m : Nat) (f : Nat → Option (List Bool)), (List.range (m + 1)).map f = (List.range m).map f ++ [f m] := fun m f => by rw [List.range_succ, List.map_append]; rfl
  have hb : ∀ (m : Nat) (f : Nat → Hd), (List.range (m + 1)).map f = (List.range m).map f ++ [f m] := fun m f => by rw [List.range_succ, List.map_append]; rfl
  have hc : ∀ i, (rowT X.length (egB X i)).length = X.length := fun i => rowT_len
  refine loop_rule (fun i => (((i : Int), ((), ((), ((), ())))), ((X, (V, (L, ()))), ((List.range i).map (fun i => H i X.length), ((List.range i).map (fun i => some (rowT X.length (egB X i))), ()))))) _ (m := X.length) (by rfl) ?_ ?_ (by omega)
  · intro rec i hi
    dsimp only
    rw [len_eq, ilt_iff, decide_eq_true (by omega), cond_true, ok_of (mkOk_true (by omega) (by omega) (by omega)), Int.toNat_natCast]
    refine loop_rule (fun j => (((j : Int), ((), ((), ((i : Int), ((), ((), ())))))), ((X, (V, (L, ()))), (mix (rowT X.length (egB X i)) (List.replicate X.length false) j, ((List.range i).map (fun i => H i X.length), ((List.range i).map (fun i => some (rowT X.length (egB X i))), ())))))) _ (m := X.length) (by rw [mix_zero]; rfl) ?_ ?_ (by omega)
    · intro rec j hj
      have hlr : (List.replicate X.length false).length = X.length := List.length_replicate
      have hml : (rowT X.length (egB X i)).length = (List.replicate X.length false).length := by rw [hc, hlr]
      have hms := mix_set (e := false) hml (i := j) (by rw [hlr]; exact hj)
      rw [rowT_get hj] at hms
      dsimp only
      rw [len_eq, ilt_iff, decide_eq_true (by omega), cond_true, kr X V L i j h hi]
      simp only [Option.bind_some]
      rw [len_eq, mix_len hml, hlr, ok_of (inB_true (by omega) (by omega)), Int.toNat_natCast, hms, iadd_eq (by omega) (by omega)]
      rfl
    · intro rec2
      have hlr : (List.replicate X.length false).length = X.length := List.length_replicate
      have hml : (rowT X.length (egB X i)).length = (List.replicate X.length false).length := by rw [hc, hlr]
      have hma := mix_all hml
      rw [hlr] at hma
      dsimp only
      rw [len_eq, ilt_iff, decide_eq_false (by omega), cond_false, hma, hc, List.length_map, List.length_range, ← hb i (fun i => H i X.length), ← ha i (fun i => some (rowT X.length (egB X i))), ok_of (aok_true (by rw [List.length_map, List.length_range]; omega)), iadd_eq (by omega) (by omega)]
      rfl
  · intro rec
    dsimp only
    rw [len_eq, ilt_iff, decide_eq_false (by omega), cond_false]
    show iter _ n ((0, ((), ((), ()))), (hdT X.length, (memT X.length (egB X), ()))) = _
    have hM : ∀ k i j, i < X.length → mrow (memT X.length (stT (egB X) k i j)) = mrow (memT X.length (stT (egB X) k i j)) := fun _ _ _ _ => rfl
    refine loop_rule (fun k => (((k : Int), ((), ((), ()))), (hdT X.length, (memT X.length (tabB (egB X) k), ())))) _ (m := X.length) rfl ?_ ?_ (by omega)
    · intro rec k hk
      dsimp only
      rw [len_eq, hdT_len, ilt_iff, decide_eq_true (by omega), cond_true]
      refine loop_rule (fun i => (((i : Int), ((), ((k : Int), ((), ())))), (hdT X.length, (memT X.length (stT (egB X) k i 0), ())))) _ (m := X.length) (by
        rw [memT_congr fun i j _ _ => show tabB (egB X) k i j = stT (egB X) k 0 0 i j by unfold stT; rw [if_neg (by omega)]]; rfl) ?_ ?_ (by omega)
      · intro rec i hi
        dsimp only
        rw [len_eq, hdT_len, ilt_iff, decide_eq_true (by omega), cond_true]
        refine loop_rule (fun j => (((j : Int), ((), ((i : Int), ((k : Int), ((), ()))))), (hdT X.length, (memT X.length (stT (egB X) k i j), ())))) _ (m := X.length) rfl ?_ ?_ (by omega)
        · intro rec j hj
          dsimp only
          have hT : ∀ T : Nat → Nat → Bool, ∀ a, a < X.length → mrow (memT X.length T) (a + 1) = rowT X.length (T a) := fun T a ha => row_at (memT_at ha)
          have hH : ∀ T : Nat → Nat → Bool, ∀ a b, a < X.length → b < X.length → mhit (memT X.length T) (a + 1) b = true := fun T a b ha hb => hit_at (memT_at ha) (by rw [rowT_len]; exact hb)
          have hik : inB (i : Int) (X.length : Int) = true := inB_true (by omega) (by omega)
          have hkk : inB (k : Int) (X.length : Int) = true := inB_true (by omega) (by omega)
          have hjj : inB (j : Int) (X.length : Int) = true := inB_true (by omega) (by omega)
          have e : iadd .i64 (j : Int) 1 = ((j + 1 : Nat) : Int) := iadd_eq (by omega) (by omega)
          have e1 : (hdT X.length).getD i (0, (0, 0)) = H i X.length := hdT_get hi
          have e2 : (hdT X.length).getD k (0, (0, 0)) = H k X.length := hdT_get hk
          rw [len_eq, hdT_len, ilt_iff, decide_eq_true (by omega), cond_true]
          simp only [Int.toNat_natCast, e1, e2, hik, hkk, hjj, Nat.zero_add, hT _ _ hi, hT _ _ hk, hH _ _ _ hi hk, hH _ _ _ hk hj, rowT_get hk, rowT_get hj, stT_ik, stT_kj]
          have hset : stT (egB X) k i j i j = tabB (egB X) k i j := by unfold stT; rw [if_neg (by omega)]
          have hnext : ∀ i' j', stT (egB X) k i (j + 1) i' j' = if i' = i ∧ j' = j then tabB (egB X) (k + 1) i j else stT (egB X) k i j i' j' := fun i' j' => by
            unfold stT
            by_cases hc : i' = i ∧ j' = j
            · obtain ⟨rfl, rfl⟩ := hc
              rw [if_pos (by omega), if_pos ⟨rfl, rfl⟩]
            · rw [if_neg hc]
              by_cases hc2 : i' < i ∨ (i' = i ∧ j' < j)
              · rw [if_pos (by omega), if_pos hc2]
              · rw [if_neg (by omega), if_neg hc2]
          cases h1 : tabB (egB X) k i k with
          | false =>
            show rec (((iadd .i64 (j : Int) 1), _), _) = _
            rw [e, memT_congr fun i' j' _ _ => show stT (egB X) k i j i' j' = stT (egB X) k i (j + 1) i' j' by
              rw [hnext]
              split
              · next hc => rw [hc.1, hc.2, hset, tabB, h1]; simp
              · rfl]
          | true =>
            cases h2 : tabB (egB X) k k j with
            | false =>
              show rec (((iadd .i64 (j : Int) 1), _), _) = _
              rw [e, memT_congr fun i' j' _ _ => show stT (egB X) k i j i' j' = stT (egB X) k i (j + 1) i' j' by
                rw [hnext]
                split
                · next hc => rw [hc.1, hc.2, hset, tabB, h1, h2]; simp
                · rfl]
            | true =>
              have hm := memT_set (b := true) (T := stT (egB X) k i j) (T' := stT (egB X) k i (j + 1)) hi hj fun i' j' => by
                rw [hnext, tabB, h1, h2]; simp
              simp only [cond_true, jb_inr, ok_of]
              rw [len_eq, hdT_len]
              simp only [Int.toNat_natCast, e1, hik, hjj, Nat.zero_add, hT _ _ hi, hH _ _ _ hi hj, wr_at, jb_inr, ok_of, hm, e]
        · intro rec2
          dsimp only
          rw [len_eq, hdT_len, ilt_iff, decide_eq_false (by omega), cond_false, iadd_eq (by omega) (by omega), memT_congr fun i' j' hi' hj' => show stT (egB X) k i X.length i' j' = stT (egB X) k (i + 1) 0 i' j' by
            unfold stT
            by_cases hc : i' ≤ i
            · rw [if_pos (by omega), if_pos (by omega)]
            · rw [if_neg (by omega), if_neg (by omega)]]
          rfl
      · intro rec2
        dsimp only
        rw [len_eq, hdT_len, ilt_iff, decide_eq_false (by omega), cond_false, iadd_eq (by omega) (by omega), memT_congr fun i' j' hi' hj' => show stT (egB X) k X.length 0 i' j' = tabB (egB X) (k + 1) i' j' by
          unfold stT
          rw [if_pos (by omega)]]
        rfl
    · intro rec
      dsimp only
      rw [len_eq, hdT_len, ilt_iff, decide_eq_false (by omega), cond_false]
end Go.Px.Seat

/- The program's search; the code, both sides; the law. Seat G. -/
namespace Go.Px.Seat
open Go Pm Pt
set_option linter.unusedVariables false
def pick (l : List Tn) : List ByteArray := (l.filter isU).map fun x => x.2.2.1
theorem pick_len (l : List Tn) : (pick l).length ≤ l.length := by
  unfold pick
  rw [List.length_map]
  exact List.length_filter_le _ _
theorem mem_pick {l : List Tn} {s : ByteArray} : s ∈ pick l ↔ ∃ x ∈ l, isU x = true ∧ x.2.2.1 = s := by
  unfold pick
  rw [List.mem_map]
  constructor
  · rintro ⟨x, hx, rfl⟩
    exact ⟨x, (List.mem_filter.1 hx).1, (List.mem_filter.1 hx).2, rfl⟩
  · rintro ⟨x, hx, hu, rfl⟩
    exact ⟨x, List.mem_filter.2 ⟨hx, hu⟩, rfl⟩
theorem pick_snoc {l : List Tn} {x : Tn} : pick (l ++ [x]) = pick l ++ (if isU x = true then [x.2.2.1] else []) := by
  unfold pick
  rw [List.filter_append, List.map_append]
  cases h : isU x <;> simp [List.filter, h]
theorem k_names : Ev fun n => ∀ l : List Tn, l.length ≤ 1048576 → ∃ r, c_i_Term_names ((C B0).run n) l = some (r, ()) ∧ r.length ≤ 1048576 ∧ ∀ s, s ∈ r ↔ s ∈ pick l := by
  refine ((k_Sort.and k_Compact).and (k_ClipS (B := B0))).succ fun n hn ⟨⟨k1, k2⟩, k3⟩ l hl => ?_
  have hp := pick_len l
  refine ⟨compB (sortB (pick l)), ?_, ?_, fun s => by rw [mem_compB, mem_sortB]⟩
  · rw [run_succB', e_i_Term_names]
    unfold p_i_Term_names
    rw [len_eq]
    refine loop_rule (fun i => (((i : Int), ((l.length : Int), (l, ((), ((), ()))))), (pick (l.take i), ([], ())))) _ (m := l.length) rfl ?_ ?_ (by omega)
    · intro rec i hi
      have e : iadd .i64 (i : Int) 1 = ((i + 1 : Nat) : Int) := iadd_eq (by omega) (by omega)
      have hak : ∀ x, aok (pick (l.take i) ++ [x]) 16 = true := fun x => aok_true (by
        have := pick_len (l.take i)
        rw [List.length_take] at this
        rw [List.length_append]
        simp only [List.length_cons, List.length_nil]
        omega)
      dsimp only
      rw [ilt_iff, decide_eq_true (by omega), cond_true, len_eq, ok_of (inB_true (by omega) (by omega)), Int.toNat_natCast, take_snoc (d := (0, (0, ((bs []), ())))) hi, pick_snoc]
      generalize l.getD i (0, (0, ((bs []), ()))) = x at *
      have hiu : isU x = (bif x.1 == 2 then true else x.1 == 13) := by unfold isU; cases x.1 == 2 <;> rfl
      rw [hiu]
      cases h2 : x.1 == 2 with
      | true =>
        simp only [cond_true, jb_inr, hak, ok_of, e, if_true]
      | false =>
        cases h13 : x.1 == 13 with
        | true => simp only [cond_true, cond_false, jb_inr, hak, ok_of, e, if_true]
        | false =>
          simp only [cond_false, jb_inr, e]
          rw [if_neg (by decide), List.append_nil]
    · intro rec
      dsimp only
      rw [ilt_iff, decide_eq_false (by omega), cond_false, List.take_length, k1 _ _ (by omega)]
      simp only [Option.bind_some]
      rw [← len_sortB (pick l), k2 _ _ (by rw [len_sortB]; omega)]
      simp only [Option.bind_some]
      rw [k3]
      rfl
  · have : (compB (sortB (pick l))).length ≤ (sortB (pick l)).length := by
      unfold compB textsOf
      rw [List.length_map]
      refine Nat.le_trans (comp_len _) ?_
      unfold bytesOf
      rw [List.length_map]
      exact Nat.le_refl _
    rw [len_sortB] at this
    omega
abbrev eR (X : List Df) : Nat → Nat → Prop := fun i j => egB X i j = true
theorem getD_set_ne {α : Type} {l : List α} {i j : Nat} {x d : α} (h : i ≠ j) : (l.set i x).getD j d = l.getD j d := by
  rw [List.getD_eq_getElem?_getD, List.getElem?_set, if_neg h, List.getD_eq_getElem?_getD]
theorem ex_u {α : Type} {x : Option (α × Unit)} {P : α → Prop} (h : Tot x fun r => P r.1) : ∃ r, x = some (r, ()) ∧ P r := by
  obtain ⟨⟨r, u⟩, h1, h2⟩ := h
  exact ⟨r, h1, h2⟩
theorem k_uses : Ev fun n => ∀ X V L, ∀ a : Nat, Sm X V L → a < X.length → ∃ r, c_i_Prog_uses ((C B0).run n) X V L a = some (r, ()) ∧ r.length = X.length ∧ ∀ k, k < X.length → (r.getD k false = true ↔ Pt.Reach (eR X) a k) := by
  refine (k_names.and (k_defAt (B := B0))).succ fun n hn ⟨kn, kd⟩ X V L a h ha => ?_
  have hX1 := h.1.1
  rw [run_succB', e_i_Prog_uses]
  unfold p_i_Prog_uses
  rw [len_eq, ok_of (mkOk_true (by omega) (by omega) (by omega)), Int.toNat_natCast]
  apply ex_u
  have hreach : ∀ {sn : List Bool}, (∀ k, k < X.length → sn.getD k false = true → Pt.Reach (eR X) a k) → sn.length = X.length → (∀ w : Nat, (w = a ∨ sn.getD w false = true) → ∀ j, egB X w j = true → sn.getD j false = true) →
      ∀ k, k < X.length → (sn.getD k false = true ↔ Pt.Reach (eR X) a k) := fun {sn} h1 hl h2 k hk => ⟨h1 k hk, fun hr => reach_closed (M := fun k => sn.getD k false = true) (fun j hj => h2 a (.inl rfl) j hj) (fun i hi j hj => h2 i (.inr hi) j hj) hr⟩
  refine tot_iter (Q := fun r : List Bool × Unit => r.1.length = X.length ∧ ∀ k, k < X.length → (r.1.getD k false = true ↔ Pt.Reach (eR X) a k))
    (fun q => ∃ (qu : List Int) (sn : List Bool), q = (((), ((), ((), ((), ())))), (qu, ((X, (V, (L, ()))), (sn, ())))) ∧ sn.length = X.length ∧ (∀ z ∈ qu, ∃ w : Nat, z = w ∧ w < X.length ∧ (w = a ∨ Pt.Reach (eR X) a w)) ∧
      (∀ k, k < X.length → sn.getD k false = true → Pt.Reach (eR X) a k) ∧ (∀ w : Nat, (w = a ∨ sn.getD w false = true) → (w : Int) ∈ qu ∨ ∀ j, egB X w j = true → sn.getD j false = true) ∧ qu.length + unm sn ≤ 1 + X.length)
    (fun q => List.length (α := Int) q.2.1 + unm q.2.2.2.1) (by
      simp only
      have := unm_le (List.replicate X.length false)
      rw [List.length_replicate] at this
      simp only [List.length_cons, List.length_nil]
      omega)
    ⟨[(a : Int)], List.replicate X.length false, rfl, List.length_replicate, fun z hz => ⟨a, by simpa using hz, ha, .inl rfl⟩, fun k hk hk2 => (by
      rw [List.getD_eq_getElem?_getD, List.getElem?_replicate, if_pos hk] at hk2
      cases hk2), fun w hw => .inl (by
        rcases hw with hw | hw
        · simp [hw]
        · rw [List.getD_eq_getElem?_getD, List.getElem?_replicate] at hw
          split at hw <;> cases hw), by
      have := unm_le (List.replicate X.length false)
      rw [List.length_replicate] at this
      simp only [List.length_cons, List.length_nil]
      omega⟩ ?_
  rintro rec _ ⟨qu, sn, rfl, hsl, hq, hs, hc, hm⟩ ih
  dsimp only
  rw [len_eq, ilt_iff]
  cases qu with
  | nil =>
    rw [decide_eq_false (by simp), cond_false]
    exact tot_some ⟨hsl, hreach hs hsl fun w hw => (hc w hw).resolve_left (by simp)⟩
  | cons z qu =>
    obtain ⟨v, rfl, hv, hva⟩ := hq z (List.mem_cons_self ..)
    have hcl : (List.length ((v : Int) :: qu) : Int) = (qu.length : Int) + 1 := by simp
    have hpart : part ((v : Int) :: qu) (Int.toNat 1) (Int.toNat (List.length ((v : Int) :: qu) : Int) - Int.toNat 1) = qu := by
      show List.drop 1 (List.take (1 + ((qu.length + 1) - 1)) ((v : Int) :: qu)) = qu
      rw [List.take_of_length_le (by simp; omega)]
      rfl
    rw [decide_eq_true (by rw [hcl]; omega), cond_true, ok_of (inB_true (by omega) (by rw [hcl]; omega)), hpart]
    show Tot (ok (inB (v : Int) (len X)) <| ok (sliceOk 1 _ _) <| _) _
    rw [ok_of (inB_true (by omega) (by rw [len_eq]; omega)), ok_of (sliceOk_true (by omega) (by rw [hcl]; omega) (by omega))]
    have hd := h.1.2 _ (getD_mem (d := dDf) hv)
    obtain ⟨nm, e1, e2, e3⟩ := kn _ hd.2.2.1
    show Tot ((c_i_Term_names ((C B0).run n) (X.getD (Int.toNat (v : Int)) dDf).2.2.1.1).bind _) _
    rw [Int.toNat_natCast, e1]
    simp only [Option.bind_some]
    rw [len_eq]
    -- the names
    have hM : qu.length + 1 + unm sn ≤ 1 + X.length := by simpa using hm
    refine tot_iter (fun q => ∃ (t : Nat) (qu' : List Int) (sn' : List Bool), q = (((t : Int), ((nm.length : Int), ((), ((), ((), ((), ((), ()))))))), (nm, ((X, (V, (L, ()))), (sn', (qu', ()))))) ∧ t ≤ nm.length ∧ sn'.length = X.length ∧
        (∀ z ∈ qu', ∃ w : Nat, z = w ∧ w < X.length ∧ (w = a ∨ Pt.Reach (eR X) a w)) ∧
        (∀ k, k < X.length → sn'.getD k false = true → Pt.Reach (eR X) a k) ∧ (∀ w : Nat, (w = a ∨ sn'.getD w false = true) → (w : Int) ∈ qu' ∨ w = v ∨ ∀ j, egB X w j = true → sn'.getD j false = true) ∧
        (∀ s ∈ nm.take t, ∀ j : Nat, dAt X s = j → sn'.getD j false = true) ∧ qu'.length + unm sn' ≤ qu.length + unm sn)
      (fun q => 1048577 - q.1.1.toNat) (by simp only; omega)
      ⟨0, qu, sn, rfl, Nat.zero_le _, hsl, fun z hz => hq z (List.mem_cons_of_mem _ hz), hs, fun w hw => by
        rcases hc w hw with h | h
        · rcases List.mem_cons.1 h with h | h
          · exact .inr (.inl (by omega))
          · exact .inl h
        · exact .inr (.inr h), fun s hs => by simp at hs, Nat.le_refl _⟩ ?_
    rintro rec2 _ ⟨t, qu', sn', rfl, ht, hsl', hq', hs', hc', hn', hm'⟩ ih2
    dsimp only
    rw [ilt_iff]
    by_cases h1 : t < nm.length
    · have e : iadd .i64 (t : Int) 1 = ((t + 1 : Nat) : Int) := iadd_eq (by omega) (by omega)
      rw [decide_eq_true (by omega), cond_true, len_eq, ok_of (inB_true (by omega) (by omega)), Int.toNat_natCast, kd _ _ _ _ (by omega)]
      simp only [Option.bind_some]
      have hmem : nm.getD t (bs []) ∈ nm := getD_mem h1
      have htk := take_snoc (d := bs []) h1
      rw [ile_iff, len_eq, hsl']
      rcases dAt_lt (X := X) (s := nm.getD t (bs [])) with ⟨j, hj, _, hdj⟩ | hdj
      · rw [hdj, decide_eq_true (by omega), cond_true, ok_of (inB_true (by omega) (by omega)), Int.toNat_natCast]
        have hvj : egB X v j = true := by
          obtain ⟨x, hx, hu, hxs⟩ := mem_pick.1 ((e3 _).1 hmem)
          exact egB_iff.2 ⟨x, hx, hu, by rw [hxs]; exact hdj⟩
        have hrj : Pt.Reach (eR X) a j := by
          rcases hva with rfl | hr
          · exact .one hvj
          · exact hr.last hvj
        cases hsj : sn'.getD j false with
        | true =>
          show Tot (rec2 (((iadd .i64 (t : Int) 1), _), _)) _
          rw [e]
          refine ih2 _ ⟨t + 1, qu', sn', rfl, by omega, hsl', hq', hs', hc', fun s hs j' hj' => ?_, hm'⟩ (by simp only; omega)
          rw [htk] at hs
          rcases List.mem_append.1 hs with hs | hs
          · exact hn' s hs j' hj'
          · have : s = nm.getD t (bs []) := by simpa using hs
            rw [this, hdj] at hj'
            have : j' = j := by omega
            rw [this]; exact hsj
        | false =>
          have hul : unm (sn'.set j true) + 1 = unm sn' := unm_set (by omega) hsj
          have hak : aok (qu' ++ [(j : Int)]) 8 = true := aok_true (by rw [List.length_append]; simp only [List.length_cons, List.length_nil]; omega)
          simp only [Bool.not_false, jb_inr, cond_true]
          rw [len_eq, hsl', ok_of (inB_true (by omega) (by omega)), ok_of hak, Int.toNat_natCast]
          show Tot (rec2 (((iadd .i64 (t : Int) 1), _), _)) _
          rw [e]
          have hgm : ∀ k, sn'.getD k false = true → (sn'.set j true).getD k false = true := fun k hk => by
            by_cases hjk : j = k
            · subst hjk; exact getD_set (by omega)
            · rw [getD_set_ne hjk]; exact hk
          have hgn : ∀ k, (sn'.set j true).getD k false = true → k = j ∨ sn'.getD k false = true := fun k hk => by
            by_cases hjk : j = k
            · exact .inl hjk.symm
            · rw [getD_set_ne hjk] at hk; exact .inr hk
          refine ih2 _ ⟨t + 1, qu' ++ [(j : Int)], sn'.set j true, rfl, by omega, by rw [List.length_set]; exact hsl', fun z hz => ?_, fun k hk hk2 => ?_, fun w hw => ?_, fun s hs j' hj' => ?_, ?_⟩ (by simp only; omega)
          · rcases List.mem_append.1 hz with hz | hz
            · exact hq' z hz
            · exact ⟨j, by simpa using hz, hj, .inr hrj⟩
          · rcases hgn k hk2 with rfl | hk2
            · exact hrj
            · exact hs' k hk hk2
          · by_cases hwj : w = j
            · exact .inl (List.mem_append.2 (.inr (by simp [hwj])))
            · have hw' : w = a ∨ sn'.getD w false = true := hw.imp id fun hw => (hgn w hw).resolve_left hwj
              rcases hc' w hw' with h | h | h
              · exact .inl (List.mem_append.2 (.inl h))
              · exact .inr (.inl h)
              · exact .inr (.inr fun j' hj' => hgm j' (h j' hj'))
          · rw [htk] at hs
            rcases List.mem_append.1 hs with hs | hs
            · exact hgm j' (hn' s hs j' hj')
            · have : s = nm.getD t (bs []) := by simpa using hs
              rw [this, hdj] at hj'
              have : j' = j := by omega
              rw [this]; exact getD_set (by omega)
          · rw [List.length_append]
            simp only [List.length_cons, List.length_nil]
            omega
      · rw [hdj, decide_eq_false (by omega), cond_false]
        show Tot (rec2 (((iadd .i64 (t : Int) 1), _), _)) _
        rw [e]
        refine ih2 _ ⟨t + 1, qu', sn', rfl, by omega, hsl', hq', hs', hc', fun s hs j' hj' => ?_, hm'⟩ (by simp only; omega)
        rw [htk] at hs
        rcases List.mem_append.1 hs with hs | hs
        · exact hn' s hs j' hj'
        · have : s = nm.getD t (bs []) := by simpa using hs
          rw [this, hdj] at hj'
          omega
    · rw [decide_eq_false (by omega), cond_false]
      obtain rfl : t = nm.length := by omega
      refine ih _ ⟨qu', sn', rfl, hsl', hq', hs', fun w hw => ?_, by omega⟩ (by simp only [List.length_cons]; omega)
      rcases hc' w hw with h | h | h
      · exact .inl h
      · refine .inr fun j hj => ?_
        subst h
        obtain ⟨x, hx, hu, hxd⟩ := egB_iff.1 hj
        exact hn' x.2.2.1 (by rw [List.take_length]; exact (e3 _).2 (mem_pick.2 ⟨x, hx, hu, rfl⟩)) j hxd
      · exact .inr h
def lpB (X : List Df) : Bool := (List.range X.length).any fun i => tabB (egB X) X.length i i
theorem tab_reach {X : List Df} {i j : Nat} : tabB (egB X) X.length i j = true ↔ Pt.Reach (eR X) i j := by
  rw [tabB_iff]
  exact tab_iff fun i j h => egB_lt h
theorem k_loop : Ev fun n => ∀ X V L, Sm X V L → ∃ r, c_i_Prog_loop ((C B0).run n) X V L = some (r, ()) ∧ ile 0 r = lpB X := by
  refine k_uses.succ fun n hn k X V L h => ?_
  have hX1 := h.1.1
  refine ⟨idxI (fun i => tabB (egB X) X.length i i) X.length, ?_, by rw [ile_iff, idxI_any]; rfl⟩
  rw [run_succB', e_i_Prog_loop]
  unfold p_i_Prog_loop
  rw [len_eq]
  refine (find_rule (fun i => (((i : Int), ((X.length : Int), ((), (0, ())))), ((X, (V, (L, ()))), ()))) (fun i => if tabB (egB X) X.length i i = true then some ((i : Int), ()) else none) (some (-1, ())) (m := X.length) ?_ ?_ (by omega)).trans (idx_unit (f := fun x => (x, ())))
  · intro rec i hi
    obtain ⟨r, e1, e2, e3⟩ := k X V L i h hi
    dsimp only
    rw [ilt_iff, decide_eq_true (by omega), cond_true, e1]
    simp only [Option.bind_some]
    rw [len_eq, e2, ok_of (inB_true (by omega) (by omega)), Int.toNat_natCast, iadd_eq (by omega) (by omega), show r.getD i false = tabB (egB X) X.length i i by rw [Bool.eq_iff_iff, e3 i hi, tab_reach]]
    cases tabB (egB X) X.length i i <;> rfl
  · intro rec
    dsimp only
    rw [ilt_iff, decide_eq_false (by omega), cond_false]
/-! the code -/
def codeB : Code := fun X V L =>
  if shp X V L = 0 then
    if fnz (dfC X) X = 0 then
      if fnz (rlC X V) L = 0 then
        bif lpB X then 10 else bif decide (V.length = 0) || decide (L.length = 0) then 11 else 0
      else fnz (rlC X V) L
    else fnz (dfC X) X
  else shp X V L
theorem len0 {α : Type} {l : List α} : (len l == 0) = decide (l.length = 0) := by
  rw [len_eq]
  cases l with
  | nil => rfl
  | cons x l => simp; omega
theorem k_iProgCode : Ev fun n => ∀ X V L, Sm X V L → c_i_ProgCode ((C B0).run n) X V L = some (codeB X V L, ()) := by
  refine ((k_iFormed.and ((k_many (B := B0)).and (k_again (B := B0)))).and ((k_defCode (B := B0)).and (k_relCode.and k_loop))).succ fun n hn ⟨⟨kf, km, ka⟩, kd, kr, kl⟩ X V L h => ?_
  have hX1 := h.1.1
  have hL1 := h.2.2.1
  rw [run_succB', e_i_ProgCode]
  unfold p_i_ProgCode codeB shp
  rw [kf X V L h, km X V L h, ka X V L h]
  simp only [Option.bind_some]
  cases fm X V L with
  | false => rfl
  | true =>
    cases mnB X V L with
    | true => rfl
    | false =>
      cases agB X V with
      | true => rfl
      | false =>
        simp only [Bool.not_true, cond_false, if_true]
        rw [len_eq]
        refine (find_list (fun i => (((i : Int), ((X.length : Int), (X, ((), (0, ()))))), ((X, (V, (L, ()))), ()))) (fun d => if dfC X d = 0 then none else some (dfC X d, ())) X dDf (some ((if fnz (rlC X V) L = 0 then bif lpB X then 10 else bif decide (V.length = 0) || decide (L.length = 0) then 11 else 0 else fnz (rlC X V) L), ())) ?_ ?_ (by omega)).trans ?_
        · intro rec i hi
          have e : iadd .i64 (i : Int) 1 = ((i + 1 : Nat) : Int) := iadd_eq (by omega) (by omega)
          dsimp only
          rw [ilt_iff, decide_eq_true (by omega), cond_true, len_eq, ok_of (inB_true (by omega) (by omega)), Int.toNat_natCast, kd X V L _ h (h.1.2 _ (getD_mem hi))]
          simp only [Option.bind_some]
          rw [bne_eq, e]
          by_cases h0 : dfC X (X.getD i dDf) = 0
          · rw [decide_eq_false (fun hh => hh h0), if_pos h0]; rfl
          · rw [decide_eq_true h0, if_neg h0]; rfl
        · intro rec
          dsimp only
          rw [ilt_iff, decide_eq_false (by omega), cond_false, len_eq]
          refine (find_list (fun i => (((i : Int), ((L.length : Int), (L, ((), (0, ()))))), ((X, (V, (L, ()))), ()))) (fun r => if rlC X V r = 0 then none else some (rlC X V r, ())) L dRl (some ((bif lpB X then 10 else bif decide (V.length = 0) || decide (L.length = 0) then 11 else 0), ())) ?_ ?_ (by omega)).trans ?_
          · intro rec i hi
            have e : iadd .i64 (i : Int) 1 = ((i + 1 : Nat) : Int) := iadd_eq (by omega) (by omega)
            dsimp only
            rw [ilt_iff, decide_eq_true (by omega), cond_true, len_eq, ok_of (inB_true (by omega) (by omega)), Int.toNat_natCast, kr X V L _ h (h.2.2.2 _ (getD_mem hi))]
            simp only [Option.bind_some]
            rw [bne_eq, e]
            by_cases h0 : rlC X V (L.getD i dRl) = 0
            · rw [decide_eq_false (fun hh => hh h0), if_pos h0]; rfl
            · rw [decide_eq_true h0, if_neg h0]; rfl
          · intro rec
            dsimp only
            obtain ⟨r, e1, e2⟩ := kl X V L h
            rw [ilt_iff, decide_eq_false (by omega), cond_false, e1]
            simp only [Option.bind_some]
            rw [e2, len0, len0]
            cases lpB X <;> cases decide (V.length = 0) <;> cases decide (L.length = 0) <;> rfl
          · rw [fnz_or (g := fun x => (x, ()))]
            split <;> rfl
        · rw [fnz_or (g := fun x => (x, ()))]
          split <;> rfl
end Go.Px.Seat

/- The reference's code; the law. Seat G. -/
namespace Go.Px.Seat
open Go Pm Pt
set_option linter.unusedVariables false
section
variable {α : Type} {f : α → Int} {l : List α} {i : Nat} {d : α}
theorem fnz_hit (hi : i < l.length) (h0 : fnz f (l.take i) = 0) (h : f (l.getD i d) ≠ 0) : fnz f l = f (l.getD i d) := by
  have : l = l.take i ++ l.getD i d :: l.drop (i + 1) := by
    rw [List.getD_eq_getElem?_getD, List.getElem?_eq_getElem hi]
    simp
  rw [show fnz f l = fnz f (l.take i ++ l.getD i d :: l.drop (i + 1)) from congrArg _ this, fnz_app, if_pos h0, fnz_cons, if_neg h]
theorem fnz_on (hi : i < l.length) (h0 : fnz f (l.take i) = 0) (h : f (l.getD i d) = 0) : fnz f (l.take (i + 1)) = 0 := by
  rw [take_snoc (d := d) hi, fnz_app, if_pos h0, fnz_cons, if_pos h, fnz_nil]
end
theorem k_sProgCode : Ev fun n => ∀ X V L, Sm X V L → c_s_ProgCode ((C B0).run n) X V L = some (codeB X V L, ()) := by
  refine (k_shape.and (((k_l13DefCode (B := B0)).and k_l13RelCode).and (k_table (B := B0)))).succ fun n hn ⟨ks, ⟨kd, kr⟩, kt⟩ X V L h => ?_
  have hX1 := h.1.1
  have hL1 := h.2.2.1
  rw [run_succB', e_s_ProgCode]
  unfold p_s_ProgCode
  rw [ks X V L h]
  simp only [Option.bind_some]
  refine iter_const (fun q => (∃ i : Nat, q = (((i : Int), ((), (0, (0, ())))), ((X, (V, (L, ()))), ([], ()))) ∧ i ≤ X.length ∧ fnz (dfC X) (X.take i) = 0 ∧ shp X V L = 0) ∨ (∃ (i : Nat) (c : Int), q = (((i : Int), ((), (c, (0, ())))), ((X, (V, (L, ()))), ([], ()))) ∧ i ≤ X.length ∧ c ≠ 0 ∧ codeB X V L = c)) (fun q => 1048577 - q.1.1.toNat) _ ?_ n _ (by simp only; omega) (by
    by_cases h0 : shp X V L = 0
    · exact .inl ⟨0, by rw [h0]; rfl, Nat.zero_le _, rfl, h0⟩
    · exact .inr ⟨0, shp X V L, rfl, Nat.zero_le _, h0, by unfold codeB; rw [if_neg h0]⟩)
  rintro rec _ (⟨i, rfl, hi, hz, hsh⟩ | ⟨i, c, rfl, hi, hc, hcc⟩) ih
  · dsimp only
    rw [len_eq, ilt_iff]
    by_cases h1 : i < X.length
    · rw [decide_eq_true (by omega)]
      simp only [cond_true, jb_inr]
      rw [show ((0 : Int) == 0) = true from rfl, cond_true, len_eq, ok_of (inB_true (by omega) (by omega)), Int.toNat_natCast, kd X V L _ h (h.1.2 _ (getD_mem h1))]
      simp only [Option.bind_some]
      rw [iadd_eq (by omega) (by omega)]
      by_cases h0 : dfC X (X.getD i dDf) = 0
      · rw [h0]
        exact ih _ (.inl ⟨i + 1, rfl, by omega, fnz_on h1 hz h0, hsh⟩) (by simp only; omega)
      · exact ih _ (.inr ⟨i + 1, _, rfl, by omega, h0, by
          unfold codeB
          have := fnz_hit h1 hz h0
          rw [if_pos hsh, if_neg (by rw [this]; exact h0), this]⟩) (by simp only; omega)
    · rw [decide_eq_false (by omega)]
      simp only [cond_false, jb_inr]
      obtain rfl : i = X.length := by omega
      rw [List.take_length] at hz
      clear ih
      refine iter_const (fun q => (∃ i : Nat, q = (((i : Int), ((), (0, (0, ())))), ((X, (V, (L, ()))), ([], ()))) ∧ i ≤ L.length ∧ fnz (rlC X V) (L.take i) = 0) ∨ (∃ (i : Nat) (c : Int), q = (((i : Int), ((), (c, (0, ())))), ((X, (V, (L, ()))), ([], ()))) ∧ i ≤ L.length ∧ c ≠ 0 ∧ codeB X V L = c)) (fun q => 1048577 - q.1.1.toNat) _ ?_ n _ (by simp only; omega) (.inl ⟨0, rfl, Nat.zero_le _, rfl⟩)
      rintro rec _ (⟨i, rfl, hi, hz2⟩ | ⟨i, c, rfl, hi, hc, hcc⟩) ih
      · dsimp only
        rw [len_eq, ilt_iff]
        by_cases h1 : i < L.length
        · rw [decide_eq_true (by omega)]
          simp only [cond_true, jb_inr]
          rw [show ((0 : Int) == 0) = true from rfl, cond_true, len_eq, ok_of (inB_true (by omega) (by omega)), Int.toNat_natCast, kr X V L _ h (h.2.2.2 _ (getD_mem h1))]
          simp only [Option.bind_some]
          rw [iadd_eq (by omega) (by omega)]
          by_cases h0 : rlC X V (L.getD i dRl) = 0
          · rw [h0]
            exact ih _ (.inl ⟨i + 1, rfl, by omega, fnz_on h1 hz2 h0⟩) (by simp only; omega)
          · exact ih _ (.inr ⟨i + 1, _, rfl, by omega, h0, by
              unfold codeB
              have := fnz_hit h1 hz2 h0
              rw [if_pos hsh, if_pos hz, if_neg (by rw [this]; exact h0), this]⟩) (by simp only; omega)
        · rw [decide_eq_false (by omega)]
          simp only [cond_false, jb_inr]
          obtain rfl : i = L.length := by omega
          rw [List.take_length] at hz2
          rw [show ((0 : Int) != 0) = false from rfl, cond_false, kt X V L h]
          simp only [Option.bind_some]
          have hcode : codeB X V L = bif lpB X then 10 else bif decide (V.length = 0) || decide (L.length = 0) then 11 else 0 := by
            unfold codeB
            rw [if_pos hsh, if_pos hz, if_pos hz2]
          rw [hcode]
          refine (find_rule (fun i => (((i : Int), (hdT X.length, ((), (0, ())))), ((X, (V, (L, ()))), (memT X.length (tabB (egB X) X.length), ())))) (fun i => if tabB (egB X) X.length i i = true then some (10, ()) else none) (some ((bif decide (V.length = 0) || decide (L.length = 0) then 11 else 0), ())) (m := X.length) ?_ ?_ (by omega)).trans ?_
          · intro rec i hi
            dsimp only
            rw [len_eq, hdT_len, ilt_iff, decide_eq_true (by omega), cond_true, ok_of (inB_true (by omega) (by omega)), Int.toNat_natCast, hdT_get hi]
            simp only [Nat.zero_add]
            rw [ok_of (inB_true (by omega) (by omega)), ok_of (hit_at (memT_at hi) (by rw [rowT_len]; exact hi)), row_at (memT_at hi), rowT_get hi, iadd_eq (by omega) (by omega)]
            cases tabB (egB X) X.length i i <;> rfl
          · intro rec
            dsimp only
            rw [len_eq, hdT_len, ilt_iff, decide_eq_false (by omega), cond_false, len0, len0]
            cases decide (V.length = 0) <;> cases decide (L.length = 0) <;> rfl
          · rw [fs_any]
            unfold lpB
            cases (List.range X.length).any fun i => tabB (egB X) X.length i i <;> rfl
      · have hcz : (c == 0) = false := by simpa using hc
        have hcn : (c != 0) = true := by simpa using hc
        dsimp only
        rw [hcc]
        cases ilt (i : Int) (len L) <;> simp only [cond_true, cond_false, jb_inr, hcz, hcn]
  · have hcz : (c == 0) = false := by simpa using hc
    have hcn : (c != 0) = true := by simpa using hc
    obtain ⟨m, rfl⟩ : ∃ m, n = m + 1 := ⟨n - 1, by omega⟩
    dsimp only
    rw [hcc]
    have hin : ∀ {F : ((Int × Unit × Int × Int × Unit) × (List Df × List ByteArray × List Rl × Unit) × Mem Bool × Unit → Option (Int × Unit)) → (Int × Unit × Int × Int × Unit) × (List Df × List ByteArray × List Rl × Unit) × Mem Bool × Unit → Option (Int × Unit)} {q}, (∀ rec, F rec q = some (c, ())) → iter F (m + 1) q = some (c, ()) := fun h => h _
    cases ilt (i : Int) (len X) <;> simp only [cond_true, cond_false, jb_inr, hcz] <;> (apply hin; intro rec; cases ilt (0 : Int) (len L) <;> simp only [cond_true, cond_false, jb_inr, hcz, hcn])
theorem k_law : Ev fun n => ∀ (D : Mem Dh) (R : Mem Rh) (S : Mem ByteArray) (N : Mem Tn) (X : List Df) (V : List ByteArray) (L : List Rl) (k : Int), SmDs bigL X → SmL bigL V → SmRs bigL L →
      ∃ D' R' S' N', c_w_FnExactProgShift_deep ((C B0).run n) D R S N X V L k = some (D', (R', (S', (N', (true, ()))))) :=
  k_FnExactProgShift k_iProgCode k_sProgCode
end Go.Px.Seat
