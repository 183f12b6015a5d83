/- Own texts, part M3: PtT PtU PtV PtW PtZ PzB. -/
import Derived.Test.YthallaeafilbbaaGreatDoorM2
import Derived.Test.YthallaeafilbbaaGreatDoorM1
set_option linter.unusedVariables false

/- Terms that are drawn of a code. Seat D. -/
namespace Go.Px.Seat
open Go Pm Pt
set_option linter.unusedVariables false
abbrev Enc := Int × (Int × (ByteArray × Unit))
def okN (l : List Nat) : Prop := Bl l ∧ l.length ≤ 11 ∧ nameOk l = true
def encN (x : Nd) : Enc := (x.1, (x.2.1, (bs x.2.2, ())))
def encC (c : List Nat × Int) : ByteArray × (Int × Unit) := (bs c.1, (c.2, ()))
def okC (c : List Nat × Int) : Prop := okN c.1 ∧ 0 ≤ c.2 ∧ c.2 ≤ 6
def ND (l : List Nd) : Prop := ∀ x ∈ l, Bl x.2.2 ∧ x.2.2.length ≤ 11
def gC : Nat → Nat
  | 0 => 3
  | d + 1 => 3 + 6 * gC d
def gN : Nat → Nat
  | 0 => 1
  | d + 1 => 1 + 6 * gN d
theorem nd_app {a b : List Nd} (ha : ND a) (hb : ND b) : ND (a ++ b) := fun x hx => (List.mem_append.1 hx).elim (ha x) (hb x)
theorem bs_at {N : List (List Nat)} {i : Nat} (h : i < N.length) : ∃ l ∈ N, (N.map bs).getD i (bs []) = bs l := by
  refine ⟨N[i], List.getElem_mem h, ?_⟩
  rw [List.getD_eq_getElem?_getD, List.getElem?_map, List.getElem?_eq_getElem h]; rfl
theorem encC_at {K : List (List Nat × Int)} {i : Nat} (h : i < K.length) : ∃ c ∈ K, (K.map encC).getD i ((bs []), (0, ())) = encC c := by
  refine ⟨K[i], List.getElem_mem h, ?_⟩
  rw [List.getD_eq_getElem?_getD, List.getElem?_map, List.getElem?_eq_getElem h]; rfl
theorem num_dec {L : List (List Nat)} (h : (L.all fun l => l.all (fun x => decide (x < 256)) && (decide (l.length ≤ 11) && numOk l)) = true) : ∀ l ∈ L, Bl l ∧ l.length ≤ 11 ∧ numOk l = true := by
  intro l hl
  have := List.all_eq_true.1 h l hl
  rw [Bool.and_eq_true, Bool.and_eq_true, List.all_eq_true, decide_eq_true_eq] at this
  exact ⟨fun x hx => by simpa using this.1 x hx, this.2.1, this.2.2⟩
theorem k_number2 : Ev fun n => ∀ (b : List Int) (p : Int), Code b → 0 ≤ p → p ≤ 1000000000000000 → ∃ l, c_s_l34Rd_number ((C B0).run n) b p = some (bs l, (b, (p + 1, ()))) ∧ Bl l ∧ l.length ≤ 11 ∧ numOk l = true := by
  refine k_pick.succ fun n hn kp b p hc h0 h1 => ?_
  rw [run_succ, e_s_l34Rd_number]
  unfold p_s_l34Rd_number
  obtain ⟨v, hv, v0, v1⟩ := kp b p 12 hc h0 h1
  have v1 := v1 (by decide)
  rw [hv]
  simp only [Option.bind_some]
  obtain ⟨l, hl, he⟩ := bs_at (N := [[48], [49], [50], [51], [49, 48], [48, 46, 53], [49, 46, 50, 53], [50, 101, 51], [50, 46, 53, 101, 45, 49], [49, 48, 48], [55], [49, 101, 45, 52, 48, 48]]) (i := v.toNat) (by show v.toNat < 12; omega)
  refine ⟨l, (ok_of (inB_true v0 v1) _).trans ?_, num_dec (by decide) l hl⟩
  exact congrArg (fun s => some (s, (b, (p + 1, ())))) he
def GrowOk (n d : Nat) : Prop := ∀ (b : List Int) (p : Int) (t : List Enc) (N : List (List Nat)) (K : List (List Nat × Int)) (left : Int), Code b → 0 ≤ p → p + gC d ≤ 10000000000000 → t.length + gN d ≤ 1000000 → (∀ l ∈ N, okN l) → (∀ c ∈ K, okC c) → left ≤ d → left ≤ 100 → ∃ l p', c_s_l34Rd_grow ((C B0).run n) b p t (N.map bs) (K.map encC) left = some (t ++ l.map encN, (b, (p', ()))) ∧ Trm l ∧ ND l ∧ l.length ≤ gN d ∧ p ≤ p' ∧ p' ≤ p + gC d
theorem sub_one {x : Nd} (h : nargs x = 0) : Trm [x] := Trm.mk [] x (fun p hp => by cases hp) h
theorem nargs_num {l : List Nat} (h : numOk l = true) : nargs (1, 0, l) = 0 := by unfold nargs; simp [h]
theorem nargs_name {l : List Nat} (h : nameOk l = true) : nargs (2, 0, l) = 0 := by unfold nargs; simp [h]
theorem nargs_call {l : List Nat} {m : Int} (h : nameOk l = true) (h1 : 1 ≤ m) (h6 : m ≤ 6) : nargs (13, m, l) = m := by unfold nargs; simp [h, h1, h6]
def kinds : List Int := [3, 4, 5, 6, 7, 8, 9, 10, 11, 12, 4, 6]
theorem kinds_at {v : Nat} (h : v < 12) : 3 ≤ kinds.getD v 0 ∧ kinds.getD v 0 ≤ 12 := by
  have : ∀ v : Fin 12, 3 ≤ kinds.getD v.1 0 ∧ kinds.getD v.1 0 ≤ 12 := by decide
  exact this ⟨v, h⟩
theorem nargs_kind {k m : Int} (h3 : 3 ≤ k) (h12 : k ≤ 12) (h8 : k = 8 → 0 ≤ m ∧ m ≤ 8) (h0 : k ≠ 8 → m = 0) : nargs (k, m, []) = 1 ∨ nargs (k, m, []) = 2 := by
  unfold nargs
  simp only
  rw [if_neg (by omega), if_neg (by omega)]
  by_cases k8 : k = 8
  · subst k8
    have := h8 rfl
    rw [if_neg (by omega), if_neg (by omega), if_pos rfl, if_pos ⟨this.1, this.2, trivial⟩]
    exact .inl rfl
  · rw [h0 k8]
    split
    · exact .inl rfl
    · split
      · exact .inr rfl
      · exfalso; omega
set_option maxRecDepth 4000 in
theorem grow_step {n d : Nat} (hn : 1152921504606846976 ≤ n)
    (kp : ∀ (b : List Int) (p k : Int), Code b → 0 ≤ p → p ≤ 1000000000000000 → ∃ v, c_s_l34Rd_pick ((C B0).run n) b p k = some (v, (b, (p + 1, ()))) ∧ 0 ≤ v ∧ (1 ≤ k → v < k))
    (km : ∀ (b : List Int) (p : Int), Code b → 0 ≤ p → p ≤ 1000000000000000 → ∃ l, c_s_l34Rd_number ((C B0).run n) b p = some (bs l, (b, (p + 1, ()))) ∧ Bl l ∧ l.length ≤ 11 ∧ numOk l = true)
    (ka : ∀ (k m : Int) (l : List Nat), Bl l → l.length ≤ 100000 → c_s_l12Args ((C B0).run n) k m (bs l) = some (nargs (k, m, l), ()))
    (h : d = 0 ∨ GrowOk n (d - 1)) : GrowOk (n + 1) d := by
  intro b p t N K left hc h0 hp ht hN hK hleft hl100
  have hg1 : 3 ≤ gC d := by cases d <;> simp [gC] <;> omega
  have hg2 : 1 ≤ gN d := by cases d <;> simp [gN] <;> omega
  have aok32 : ∀ (s : List Enc), s.length ≤ 1000100 → aok s 32 = true := fun s hs => aok_true (by omega)
  have key : Tot (c_s_l34Rd_grow ((C B0).run (n + 1)) b p t (N.map bs) (K.map encC) left) (fun r : (List Enc) × (List Int × (Int × Unit)) => ∃ l p', r = (t ++ l.map encN, (b, (p', ()))) ∧ Trm l ∧ ND l ∧ l.length ≤ gN d ∧ p ≤ p' ∧ p' ≤ p + gC d) := by
    rw [run_succ, e_s_l34Rd_grow]
    unfold p_s_l34Rd_grow
    obtain ⟨v, hv, v0, v1⟩ := kp b p 16 hc h0 (by omega)
    have v1 := v1 (by decide)
    refine tot_eq hv ?_
    dsimp only
    rw [jb_of (p := (((decide (left ≤ 0) || decide (v < 5)), (N.map bs, ((), ((), ((), (v, (K.map encC, (left, ())))))))), ((b, (p + 1, ())), (((), ()), (((), ()), (t, ())))))) (by
      rw [ile_iff, ilt_iff]
      cases decide (left ≤ 0) <;> rfl)]
    dsimp only
    refine tot_if (fun _ => ?_) (fun hleaf => ?_)
    · -- a leaf
      refine tot_jb (fun q => ∃ (x : Nd) (p' : Int), q = (((), ((), (v, (K.map encC, ((), (N.map bs, (left, ()))))))), (((), ()), (((), ()), ((b, (p', ())), (t ++ [encN x], ()))))) ∧ nargs x = 0 ∧ Bl x.2.2 ∧ x.2.2.length ≤ 11 ∧ p ≤ p' ∧ p' ≤ p + 3) ?_ ?_
      · refine tot_jb (fun q => ∃ (tv : Bool) (p' : Int), q = ((tv, ((), (N.map bs, ((), ((), (v, (K.map encC, (left, ())))))))), (((), ()), ((b, (p', ())), (((), ()), (t, ()))))) ∧ (tv = true → 0 < N.length) ∧ p + 1 ≤ p' ∧ p' ≤ p + 2) ?_ ?_
        · refine tot_if (fun hl => ?_) (fun _ => tot_some ⟨_, _, rfl, fun h => (by cases h), by omega, by omega⟩)
          obtain ⟨w, hw, w0, w1⟩ := kp b (p + 1) 3 hc (by omega) (by omega)
          refine tot_eq hw (tot_some ⟨_, p + 1 + 1, rfl, fun _ => ?_, by omega, by omega⟩)
          rw [len_eq, List.length_map, ilt_iff, decide_eq_true_eq] at hl
          omega
        · rintro _ ⟨tv, p1, rfl, hT, hp1, hp2⟩
          dsimp only
          refine tot_if (fun hTt => ?_) (fun _ => ?_)
          · have hNl := hT hTt
            obtain ⟨w, hw, w0, w1⟩ := kp b p1 (len (N.map bs)) hc (by omega) (by omega)
            refine tot_eq hw ?_
            dsimp only
            rw [len_eq, List.length_map] at w1
            have w1 := w1 (by omega)
            obtain ⟨l, hl, he⟩ := bs_at (N := N) (i := w.toNat) (by omega)
            have hln := hN l hl
            refine tot_ok (inB_true w0 (by rw [len_eq, List.length_map]; omega)) (tot_ok (aok32 _ (by rw [List.length_append, List.length_singleton]; omega)) (tot_some ⟨(2, 0, l), p1 + 1, ?_, nargs_name hln.2.2, hln.1, hln.2.1, by omega, by omega⟩))
            rw [he]; rfl
          · obtain ⟨l, hw, l1, l2, l3⟩ := km b p1 hc (by omega) (by omega)
            refine tot_eq hw ?_
            exact tot_ok (aok32 _ (by rw [List.length_append, List.length_singleton]; omega)) (tot_some ⟨(1, 0, l), p1 + 1, rfl, nargs_num l3, l1, l2, by omega, by omega⟩)
      · rintro _ ⟨x, p1, rfl, hx, x1, x2, hp1, hp2⟩
        exact tot_some ⟨[x], p1, rfl, sub_one hx, fun y hy => by rw [List.mem_singleton.1 hy]; exact ⟨x1, x2⟩, hg2, by omega, by omega⟩
    · -- parts
      rw [Bool.or_eq_false_iff, decide_eq_false_iff_not] at hleaf
      obtain ⟨e, rfl⟩ : ∃ e, d = e + 1 := ⟨d - 1, by omega⟩
      have ih : GrowOk n e := by
        rcases h with h | h
        · cases h
        · exact h
      have eC : gC (e + 1) = 3 + 6 * gC e := rfl
      have eN : gN (e + 1) = 1 + 6 * gN e := rfl
      rw [eC] at hp hg1 ⊢
      rw [eN] at ht hg2 ⊢
      rw [jb_of (p := (((decide (v < 7) && decide (0 < K.length)), (K.map encC, ((), ((), (N.map bs, (left, ((), ()))))))), ((b, (p + 1, ())), (((), ()), (((), ()), (t, ())))))) (by
        rw [ilt_iff, ilt_iff, len_eq, List.length_map]
        cases decide (v < 7) with
        | false => rfl
        | true => rw [cond_true, Bool.true_and, decide_eq_decide.2 (show (0 : Int) < K.length ↔ 0 < K.length by omega)])]
      dsimp only
      refine tot_if (fun hcall => ?_) (fun _ => ?_)
      · rw [Bool.and_eq_true, decide_eq_true_eq, decide_eq_true_eq] at hcall
        obtain ⟨w, hw, w0, w1⟩ := kp b (p + 1) (len (K.map encC)) hc (by omega) (by omega)
        refine tot_eq hw ?_
        dsimp only
        rw [len_eq, List.length_map] at w1
        have w1 := w1 (by omega)
        obtain ⟨c, hcK, he⟩ := encC_at (K := K) (i := w.toNat) (by omega)
        have hc6 := hK c hcK
        refine tot_ok (inB_true w0 (by rw [len_eq, List.length_map]; omega)) ?_
        rw [he]
        obtain ⟨cn, cm⟩ := c
        have hcm0 : 0 ≤ cm := hc6.2.1
        have hcm6 : cm ≤ 6 := hc6.2.2
        have hcn : okN cn := hc6.1
        refine tot_iter (fun q => ∃ (i : Nat) (ps : List (List Nd)) (p1 : Int), q = (((i : Int), ((), ((), ((), (N.map bs, (K.map encC, (left, ((), ())))))))), ((bs cn, (cm, ())), ((b, (p1, ())), (((), ()), (((), ()), (t ++ ps.flatten.map encN, ())))))) ∧ ps.length = i ∧ (∀ q ∈ ps, Trm q) ∧ ND ps.flatten ∧ (i : Int) ≤ cm ∧ ps.flatten.length ≤ i * gN e ∧ p + 2 ≤ p1 ∧ p1 ≤ p + 2 + (i * gC e : Nat)) (fun q => (cm - q.1.1).toNat) (by simp only; omega) ⟨0, [], p + 1 + 1, by simp [encC], rfl, fun q hq => (by cases hq), fun x hx => (by cases hx), by omega, by simp, by omega, by simp; omega⟩ ?_
        rintro rec _ ⟨i, ps, p1, rfl, hi, hps, hnd, hicm, hlen, hp1, hp2⟩ ihr
        dsimp only
        have hiN : i * gN e ≤ 6 * gN e := Nat.mul_le_mul_right _ (by omega)
        have hiC : i * gC e ≤ 6 * gC e := Nat.mul_le_mul_right _ (by omega)
        refine tot_if (fun hlt => ?_) (fun hlt => ?_)
        · have hlt : (i : Int) < cm := by simpa using hlt
          have hiN' : (i + 1) * gN e ≤ 6 * gN e := Nat.mul_le_mul_right _ (by omega)
          have hiC' : (i + 1) * gC e ≤ 6 * gC e := Nat.mul_le_mul_right _ (by omega)
          have e1 : (i + 1) * gN e = i * gN e + gN e := Nat.succ_mul i (gN e)
          have e2 : (i + 1) * gC e = i * gC e + gC e := Nat.succ_mul i (gC e)
          obtain ⟨l, p2, hl, hs, hnl, hll, hp3, hp4⟩ := ih b p1 (t ++ ps.flatten.map encN) N K (left - 2) hc (by omega) (by omega) (by rw [List.length_append, List.length_map]; omega) hN hK (by omega) (by omega)
          rw [isub_eq (by omega) (by omega)]
          refine tot_eq hl ?_
          dsimp only
          rw [iadd_eq (by omega) (by omega)]
          refine ihr _ ⟨i + 1, ps ++ [l], p2, by simp, by simp [hi], ?_, ?_, by omega, ?_, by omega, by omega⟩ (by simp only; omega)
          · intro q hq
            rcases List.mem_append.1 hq with hq | hq
            · exact hps q hq
            · rw [List.mem_singleton.1 hq]; exact hs
          · rw [List.flatten_append]
            exact nd_app hnd (by simpa using hnl)
          · rw [List.flatten_append, List.length_append]
            simp only [List.flatten_cons, List.flatten_nil, List.append_nil]
            omega
        · have hlt : ¬ (i : Int) < cm := by simpa using hlt
          have hic : (i : Int) = cm := by omega
          refine tot_jb (fun q => ∃ x : Nd, q = (((), ((), ((), ((), (N.map bs, (K.map encC, (left, ()))))))), (((), ()), (encN x, (((), ()), ((b, (p1, ())), (t ++ ps.flatten.map encN, ())))))) ∧ nargs x = (i : Int) ∧ x.2.2 = cn) ?_ ?_
          · refine tot_if (fun hz => ?_) (fun hz => ?_)
            · have hz : cm = 0 := by simpa using hz
              exact tot_some ⟨(2, cm, cn), rfl, by rw [hz, nargs_name hcn.2.2]; omega, rfl⟩
            · have hz : ¬ cm = 0 := by simpa using hz
              exact tot_some ⟨(13, cm, cn), rfl, by rw [nargs_call hcn.2.2 (by omega) (by omega)]; omega, rfl⟩
          · rintro _ ⟨x, rfl, hx, hx2⟩
            dsimp only
            refine tot_ok (aok32 _ (by rw [List.length_append, List.length_append, List.length_map, List.length_singleton]; omega)) (tot_some ⟨ps.flatten ++ [x], p1, ?_, Trm.mk ps x hps (by rw [hx, hi]), nd_app hnd (fun y hy => ?_), by rw [List.length_append, List.length_singleton]; omega, by omega, by omega⟩)
            · simp [encN]
            · rw [List.mem_singleton.1 hy, hx2]; exact ⟨hcn.1, hcn.2.1⟩
      · obtain ⟨w, hw, w0, w1⟩ := kp b (p + 1) 12 hc (by omega) (by omega)
        have w1 := w1 (by decide)
        refine tot_eq hw ?_
        dsimp only
        have hk := kinds_at (v := w.toNat) (by omega)
        refine tot_ok (inB_true w0 w1) ?_
        show Tot (jb (bif (kinds.getD w.toNat 0 == 8) then _ else _) _) _
        obtain ⟨k, hkd⟩ : ∃ k, k = kinds.getD w.toNat 0 := ⟨_, rfl⟩
        have hfold : List.getD ([3, 4, 5, 6, 7, 8, 9, 10, 11, 12, 4, 6] : List Int) w.toNat 0 = k := hkd.symm
        rw [hfold]
        rw [← hkd] at hk ⊢
        refine tot_jb (fun q => ∃ (m p1 : Int), q = (((), ((), (N.map bs, (K.map encC, (left, ((), ((), ()))))))), ((b, (p1, ())), (((), ()), ((k, (m, (bs [], ()))), (((), ()), (t, ())))))) ∧ (k = 8 → 0 ≤ m ∧ m ≤ 8) ∧ (k ≠ 8 → m = 0) ∧ p + 2 ≤ p1 ∧ p1 ≤ p + 3) ?_ ?_
        · refine tot_if (fun h8 => ?_) (fun h8 => ?_)
          · have h8 : k = 8 := by simpa using h8
            obtain ⟨m, hm, m0, m1⟩ := kp b (p + 1 + 1) 9 hc (by omega) (by omega)
            have m1 := m1 (by decide)
            exact tot_eq hm (tot_some ⟨m, p + 1 + 1 + 1, rfl, by omega, by omega, by omega, by omega⟩)
          · have h8 : ¬ k = 8 := by simpa using h8
            exact tot_some ⟨_, _, rfl, by omega, fun _ => rfl, by omega, by omega⟩
        · rintro _ ⟨m, p1, rfl, h8, h8', hp1, hp2⟩
          dsimp only
          have hna := nargs_kind hk.1 hk.2 h8 h8'
          obtain ⟨l, p2, hl, hs, hnl, hll, hp3, hp4⟩ := ih b p1 t N K (left - 1) hc (by omega) (by omega) (by omega) hN hK (by omega) (by omega)
          rw [isub_eq (by omega) (by omega)]
          refine tot_eq hl ?_
          dsimp only
          refine tot_jb (fun q => ∃ (ps : List (List Nd)) (p3 : Int), q = (((), ((), ((), ((), ())))), (((), ()), ((k, (m, (bs [], ()))), (((), ()), ((b, (p3, ())), (t ++ ps.flatten.map encN, ())))))) ∧ (ps.length : Int) = nargs (k, m, []) ∧ (∀ q ∈ ps, Trm q) ∧ ND ps.flatten ∧ ps.flatten.length ≤ 2 * gN e ∧ p ≤ p3 ∧ p3 ≤ p + 3 + (2 * gC e : Nat)) ?_ ?_
          · refine tot_eq (ka k m [] (fun x hx => by cases hx) (by decide)) ?_
            dsimp only
            refine tot_if (fun h2 => ?_) (fun h2 => ?_)
            · have h2 : nargs (k, m, []) = 2 := by simpa using h2
              obtain ⟨l2, p3, hl2, hs2, hnl2, hll2, hp5, hp6⟩ := ih b p2 (t ++ l.map encN) N K (left - 1) hc (by omega) (by omega) (by rw [List.length_append, List.length_map]; omega) hN hK (by omega) (by omega)
              refine tot_eq hl2 (tot_some ⟨[l, l2], p3, by simp, by rw [h2]; rfl, ?_, ?_, by simp; omega, by omega, by omega⟩)
              · intro q hq
                simp only [List.mem_cons, List.not_mem_nil, or_false] at hq
                rcases hq with rfl | rfl
                · exact hs
                · exact hs2
              · simpa using nd_app hnl hnl2
            · have h2 : ¬ nargs (k, m, []) = 2 := by simpa using h2
              refine tot_some ⟨[l], p2, by simp, ?_, ?_, ?_, by simp; omega, by omega, by omega⟩
              · rcases hna with hna | hna
                · rw [hna]; rfl
                · exact absurd hna h2
              · intro q hq; rw [List.mem_singleton.1 hq]; exact hs
              · simpa using hnl
          · rintro _ ⟨ps, p3, rfl, hpl, hps, hnd, hpn, hp5, hp6⟩
            dsimp only
            refine tot_ok (aok32 _ (by rw [List.length_append, List.length_append, List.length_map, List.length_singleton]; omega)) (tot_some ⟨ps.flatten ++ [(k, m, [])], p3, ?_, Trm.mk ps _ hps hpl.symm, nd_app hnd (fun y hy => ?_), by rw [List.length_append, List.length_singleton]; omega, by omega, by omega⟩)
            · simp [encN]
            · rw [List.mem_singleton.1 hy]; exact ⟨fun x hx => (by cases hx), Nat.zero_le _⟩
  obtain ⟨r, hr, l, p', rfl, h2⟩ := key
  exact ⟨l, p', hr, h2⟩
theorem k_grow : ∀ d : Nat, Ev fun n => GrowOk n d
  | 0 => (k_pick.and (k_number2.and k_args)).succ fun n hn ⟨kp, km, ka⟩ => grow_step hn kp km ka (.inl rfl)
  | d + 1 => ((k_grow d).and (k_pick.and (k_number2.and k_args))).succ fun n hn ⟨h, kp, km, ka⟩ => grow_step hn kp km ka (.inr h)
end Go.Px.Seat

/- Any terms that are drawn of a code. Seat D. -/
namespace Go.Px.Seat
open Go Pm Pt
set_option linter.unusedVariables false
theorem encN_at {l : List Nd} {i : Nat} (h : i < l.length) : ∃ x ∈ l, l.getD i (0, 0, []) = x ∧ (l.map encN).getD i (0, (0, ((bs []), ()))) = encN x := by
  refine ⟨l[i], List.getElem_mem h, ?_, ?_⟩
  · rw [List.getD_eq_getElem?_getD, List.getElem?_eq_getElem h]; rfl
  · rw [List.getD_eq_getElem?_getD, List.getElem?_map, List.getElem?_eq_getElem h]; rfl
theorem nd_one {x : Nd} (h : Bl x.2.2 ∧ x.2.2.length ≤ 11) : ND [x] := fun y hy => by rw [List.mem_singleton.1 hy]; exact h
theorem nd_set {l : List Nd} {i : Nat} {x : Nd} (hl : ND l) (h : Bl x.2.2 ∧ x.2.2.length ≤ 11) : ND (l.set i x) := fun y hy => by
  rcases List.mem_or_eq_of_mem_set hy with hy | rfl
  · exact hl y hy
  · exact h
theorem bl0 : Bl [] := fun x hx => by cases hx
theorem k_term : Ev fun n => ∀ (b : List Int) (p : Int) (N : List (List Nat)) (K : List (List Nat × Int)) (left : Int), Code b → 0 ≤ p → p ≤ 9000000000000 → (∀ l ∈ N, okN l) → (∀ c ∈ K, okC c) → left ≤ 5 → ∃ l p', c_s_l34Rd_term ((C B0).run n) b p (N.map bs) (K.map encC) left = some (l.map encN, (b, (p', ()))) ∧ Trm l ∧ ND l ∧ l.length ≤ 100 ∧ p ≤ p' ∧ p' ≤ p + 30000 := by
  refine (k_grow 5).succ fun n hn kg b p N K left hc h0 h1 hN hK hl => ?_
  rw [run_succ, e_s_l34Rd_term]
  unfold p_s_l34Rd_term
  have e1 : gC 5 = 27993 := rfl
  have e2 : gN 5 = 9331 := rfl
  obtain ⟨l, p', hg, hs, hnd, hlen, hp1, hp2⟩ := kg b p [] N K left hc h0 (by omega) (by simp; omega) hN hK hl (by omega)
  rw [hg]
  simp only [Option.bind_some, List.nil_append]
  rw [len_eq, List.length_map, ilt_iff]
  by_cases h : (100 : Int) < l.length
  · rw [decide_eq_true h]
    exact ⟨[(1, 0, [49])], p', rfl, sub_one (nargs_num (by decide)), nd_one ⟨fun x hx => by simp at hx; omega, by decide⟩, by decide, by omega, by omega⟩
  · rw [decide_eq_false h]
    exact ⟨l, p', rfl, hs, hnd, by omega, by omega, by omega⟩
theorem k_chain : Ev fun n => ∀ (b : List Int) (p m : Int), 1 ≤ m → m ≤ 200 → ∃ l, c_s_l34Rd_chain ((C B0).run n) b p m = some (l.map encN, (b, (p, ()))) ∧ Trm l ∧ ND l ∧ l.length ≤ 201 := by
  refine Ev.triv.succ fun n hn _ b p m h1 h2 => ?_
  have aok32 : ∀ (s : List Enc), s.length ≤ 1000100 → aok s 32 = true := fun s hs => aok_true (by omega)
  have key : Tot (c_s_l34Rd_chain ((C B0).run (n + 1)) b p m) (fun r : (List Enc) × (List Int × (Int × Unit)) => ∃ l, r = (l.map encN, (b, (p, ()))) ∧ Trm l ∧ ND l ∧ l.length ≤ 201) := by
    rw [run_succ, e_s_l34Rd_chain]
    unfold p_s_l34Rd_chain
    refine tot_iter (fun q => ∃ l : List Nd, q = (((), (m, ((), ((), ())))), (((), ()), (((), ()), ((b, (p, ())), (l.map encN, ()))))) ∧ Trm l ∧ ND l ∧ l.length ≤ m) (fun q => (300 - len q.2.2.2.2.1).toNat) (by simp only [len_eq, List.length_singleton]; omega) ⟨[(2, 0, [120])], rfl, sub_one (nargs_name (by decide)), nd_one ⟨fun x hx => by simp at hx; omega, by decide⟩, by simp; omega⟩ ?_
    rintro rec _ ⟨l, rfl, hs, hnd, hlm⟩ ih
    dsimp only
    rw [len_eq, List.length_map, iadd_eq (by omega) (by omega), ile_iff]
    by_cases h : ((l.length : Nat) : Int) + 2 ≤ m
    · rw [decide_eq_true h, cond_true]
      refine tot_ok (aok32 _ (by rw [List.length_append, List.length_map, List.length_singleton]; omega)) (tot_ok (aok32 _ (by rw [List.length_append, List.length_append, List.length_map, List.length_singleton, List.length_singleton]; omega)) ?_)
      refine ih _ ⟨l ++ [(1, 0, [49])] ++ [(4, 0, [])], by simp [encN], ?_, ?_, by simp; omega⟩ (by simp only [len_eq, List.length_append, List.length_map, List.length_singleton]; omega)
      · have := Trm.mk [l, [(1, 0, [49])]] (4, 0, []) (fun q hq => by
          simp only [List.mem_cons, List.not_mem_nil, or_false] at hq
          rcases hq with rfl | rfl
          · exact hs
          · exact sub_one (nargs_num (by decide))) rfl
        simpa using this
      · exact nd_app (nd_app hnd (nd_one ⟨fun x hx => by simp at hx; omega, by decide⟩)) (nd_one ⟨bl0, by decide⟩)
    · rw [decide_eq_false h, cond_false]
      refine tot_jb (fun q => ∃ l' : List Nd, q = (((), ((), ((), ()))), (((), ()), (((), ()), ((b, (p, ())), (l'.map encN, ()))))) ∧ Trm l' ∧ ND l' ∧ l'.length ≤ 201) ?_ ?_
      · refine tot_if (fun hc => ?_) (fun hc => ?_)
        · refine tot_ok (aok32 _ (by rw [List.length_append, List.length_map, List.length_singleton]; omega)) (tot_some ⟨l ++ [(3, 0, [])], by simp [encN], ?_, nd_app hnd (nd_one ⟨bl0, by decide⟩), by simp; omega⟩)
          have := Trm.mk [l] (3, 0, []) (fun q hq => by rw [List.mem_singleton.1 hq]; exact hs) rfl
          simpa using this
        · exact tot_some ⟨l, rfl, hs, hnd, by omega⟩
      · rintro _ ⟨l', rfl, h3, h4, h5⟩
        exact tot_some ⟨l', rfl, h3, h4, h5⟩
  obtain ⟨r, hr, l, rfl, h3⟩ := key
  exact ⟨l, hr, h3⟩
theorem k_any : Ev fun n => ∀ (b : List Int) (p : Int), Code b → 0 ≤ p → p ≤ 8000000000000 → ∃ l p', c_s_l34Rd_any ((C B0).run n) b p = some (l.map encN, (b, (p', ()))) ∧ ND l ∧ l.length ≤ 201 ∧ p ≤ p' ∧ p' ≤ p + 40000 := by
  refine (k_pick.and (k_term.and k_chain)).succ fun n hn ⟨kp, kt, kc⟩ b p hc h0 h1 => ?_
  have aok32 : ∀ (s : List Enc), s.length ≤ 1000100 → aok s 32 = true := fun s hs => aok_true (by omega)
  have key : Tot (c_s_l34Rd_any ((C B0).run (n + 1)) b p) (fun r : (List Enc) × (List Int × (Int × Unit)) => ∃ l p', r = (l.map encN, (b, (p', ()))) ∧ ND l ∧ l.length ≤ 201 ∧ p ≤ p' ∧ p' ≤ p + 40000) := by
    rw [run_succ, e_s_l34Rd_any]
    unfold p_s_l34Rd_any
    obtain ⟨v, hv, v0, v1⟩ := kp b p 20 hc h0 (by omega)
    refine tot_eq hv ?_
    dsimp only
    refine tot_if (fun _ => ?_) (fun _ => ?_)
    · obtain ⟨w, hw, w0, w1⟩ := kp b (p + 1) 4 hc (by omega) (by omega)
      have w1 := w1 (by decide)
      refine tot_eq hw ?_
      dsimp only
      rw [iadd_eq (by omega) (by omega)]
      obtain ⟨l, hl, _, h3, h4⟩ := kc b (p + 1 + 1) (99 + w) (by omega) (by omega)
      refine tot_eq hl (tot_some ⟨l, p + 1 + 1, rfl, h3, h4, by omega, by omega⟩)
    · obtain ⟨w, hw, w0, w1⟩ := kp b (p + 1) 5 hc (by omega) (by omega)
      have w1 := w1 (by decide)
      refine tot_eq hw ?_
      dsimp only
      rw [iadd_eq (by omega) (by omega)]
      have okx : ∀ c : Nat, (okN [c] ↔ (c < 256 ∧ nameOk [c] = true)) := fun c => ⟨fun h => ⟨h.1 c (List.mem_singleton.2 rfl), h.2.2⟩, fun h => ⟨fun x hx => by rw [List.mem_singleton.1 hx]; exact h.1, by simp, h.2⟩⟩
      obtain ⟨l, p1, hl, hs, hnd, hlen, hp1, hp2⟩ := kt b (p + 1 + 1) [[120], [121], [97]] [([102], 1), ([103], 2), ([104], 6)] (1 + w) hc (by omega) (by omega) (by
        intro l hl
        simp only [List.mem_cons, List.not_mem_nil, or_false] at hl
        rcases hl with rfl | rfl | rfl <;> exact (okx _).2 (by decide)) (by
        intro c hc
        simp only [List.mem_cons, List.not_mem_nil, or_false] at hc
        rcases hc with rfl | rfl | rfl <;> exact ⟨(okx _).2 (by decide), by decide, by decide⟩) (by omega)
      refine tot_eq hl ?_
      dsimp only
      obtain ⟨x, hx, x0, x1⟩ := kp b p1 15 hc (by omega) (by omega)
      refine tot_eq hx ?_
      dsimp only
      refine tot_if (fun _ => tot_some ⟨l, _, rfl, hnd, by omega, by omega, by omega⟩) (fun _ => ?_)
      have hpos := hs.pos
      obtain ⟨k, hk, k0, k1⟩ := kp b (p1 + 1) (len (l.map encN)) hc (by omega) (by omega)
      rw [len_eq, List.length_map] at k1
      have k1 := k1 (by omega)
      have hin : inB k (len (l.map encN)) = true := inB_true k0 (by rw [len_eq, List.length_map]; exact k1)
      obtain ⟨y, hym, hy0, hy⟩ := encN_at (l := l) (i := k.toNat) (by omega)
      have hyd := hnd y hym
      refine tot_eq hk ?_
      dsimp only
      refine tot_jb (fun q => ∃ (l' : List Nd) (p2 : Int), q = (((), ((), ((), ()))), ((l'.map encN, ()), (((), ()), ((b, (p2, ())), ())))) ∧ ND l' ∧ l'.length ≤ 201 ∧ p1 ≤ p2 ∧ p2 ≤ p1 + 5) ?_ ?_
      · obtain ⟨z, hz, z0, z1⟩ := kp b (p1 + 1 + 1) 7 hc (by omega) (by omega)
        refine tot_eq hz ?_
        dsimp only
        rw [hy]
        refine tot_if (fun _ => ?_) (fun _ => tot_if (fun _ => ?_) (fun _ => tot_if (fun _ => ?_) (fun _ => tot_if (fun _ => ?_) (fun _ => tot_if (fun _ => ?_) (fun _ => tot_if (fun _ => ?_) (fun _ => tot_if (fun _ => ?_) (fun _ => ?_)))))))
        · obtain ⟨u, hu, u0, u1⟩ := kp b (p1 + 1 + 1 + 1) 16 hc (by omega) (by omega)
          refine tot_eq hu (tot_ok hin (tot_some ⟨l.set k.toNat (isub .i64 u 1, y.2.1, y.2.2), p1 + 1 + 1 + 1 + 1, by rw [List.map_set]; rfl, nd_set hnd hyd, by rw [List.length_set]; omega, by omega, by omega⟩))
        · obtain ⟨u, hu, u0, u1⟩ := kp b (p1 + 1 + 1 + 1) 11 hc (by omega) (by omega)
          refine tot_eq hu (tot_ok hin (tot_some ⟨l.set k.toNat (y.1, isub .i64 u 1, y.2.2), p1 + 1 + 1 + 1 + 1, by rw [List.map_set]; rfl, nd_set hnd hyd, by rw [List.length_set]; omega, by omega, by omega⟩))
        · obtain ⟨u, hu, u0, u1⟩ := kp b (p1 + 1 + 1 + 1) 5 hc (by omega) (by omega)
          have u1 := u1 (by decide)
          obtain ⟨t, ht, he⟩ := bs_at (N := [[], [120], [49], [115, 113, 114, 116], [48, 49]]) (i := u.toNat) (by show u.toNat < 5; omega)
          have htb := bl_dec (k := 11) (L := [[], [120], [49], [115, 113, 114, 116], [48, 49]]) (by decide) t ht
          have he : List.getD [(bs []), (bs [120]), (bs [49]), (bs [115, 113, 114, 116]), (bs [48, 49])] (Int.toNat u) (bs []) = bs t := he
          refine tot_eq hu (tot_ok (inB_true u0 u1) (tot_ok hin (tot_some ⟨l.set k.toNat (y.1, y.2.1, t), p1 + 1 + 1 + 1 + 1, ?_, nd_set hnd htb, by rw [List.length_set]; omega, by omega, by omega⟩)))
          rw [he, List.map_set]; rfl
        · exact tot_ok (aok32 _ (by rw [List.length_append, List.length_map, List.length_singleton]; omega)) (tot_some ⟨l ++ [(2, 0, [120])], _, by rw [List.map_append]; rfl, nd_app hnd (nd_one ⟨fun x hx => by simp at hx; omega, by decide⟩), by rw [List.length_append, List.length_singleton]; omega, by omega, by omega⟩)
        · refine tot_ok (sliceOk_true (Int.le_refl _) k0 (by rw [len_eq, List.length_map]; omega)) (tot_some ⟨l.take k.toNat, p1 + 1 + 1 + 1, ?_, fun x hx => hnd x (List.mem_of_mem_take hx), by rw [List.length_take]; omega, by omega, by omega⟩)
          unfold part
          rw [List.map_take]
          simp
        · exact tot_ok (aok32 _ (by rw [List.length_append, List.length_map, List.length_singleton]; omega)) (tot_some ⟨l ++ [(4, 0, [])], _, by rw [List.map_append]; rfl, nd_app hnd (nd_one ⟨bl0, by decide⟩), by rw [List.length_append, List.length_singleton]; omega, by omega, by omega⟩)
        · exact tot_ok hin (tot_some ⟨l.set k.toNat (13, 7, [102]), _, by rw [List.map_set]; rfl, nd_set hnd ⟨fun x hx => by simp at hx; omega, by decide⟩, by rw [List.length_set]; omega, by omega, by omega⟩)
        · exact tot_some ⟨l, _, rfl, hnd, by omega, by omega, by omega⟩
      · rintro _ ⟨l', p2, rfl, h3, h4, h5, h6⟩
        exact tot_some ⟨l', p2, rfl, h3, h4, by omega, by omega⟩
  obtain ⟨r, hr, l, p', rfl, h2⟩ := key
  exact ⟨l, p', hr, h2⟩
end Go.Px.Seat

/- The reference's texts of terms. Seat D. -/
namespace Go.Px.Seat
open Go Pm Pt
set_option linter.unusedVariables false
theorem nd_get {l : List Nd} (h : ND l) {i : Nat} (hi : i < l.length) : Bl (l.getD i (0, 0, [])).2.2 ∧ (l.getD i (0, 0, [])).2.2.length ≤ 11 := by
  rw [List.getD_eq_getElem?_getD, List.getElem?_eq_getElem hi]
  exact h _ (List.getElem_mem hi)
theorem encN_getD {l : List Nd} {i : Nat} (hi : i < l.length) : (l.map encN).getD i (0, (0, ((bs []), ()))) = encN (l.getD i (0, 0, [])) := by
  rw [List.getD_eq_getElem?_getD, List.getElem?_map, List.getElem?_eq_getElem hi, List.getD_eq_getElem?_getD, List.getElem?_eq_getElem hi]; rfl
theorem drop_nd {l : List Nd} {i : Nat} (h : i < l.length) : l.drop i = l.getD i (0, 0, []) :: l.drop (i + 1) := by
  rw [List.getD_eq_getElem?_getD, List.getElem?_eq_getElem h, List.drop_eq_getElem_cons h]; rfl
theorem k_termOk : Ev fun n => ∀ l : List Nd, ND l → c_s_TermOk ((C B0).run n) (l.map encN) = some (termOk l, ()) := by
  refine k_args.succ fun n hn ka l hl => ?_
  rw [run_succ, e_s_TermOk]
  unfold p_s_TermOk termOk
  rw [len_eq, List.length_map, ilt_iff]
  by_cases h : (100 : Int) < l.length
  · rw [decide_eq_true h, decide_eq_false (show ¬ l.length ≤ 100 by omega)]; rfl
  · rw [decide_eq_false h, decide_eq_true (show l.length ≤ 100 by omega), cond_false, Bool.true_and]
    refine iter_const (fun q => ∃ (i : Nat) (d : Int), q = (((i : Int), ((), (d, (false, ())))), ((l.map encN, ()), ())) ∧ i ≤ l.length ∧ 0 ≤ d ∧ d ≤ i ∧ scan d (l.drop i) = scan 0 l) (fun q => (200 - q.1.1).toNat) _ ?_ n _ (by simp only; omega) ⟨0, 0, rfl, Nat.zero_le _, by omega, by omega, rfl⟩
    rintro rec _ ⟨i, d, rfl, hi, hd0, hdi, hs⟩ ih
    dsimp only
    rw [len_eq, List.length_map, ilt_iff]
    by_cases hi1 : i < l.length
    · rw [decide_eq_true (show (i : Int) < l.length by omega), cond_true, ok_of (inB_true (by omega) (by omega)), Int.toNat_natCast, encN_getD hi1]
      have hx := nd_get hl hi1
      rw [drop_nd hi1, scan] at hs
      obtain ⟨x, hxe⟩ : ∃ x, x = l.getD i (0, 0, []) := ⟨_, rfl⟩
      rw [← hxe] at hx hs ⊢
      have hr := nargs_range x
      have hka : c_s_l12Args ((C B0).run n) (encN x).1 (encN x).2.1 (encN x).2.2.1 = some (nargs x, ()) := ka x.1 x.2.1 x.2.2 hx.1 (by omega)
      rw [hka]
      simp only [Option.bind_some]
      rw [jb_of (p := ((decide (nargs x < 0 ∨ d < nargs x), (d, (nargs x, ((i : Int), ((), (false, ())))))), ((l.map encN, ()), ()))) (by
        rw [ilt_iff, ilt_iff]
        by_cases h1 : nargs x < 0
        · rw [decide_eq_true h1, decide_eq_true (show nargs x < 0 ∨ d < nargs x from .inl h1)]; rfl
        · rw [decide_eq_false h1, cond_false, decide_eq_decide.2 (show (nargs x < 0 ∨ d < nargs x) ↔ d < nargs x by omega)])]
      dsimp only
      by_cases h1 : nargs x < 0 ∨ d < nargs x
      · rw [if_pos h1] at hs
        rw [decide_eq_true h1, ← hs]; rfl
      · rw [if_neg h1] at hs
        rw [decide_eq_false h1, cond_false, iadd_eq (by omega) (by omega), isub_eq (by omega) (by omega), iadd_eq (by omega) (by omega)]
        exact ih _ ⟨i + 1, d - nargs x + 1, by simp, by omega, by omega, by omega, hs⟩ (by simp only; omega)
    · rw [decide_eq_false (show ¬ (i : Int) < l.length by omega), cond_false, ← hs, List.drop_eq_nil_of_le (by omega)]
      show some (decide (d = 1), ()) = _
      rw [scan, decide_eq_decide.2 (show some d = some (1 : Int) ↔ d = 1 by simp)]
theorem split_last {ss : List (List Nd)} (h : ss ≠ []) : ∃ qs l, ss = qs ++ [l] := ⟨_, _, (List.dropLast_concat_getLast h).symm⟩
theorem k_start : Ev fun n => ∀ (pre l post : List Nd), Trm l → ND (pre ++ l ++ post) → (pre ++ l ++ post).length ≤ 1000 → c_s_l12Start ((C B0).run n) ((pre ++ l ++ post).map encN) ((pre.length + l.length : Nat) - 1 : Int) = some ((pre.length : Int), ()) := by
  refine k_args.succ fun n hn ka pre l post hs hnd hlen => ?_
  rw [run_succ, e_s_l12Start]
  unfold p_s_l12Start
  obtain ⟨L, hL⟩ : ∃ L, L = pre ++ l ++ post := ⟨_, rfl⟩
  rw [← hL] at hnd hlen ⊢
  refine iter_const (fun q => ∃ (ss : List (List Nd)) (rest : List Nd), q = (((ss.length : Int), ((), (((pre.length + ss.flatten.length : Nat) : Int) - 1, (0, ())))), ((L.map encN, ()), ())) ∧ L = pre ++ ss.flatten ++ rest ∧ ss ≠ [] ∧ ∀ q ∈ ss, Trm q) (fun q => (q.1.2.2.1 + 1).toNat) _ ?_ n _ (by simp only; rw [hL] at hlen; simp only [List.length_append] at hlen; omega) ⟨[l], post, by simp, by rw [hL]; simp, by simp, fun q hq => by rw [List.mem_singleton.1 hq]; exact hs⟩
  rintro rec _ ⟨ss, rest, rfl, hLe, hne, hss⟩ ih
  dsimp only
  obtain ⟨qs, l1, rfl⟩ := split_last hne
  have h1 := hss l1 (by simp)
  cases h1 with
  | mk ps x hps hx =>
    have hsp : pre ++ (qs ++ [ps.flatten ++ [x]]).flatten ++ rest = (pre ++ qs.flatten ++ ps.flatten) ++ x :: rest := by simp
    rw [hsp] at hLe
    have hidx : ((pre.length + (qs ++ [ps.flatten ++ [x]]).flatten.length : Nat) : Int) - 1 = ((pre ++ qs.flatten ++ ps.flatten).length : Nat) := by simp; omega
    rw [hidx]
    have hin : (pre ++ qs.flatten ++ ps.flatten).length < L.length := by rw [hLe]; simp
    have hgx : L.getD (pre ++ qs.flatten ++ ps.flatten).length (0, 0, []) = x := by rw [hLe]; exact getD_mid _ _ _ _
    have hxd := nd_get hnd hin
    rw [ok_of (inB_true (by omega) (by rw [len_eq, List.length_map]; omega)), Int.toNat_natCast, encN_getD hin]
    rw [hgx] at hxd ⊢
    have hka : c_s_l12Args ((C B0).run n) (encN x).1 (encN x).2.1 (encN x).2.2.1 = some (nargs x, ()) := ka x.1 x.2.1 x.2.2 hxd.1 (by omega)
    have hr := nargs_range x
    rw [hka, hx]
    simp only [Option.bind_some, List.length_append, List.length_singleton]
    have hl2 : (pre ++ qs.flatten ++ ps.flatten).length ≤ 1000 := by omega
    simp only [List.length_append] at hl2 hin
    have hq1 : qs.length ≤ qs.flatten.length := by
      have : ∀ qs : List (List Nd), (∀ q ∈ qs, Trm q) → qs.length ≤ qs.flatten.length := by
        intro qs
        induction qs with
        | nil => intro _; simp
        | cons q qs ih =>
          intro h
          have := (h q (List.mem_cons_self ..)).pos
          have := ih fun y hy => h y (List.mem_cons_of_mem _ hy)
          simp only [List.length_cons, List.flatten_cons, List.length_append]
          omega
      exact this qs fun q hq => hss q (by simp [hq])
    rw [isub_eq (x := ((qs.length + 1 : Nat) : Int)) (by omega) (by omega), iadd_eq (by omega) (by omega), isub_eq (by omega) (by omega)]
    by_cases h0 : qs.length + ps.length = 0
    · have hq : qs = [] := List.length_eq_zero_iff.1 (by omega)
      have hp : ps = [] := List.length_eq_zero_iff.1 (by omega)
      subst hq
      subst hp
      rfl
    · rw [beq_f (by omega), cond_false]
      refine ih _ ⟨qs ++ ps, x :: rest, ?_, by rw [hLe]; simp, fun h => h0 (by rw [← List.length_append, h]; rfl), fun q hq => ?_⟩ (by simp only [List.length_append, List.flatten_append, List.flatten_cons, List.flatten_nil, List.length_cons, List.length_nil, List.append_nil]; omega)
      · simp only [List.length_append, List.flatten_append]
        congr 2
        · omega
        · congr 2
          congr 1
          omega
      · rcases List.mem_append.1 hq with hq | hq
        · exact hss q (by simp [hq])
        · exact hps q hq
theorem k_parts : Ev fun n => ∀ (pre : List Nd) (ps : List (List Nd)) (x : Nd) (post : List Nd), (∀ p ∈ ps, Trm p) → nargs x = (ps.length : Int) → ND (pre ++ ps.flatten ++ x :: post) → (pre ++ ps.flatten ++ x :: post).length ≤ 1000 → c_s_l12Parts ((C B0).run n) ((pre ++ ps.flatten ++ x :: post).map encN) ((pre.length + ps.flatten.length : Nat) : Int) = some ((ends pre.length ps).map Int.ofNat, ()) := by
  refine (k_args.and k_start).succ fun n hn ⟨ka, ks⟩ pre ps x post hps hx hnd hlen => ?_
  rw [run_succ, e_s_l12Parts]
  unfold p_s_l12Parts
  obtain ⟨L, hL⟩ : ∃ L, L = pre ++ ps.flatten ++ x :: post := ⟨_, rfl⟩
  have hgx : L.getD (pre ++ ps.flatten).length (0, 0, []) = x := by rw [hL]; exact getD_mid _ _ _ _
  have hin : (pre ++ ps.flatten).length < L.length := by rw [hL]; simp
  rw [← hL] at hnd hlen ⊢
  have hxd := nd_get hnd hin
  rw [hgx] at hxd
  have hr := nargs_range x
  rw [show pre.length + ps.flatten.length = (pre ++ ps.flatten).length by simp]
  rw [ok_of (inB_true (by omega) (by rw [len_eq, List.length_map]; omega)), Int.toNat_natCast, encN_getD hin, hgx]
  have hka : c_s_l12Args ((C B0).run n) (encN x).1 (encN x).2.1 (encN x).2.2.1 = some (nargs x, ()) := ka x.1 x.2.1 x.2.2 hxd.1 (by omega)
  rw [hka, hx]
  simp only [Option.bind_some]
  have aok8 : ∀ (s : List Int), s.length ≤ 1000 → aok s 8 = true := fun s hs => aok_true (by omega)
  rw [isub_eq (by omega) (by omega)]
  refine iter_const (fun q => ∃ (qs rs : List (List Nd)), q = (((qs.length : Int), ((), ((((pre ++ qs.flatten).length : Nat) : Int) - 1, ((), ((), ()))))), (((ends (pre ++ qs.flatten).length rs).map Int.ofNat).reverse, ((L.map encN, ()), ()))) ∧ ps = qs ++ rs) (fun q => q.1.1.toNat) _ ?_ n _ (by simp only; omega) ⟨ps, [], rfl, by simp⟩
  rintro rec _ ⟨qs, rs, rfl, hqr⟩ ih
  dsimp only
  have hlr : ((ends (pre ++ qs.flatten).length rs).map Int.ofNat).reverse.length = rs.length := by rw [List.length_reverse, List.length_map, ends_len]
  have hrs : qs.length + rs.length ≤ 6 := by rw [← List.length_append, ← hqr]; omega
  rw [ilt_iff]
  by_cases h0 : 0 < qs.length
  · obtain ⟨qs, l, rfl⟩ := split_last (ss := qs) (fun h => by rw [h] at h0; exact absurd h0 (by decide))
    have hls : Trm l := hps l (by rw [hqr]; simp)
    have hlp := hls.pos
    have hL2 : L = (pre ++ qs.flatten) ++ l ++ (rs.flatten ++ x :: post) := by rw [hL, hqr]; simp
    have hst := ks (pre ++ qs.flatten) l (rs.flatten ++ x :: post) hls (by rw [← hL2]; exact hnd) (by rw [← hL2]; exact hlen)
    rw [← hL2] at hst
    rw [decide_eq_true (by omega), cond_true, ok_of (aok8 _ (by rw [List.length_append, hlr, List.length_singleton]; omega))]
    have hend : (((pre ++ (qs ++ [l]).flatten).length : Nat) : Int) - 1 = (((pre ++ qs.flatten).length + l.length : Nat) : Int) - 1 := by simp; omega
    rw [hend, hst]
    simp only [Option.bind_some]
    have hb : (pre ++ qs.flatten).length ≤ 1000 := by
      rw [hL2] at hlen
      simp only [List.length_append] at hlen ⊢
      omega
    have hqe : (((qs ++ [l]).length : Nat) : Int) = qs.length + 1 := by simp
    rw [isub_eq (by omega) (by omega), isub_eq (by omega) (by omega)]
    refine ih _ ⟨qs, l :: rs, ?_, by rw [hqr]; simp⟩ (by simp only; omega)
    simp only [ends, List.map_cons, List.reverse_cons]
    refine Prod.ext (Prod.ext (by simp) rfl) (Prod.ext ?_ rfl)
    simp only
    have e1 : (pre ++ (qs ++ [l]).flatten).length = (pre ++ qs.flatten).length + l.length := by simp; omega
    rw [e1]
    congr 1
    show [_] = [((((pre ++ qs.flatten).length + l.length - 1 : Nat)) : Int)]
    congr 1
    omega
  · rw [decide_eq_false (by omega), cond_false]
    have hq : qs = [] := List.length_eq_zero_iff.1 (by omega)
    subst hq
    have hrp : rs = ps := by rw [hqr]; rfl
    subst hrp
    obtain ⟨E, hE⟩ : ∃ E, E = (ends pre.length rs).map Int.ofNat := ⟨_, rfl⟩
    have hE2 : (ends (pre ++ ([] : List (List Nd)).flatten).length rs).map Int.ofNat = E := by rw [hE]; simp
    rw [hE2] at hlr ⊢
    rw [← hE, len_eq, hlr, isub_eq (by omega) (by omega)]
    refine iter_const (fun q => ∃ i : Nat, q = (((i : Int) - 1, ((), ((), ((), ())))), (E.take (E.length - i), (E.reverse, ()))) ∧ i ≤ E.length) (fun q => (q.1.1 + 1).toNat) _ ?_ n _ (by simp only; omega) ⟨rs.length, by rw [← hlr, List.length_reverse, Nat.sub_self]; rfl, by rw [← hlr, List.length_reverse]; exact Nat.le_refl _⟩
    rintro rec _ ⟨i, rfl, hi⟩ ih2
    dsimp only
    have hEl : E.length = rs.length := by rw [← hlr, List.length_reverse]
    rw [ile_iff]
    by_cases hi0 : i = 0
    · subst hi0
      rw [decide_eq_false (by omega), cond_false]
      simp
    · rw [decide_eq_true (by omega), cond_true, ok_of (inB_true (by omega) (by rw [len_eq, List.length_reverse]; omega)), ok_of (aok8 _ (by rw [List.length_append, List.length_take, List.length_singleton]; omega)), isub_eq (by omega) (by omega)]
      refine ih2 _ ⟨i - 1, ?_, by omega⟩ (by simp only; omega)
      have e1 : ((i : Int) - 1).toNat = i - 1 := by omega
      have e2 : E.reverse.getD (i - 1) 0 = E.getD (E.length - i) 0 := by
        rw [List.getD_eq_getElem?_getD, List.getElem?_reverse (by omega), List.getD_eq_getElem?_getD]
        congr 2
        omega
      rw [e1, e2]
      refine Prod.ext (Prod.ext (by simp only; omega) rfl) (Prod.ext ?_ rfl)
      simp only
      rw [show E.length - (i - 1) = E.length - i + 1 by omega, List.take_add_one, List.getD_eq_getElem?_getD]
      rw [List.getElem?_eq_getElem (by omega)]
      rfl
end Go.Px.Seat

/- The reference's texts of terms are texts, and not long. Seat D. -/
namespace Go.Px.Seat
open Go Pm Pt
set_option linter.unusedVariables false
theorem txt_ofInts (x : Int) : Txt 1 (ofInts [x]) := by
  refine ⟨[x.toNat % 256], ?_, fun y hy => by rw [List.mem_singleton.1 hy]; exact Nat.mod_lt _ (by decide), Nat.le_refl _⟩
  have e : UInt8.ofNat (x.toNat % 256) = UInt8.ofNat x.toNat := UInt8.toNat_inj.1 (by rw [UInt8.toNat_ofNat', UInt8.toNat_ofNat', Nat.mod_mod])
  refine ByteArray.ext ?_
  show ((ByteArray.empty).push (UInt8.ofNat x.toNat)).data = _
  simp [bs, e]
theorem ends_at : ∀ (ps : List (List Nd)) (a j : Nat), j < ps.length → (ends a ps).getD j 0 = a + (ps.take j).flatten.length + (ps.getD j []).length - 1
  | p :: ps, a, 0, _ => by simp [ends]
  | p :: ps, a, j + 1, h => by
    have := ends_at ps (a + p.length) j (by simpa using h)
    simp only [ends, List.getD_cons_succ, List.take_succ_cons, List.flatten_cons, List.length_append] at this ⊢
    rw [this]
    congr 2
    omega
theorem map_getD {l : List Nat} {j : Nat} : (l.map Int.ofNat).getD j 0 = ((l.getD j 0 : Nat) : Int) := by
  rw [List.getD_eq_getElem?_getD, List.getElem?_map, List.getD_eq_getElem?_getD]
  cases l[j]? <;> rfl
theorem part_at {pre : List Nd} {ps : List (List Nd)} {rest : List Nd} {j : Nat} (hps : ∀ p ∈ ps, Trm p) (h : j < ps.length) : Trm (ps.getD j []) ∧ pre ++ ps.flatten ++ rest = (pre ++ (ps.take j).flatten) ++ ps.getD j [] ++ ((ps.drop (j + 1)).flatten ++ rest) ∧ ((ends pre.length ps).map Int.ofNat).getD j 0 = (((pre ++ (ps.take j).flatten).length + (ps.getD j []).length : Nat) : Int) - 1 ∧ (ps.take (j + 1)).flatten.length = (ps.take j).flatten.length + (ps.getD j []).length ∧ (ps.take (j + 1)).flatten.length ≤ ps.flatten.length := by
  have e : ps = ps.take j ++ ps.getD j [] :: ps.drop (j + 1) := by
    rw [List.getD_eq_getElem?_getD, List.getElem?_eq_getElem h]
    exact ((List.take_append_drop j ps).symm.trans (by rw [List.drop_eq_getElem_cons h]; rfl))
  have hm : ps.getD j [] ∈ ps := by
    rw [List.getD_eq_getElem?_getD, List.getElem?_eq_getElem h]
    exact List.getElem_mem h
  have e5 : (ps.take (j + 1)).flatten.length = (ps.take j).flatten.length + (ps.getD j []).length := by
    rw [List.take_add_one, List.getElem?_eq_getElem h, List.flatten_append, List.length_append, List.getD_eq_getElem?_getD, List.getElem?_eq_getElem h]
    simp
  have hs := hps _ hm
  have hp := hs.pos
  refine ⟨hs, ?_, ?_, e5, ?_⟩
  · conv => lhs; rw [e]
    simp
  · rw [map_getD, ends_at ps _ j h, List.length_append]
    omega
  · rw [e5]
    conv => rhs; rw [e]
    simp only [List.flatten_append, List.flatten_cons, List.length_append]
    omega
def ShowB (n d : Nat) : Prop := ∀ (pre l post : List Nd) (v : Int), Trm l → l.length ≤ d → ND (pre ++ l ++ post) → (pre ++ l ++ post).length ≤ 100 → Tot (c_s_l12Show ((C B0).run n) ((pre ++ l ++ post).map encN) (((pre.length + l.length : Nat) : Int) - 1) v) (fun r => Txt (30 * l.length) r.1)
def ShowA (n d : Nat) : Prop := ∀ (pre l post : List Nd), Trm l → l.length ≤ d → ND (pre ++ l ++ post) → (pre ++ l ++ post).length ≤ 100 → Tot (c_s_l12Show ((C B0).run n) ((pre ++ l ++ post).map encN) (((pre.length + l.length : Nat) : Int) - 1) 1) (fun r => Txt (30 * l.length - 2) r.1)
theorem nargs_two {k m : Int} {t : List Nat} {j : Nat} (h : nargs (k, m, t) = (j : Int)) (hk : k = 4 ∨ k = 5 ∨ k = 6 ∨ k = 7) : j = 2 := by
  unfold nargs at h
  simp only at h
  rw [if_neg (by omega), if_neg (by omega), if_neg (by omega), if_pos (by omega)] at h
  split at h <;> omega
theorem nargs_one {k m : Int} {t : List Nat} {j : Nat} (h : nargs (k, m, t) = (j : Int)) (hk : k = 3 ∨ k = 8) : j = 1 := by
  unfold nargs at h
  simp only at h
  rw [if_neg (by omega), if_neg (by omega)] at h
  repeat' split at h
  all_goals omega
theorem txt_of (l : List Nat) (k : Nat) (h : (l.all (fun x => decide (x < 256)) && decide (l.length ≤ k)) = true := by decide) : Txt k (bs l) := by
  rw [Bool.and_eq_true, List.all_eq_true, decide_eq_true_eq] at h
  exact txt_bs _ (fun x hx => by simpa using h.1 x hx) h.2
theorem sub_split {l : List Nd} (h : Trm l) : ∃ (ps : List (List Nd)) (x : Nd), l = ps.flatten ++ [x] ∧ (∀ p ∈ ps, Trm p) ∧ nargs x = (ps.length : Int) := by
  cases h with
  | mk ps x h1 h2 => exact ⟨ps, x, rfl, h1, h2⟩
set_option maxRecDepth 4000 in
theorem show_core {n d : Nat} (hn : 1152921504606846976 ≤ n)
    (kl : ∀ (k m : Int) (s : ByteArray), c_s_l12Level ((C B0).run n) k m s = some (level k, ()))
    (kp : ∀ (pre : List Nd) (ps : List (List Nd)) (x : Nd) (post : List Nd), (∀ p ∈ ps, Trm p) → nargs x = (ps.length : Int) → ND (pre ++ ps.flatten ++ x :: post) → (pre ++ ps.flatten ++ x :: post).length ≤ 1000 → c_s_l12Parts ((C B0).run n) ((pre ++ ps.flatten ++ x :: post).map encN) ((pre.length + ps.flatten.length : Nat) : Int) = some ((ends pre.length ps).map Int.ofNat, ()))
    (hB : ShowB n d) (pre : List Nd) (ps : List (List Nd)) (x : Nd) (post : List Nd) (v : Int) (hps : ∀ p ∈ ps, Trm p) (hx : nargs x = (ps.length : Int)) (hd : ps.flatten.length ≤ d) (hnd : ND (pre ++ ps.flatten ++ x :: post)) (hlen : (pre ++ ps.flatten ++ x :: post).length ≤ 100)
    (hv : level x.1 < v → Tot (c_s_l12Show ((C B0).run n) ((pre ++ ps.flatten ++ x :: post).map encN) ((pre.length + ps.flatten.length : Nat) : Int) 1) (fun r => Txt (30 * ps.flatten.length + 28) r.1)) :
    Tot (c_s_l12Show ((C B0).run (n + 1)) ((pre ++ ps.flatten ++ x :: post).map encN) ((pre.length + ps.flatten.length : Nat) : Int) v) (fun r => Txt (30 * ps.flatten.length + if level x.1 < v then 30 else 28) r.1) := by
  rw [run_succ, e_s_l12Show]
  unfold p_s_l12Show
  have hpart := fun j (h : j < ps.length) => part_at (pre := pre) (rest := x :: post) hps h
  have hshow : ∀ (j : Nat) (h : j < ps.length) (w : Int), Tot (c_s_l12Show ((C B0).run n) ((pre ++ ps.flatten ++ x :: post).map encN) (((ends pre.length ps).map Int.ofNat).getD j 0) w) (fun r => Txt (30 * (ps.getD j []).length) r.1) := by
    intro j h w
    obtain ⟨h1, h2, h3, h4, h5⟩ := hpart j h
    have := hB (pre ++ (ps.take j).flatten) (ps.getD j []) ((ps.drop (j + 1)).flatten ++ x :: post) w h1 (by omega) (by rw [← h2]; exact hnd) (by rw [← h2]; exact hlen)
    rw [← h2] at this
    rw [h3]
    exact this
  have hkp := kp pre ps x post hps hx hnd (by omega)
  obtain ⟨L, hL⟩ : ∃ L, L = pre ++ ps.flatten ++ x :: post := ⟨_, rfl⟩
  rw [← hL] at hnd hlen hv hshow hkp ⊢
  have hgx : L.getD (pre.length + ps.flatten.length) (0, 0, []) = x := by
    rw [hL, ← List.length_append]; exact getD_mid _ _ _ _
  have hin : pre.length + ps.flatten.length < L.length := by rw [hL]; simp
  have hxd := nd_get hnd hin
  rw [hgx] at hxd
  have hxt : Txt 11 (encN x).2.2.1 := ⟨x.2.2, rfl, hxd.1, hxd.2⟩
  have hfl : ps.flatten.length ≤ 100 := by omega
  refine tot_ok (inB_true (by omega) (by rw [len_eq, List.length_map]; omega)) ?_
  rw [Int.toNat_natCast, encN_getD hin, hgx]
  refine tot_eq (kl x.1 x.2.1 (bs x.2.2)) ?_
  dsimp only
  refine tot_if (fun hlt => ?_) (fun hge => ?_)
  · have hlt : level x.1 < v := by simpa using hlt
    rw [if_pos hlt]
    refine tot_bind _ (hv hlt) ?_
    rintro ⟨s, u⟩ hs
    have a1 := (txt1 40).app hs
    exact tot_ok ((txt1 40).sok hs (by omega)) (tot_ok (a1.sok (txt1 41) (by omega)) (tot_some ((a1.app (txt1 41)).mono (by omega))))
  · have hge : ¬ level x.1 < v := by simpa using hge
    rw [if_neg hge]
    refine tot_eq hkp ?_
    dsimp only
    obtain ⟨E, hE⟩ : ∃ E, E = (ends pre.length ps).map Int.ofNat := ⟨_, rfl⟩
    have hEl : E.length = ps.length := by rw [hE, List.length_map, ends_len]
    rw [← hE] at hshow ⊢
    rw [jb_of (p := ((decide (x.1 = 1 ∨ x.1 = 2), ((), (x.1, ((), (E, (bs [], ())))))), (encN x, ((L.map encN, ()), ())))) (by
      show (bif x.1 == 1 then _ else _) = _
      by_cases h1 : x.1 = 1
      · rw [decide_eq_true (.inl h1), h1]; simp [encN, h1]
      · rw [beq_f h1, cond_false, decide_eq_decide.2 (show (x.1 = 1 ∨ x.1 = 2) ↔ x.1 = 2 by omega)]; rfl)]
    dsimp only
    refine tot_if (fun _ => tot_some (hxt.mono (by omega))) (fun _ => ?_)
    have two : (x.1 = 4 ∨ x.1 = 5 ∨ x.1 = 6 ∨ x.1 = 7) → ∀ (w1 w2 : Int) (c : Nat) (hc : c < 256), Tot (ok (inB 0 (len E)) <| (c_s_l12Show ((C B0).run n) (L.map encN) (E.getD (Int.toNat 0) 0) w1).bind fun (r, _) => ok (sok r (bs [32, c, 32])) <| ok (inB 1 (len E)) <| (c_s_l12Show ((C B0).run n) (L.map encN) (E.getD (Int.toNat 1) 0) w2).bind fun (r', _) => ok (sok (r ++ (bs [32, c, 32])) r') <| some (((r ++ (bs [32, c, 32])) ++ r'), ())) (fun r => Txt (30 * ps.flatten.length + 28) r.1) := by
      intro hk w1 w2 c hc
      have h2 : ps.length = 2 := nargs_two hx hk
      have a0 : (ps.take 0).flatten.length = 0 := rfl
      have a4 : (ps.take 1).flatten.length = (ps.take 0).flatten.length + (ps.getD 0 []).length := (hpart 0 (by omega)).2.2.2.1
      have b4 : (ps.take 2).flatten.length = (ps.take 1).flatten.length + (ps.getD 1 []).length := (hpart 1 (by omega)).2.2.2.1
      have b5 : (ps.take 2).flatten.length ≤ ps.flatten.length := (hpart 1 (by omega)).2.2.2.2
      have t3 : Txt 3 (bs [32, c, 32]) := txt_bs _ (fun y hy => by simp at hy; omega) (Nat.le_refl _)
      refine tot_ok (inB_true (by omega) (by rw [len_eq]; omega)) (tot_bind _ (hshow 0 (by omega) w1) ?_)
      rintro ⟨r, u⟩ hr
      have hr : Txt _ r := hr
      refine tot_ok (hr.sok t3 (by omega)) (tot_ok (inB_true (by omega) (by rw [len_eq]; omega)) (tot_bind _ (hshow 1 (by omega) w2) ?_))
      rintro ⟨r', u'⟩ hr'
      have hr' : Txt _ r' := hr'
      exact tot_ok ((hr.app t3).sok hr' (by omega)) (tot_some (((hr.app t3).app hr').mono (by omega)))
    refine tot_if (fun hk => ?_) (fun _ => tot_if (fun hk => ?_) (fun _ => tot_if (fun hk => ?_) (fun _ => tot_if (fun hk => ?_) (fun _ => tot_if (fun hk => ?_) (fun _ => tot_if (fun hk => ?_) (fun _ => ?_))))))
    · have hk : x.1 = 3 := by simpa using hk
      have h1 : ps.length = 1 := nargs_one hx (.inl hk)
      have a0 : (ps.take 0).flatten.length = 0 := rfl
      have a4 : (ps.take 1).flatten.length = (ps.take 0).flatten.length + (ps.getD 0 []).length := (hpart 0 (by omega)).2.2.2.1
      have a5 : (ps.take 1).flatten.length ≤ ps.flatten.length := (hpart 0 (by omega)).2.2.2.2
      refine tot_ok (inB_true (by omega) (by rw [len_eq]; omega)) (tot_bind _ (hshow 0 (by omega) 3) ?_)
      rintro ⟨r, u⟩ hr
      have hr : Txt _ r := hr
      exact tot_ok ((txt1 45).sok hr (by omega)) (tot_some (((txt1 45).app hr).mono (by omega)))
    · have hk : x.1 = 4 := by simpa using hk
      exact two (by omega) 1 2 43 (by decide)
    · have hk : x.1 = 5 := by simpa using hk
      exact two (by omega) 1 2 45 (by decide)
    · have hk : x.1 = 6 := by simpa using hk
      exact two (by omega) 2 3 42 (by decide)
    · have hk : x.1 = 7 := by simpa using hk
      exact two (by omega) 2 3 47 (by decide)
    · have hk : x.1 = 8 := by simpa using hk
      have h1 : ps.length = 1 := nargs_one hx (.inr hk)
      have a0 : (ps.take 0).flatten.length = 0 := rfl
      have a4 : (ps.take 1).flatten.length = (ps.take 0).flatten.length + (ps.getD 0 []).length := (hpart 0 (by omega)).2.2.2.1
      have a5 : (ps.take 1).flatten.length ≤ ps.flatten.length := (hpart 0 (by omega)).2.2.2.2
      refine tot_ok (inB_true (by omega) (by rw [len_eq]; omega)) (tot_bind _ (hshow 0 (by omega) 5) ?_)
      rintro ⟨r, u⟩ hr
      have hr : Txt _ r := hr
      exact tot_ok (hr.sok (txt1 94) (by omega)) (tot_ok ((hr.app (txt1 94)).sok (txt_ofInts _) (by omega)) (tot_some (((hr.app (txt1 94)).app (txt_ofInts _)).mono (by omega))))
    · refine tot_jb (fun q => ∃ s, q = ((s, (E, ((), (bs [], ())))), ((L.map encN, ()), ())) ∧ Txt 11 s) ?_ ?_
      · refine tot_if (fun _ => tot_some ⟨_, rfl, txt_of _ _⟩) (fun _ => tot_if (fun _ => tot_some ⟨_, rfl, txt_of _ _⟩) (fun _ => tot_if (fun _ => tot_some ⟨_, rfl, txt_of _ _⟩) (fun _ => tot_if (fun _ => tot_some ⟨_, rfl, txt_of _ _⟩) (fun _ => tot_some ⟨_, rfl, hxt⟩))))
      · rintro _ ⟨s, rfl, hs⟩
        dsimp only
        refine tot_ok (hs.sok (txt1 40) (by omega)) ?_
        have h6 : ps.length ≤ 6 := by have := nargs_range x; omega
        refine tot_iter (fun q => ∃ (j : Nat) (o : ByteArray), q = (((j : Int), (E, (o, ((), (bs [], ()))))), ((L.map encN, ()), ())) ∧ Txt (12 + 30 * (ps.take j).flatten.length + 2 * j) o ∧ j ≤ ps.length) (fun q => (100 - q.1.1).toNat) (by simp only; omega) ⟨0, _, rfl, hs.app (txt1 40), Nat.zero_le _⟩ ?_
        rintro rec _ ⟨j, o, rfl, ho, hj⟩ ih
        dsimp only
        refine tot_if (fun hc => ?_) (fun hc => ?_)
        · have hc : j < ps.length := by
            rw [ilt_iff, decide_eq_true_eq, len_eq] at hc; omega
          obtain ⟨_, _, _, a4, a5⟩ := hpart j hc
          refine tot_jb (fun q => ∃ o', q = ((o', ((), (E, ((j : Int), (bs [], ()))))), ((L.map encN, ()), ())) ∧ Txt (12 + 30 * (ps.take j).flatten.length + 2 * j + 2) o') ?_ ?_
          · exact tot_if (fun _ => tot_ok (ho.sok (txt2 44 32) (by omega)) (tot_some ⟨_, rfl, ho.app (txt2 44 32)⟩)) (fun _ => tot_some ⟨_, rfl, ho.mono (by omega)⟩)
          · rintro _ ⟨o', rfl, ho'⟩
            dsimp only
            refine tot_ok (inB_true (by omega) (by rw [len_eq]; omega)) ?_
            rw [Int.toNat_natCast]
            refine tot_bind _ (hshow j hc 1) ?_
            rintro ⟨r, u⟩ hr
            have hr : Txt _ r := hr
            dsimp only
            refine tot_ok (ho'.sok hr (by omega)) ?_
            rw [iadd_eq (by omega) (by omega)]
            exact ih _ ⟨j + 1, _, by simp, (ho'.app hr).mono (by omega), by omega⟩ (by simp only; omega)
        · have hj2 : (ps.take j).flatten.length ≤ ps.flatten.length := by
            conv => rhs; rw [← List.take_append_drop j ps]
            rw [List.flatten_append, List.length_append]
            omega
          exact tot_ok (ho.sok (txt1 41) (by omega)) (tot_some ((ho.app (txt1 41)).mono (by omega)))
theorem show_zero (n : Nat) : ShowB n 0 := fun pre l post v hs hl => absurd hs.pos (by omega)
theorem k_show : ∀ d : Nat, Ev fun n => ShowB n d ∧ ShowA n d
  | 0 => ⟨0, fun n _ => ⟨show_zero n, fun pre l post hs hl => absurd hs.pos (by omega)⟩⟩
  | d + 1 => by
    have hA : Ev fun n => ShowA n (d + 1) := by
      refine (k_level.and (k_parts.and (k_show d))).succ fun n hn ⟨kl, kp, hB, _⟩ pre l post hs hl hnd hlen => ?_
      obtain ⟨ps, x, rfl, hps, hx⟩ := sub_split hs
      have e : pre ++ (ps.flatten ++ [x]) ++ post = pre ++ ps.flatten ++ x :: post := by simp
      rw [e] at hnd hlen ⊢
      have hlv := level_range x.1
      have := show_core hn kl kp hB pre ps x post 1 hps hx (by rw [List.length_append, List.length_singleton] at hl; omega) hnd hlen (fun h => absurd h (by omega))
      rw [if_neg (by omega)] at this
      rw [show ((pre.length + (ps.flatten ++ [x]).length : Nat) : Int) - 1 = ((pre.length + ps.flatten.length : Nat) : Int) by simp; omega]
      refine tot_mono this fun r hr => ?_
      rw [List.length_append, List.length_singleton]
      exact hr.mono (by omega)
    refine (hA.and (Ev.succ (k_level.and (k_parts.and ((k_show d).and hA))) (q := fun n => ShowB n (d + 1)) fun n hn ⟨kl, kp, hB, hA⟩ pre l post v hs hl hnd hlen => ?_)).mono fun n h => ⟨h.2, h.1⟩
    obtain ⟨ps, x, rfl, hps, hx⟩ := sub_split hs
    have e : pre ++ (ps.flatten ++ [x]) ++ post = pre ++ ps.flatten ++ x :: post := by simp
    have hAx := hA pre (ps.flatten ++ [x]) post hs hl hnd hlen
    have ei : ((pre.length + (ps.flatten ++ [x]).length : Nat) : Int) - 1 = ((pre.length + ps.flatten.length : Nat) : Int) := by simp; omega
    rw [ei, e] at hAx
    rw [ei]
    rw [e] at hnd hlen ⊢
    have := show_core hn kl kp hB.1 pre ps x post v hps hx (by rw [List.length_append, List.length_singleton] at hl; omega) hnd hlen (fun _ => tot_mono hAx fun r hr => by
      rw [List.length_append, List.length_singleton] at hr
      exact hr.mono (by omega))
    refine tot_mono this fun r hr => ?_
    rw [List.length_append, List.length_singleton]
    refine hr.mono ?_
    split <;> omega
theorem k_termText : Ev fun n => ∀ l : List Nd, ND l → l.length ≤ 1000 → Tot (c_s_TermText ((C B0).run n) (l.map encN)) (fun r => Txt 3000 r.1) := by
  refine (k_termOk.and (k_show 100)).succ fun n hn ⟨kt, _, ks⟩ l hl hlen => ?_
  rw [run_succ, e_s_TermText]
  unfold p_s_TermText
  refine tot_eq (kt l hl) ?_
  dsimp only
  cases ht : termOk l with
  | false => exact tot_some (txt_of _ _)
  | true =>
    obtain ⟨hs, h100⟩ := termOk_sub ht
    have hp := hs.pos
    rw [Bool.not_true, cond_false, len_eq, List.length_map, isub_eq (by omega) (by omega)]
    have := ks [] l [] hs h100 (by simpa using hl) (by simpa using h100)
    simp only [List.nil_append, List.append_nil, List.length_nil, Nat.zero_add] at this
    refine tot_bind _ this ?_
    rintro ⟨r, u⟩ hr
    exact tot_some (hr.mono (by omega))
end Go.Px.Seat

/- The program's terms: a node's parts, TermOk. Seat T. -/
namespace Go.Px.Seat
open Go Pm Pt
set_option linter.unusedVariables false
theorem k_iParts : Ev fun n => ∀ (k m : Int) (l : List Nat), Bl l → l.length ≤ 100000 → c_i_TermNode_parts ((C B0).run n) k m (bs l) = some (nargs (k, m, l), ()) := by
  refine (k_iNumOk.and (k_NameOk.and k_in)).succ fun n hn ⟨kn, km, ki⟩ k m l hl hb => ?_
  rw [run_succ, e_i_TermNode_parts]
  unfold p_i_TermNode_parts
  have e0 : seq (bs l) (bs []) = decide (l = []) := bs_seq hl (fun x hx => by cases hx)
  have kn' := kn l hl hb
  have km' := km l hl (by omega)
  rw [jb_of (p := (((), (decide (m = 0 ∧ l = []), (0, ()))), ((k, (m, (bs l, ()))), ()))) (by
    by_cases hm : m = 0
    · subst hm
      rw [show ((0 : Int) == 0) = true from rfl, cond_true, e0, decide_eq_decide.2 (show ((0 : Int) = 0 ∧ l = []) ↔ l = [] by simp)]
    · rw [beq_f hm, cond_false, decide_eq_false (fun h => hm h.1)])]
  unfold nargs
  simp only
  by_cases h1 : k = 1
  · subst h1
    rw [if_pos rfl, show ((1 : Int) == 1) = true from rfl, cond_true]
    by_cases hm : m = 0
    · subst hm
      rw [show ((0 : Int) == 0) = true from rfl, cond_true, kn']
      unfold numOk
      cases (num l && decide (l.length ≤ 60)) <;> rfl
    · rw [beq_f hm, cond_false, if_neg (fun h => hm h.1)]; rfl
  rw [if_neg h1, beq_f h1, cond_false]
  by_cases h2 : k = 2
  · subst h2
    rw [if_pos rfl, show ((2 : Int) == 2) = true from rfl, cond_true]
    by_cases hm : m = 0
    · subst hm
      rw [show ((0 : Int) == 0) = true from rfl, cond_true, km']
      cases nameOk l <;> rfl
    · rw [beq_f hm, cond_false, if_neg (fun h => hm h.1)]; rfl
  rw [if_neg h2, beq_f h2, cond_false]
  obtain ⟨bare, hbare⟩ : ∃ b, b = decide (m = 0 ∧ l = []) := ⟨_, rfl⟩
  rw [← hbare]
  rw [jb_of (x := bif (k == 3) then _ else _) (p := ((decide (k = 3 ∨ k = 9 ∨ k = 10), (bare, (k, ((), (0, ()))))), ((k, (m, (bs l, ()))), ()))) (by
    by_cases h3 : k = 3
    · subst h3; rfl
    · rw [beq_f h3, cond_false]
      by_cases h9 : k = 9
      · subst h9; rfl
      · rw [beq_f h9, cond_false, bq, decide_eq_decide.2 (show (k = 3 ∨ k = 9 ∨ k = 10) ↔ k = 10 by omega)])]
  simp only
  by_cases h3 : k = 3 ∨ k = 9 ∨ k = 10
  · rw [if_pos h3, decide_eq_true h3, cond_true, hbare]
    by_cases h : m = 0 ∧ l = []
    · rw [if_pos h, decide_eq_true h]; rfl
    · rw [if_neg h, decide_eq_false h]; rfl
  rw [if_neg h3, decide_eq_false h3, cond_false]
  rw [jb_of (x := bif (k == 4) then _ else _) (p := ((decide (k = 4 ∨ k = 5 ∨ k = 6 ∨ k = 7 ∨ k = 11 ∨ k = 12), (bare, (k, ((), (0, ()))))), ((k, (m, (bs l, ()))), ()))) (by
    by_cases h4 : k = 4
    · subst h4; rfl
    · rw [beq_f h4, cond_false]
      by_cases h5 : k = 5
      · subst h5; rfl
      · rw [beq_f h5, cond_false]
        by_cases h6 : k = 6
        · subst h6; rfl
        · rw [beq_f h6, cond_false]
          by_cases h7 : k = 7
          · subst h7; rfl
          · rw [beq_f h7, cond_false]
            by_cases h11 : k = 11
            · subst h11; rfl
            · rw [beq_f h11, cond_false, bq, decide_eq_decide.2 (show (k = 4 ∨ k = 5 ∨ k = 6 ∨ k = 7 ∨ k = 11 ∨ k = 12) ↔ k = 12 by omega)])]
  simp only
  by_cases h4 : k = 4 ∨ k = 5 ∨ k = 6 ∨ k = 7 ∨ k = 11 ∨ k = 12
  · rw [if_pos h4, decide_eq_true h4, cond_true, hbare]
    by_cases h : m = 0 ∧ l = []
    · rw [if_pos h, decide_eq_true h]; rfl
    · rw [if_neg h, decide_eq_false h]; rfl
  rw [if_neg h4, decide_eq_false h4, cond_false]
  by_cases h8 : k = 8
  · subst h8
    rw [if_pos rfl, show ((8 : Int) == 8) = true from rfl, cond_true, ki, e0]
    by_cases ha : 0 ≤ m
    · by_cases hb8 : m ≤ 8
      · by_cases hl0 : l = []
        · rw [if_pos ⟨ha, hb8, hl0⟩, decide_eq_true ha, decide_eq_true hb8, decide_eq_true hl0]; rfl
        · rw [if_neg (fun h => hl0 h.2.2), decide_eq_true ha, decide_eq_true hb8, decide_eq_false hl0]; rfl
      · rw [if_neg (fun h => hb8 h.2.1), decide_eq_true ha, decide_eq_false hb8]; rfl
    · rw [if_neg (fun h => ha h.1), decide_eq_false ha]; rfl
  rw [if_neg h8, beq_f h8, cond_false]
  by_cases h13 : k = 13
  · subst h13
    rw [if_pos rfl, show ((13 : Int) == 13) = true from rfl, cond_true, ki, km']
    by_cases ha : 1 ≤ m
    · by_cases hb6 : m ≤ 6
      · cases hl0 : nameOk l with
        | true => rw [if_pos ⟨ha, hb6, rfl⟩, decide_eq_true ha, decide_eq_true hb6]; rfl
        | false => rw [if_neg (fun h => by cases h.2.2), decide_eq_true ha, decide_eq_true hb6]; rfl
      · rw [if_neg (fun h => hb6 h.2.1), decide_eq_true ha, decide_eq_false hb6]; rfl
    · rw [if_neg (fun h => ha h.1), decide_eq_false ha]; rfl
  rw [if_neg h13, beq_f h13]
  rfl
def NDw (l : List Nd) : Prop := ∀ x ∈ l, Bl x.2.2 ∧ x.2.2.length ≤ 100
theorem ndw_get {l : List Nd} (h : NDw l) {i : Nat} (hi : i < l.length) : Bl (l.getD i (0, 0, [])).2.2 ∧ (l.getD i (0, 0, [])).2.2.length ≤ 100 := by
  rw [List.getD_eq_getElem?_getD, List.getElem?_eq_getElem hi]
  exact h _ (List.getElem_mem hi)
theorem k_iTermOk : Ev fun n => ∀ l : List Nd, NDw l → l.length ≤ 1000000 → c_i_TermOk ((C B0).run n) (l.map encN) = some (termOk l, ()) := by
  refine k_iParts.succ fun n hn ka l hl hlen => ?_
  rw [run_succ, e_i_TermOk]
  unfold p_i_TermOk termOk
  rw [len_eq, List.length_map]
  refine iter_const (fun q => ∃ (i : Nat) (d : Int), q = (((i : Int), ((l.length : Int), (l.map encN, (d, ((), (false, ())))))), ((l.map encN, ()), ())) ∧ i ≤ l.length ∧ 0 ≤ d ∧ d ≤ i ∧ scan d (l.drop i) = scan 0 l) (fun q => (1000001 - q.1.1).toNat) _ ?_ n _ (by simp only; omega) ⟨0, 0, rfl, Nat.zero_le _, by omega, by omega, rfl⟩
  rintro rec _ ⟨i, d, rfl, hi, hd0, hdi, hs⟩ ih
  dsimp only
  rw [ilt_iff]
  by_cases hi1 : i < l.length
  · rw [decide_eq_true (show (i : Int) < l.length by omega), cond_true, len_eq, List.length_map, ok_of (inB_true (by omega) (by omega)), Int.toNat_natCast, encN_getD hi1]
    have hx := ndw_get hl hi1
    rw [drop_nd hi1, scan] at hs
    obtain ⟨x, hxe⟩ : ∃ x, x = l.getD i (0, 0, []) := ⟨_, rfl⟩
    rw [← hxe] at hx hs ⊢
    have hr := nargs_range x
    have hka : c_i_TermNode_parts ((C B0).run n) (encN x).1 (encN x).2.1 (encN x).2.2.1 = some (nargs x, ()) := ka x.1 x.2.1 x.2.2 hx.1 (by omega)
    rw [hka]
    simp only [Option.bind_some]
    rw [jb_of (p := ((decide (nargs x < 0 ∨ d < nargs x), (d, (nargs x, ((i : Int), ((l.length : Int), (l.map encN, ((), (false, ())))))))), ((l.map encN, ()), ()))) (by
      rw [ilt_iff, ilt_iff]
      by_cases h1 : nargs x < 0
      · rw [decide_eq_true h1, decide_eq_true (show nargs x < 0 ∨ d < nargs x from .inl h1)]; rfl
      · rw [decide_eq_false h1, cond_false, decide_eq_decide.2 (show (nargs x < 0 ∨ d < nargs x) ↔ d < nargs x by omega)])]
    dsimp only
    by_cases h1 : nargs x < 0 ∨ d < nargs x
    · rw [if_pos h1] at hs
      rw [decide_eq_true h1, ← hs, cond_true, decide_eq_false (show ¬ (none : Option Int) = some 1 by simp), Bool.and_false]
    · rw [if_neg h1] at hs
      rw [decide_eq_false h1, cond_false, iadd_eq (by omega) (by omega), isub_eq (by omega) (by omega), iadd_eq (by omega) (by omega)]
      exact ih _ ⟨i + 1, d - nargs x + 1, by simp; omega, by omega, by omega, by omega, hs⟩ (by simp only; omega)
  · rw [decide_eq_false (show ¬ (i : Int) < l.length by omega), cond_false, ← hs, List.drop_eq_nil_of_le (by omega), scan, bq]
    by_cases h : d = 1
    · subst h
      rw [decide_eq_true (show (1 : Int) = 1 from rfl), cond_true, len_eq, List.length_map, ile_iff, decide_eq_decide.2 (show (l.length : Int) ≤ 100 ↔ l.length ≤ 100 by omega), decide_eq_true (show (some (1 : Int)) = some 1 from rfl), Bool.and_true]
      rfl
    · rw [decide_eq_false h, cond_false, decide_eq_false (show ¬ (some d = some (1 : Int)) from fun h' => h (Option.some.inj h')), Bool.and_false]
      rfl
end Go.Px.Seat

/- How the program writes a node. Seat T. -/
namespace Pt
open Go.Px.Seat
/-- a text, and how tightly it holds together -/
abbrev Wt := List Nat × Int
def brk (w : Wt) (v : Int) : List Nat := if w.2 < v then ([40] ++ w.1) ++ [41] else w.1
def callT (name : List Nat) (ws : List Wt) : Wt := (((name ++ [40]) ++ joinL [44, 32] (ws.map (·.1))) ++ [41], 5)
def wnode (k m : Int) (t : List Nat) (ws : List Wt) : Wt :=
  if k = 3 then ([45] ++ brk (ws.getD 0 ([], 0)) 3, 3)
  else if k = 4 then ((brk (ws.getD 0 ([], 0)) 1 ++ [32, 43, 32]) ++ brk (ws.getD 1 ([], 0)) 2, 1)
  else if k = 5 then ((brk (ws.getD 0 ([], 0)) 1 ++ [32, 45, 32]) ++ brk (ws.getD 1 ([], 0)) 2, 1)
  else if k = 6 then ((brk (ws.getD 0 ([], 0)) 2 ++ [32, 42, 32]) ++ brk (ws.getD 1 ([], 0)) 3, 2)
  else if k = 7 then ((brk (ws.getD 0 ([], 0)) 2 ++ [32, 47, 32]) ++ brk (ws.getD 1 ([], 0)) 3, 2)
  else if k = 8 then ((brk (ws.getD 0 ([], 0)) 5 ++ [94]) ++ itoa m, 4)
  else if k = 9 then callT [115, 113, 114, 116] ws
  else if k = 10 then callT [97, 98, 115] ws
  else if k = 11 then callT [109, 105, 110] ws
  else if k = 12 then callT [109, 97, 120] ws
  else if k = 13 then callT t ws
  else (t, 5)
theorem brk_len (w : Wt) (v : Int) : (brk w v).length ≤ w.1.length + 2 := by
  unfold brk
  split
  · simp
  · omega
theorem joinL_len (s : List Nat) (m : Nat) : ∀ ps : List (List Nat), (∀ p ∈ ps, p.length ≤ m) → (joinL s ps).length ≤ ps.length * (m + s.length)
  | [], _ => Nat.zero_le _
  | [x], h => by
    have := h x (List.mem_singleton.2 rfl)
    show x.length ≤ _
    simp only [List.length_singleton, Nat.one_mul]
    omega
  | x :: y :: r, h => by
    have h1 := joinL_len s m (y :: r) (fun p hp => h p (List.mem_cons_of_mem _ hp))
    have h2 := h x (List.mem_cons_self ..)
    show (x ++ (s ++ joinL s (y :: r))).length ≤ _
    rw [List.length_append, List.length_append, List.length_cons (a := x), Nat.add_mul, Nat.one_mul]
    omega
end Pt
namespace Go.Px.Seat
open Go Pm Pt
set_option linter.unusedVariables false
def encW (w : Wt) : ByteArray × (Int × Unit) := (bs w.1, (w.2, ()))
/-- texts that are not long -/
def WD (ws : List Wt) : Prop := ∀ w ∈ ws, Bl w.1 ∧ w.1.length ≤ 1000000
theorem encW_getD (ws : List Wt) (i : Nat) : (ws.map encW).getD i ((bs []), (0, ())) = encW (ws.getD i ([], 0)) := by
  rw [List.getD_eq_getElem?_getD, List.getD_eq_getElem?_getD, List.getElem?_map]
  cases ws[i]? <;> rfl
theorem wd_at {ws : List Wt} (h : WD ws) (i : Nat) : Bl (ws.getD i ([], 0)).1 ∧ (ws.getD i ([], 0)).1.length ≤ 1000000 := by
  rw [List.getD_eq_getElem?_getD]
  cases hi : ws[i]? with
  | none => exact ⟨fun x hx => (by cases hx), Nat.zero_le _⟩
  | some w => exact h w (List.mem_of_getElem? hi)
theorem k_in_ : Ev fun n => ∀ (w : Wt) (v : Int), w.1.length ≤ 1000000 → c_i_written_in ((C B0).run n) (bs w.1) w.2 v = some (bs (brk w v), ()) := by
  refine Ev.triv.succ fun n hn _ w v hw => ?_
  rw [run_succ, e_i_written_in]
  unfold p_i_written_in brk
  rw [ilt_iff]
  by_cases h : w.2 < v
  · rw [decide_eq_true h, cond_true, if_pos h, bs_sok, ok_of (decide_eq_true (by simp only [List.length_singleton]; omega)), bs_app, bs_sok, ok_of (decide_eq_true (by simp only [List.length_append, List.length_singleton]; omega)), bs_app]
  · rw [decide_eq_false h, cond_false, if_neg h]
theorem k_write1 : Ev fun n => ∀ (name : List Nat) (ws : List Wt), Bl name → name.length ≤ 1000 → WD ws → ws ≠ [] → ws.length ≤ 100 →
    c_i_write_1 ((C B0).run n) (bs name) (ws.map encW) = some (bs (callT name ws).1, ((5 : Int), (ws.map encW, ()))) := by
  refine k_Join.succ fun n hn kj name ws hnm hnl hw hne hlen => ?_
  rw [run_succ, e_i_write_1]
  unfold p_i_write_1
  rw [len_eq, List.length_map]
  refine iter_const (fun q => ∃ i : Nat, q = (((i : Int), ((ws.length : Int), (ws.map encW, ((), (bs name, ((), ((), ()))))))), ((((ws.map (·.1)).take i).map bs), ((bs [], (0, ())), ((ws.map encW, ()), ())))) ∧ i ≤ ws.length) (fun q => (200 - q.1.1).toNat) _ ?_ n _ (by simp only; omega) ⟨0, rfl, Nat.zero_le _⟩
  rintro rec _ ⟨i, rfl, hi⟩ ih
  dsimp only
  rw [ilt_iff]
  by_cases h : i < ws.length
  · rw [decide_eq_true (show (i : Int) < ws.length by omega), cond_true, len_eq, List.length_map, ok_of (inB_true (by omega) (by omega)), Int.toNat_natCast, encW_getD]
    rw [ok_of (aok_true (by rw [List.length_append, List.length_map, List.length_take, List.length_singleton]; omega)), iadd_eq (by omega) (by omega)]
    refine (congrArg rec ?_).trans (ih _ ⟨i + 1, rfl, by omega⟩ (by simp only; omega))
    rw [show ((i : Int) + 1) = ((i + 1 : Nat) : Int) by omega, List.take_add_one, List.map_append, List.getElem?_map, List.getElem?_eq_getElem h, List.getD_eq_getElem?_getD, List.getElem?_eq_getElem h]
    rfl
  · rw [decide_eq_false (show ¬ (i : Int) < ws.length by omega), cond_false]
    have hi' : i = ws.length := by omega
    subst hi'
    have ht : (ws.map (·.1)).take ws.length = ws.map (·.1) := List.take_of_length_le (by rw [List.length_map]; exact Nat.le_refl _)
    have hj := joinL_len [44, 32] 1000000 (ws.map (·.1)) (fun p hp => by
      obtain ⟨w, hw', rfl⟩ := List.mem_map.1 hp
      exact (hw w hw').2)
    rw [List.length_map] at hj
    have hj2 : (joinL [44, 32] (ws.map (·.1))).length ≤ 100 * 1000002 := Nat.le_trans hj (Nat.mul_le_mul_right _ hlen)
    rw [ht, bs_sok, ok_of (decide_eq_true (by simp only [List.length_singleton]; omega)), kj (ws.map (·.1)) [44, 32] (fun h => hne (List.map_eq_nil_iff.1 h)) (by rw [List.length_map]; omega) (by omega) (fun p hp => by
      obtain ⟨w, hw', rfl⟩ := List.mem_map.1 hp
      exact (hw w hw').1) (by unfold Bl; decide)]
    simp only [Option.bind_some]
    rw [bs_app, bs_sok, ok_of (decide_eq_true (by simp only [List.length_append, List.length_singleton]; omega)), bs_app, bs_sok, ok_of (decide_eq_true (by simp only [List.length_append, List.length_singleton]; omega)), bs_app]
    rfl
/-- the parts that a node's kind asks for -/
theorem k_write : Ev fun n => ∀ (k m : Int) (t : List Nat) (ws : List Wt), Bl t → t.length ≤ 100 → WD ws → nargs (k, m, t) = (ws.length : Int) →
    c_i_write ((C B0).run n) k m (bs t) (ws.map encW) = some (bs (wnode k m t ws).1, ((wnode k m t ws).2, ())) := by
  refine (k_in_.and (k_write1.and k_Itoa)).succ fun n hn ⟨ki, kw, kt⟩ k m t ws ht htl hw ha => ?_
  have hr := nargs_range (k, m, t)
  rw [run_succ, e_i_write]
  unfold p_i_write wnode
  have w0 := wd_at hw 0
  have w1 := wd_at hw 1
  have e0 : ∀ v, c_i_written_in ((C B0).run n) (List.getD (ws.map encW) (Int.toNat 0) ((bs []), (0, ()))).1 (List.getD (ws.map encW) (Int.toNat 0) ((bs []), (0, ()))).2.1 v = some (bs (brk (ws.getD 0 ([], 0)) v), ()) := fun v => by
    rw [show (Int.toNat 0) = 0 from rfl, encW_getD]
    exact ki _ v w0.2
  have e1 : ∀ v, c_i_written_in ((C B0).run n) (List.getD (ws.map encW) (Int.toNat 1) ((bs []), (0, ()))).1 (List.getD (ws.map encW) (Int.toNat 1) ((bs []), (0, ()))).2.1 v = some (bs (brk (ws.getD 1 ([], 0)) v), ()) := fun v => by
    rw [show (Int.toNat 1) = 1 from rfl, encW_getD]
    exact ki _ v w1.2
  have b0 : ∀ v, (brk (ws.getD 0 ([], 0)) v).length ≤ 1000002 := fun v => Nat.le_trans (brk_len _ v) (by omega)
  have b1 : ∀ v, (brk (ws.getD 1 ([], 0)) v).length ≤ 1000002 := fun v => Nat.le_trans (brk_len _ v) (by omega)
  have hlen : len (ws.map encW) = (ws.length : Int) := by rw [len_eq, List.length_map]
  by_cases h3 : k = 3
  · subst h3
    have hl := nargs_one ha (.inl rfl)
    rw [show ((3 : Int) == 3) = true from rfl, cond_true, if_pos rfl, hlen, ok_of (inB_true (by omega) (by omega)), e0]
    simp only [Option.bind_some]
    have := b0 3
    rw [bs_sok, ok_of (decide_eq_true (by simp only [List.length_singleton]; omega)), bs_app]
  rw [beq_f h3, cond_false, if_neg h3]
  have two : ∀ (s : List Nat) (v v' lv : Int), s.length = 3 → ws.length = 2 →
      (ok (inB 0 (len (ws.map encW))) <| (c_i_written_in ((C B0).run n) (List.getD (ws.map encW) (Int.toNat 0) ((bs []), (0, ()))).1 (List.getD (ws.map encW) (Int.toNat 0) ((bs []), (0, ()))).2.1 v).bind fun (r1, _) =>
        ok (sok r1 (bs s)) <| ok (inB 1 (len (ws.map encW))) <| (c_i_written_in ((C B0).run n) (List.getD (ws.map encW) (Int.toNat 1) ((bs []), (0, ()))).1 (List.getD (ws.map encW) (Int.toNat 1) ((bs []), (0, ()))).2.1 v').bind fun (r2, _) =>
        ok (sok (r1 ++ bs s) r2) <| (some (((r1 ++ bs s) ++ r2), (lv, ())) : Option (ByteArray × (Int × Unit)))) = some (bs ((brk (ws.getD 0 ([], 0)) v ++ s) ++ brk (ws.getD 1 ([], 0)) v'), (lv, ())) := fun s v v' lv hs hl => by
    rw [hlen, ok_of (inB_true (by omega) (by omega)), e0, e1]
    simp only [Option.bind_some]
    have := b0 v
    have := b1 v'
    rw [bs_sok, ok_of (decide_eq_true (by omega)), ok_of (inB_true (by omega) (by omega)), bs_app, bs_sok, ok_of (decide_eq_true (by rw [List.length_append]; omega)), bs_app]
  by_cases h4 : k = 4
  · subst h4
    rw [show ((4 : Int) == 4) = true from rfl, cond_true, if_pos rfl]
    exact two _ 1 2 1 rfl (nargs_two ha (.inl rfl))
  rw [beq_f h4, cond_false, if_neg h4]
  by_cases h5 : k = 5
  · subst h5
    rw [show ((5 : Int) == 5) = true from rfl, cond_true, if_pos rfl]
    exact two _ 1 2 1 rfl (nargs_two ha (.inr (.inl rfl)))
  rw [beq_f h5, cond_false, if_neg h5]
  by_cases h6 : k = 6
  · subst h6
    rw [show ((6 : Int) == 6) = true from rfl, cond_true, if_pos rfl]
    exact two _ 2 3 2 rfl (nargs_two ha (.inr (.inr (.inl rfl))))
  rw [beq_f h6, cond_false, if_neg h6]
  by_cases h7 : k = 7
  · subst h7
    rw [show ((7 : Int) == 7) = true from rfl, cond_true, if_pos rfl]
    exact two _ 2 3 2 rfl (nargs_two ha (.inr (.inr (.inr rfl))))
  rw [beq_f h7, cond_false, if_neg h7]
  by_cases h8 : k = 8
  · subst h8
    have hl := nargs_one ha (.inr rfl)
    have hm : 0 ≤ m ∧ m ≤ 8 := by
      unfold nargs at ha
      simp only at ha
      rw [if_neg (by decide), if_neg (by decide), if_neg (by decide), if_neg (by decide), if_pos trivial] at ha
      split at ha
      · rename_i h; exact ⟨h.1, h.2.1⟩
      · omega
    have hit : (itoa m).length ≤ 20 := by
      obtain ⟨j, rfl⟩ : ∃ j : Nat, m = (j : Int) := ⟨m.toNat, by omega⟩
      have hj : j ≤ 8 := by omega
      unfold itoa
      rw [if_neg (by omega), Int.toNat_natCast, dec, dif_pos (by omega)]
      simp
    rw [show ((8 : Int) == 8) = true from rfl, cond_true, if_pos rfl, hlen, ok_of (inB_true (by omega) (by omega)), e0]
    simp only [Option.bind_some]
    have := b0 5
    rw [bs_sok, ok_of (decide_eq_true (by simp only [List.length_singleton]; omega)), kt m (by omega) (by omega)]
    simp only [Option.bind_some]
    rw [bs_app, bs_sok, ok_of (decide_eq_true (by rw [List.length_append, List.length_singleton]; omega)), bs_app]
  rw [beq_f h8, cond_false, if_neg h8]
  have call : ∀ (name : List Nat), Bl name → name.length ≤ 1000 → 1 ≤ ws.length → (c_i_write_1 ((C B0).run n) (bs name) (ws.map encW)).bind (fun (r1, (rb, (rc, _))) => (some (r1, (rb, ())) : Option (ByteArray × (Int × Unit)))) = some (bs (callT name ws).1, ((callT name ws).2, ())) := fun name h1 h2 h3 => by
    rw [kw name ws h1 h2 hw (fun h => by rw [h] at h3; exact absurd h3 (by decide)) (by omega)]
    rfl
  have some_args : k = 9 ∨ k = 10 ∨ k = 11 ∨ k = 12 ∨ k = 13 → 1 ≤ ws.length := fun h => by
    have ha' := ha
    unfold nargs at ha'
    simp only at ha'
    rcases h with rfl | rfl | rfl | rfl | rfl <;> simp at ha' <;> split at ha' <;> omega
  by_cases h9 : k = 9
  · subst h9
    rw [show ((9 : Int) == 9) = true from rfl, cond_true, if_pos rfl]
    exact call _ (by unfold Bl; decide) (by decide) (some_args (.inl rfl))
  rw [beq_f h9, cond_false, if_neg h9]
  by_cases h10 : k = 10
  · subst h10
    rw [show ((10 : Int) == 10) = true from rfl, cond_true, if_pos rfl]
    exact call _ (by unfold Bl; decide) (by decide) (some_args (.inr (.inl rfl)))
  rw [beq_f h10, cond_false, if_neg h10]
  by_cases h11 : k = 11
  · subst h11
    rw [show ((11 : Int) == 11) = true from rfl, cond_true, if_pos rfl]
    exact call _ (by unfold Bl; decide) (by decide) (some_args (.inr (.inr (.inl rfl))))
  rw [beq_f h11, cond_false, if_neg h11]
  by_cases h12 : k = 12
  · subst h12
    rw [show ((12 : Int) == 12) = true from rfl, cond_true, if_pos rfl]
    exact call _ (by unfold Bl; decide) (by decide) (some_args (.inr (.inr (.inr (.inl rfl)))))
  rw [beq_f h12, cond_false, if_neg h12]
  by_cases h13 : k = 13
  · subst h13
    rw [show ((13 : Int) == 13) = true from rfl, cond_true, if_pos rfl]
    exact call _ ht (by omega) (some_args (.inr (.inr (.inr (.inr rfl)))))
  rw [beq_f h13, cond_false, if_neg h13]
end Go.Px.Seat
