/- Own texts, part M3: PvB PvC PvD. -/
import Derived.Test.YtmmggkldldbomaaGreatDoorM2
set_option linter.unusedVariables false

/- Marks, what is held, equality. Seat G. -/
namespace Go.Px.Seat
open Go Pm Pt
set_option linter.unusedVariables false
variable {B : Run}
/-! Marks -/
/-- markText's loop -/
noncomputable def mgo (f : Nat) (k : Int) (out : ByteArray) : ByteArray := match f with
  | 0 => out
  | f + 1 => if 0 < k then mgo f (k / 10) (ofInts [IntKind.wrap .u8 (48 + k % 10)] ++ out) else bs [109] ++ out
noncomputable def mt (k : Int) : ByteArray := if k ≤ 0 then bs [109, 48] else mgo 64 k (bs [])
theorem ofInts_one (x : Int) : (ofInts [x]).size = 1 := by
  unfold ofInts
  simp [ByteArray.size_push]
theorem k_markText : Ev fun n => ∀ k : Int, k ≤ 1000000000000000000 → c_w_markText ((C B).run n) k = some (mt k, ()) := by
  refine Ev.triv.succ fun n hn _ k hk => ?_
  rw [run_succB', e_w_markText]
  unfold p_w_markText mt
  rw [ile_iff]
  by_cases h : k ≤ 0
  · rw [decide_eq_true h, cond_true, if_pos h]
  · rw [decide_eq_false h, cond_false, if_neg h]
    suffices hs : ∀ f n, f < n → ∀ (k : Int) (out : ByteArray), 0 ≤ k → k * 10 ^ out.size ≤ 1000000000000000000 → (k = 0 ∨ k < 10 ^ (f - 1)) → 1 ≤ f → out.size + f ≤ 64 → iter (P := (Int × ByteArray × ByteArray × Unit) × Unit) (fun rec ((k0, (out3, (t2, _))), _) =>
        bif (ilt 0 k0) then
          ok (sok (ofInts [(IntKind.wrap .u8 (iadd .i64 48 (irem .i64 k0 10)))]) out3) <|
          rec (((iquo .i64 k0 10), (((ofInts [(IntKind.wrap .u8 (iadd .i64 48 (irem .i64 k0 10)))]) ++ out3), (t2, ()))), ())
        else
        ok (sok (bs [109]) out3) <|
        some (((bs [109]) ++ out3), ())) n ((k, (out, ((bs []), ()))), ()) = some (mgo f k out, ()) by
      have h63 : k < 10 ^ (64 - 1) := by
        have h : (10 : Int) ^ (64 - 1) = 1000000000000000000000000000000000000000000000000000000000000000 := by decide
        rw [h]
        omega
      refine hs 64 n (by omega) k (bs []) (by omega) ?_ (.inr h63) (by decide) (by decide)
      show k * 10 ^ 0 ≤ _
      omega
    intro f
    induction f with
    | zero => intro n _ k out _ _ _ h1; omega
    | succ f ih =>
      intro n hfn k out hk0 hko hkf _ hof
      obtain ⟨m, rfl⟩ : ∃ m, n = m + 1 := ⟨n - 1, by omega⟩
      show (bif (ilt 0 k) then _ else _) = _
      rw [ilt_iff, mgo]
      have hob : out.size ≤ 63 := by omega
      by_cases h1 : 0 < k
      · rw [decide_eq_true h1, cond_true, if_pos h1]
        have hkb : k ≤ 1000000000000000000 := by
          have : k * 1 ≤ k * 10 ^ out.size := Int.mul_le_mul_of_nonneg_left (by
            have := Int.pow_pos (m := out.size) (show (0 : Int) < 10 by decide)
            omega) hk0
          omega
        rw [irem_eq hk0, iquo_eq hk0 (by omega) (by decide), iadd_eq (by omega) (by omega)]
        have hsz := ofInts_one (IntKind.wrap .u8 (48 + k % 10))
        rw [ok_of (by rw [sok_eq]; exact decide_eq_true (by omega))]
        have hsz2 : (ofInts [IntKind.wrap .u8 (48 + k % 10)] ++ out).size = out.size + 1 := by
          rw [ByteArray.size_append, hsz, Nat.add_comm]
        have hpos := Int.pow_pos (m := out.size) (show (0 : Int) < 10 by decide)
        have hf1 : 1 ≤ f := by
          rcases hkf with h | h
          · omega
          · rcases Nat.eq_zero_or_pos f with hf | hf
            · subst hf
              simp at h
              omega
            · exact hf
        refine ih m (by omega) _ _ (Int.ediv_nonneg hk0 (by decide)) ?_ ?_ hf1 (by omega)
        · rw [hsz2, Int.pow_succ]
          have h2 : k / 10 * 10 ≤ k := Int.ediv_mul_le k (by decide)
          have h3 : k / 10 * (10 ^ out.size * 10) = (k / 10 * 10) * 10 ^ out.size := by
            rw [Int.mul_comm (10 ^ out.size) 10, ← Int.mul_assoc]
          rw [h3]
          exact Int.le_trans (Int.mul_le_mul_of_nonneg_right h2 (Int.le_of_lt hpos)) hko
        · rcases hkf with h | h
          · omega
          · right
            obtain ⟨g, rfl⟩ : ∃ g, f = g + 1 := ⟨f - 1, by omega⟩
            simp only [Nat.add_sub_cancel] at h ⊢
            rw [Int.pow_succ] at h
            exact Int.ediv_lt_of_lt_mul (by decide) h
      · rw [decide_eq_false h1, cond_false, if_neg h1, ok_of (by rw [sok_eq]; refine decide_eq_true ?_; rw [bs_size]; simp only [List.length_cons, List.length_nil]; omega)]
/-- Elements that are marked, one behind the other. -/
def markW {α β : Type} (f : Int → α → β) (c : α → Nat) : Int → List α → List β
  | _, [] => []
  | k, x :: l => f k x :: markW f c (k + c x) l
def cntW {α : Type} (c : α → Nat) (l : List α) : Nat := (l.map c).sum
section
variable {α β : Type} {f : Int → α → β} {c : α → Nat}
theorem markW_len : ∀ {k : Int} {l : List α}, (markW f c k l).length = l.length
  | _, [] => rfl
  | _, _ :: l => by rw [markW, List.length_cons, markW_len, List.length_cons]
theorem markW_get : ∀ {k : Int} {l : List α} {i : Nat} {d : β} {e : α}, i < l.length → (markW f c k l).getD i d = f (k + cntW c (l.take i)) (l.getD i e)
  | _, [], _, _, _, h => by simp at h
  | k, x :: l, 0, d, e, _ => by simp [markW, cntW]
  | k, x :: l, i + 1, d, e, h => by
    rw [markW, List.getD_cons_succ, markW_get (e := e) (by simpa using h), List.getD_cons_succ]
    congr 1
    simp only [cntW, List.take_succ_cons, List.map_cons, List.sum_cons]
    omega
theorem cntW_succ {l : List α} {i : Nat} {e : α} (h : i < l.length) : cntW c (l.take (i + 1)) = cntW c (l.take i) + c (l.getD i e) := by
  unfold cntW
  rw [List.take_add_one, List.map_append, List.sum_append, List.getElem?_eq_getElem h, List.getD_eq_getElem?_getD, List.getElem?_eq_getElem h]
  simp
theorem cntW_le {l : List α} {i M : Nat} (h : ∀ x ∈ l, c x ≤ M) : cntW c (l.take i) ≤ l.length * M := by
  have : ∀ (l : List α), (∀ x ∈ l, c x ≤ M) → (l.map c).sum ≤ l.length * M := by
    intro l
    induction l with
    | nil => intro _; simp
    | cons x l ih =>
      intro h
      rw [List.map_cons, List.sum_cons, List.length_cons, Nat.add_mul, Nat.one_mul, Nat.add_comm]
      exact Nat.add_le_add (ih fun y hy => h y (List.mem_cons_of_mem _ hy)) (h x (List.mem_cons_self ..))
  refine Nat.le_trans (this _ fun x hx => h x (List.mem_of_mem_take hx)) (Nat.mul_le_mul_right _ (by rw [List.length_take]; omega))
theorem cntW_all {l : List α} : cntW c (l.take l.length) = cntW c l := by rw [List.take_length]
theorem cntW_one {l : List α} {m : Nat} : cntW (fun _ : α => m) l = l.length * m := by
  unfold cntW
  induction l with
  | nil => simp
  | cons x l ih => rw [List.map_cons, List.sum_cons, ih, List.length_cons, Nat.add_mul, Nat.one_mul, Nat.add_comm]
end
noncomputable abbrev markL (k : Int) (l : List ByteArray) : List ByteArray := markW (fun k _ => mt k) (fun _ => 1) k l
noncomputable abbrev markN (k : Int) (l : List Tn) : List Tn := markW (fun k _ => (k, (k + 1, (mt (k + 2), ())))) (fun _ => 3) k l
def cntD (d : Df) : Nat := 1 + d.2.1.length + 3 * d.2.2.1.1.length
def cntR (r : Rl) : Nat := 1 + 3 * r.2.1.1.length + 3 * r.2.2.1.1.length
noncomputable def markD (k : Int) (d : Df) : Df := (mt k, (markL (k + 1) d.2.1, ((markN (k + 1 + d.2.1.length) d.2.2.1.1, ()), ())))
noncomputable def markR (k : Int) (r : Rl) : Rl := (k, ((markN (k + 1) r.2.1.1, ()), ((markN (k + 1 + (3 * r.2.1.1.length : Nat)) r.2.2.1.1, ()), ())))
noncomputable abbrev markDs (k : Int) (l : List Df) : List Df := markW markD cntD k l
noncomputable abbrev markRs (k : Int) (l : List Rl) : List Rl := markW markR cntR k l
theorem seq_self (a : ByteArray) : seq a a = true := by rw [seq_chs]; simp
theorem k_heldStringS : Ev fun n => ∀ (l : List ByteArray) (k : Int), 0 ≤ k → k ≤ 100000000000000000 → l.length ≤ 1048576 → c_w_heldStringS ((C B).run n) (markL k l) k = some (k + l.length, ()) := by
  refine (k_markText (B := B)).succ fun n hn km l k hk hk' hl => ?_
  rw [run_succB', e_w_heldStringS]
  unfold p_w_heldStringS
  refine iter_const (fun q => ∃ i : Nat, q = (((i : Int), (markL k l, (k + (i : Int), (0, ())))), ()) ∧ i ≤ l.length) (fun q => 1048577 - q.1.1.toNat) _ ?_ n _ (by simp only; omega) ⟨0, by simp, Nat.zero_le _⟩
  rintro rec _ ⟨i, rfl, hi⟩ ih
  dsimp only
  rw [len_eq, markW_len, ilt_iff]
  by_cases h1 : i < l.length
  · rw [decide_eq_true (show (i : Int) < l.length by omega), cond_true, ok_of (inB_true (by omega) (by omega)), km _ (by omega), Int.toNat_natCast, markW_get (e := bs []) h1]
    have hc : cntW (fun _ : ByteArray => 1) (l.take i) = i := by rw [cntW_one, List.length_take]; omega
    simp only [Option.bind_some]
    rw [hc, seq_self, Bool.not_true, cond_false, iadd_eq (by omega) (by omega), iadd_eq (by omega) (by omega)]
    exact ih _ ⟨i + 1, by simp [Int.add_assoc], by omega⟩ (by simp only; omega)
  · rw [decide_eq_false (show ¬ (i : Int) < l.length by omega), cond_false]
    obtain rfl : i = l.length := by omega
    rfl
theorem k_heldTermNodeS : Ev fun n => ∀ (l : List Tn) (k : Int), 0 ≤ k → k ≤ 100000000000000000 → l.length ≤ 1048576 → c_w_heldTermNodeS ((C B).run n) (markN k l) k = some (k + (3 * l.length : Nat), ()) := by
  refine (k_markText (B := B)).succ fun n hn km l k hk hk' hl => ?_
  rw [run_succB', e_w_heldTermNodeS]
  unfold p_w_heldTermNodeS
  refine iter_const (fun q => ∃ i : Nat, q = (((i : Int), (markN k l, (k + (3 * i : Nat), (0, ())))), ()) ∧ i ≤ l.length) (fun q => 1048577 - q.1.1.toNat) _ ?_ n _ (by simp only; omega) ⟨0, by simp, Nat.zero_le _⟩
  rintro rec _ ⟨i, rfl, hi⟩ ih
  dsimp only
  rw [len_eq, markW_len, ilt_iff]
  by_cases h1 : i < l.length
  · have hc : cntW (fun _ : Tn => 3) (l.take i) = 3 * i := by rw [cntW_one, List.length_take]; omega
    rw [decide_eq_true (show (i : Int) < l.length by omega), cond_true, ok_of (inB_true (by omega) (by omega)), Int.toNat_natCast, markW_get (e := (0, (0, ((bs []), ())))) h1, hc]
    have hs : ∀ x : Int, (x != x) = false := fun x => by simp
    rw [iadd_eq (by omega) (by omega), hs, cond_false, ok_of (inB_true (by omega) (by omega)), hs, cond_false, ok_of (inB_true (by omega) (by omega)), iadd_eq (by omega) (by omega), show k + (3 * i : Nat) + 1 + 1 = k + (3 * i : Nat) + 2 by omega, km _ (by omega)]
    simp only [Option.bind_some]
    rw [seq_self, Bool.not_true, cond_false, iadd_eq (by omega) (by omega), iadd_eq (by omega) (by omega)]
    exact ih _ ⟨i + 1, by simp; omega, by omega⟩ (by simp only; omega)
  · rw [decide_eq_false (show ¬ (i : Int) < l.length by omega), cond_false]
    obtain rfl : i = l.length := by omega
    rfl
theorem cntD_le {d : Df} (h : SmD 1048576 d) : cntD d ≤ 4194305 := by
  have h1 := h.2.1.1
  have h2 := h.2.2.1
  unfold cntD
  omega
theorem cntR_le {r : Rl} (h : SmR 1048576 r) : cntR r ≤ 6291457 := by
  have h1 := h.1.1
  have h2 := h.2.1
  unfold cntR
  omega
theorem k_heldProgDefS : Ev fun n => ∀ (l : List Df) (k : Int), 0 ≤ k → k ≤ 10000000000000000 → SmDs 1048576 l → c_w_heldProgDefS ((C B).run n) (markDs k l) k = some (k + (cntW cntD l : Nat), ()) := by
  refine ((k_markText (B := B)).and ((k_heldStringS (B := B)).and (k_heldTermNodeS (B := B)))).succ fun n hn ⟨km, ks, kt⟩ l k hk hk' hl => ?_
  rw [run_succB', e_w_heldProgDefS]
  unfold p_w_heldProgDefS
  have hl1 := hl.1
  refine iter_const (fun q => ∃ i : Nat, q = (((i : Int), (markDs k l, (k + (cntW cntD (l.take i) : Nat), (0, ())))), ()) ∧ i ≤ l.length) (fun q => 1048577 - q.1.1.toNat) _ ?_ n _ (by simp only; omega) ⟨0, by simp [cntW], Nat.zero_le _⟩
  rintro rec _ ⟨i, rfl, hi⟩ ih
  dsimp only
  rw [len_eq, markW_len, ilt_iff]
  by_cases h1 : i < l.length
  · have hin : ((i : Int) < (l.length : Nat)) := by omega
    have hcb : cntW cntD (l.take i) ≤ 1048576 * 4194305 := Nat.le_trans (cntW_le fun x hx => cntD_le (hl.2 x hx)) (Nat.mul_le_mul_right _ hl1)
    have hsd := hl.2 _ (getD_mem (d := dDf) h1)
    rw [decide_eq_true hin, cond_true, ok_of (inB_true (by omega) (by omega)), Int.toNat_natCast, markW_get (e := dDf) h1]
    simp only [markD]
    rw [km _ (by omega)]
    simp only [Option.bind_some]
    have hsl := hsd.2.1.1
    have hsn := hsd.2.2.1
    rw [seq_self, Bool.not_true, cond_false, ok_of (inB_true (by omega) (by omega)), iadd_eq (by omega) (by omega), ks _ _ (by omega) (by omega) hsl]
    simp only [Option.bind_some]
    rw [ilt_iff, decide_eq_false (by omega), cond_false, ok_of (inB_true (by omega) (by omega)), kt _ _ (by omega) (by omega) hsn]
    simp only [Option.bind_some]
    rw [ilt_iff, decide_eq_false (by omega), cond_false, iadd_eq (by omega) (by omega)]
    refine ih _ ⟨i + 1, ?_, by omega⟩ (by simp only; omega)
    rw [cntW_succ (e := dDf) h1]
    simp only [cntD]
    have : k + ((cntW cntD (l.take i) : Nat) : Int) + 1 + ((l.getD i dDf).2.1.length : Nat) + ((3 * (l.getD i dDf).2.2.1.1.length : Nat) : Int) = k + ((cntW cntD (l.take i) + (1 + (l.getD i dDf).2.1.length + 3 * (l.getD i dDf).2.2.1.1.length) : Nat) : Int) := by omega
    rw [this]
    rfl
  · rw [decide_eq_false (show ¬ (i : Int) < l.length by omega), cond_false]
    obtain rfl : i = l.length := by omega
    rw [List.take_length]
theorem k_heldProgRelS : Ev fun n => ∀ (l : List Rl) (k : Int), 0 ≤ k → k ≤ 10000000000000000 → SmRs 1048576 l → c_w_heldProgRelS ((C B).run n) (markRs k l) k = some (k + (cntW cntR l : Nat), ()) := by
  refine (k_heldTermNodeS (B := B)).succ fun n hn kt l k hk hk' hl => ?_
  rw [run_succB', e_w_heldProgRelS]
  unfold p_w_heldProgRelS
  have hl1 := hl.1
  refine iter_const (fun q => ∃ i : Nat, q = (((i : Int), (markRs k l, (k + (cntW cntR (l.take i) : Nat), (0, ())))), ()) ∧ i ≤ l.length) (fun q => 1048577 - q.1.1.toNat) _ ?_ n _ (by simp only; omega) ⟨0, by simp [cntW], Nat.zero_le _⟩
  rintro rec _ ⟨i, rfl, hi⟩ ih
  dsimp only
  rw [len_eq, markW_len, ilt_iff]
  by_cases h1 : i < l.length
  · have hin : ((i : Int) < (l.length : Nat)) := by omega
    have hcb : cntW cntR (l.take i) ≤ 1048576 * 6291457 := Nat.le_trans (cntW_le fun x hx => cntR_le (hl.2 x hx)) (Nat.mul_le_mul_right _ hl1)
    have hsd := hl.2 _ (getD_mem (d := dRl) h1)
    rw [decide_eq_true hin, cond_true, ok_of (inB_true (by omega) (by omega)), Int.toNat_natCast, markW_get (e := dRl) h1]
    simp only [markR]
    have hs : ∀ x : Int, (x != x) = false := fun x => by simp
    have hsl := hsd.1.1
    have hsn := hsd.2.1
    rw [hs, cond_false, ok_of (inB_true (by omega) (by omega)), iadd_eq (by omega) (by omega), kt _ _ (by omega) (by omega) hsl]
    simp only [Option.bind_some]
    rw [ilt_iff, decide_eq_false (by omega), cond_false, ok_of (inB_true (by omega) (by omega)), kt _ _ (by omega) (by omega) hsn]
    simp only [Option.bind_some]
    rw [ilt_iff, decide_eq_false (by omega), cond_false, iadd_eq (by omega) (by omega)]
    refine ih _ ⟨i + 1, ?_, by omega⟩ (by simp only; omega)
    rw [cntW_succ (e := dRl) h1]
    simp only [cntR]
    have : k + ((cntW cntR (l.take i) : Nat) : Int) + 1 + ((3 * (l.getD i dRl).2.1.1.length : Nat) : Int) + ((3 * (l.getD i dRl).2.2.1.1.length : Nat) : Int) = k + ((cntW cntR (l.take i) + (1 + 3 * (l.getD i dRl).2.1.1.length + 3 * (l.getD i dRl).2.2.1.1.length) : Nat) : Int) := by omega
    rw [this]
    rfl
  · rw [decide_eq_false (show ¬ (i : Int) < l.length by omega), cond_false]
    obtain rfl : i = l.length := by omega
    rw [List.take_length]
/-- A program's parts, marked. -/
noncomputable def mkD1 (D : List Df) : List Df := markDs 1 D
noncomputable def mkV1 (D : List Df) (V : List ByteArray) : List ByteArray := markL (1 + (cntW cntD D : Nat)) V
noncomputable def mkR1 (D : List Df) (V : List ByteArray) (L : List Rl) : List Rl := markRs (1 + (cntW cntD D : Nat) + V.length) L
def cntP (D : List Df) (V : List ByteArray) (L : List Rl) : Int := 1 + (cntW cntD D : Nat) + V.length + (cntW cntR L : Nat)
theorem cntDs_le {D : List Df} (h : SmDs 1048576 D) : cntW cntD D ≤ 1048576 * 4194305 := by
  rw [← cntW_all]
  exact Nat.le_trans (cntW_le fun x hx => cntD_le (h.2 x hx)) (Nat.mul_le_mul_right _ h.1)
theorem k_heldProg : Ev fun n => ∀ (D : List Df) (V : List ByteArray) (L : List Rl), SmDs 1048576 D → SmL 1048576 V → SmRs 1048576 L → c_w_heldProg ((C B).run n) (mkD1 D) (mkV1 D V) (mkR1 D V L) 1 = some (cntP D V L, ()) := by
  refine ((k_heldProgDefS (B := B)).and ((k_heldStringS (B := B)).and (k_heldProgRelS (B := B)))).succ fun n hn ⟨kd, ks, kr⟩ D V L hD hV hL => ?_
  rw [run_succB', e_w_heldProg]
  unfold p_w_heldProg mkD1 mkV1 mkR1 cntP
  have h1 := cntDs_le hD
  have h2 := hV.1
  rw [kd _ _ (by omega) (by omega) hD]
  simp only [Option.bind_some]
  rw [ilt_iff, decide_eq_false (by omega), cond_false, ks _ _ (by omega) (by omega) h2]
  simp only [Option.bind_some]
  rw [ilt_iff, decide_eq_false (by omega), cond_false, kr _ _ (by omega) (by omega) hL]
  simp only [Option.bind_some]
  rw [ilt_iff, decide_eq_false (by omega), cond_false]
/-! Equal data is found equal -/
theorem int_ne_self (x : Int) : (x != x) = false := by simp
theorem eq_iter {α : Type} {d : α} {g : α → α → Option (Bool × Unit)} {l : List α} {n : Nat} (hn : 1152921504606846976 ≤ n) (hl : l.length ≤ 1048576) (h : ∀ x ∈ l, g x x = some (true, ())) :
    iter (P := (Int × List α × List α × Bool × Unit) × Unit) (fun rec ((i5, (a0, (b1, (t4, _)))), _) =>
      bif (ilt i5 (len a0)) then
        ok (inB i5 (len a0)) <|
        ok (inB i5 (len b1)) <|
        (g (List.getD a0 (Int.toNat i5) d) (List.getD b1 (Int.toNat i5) d)).bind fun (r, _) =>
        bif (!r) then
          some (false, ())
        else
        rec (((iadd .i64 i5 1), (a0, (b1, (t4, ())))), ())
      else
      some (true, ())) n ((0, (l, (l, (false, ())))), ()) = some (true, ()) := by
  refine iter_const (fun q => ∃ i : Nat, q = (((i : Int), (l, (l, (false, ())))), ()) ∧ i ≤ l.length) (fun q => 1048577 - q.1.1.toNat) _ ?_ n _ (by simp only; omega) ⟨0, rfl, Nat.zero_le _⟩
  rintro rec _ ⟨i, rfl, hi⟩ ih
  dsimp only
  rw [len_eq, ilt_iff]
  by_cases h1 : i < l.length
  · rw [decide_eq_true (show (i : Int) < l.length by omega), cond_true, ok_of (inB_true (by omega) (by omega)), ok_of (inB_true (by omega) (by omega)), Int.toNat_natCast, h _ (getD_mem h1)]
    simp only [Option.bind_some]
    rw [Bool.not_true, cond_false, iadd_eq (by omega) (by omega)]
    exact ih _ ⟨i + 1, by simp, by omega⟩ (by simp only; omega)
  · rw [decide_eq_false (show ¬ (i : Int) < l.length by omega), cond_false]
theorem k_eqStringS : Ev fun n => ∀ l : List ByteArray, l.length ≤ 1048576 → c_w_eqStringS ((C B).run n) l l = some (true, ()) := by
  refine Ev.triv.succ fun n hn _ l hl => ?_
  rw [run_succB', e_w_eqStringS]
  unfold p_w_eqStringS
  rw [int_ne_self, cond_false]
  refine Eq.trans ?_ (eq_iter (d := bs []) (g := fun x y => some (seq x y, ())) hn hl fun x _ => by rw [seq_self])
  rfl
theorem k_eqTermNode : Ev fun n => ∀ x : Tn, c_w_eqTermNode ((C B).run n) x.1 x.2.1 x.2.2.1 x.1 x.2.1 x.2.2.1 = some (true, ()) := by
  refine Ev.triv.succ fun n hn _ x => ?_
  rw [run_succB', e_w_eqTermNode]
  unfold p_w_eqTermNode
  rw [int_ne_self, cond_false, int_ne_self, cond_false, seq_self, Bool.not_true, cond_false]
theorem k_eqTerm : Ev fun n => ∀ l : List Tn, l.length ≤ 1048576 → c_w_eqTerm ((C B).run n) l l = some (true, ()) := by
  have h1 : Ev fun n => ∀ l : List Tn, l.length ≤ 1048576 → c_w_eqTermNodeS ((C B).run n) l l = some (true, ()) := by
    refine (k_eqTermNode (B := B)).succ fun n hn k1 l hl => ?_
    rw [run_succB', e_w_eqTermNodeS]
    unfold p_w_eqTermNodeS
    rw [int_ne_self, cond_false]
    exact eq_iter (d := (0, (0, ((bs []), ())))) (g := fun (x y : Tn) => c_w_eqTermNode ((C B).run n) x.1 x.2.1 x.2.2.1 y.1 y.2.1 y.2.2.1) hn hl fun x _ => k1 x
  refine h1.succ fun n hn k1 l hl => ?_
  rw [run_succB', e_w_eqTerm]
  unfold p_w_eqTerm
  rw [k1 l hl]
  rfl
theorem k_eqProgDefS : Ev fun n => ∀ l : List Df, SmDs 1048576 l → c_w_eqProgDefS ((C B).run n) l l = some (true, ()) := by
  have h1 : Ev fun n => ∀ x : Df, SmD 1048576 x → c_w_eqProgDef ((C B).run n) x.1 x.2.1 x.2.2.1.1 x.1 x.2.1 x.2.2.1.1 = some (true, ()) := by
    refine ((k_eqStringS (B := B)).and (k_eqTerm (B := B))).succ fun n hn ⟨k1, k2⟩ x hx => ?_
    rw [run_succB', e_w_eqProgDef]
    unfold p_w_eqProgDef
    rw [seq_self, Bool.not_true, cond_false, k1 _ hx.2.1.1, k2 _ hx.2.2.1]
    rfl
  refine h1.succ fun n hn k1 l hl => ?_
  rw [run_succB', e_w_eqProgDefS]
  unfold p_w_eqProgDefS
  rw [int_ne_self, cond_false]
  exact eq_iter (d := dDf) (g := fun (x y : Df) => c_w_eqProgDef ((C B).run n) x.1 x.2.1 x.2.2.1.1 y.1 y.2.1 y.2.2.1.1) hn hl.1 fun x hx => k1 x (hl.2 x hx)
theorem k_eqProgRelS : Ev fun n => ∀ l : List Rl, SmRs 1048576 l → c_w_eqProgRelS ((C B).run n) l l = some (true, ()) := by
  have h1 : Ev fun n => ∀ x : Rl, SmR 1048576 x → c_w_eqProgRel ((C B).run n) x.1 x.2.1.1 x.2.2.1.1 x.1 x.2.1.1 x.2.2.1.1 = some (true, ()) := by
    refine (k_eqTerm (B := B)).succ fun n hn k2 x hx => ?_
    rw [run_succB', e_w_eqProgRel]
    unfold p_w_eqProgRel
    rw [int_ne_self, cond_false, k2 _ hx.1.1, k2 _ hx.2.1]
    rfl
  refine h1.succ fun n hn k1 l hl => ?_
  rw [run_succB', e_w_eqProgRelS]
  unfold p_w_eqProgRelS
  rw [int_ne_self, cond_false]
  exact eq_iter (d := dRl) (g := fun (x y : Rl) => c_w_eqProgRel ((C B).run n) x.1 x.2.1.1 x.2.2.1.1 y.1 y.2.1.1 y.2.2.1.1) hn hl.1 fun x hx => k1 x (hl.2 x hx)
theorem k_eqProg : Ev fun n => ∀ (D : List Df) (V : List ByteArray) (L : List Rl), SmDs 1048576 D → SmL 1048576 V → SmRs 1048576 L → c_w_eqProg ((C B).run n) D V L D V L = some (true, ()) := by
  refine ((k_eqProgDefS (B := B)).and ((k_eqStringS (B := B)).and (k_eqProgRelS (B := B)))).succ fun n hn ⟨kd, ks, kr⟩ D V L hD hV hL => ?_
  rw [run_succB', e_w_eqProg]
  unfold p_w_eqProg
  rw [kd _ hD, ks _ hV.1, kr _ hL]
  rfl
end Go.Px.Seat

/- Arenas: rows at places; programs laid down. Seat G. -/
namespace Go.Px.Seat
open Go Pm Pt
set_option linter.unusedVariables false
variable {B : Run}
theorem mkOk_true {n m : Int} {k : Nat} (h : 0 ≤ n) (h' : n ≤ m) (h'' : m * k ≤ 140737488355328) : mkOk n m k = true := by simp [mkOk, h, h', h'']
section
variable {α : Type} {M X : Mem α} {k j : Nat} {l l' : List α} {x : Option (List α)}
theorem row_at (h : M[k]? = some (some l)) : mrow M (k + 1) = l := by
  simp only [mrow, List.getD_eq_getElem?_getD, h, Option.getD_some]
theorem live_at (h : M[k]? = some (some l)) : mlive M (k + 1) = true := by
  simp only [mlive, List.getD_eq_getElem?_getD, h, Option.getD_some]
theorem hit_at (h : M[k]? = some (some l)) (hj : j < l.length) : mhit M (k + 1) j = true := by
  unfold mhit
  rw [live_at h, row_at h, Bool.true_and]
  exact Nat.ble_eq.mpr hj
theorem ok_at (h : M[k]? = some (some l)) : mok M (k + 1, (0, l.length)) = true := by
  unfold mok
  rw [live_at h, row_at h]
  simp
theorem ok_le {n : Nat} {b : Nat} (h : M[k]? = some (some l)) (hn : b + n ≤ l.length) : mok M (k + 1, (b, n)) = true := by
  unfold mok
  rw [live_at h, row_at h]
  simp [Nat.ble_eq.mpr hn]
theorem val_le {n : Nat} {b : Nat} (h : M[k]? = some (some l)) : mval M (k + 1, (b, n)) = (l.take (b + n)).drop b := by
  unfold mval
  rw [row_at h]
theorem val_at (h : M[k]? = some (some l)) : mval M (k + 1, (0, l.length)) = l := by
  rw [val_le h]
  simp
theorem at_lt (h : M[k]? = some (some l)) : k < M.length := by
  by_cases hk : k < M.length
  · exact hk
  · rw [List.getElem?_eq_none (by omega)] at h
    exact absurd h (by simp)
theorem at_app (h : M[k]? = some (some l)) : (M ++ X)[k]? = some (some l) := by
  rw [List.getElem?_append_left (at_lt h)]; exact h
theorem at_new : (M ++ [some l])[M.length]? = some (some l) := by simp
theorem at_set (h : M[k]? = some (some l)) : (M.set k x)[k]? = some x := by
  rw [List.getElem?_set]
  simp [at_lt h]
theorem at_ne (h : k ≠ j) : (M.set k x)[j]? = M[j]? := by
  rw [List.getElem?_set, if_neg h]
theorem wr_at : mwr M x (k + 1) = M.set k x := rfl
end
/-- Rows one behind the other. -/
def Seg {α : Type} (M : Mem α) (a : Nat) (l : List (List α)) : Prop := ∀ i, i < l.length → M[a + i]? = some (some (l.getD i []))
section
variable {α : Type} {M X : Mem α} {a : Nat} {l l' : List (List α)}
theorem seg_app (h : Seg M a l) : Seg (M ++ X) a l := fun i hi => at_app (h i hi)
theorem seg_cons {x : List α} : Seg M a (x :: l) ↔ M[a]? = some (some x) ∧ Seg M (a + 1) l := by
  constructor
  · intro h
    refine ⟨by simpa using h 0 (by simp), fun i hi => ?_⟩
    have := h (i + 1) (by simpa using hi)
    rw [List.getD_cons_succ] at this
    rw [show a + 1 + i = a + (i + 1) by omega]
    exact this
  · rintro ⟨h1, h2⟩ i hi
    cases i with
    | zero => simpa using h1
    | succ i =>
      rw [List.getD_cons_succ, show a + (i + 1) = a + 1 + i by omega]
      exact h2 i (by simpa using hi)
theorem seg_new : Seg (M ++ l.map some) M.length l := fun i hi => by
  rw [List.getElem?_append_right (by omega), Nat.add_sub_cancel_left, List.getElem?_map, List.getElem?_eq_getElem hi, List.getD_eq_getElem?_getD, List.getElem?_eq_getElem hi]
  rfl
theorem seg_set {i : Nat} {y : List α} (h : Seg M a l) (hi : i < l.length) : Seg (M.set (a + i) (some y)) a (l.set i y) := fun j hj => by
  rw [List.length_set] at hj
  by_cases hij : i = j
  · subst hij
    rw [at_set (h i hi)]
    simp [hi]
  · rw [at_ne (by omega), h j hj]
    simp [hij]
theorem seg_ne {k : Nat} {x : Option (List α)} (h : Seg M a l) (hk : k < a ∨ a + l.length ≤ k) : Seg (M.set k x) a l := fun j hj => by
  rw [at_ne (by omega), h j hj]
end
/-- Headers of definitions, of relations. -/
def hdD (p n : Nat) : List Df → List Dh
  | [] => []
  | x :: l => (x.1, ((p + 1, (0, x.2.1.length)), (((n + 1, (0, x.2.2.1.1.length)), ()), ()))) :: hdD (p + 1) (n + 1) l
def hdR (n : Nat) : List Rl → List Rh
  | [] => []
  | x :: l => (x.1, (((n + 1, (0, x.2.1.1.length)), ()), (((n + 2, (0, x.2.2.1.1.length)), ()), ()))) :: hdR (n + 2) l
def psD (l : List Df) : List (List ByteArray) := l.map fun x => x.2.1
def bdD (l : List Df) : List (List Tn) := l.map fun x => x.2.2.1.1
def ndR (l : List Rl) : List (List Tn) := l.flatMap fun x => [x.2.1.1, x.2.2.1.1]
theorem hdD_len : ∀ {p n : Nat} {l : List Df}, (hdD p n l).length = l.length
  | _, _, [] => rfl
  | _, _, _ :: l => by rw [hdD, List.length_cons, hdD_len, List.length_cons]
theorem hdR_len : ∀ {n : Nat} {l : List Rl}, (hdR n l).length = l.length
  | _, [] => rfl
  | _, _ :: l => by rw [hdR, List.length_cons, hdR_len, List.length_cons]
theorem hdD_get : ∀ {p n : Nat} {l : List Df} {i : Nat} {d : Dh} {e : Df}, i < l.length → (hdD p n l).getD i d = ((l.getD i e).1, ((p + i + 1, (0, (l.getD i e).2.1.length)), (((n + i + 1, (0, (l.getD i e).2.2.1.1.length)), ()), ())))
  | _, _, [], _, _, _, h => by simp at h
  | _, _, _ :: _, 0, _, _, _ => rfl
  | p, n, _ :: l, i + 1, d, e, h => by
    rw [hdD, List.getD_cons_succ, hdD_get (e := e) (by simpa using h), List.getD_cons_succ, show p + 1 + i + 1 = p + (i + 1) + 1 by omega, show n + 1 + i + 1 = n + (i + 1) + 1 by omega]
theorem hdR_get : ∀ {n : Nat} {l : List Rl} {i : Nat} {d : Rh} {e : Rl}, i < l.length → (hdR n l).getD i d = ((l.getD i e).1, (((n + 2 * i + 1, (0, (l.getD i e).2.1.1.length)), ()), (((n + 2 * i + 2, (0, (l.getD i e).2.2.1.1.length)), ()), ())))
  | _, [], _, _, _, h => by simp at h
  | _, _ :: _, 0, _, _, _ => rfl
  | n, _ :: l, i + 1, d, e, h => by
    rw [hdR, List.getD_cons_succ, hdR_get (e := e) (by simpa using h), List.getD_cons_succ, show n + 2 + 2 * i + 1 = n + 2 * (i + 1) + 1 by omega, show n + 2 + 2 * i + 2 = n + 2 * (i + 1) + 2 by omega]
theorem ndR_len : ∀ {l : List Rl}, (ndR l).length = 2 * l.length
  | [] => rfl
  | x :: l => by
    show (([x.2.1.1, x.2.2.1.1] ++ ndR l)).length = _
    rw [List.length_append, ndR_len, List.length_cons, List.length_cons, List.length_cons, List.length_nil]
    omega
theorem ndR_cons {x : Rl} {l : List Rl} : ndR (x :: l) = x.2.1.1 :: x.2.2.1.1 :: ndR l := rfl
theorem ndR_app {l l' : List Rl} : ndR (l ++ l') = ndR l ++ ndR l' := by simp [ndR]
theorem psD_app {l l' : List Df} : psD (l ++ l') = psD l ++ psD l' := by simp [psD]
theorem bdD_app {l l' : List Df} : bdD (l ++ l') = bdD l ++ bdD l' := by simp [bdD]
theorem psD_len {l : List Df} : (psD l).length = l.length := by simp [psD]
theorem bdD_len {l : List Df} : (bdD l).length = l.length := by simp [bdD]
/-- What is seen of the rows. -/
theorem see_D {S : Mem ByteArray} {N : Mem Tn} : ∀ {p n : Nat} {l : List Df}, Seg S p (psD l) → Seg N n (bdD l) →
    List.map (fun y => (y.1, ((List.map (fun y => y) (mval S y.2.1)), (((List.map (idT) (mval N y.2.2.1.1)), y.2.2.1.2), y.2.2.2)))) (hdD p n l) = l
  | _, _, [], _, _ => rfl
  | p, n, x :: l, h1, h2 => by
    have h1 := seg_cons.mp h1
    have h2 := seg_cons.mp h2
    rw [hdD, List.map_cons, see_D h1.2 h2.2]
    dsimp only
    rw [val_at h1.1, val_at h2.1]
    simp
theorem all_D {S : Mem ByteArray} {N : Mem Tn} : ∀ {p n : Nat} {l : List Df}, Seg S p (psD l) → Seg N n (bdD l) →
    (List.all (hdD p n l) fun y => ((mok S y.2.1) && (((mok N y.2.2.1.1) && true) && true))) = true
  | _, _, [], _, _ => rfl
  | p, n, x :: l, h1, h2 => by
    have h1 := seg_cons.mp h1
    have h2 := seg_cons.mp h2
    rw [hdD, List.all_cons, all_D h1.2 h2.2]
    dsimp only
    rw [ok_at h1.1, ok_at h2.1]
    rfl
theorem see_R {N : Mem Tn} : ∀ {n : Nat} {l : List Rl}, Seg N n (ndR l) →
    List.map (fun y => (y.1, (((List.map (idT) (mval N y.2.1.1)), y.2.1.2), (((List.map (idT) (mval N y.2.2.1.1)), y.2.2.1.2), y.2.2.2)))) (hdR n l) = l
  | _, [], _ => rfl
  | n, x :: l, h2 => by
    have h2 := seg_cons.mp (ndR_cons ▸ h2)
    have h3 := seg_cons.mp h2.2
    rw [hdR, List.map_cons, see_R h3.2]
    dsimp only
    rw [val_at h2.1, val_at (k := n + 1) h3.1]
    simp
theorem all_R {N : Mem Tn} : ∀ {n : Nat} {l : List Rl}, Seg N n (ndR l) →
    (List.all (hdR n l) fun y => (((mok N y.2.1.1) && true) && (((mok N y.2.2.1.1) && true) && true))) = true
  | _, [], _ => rfl
  | n, x :: l, h2 => by
    have h2 := seg_cons.mp (ndR_cons ▸ h2)
    have h3 := seg_cons.mp h2.2
    rw [hdR, List.all_cons, all_R h3.2]
    dsimp only
    rw [ok_at h2.1, ok_at (k := n + 1) h3.1]
    rfl
/-- A program that lies in the arenas: the rows of headers at d and r, the parameters from p on, the variables at v, the terms from n and m on. -/
structure PA (D : Mem Dh) (R : Mem Rh) (S : Mem ByteArray) (N : Mem Tn) (d r p v n m : Nat) (X : List Df) (V : List ByteArray) (L : List Rl) : Prop where
  hD : D[d]? = some (some (hdD p n X))
  hR : R[r]? = some (some (hdR m L))
  hP : Seg S p (psD X)
  hV : S[v]? = some (some V)
  hB : Seg N n (bdD X)
  hN : Seg N m (ndR L)
  hpv : v < p ∨ p + X.length ≤ v
  hnm : n + X.length ≤ m
abbrev H (k n : Nat) : Hd := (k + 1, (0, n))
section
variable {D D' : Mem Dh} {R R' : Mem Rh} {S S' : Mem ByteArray} {N N' : Mem Tn} {d r p v n m : Nat} {X : List Df} {V : List ByteArray} {L : List Rl}
theorem PA.app (h : PA D R S N d r p v n m X V L) : PA (D ++ D') (R ++ R') (S ++ S') (N ++ N') d r p v n m X V L :=
  ⟨at_app h.hD, at_app h.hR, seg_app h.hP, at_app h.hV, seg_app h.hB, seg_app h.hN, h.hpv, h.hnm⟩
theorem PA.vD (h : PA D R S N d r p v n m X V L) : mval D (H d X.length) = hdD p n X := by
  have := val_at h.hD
  rwa [hdD_len] at this
theorem PA.vR (h : PA D R S N d r p v n m X V L) : mval R (H r L.length) = hdR m L := by
  have := val_at h.hR
  rwa [hdR_len] at this
theorem PA.ok (h : PA D R S N d r p v n m X V L) : (((mok D (H d X.length)) && (List.all (mval D (H d X.length)) fun y => ((mok S y.2.1) && (((mok N y.2.2.1.1) && true) && true)))) && ((mok S (H v V.length)) && (((mok R (H r L.length)) && (List.all (mval R (H r L.length)) fun y_1 => (((mok N y_1.2.1.1) && true) && (((mok N y_1.2.2.1.1) && true) && true)))) && true))) = true := by
  have h1 := ok_at h.hD
  have h2 := ok_at h.hR
  rw [hdD_len] at h1
  rw [hdR_len] at h2
  rw [h.vD, h.vR, all_D h.hP h.hB, all_R h.hN, ok_at h.hV, h1, h2]
  rfl
theorem PA.sD (h : PA D R S N d r p v n m X V L) : List.map (fun y => (y.1, ((List.map (fun y => y) (mval S y.2.1)), (((List.map (idT) (mval N y.2.2.1.1)), y.2.2.1.2), y.2.2.2)))) (mval D (H d X.length)) = X := by
  rw [h.vD, see_D h.hP h.hB]
theorem PA.sV (h : PA D R S N d r p v n m X V L) : List.map (fun y => y) (mval S (H v V.length)) = V := by
  rw [val_at h.hV]; simp
theorem PA.sR (h : PA D R S N d r p v n m X V L) : List.map (fun y => (y.1, (((List.map (idT) (mval N y.2.1.1)), y.2.1.2), (((List.map (idT) (mval N y.2.2.1.1)), y.2.2.1.2), y.2.2.2)))) (mval R (H r L.length)) = L := by
  rw [h.vR, see_R h.hN]
end
/-! Programs are laid down -/
theorem fill_set {α : Type} {l : List α} {d e : α} {i : Nat} (h : i < l.length) : (l.take i ++ List.replicate (l.length - i) d).set i (l.getD i e) = l.take (i + 1) ++ List.replicate (l.length - (i + 1)) d := by
  obtain ⟨k, hk⟩ : ∃ k, l.length - i = k + 1 := ⟨l.length - i - 1, by omega⟩
  rw [hk, show l.length - (i + 1) = k by omega, List.replicate_succ, List.set_append_right _ _ (by rw [List.length_take]; omega), show i - (l.take i).length = 0 by rw [List.length_take]; omega, List.set_cons_zero, List.take_add_one, List.getElem?_eq_getElem h, List.getD_eq_getElem?_getD, List.getElem?_eq_getElem h, List.append_assoc]
  rfl
theorem fill_len {α : Type} {l : List α} {d : α} {i : Nat} (h : i ≤ l.length) : (l.take i ++ List.replicate (l.length - i) d).length = l.length := by
  rw [List.length_append, List.length_take, List.length_replicate]; omega
theorem k_toStringS : Ev fun n => ∀ (D : Mem Dh) (R : Mem Rh) (S : Mem ByteArray) (N : Mem Tn) (l : List ByteArray), l.length ≤ 1048576 →
    c_w_toStringS_deep ((C B).run n) D R S N l = some (D, (R, (S ++ [some l], (N, (H S.length l.length, ()))))) := by
  refine Ev.triv.succ fun n hn _ D R S N l hl => ?_
  rw [run_succB', e_w_toStringS_deep]
  unfold p_w_toStringS_deep
  rw [ok_of (mkOk_true (by rw [len_eq]; omega) (Int.le_refl _) (by rw [len_eq]; omega))]
  refine iter_const (fun q => ∃ i : Nat, q = (((i : Int), (l, ((), ((), ())))), ((l.take i ++ List.replicate (l.length - i) (bs [])), (D, (R, (S, (N, ())))))) ∧ i ≤ l.length) (fun q => 1048577 - q.1.1.toNat) _ ?_ n _ (by simp only; omega) ⟨0, by rw [len_eq]; simp, Nat.zero_le _⟩
  rintro rec _ ⟨i, rfl, hi⟩ ih
  dsimp only
  rw [len_eq, len_eq, fill_len hi, ilt_iff]
  by_cases h1 : i < l.length
  · rw [decide_eq_true (show (i : Int) < l.length by omega), cond_true, ok_of (inB_true (by omega) (by omega)), ok_of (inB_true (by omega) (by omega)), Int.toNat_natCast, fill_set h1, iadd_eq (by omega) (by omega)]
    exact ih _ ⟨i + 1, by simp, by omega⟩ (by simp only; omega)
  · rw [decide_eq_false (show ¬ (i : Int) < l.length by omega), cond_false]
    obtain rfl : i = l.length := by omega
    simp
theorem k_toTerm : Ev fun n => ∀ (D : Mem Dh) (R : Mem Rh) (S : Mem ByteArray) (N : Mem Tn) (l : List Tn), l.length ≤ 1048576 →
    c_w_toTerm_deep ((C B).run n) D R S N l = some (D, (R, (S, (N ++ [some l], (H N.length l.length, ()))))) := by
  have h0 : Ev fun n => ∀ x : Tn, c_w_toTermNode ((C B).run n) x.1 x.2.1 x.2.2.1 = some x := by
    refine Ev.triv.succ fun n hn _ x => ?_
    rw [run_succB', e_w_toTermNode]
    rfl
  have h1 : Ev fun n => ∀ (D : Mem Dh) (R : Mem Rh) (S : Mem ByteArray) (N : Mem Tn) (l : List Tn), l.length ≤ 1048576 →
      c_w_toTermNodeS_deep ((C B).run n) D R S N l = some (D, (R, (S, (N ++ [some l], (H N.length l.length, ()))))) := by
    refine h0.succ fun n hn h0 D R S N l hl => ?_
    rw [run_succB', e_w_toTermNodeS_deep]
    unfold p_w_toTermNodeS_deep
    rw [ok_of (mkOk_true (by rw [len_eq]; omega) (Int.le_refl _) (by rw [len_eq]; omega))]
    refine iter_const (fun q => ∃ i : Nat, q = (((i : Int), (l, ((), ((), ())))), ((l.take i ++ List.replicate (l.length - i) (0, (0, ((bs []), ())))), (D, (R, (S, (N, ())))))) ∧ i ≤ l.length) (fun q => 1048577 - q.1.1.toNat) _ ?_ n _ (by simp only; omega) ⟨0, by rw [len_eq]; simp, Nat.zero_le _⟩
    rintro rec _ ⟨i, rfl, hi⟩ ih
    dsimp only
    rw [len_eq, len_eq, fill_len hi, ilt_iff]
    by_cases h1 : i < l.length
    · rw [decide_eq_true (show (i : Int) < l.length by omega), cond_true, ok_of (inB_true (by omega) (by omega)), Int.toNat_natCast, h0]
      simp only [Option.bind_some]
      rw [ok_of (inB_true (by omega) (by omega)), iadd_eq (by omega) (by omega)]
      have h2 := fill_set (d := (0, (0, ((bs []), ())))) (e := (0, (0, ((bs []), ())))) h1
      refine ih _ ⟨i + 1, ?_, by omega⟩ (by simp only; omega)
      rw [← h2]
      rfl
    · rw [decide_eq_false (show ¬ (i : Int) < l.length by omega), cond_false]
      obtain rfl : i = l.length := by omega
      simp
  refine h1.succ fun n hn h1 D R S N l hl => ?_
  rw [run_succB', e_w_toTerm_deep]
  unfold p_w_toTerm_deep
  rw [h1 _ _ _ _ _ hl]
  rfl
theorem k_toProgDefS : Ev fun n => ∀ (D : Mem Dh) (R : Mem Rh) (S : Mem ByteArray) (N : Mem Tn) (l : List Df), SmDs 1048576 l →
    c_w_toProgDefS_deep ((C B).run n) D R S N l = some (D ++ [some (hdD S.length N.length l)], (R, (S ++ (psD l).map some, (N ++ (bdD l).map some, (H D.length l.length, ()))))) := by
  have h0 : Ev fun n => ∀ (D : Mem Dh) (R : Mem Rh) (S : Mem ByteArray) (N : Mem Tn) (x : Df), SmD 1048576 x →
      c_w_toProgDef_deep ((C B).run n) D R S N x.1 x.2.1 x.2.2.1.1 = some (D, (R, (S ++ [some x.2.1], (N ++ [some x.2.2.1.1], (x.1, (H S.length x.2.1.length, (H N.length x.2.2.1.1.length, ()))))))) := by
    refine ((k_toStringS (B := B)).and (k_toTerm (B := B))).succ fun n hn ⟨k1, k2⟩ D R S N x hx => ?_
    rw [run_succB', e_w_toProgDef_deep]
    unfold p_w_toProgDef_deep
    rw [k1 _ _ _ _ _ hx.2.1.1]
    simp only [Option.bind_some]
    rw [k2 _ _ _ _ _ hx.2.2.1]
    rfl
  refine h0.succ fun n hn h0 D R S N l hl => ?_
  rw [run_succB', e_w_toProgDefS_deep]
  unfold p_w_toProgDefS_deep
  have hl1 := hl.1
  rw [ok_of (mkOk_true (by rw [len_eq]; omega) (Int.le_refl _) (by rw [len_eq]; omega))]
  refine iter_const (fun q => ∃ i : Nat, q = (((i : Int), (l, ((), ((), ())))), (((hdD S.length N.length l).take i ++ List.replicate ((hdD S.length N.length l).length - i) dDh), (D, (R, (S ++ (psD (l.take i)).map some, (N ++ (bdD (l.take i)).map some, ())))))) ∧ i ≤ l.length) (fun q => 1048577 - q.1.1.toNat) _ ?_ n _ (by simp only; omega) ⟨0, by rw [len_eq, hdD_len]; simp [psD, bdD], Nat.zero_le _⟩
  rintro rec _ ⟨i, rfl, hi⟩ ih
  dsimp only
  have hhl : (hdD S.length N.length l).length = l.length := hdD_len
  rw [len_eq, len_eq, fill_len (by omega), hhl, ilt_iff]
  by_cases h1 : i < l.length
  · rw [decide_eq_true (show (i : Int) < l.length by omega), cond_true, ok_of (inB_true (by omega) (by omega)), Int.toNat_natCast, h0 _ _ _ _ _ (hl.2 _ (getD_mem h1))]
    simp only [Option.bind_some]
    rw [ok_of (inB_true (by omega) (by omega)), iadd_eq (by omega) (by omega)]
    have h2 := fill_set (l := hdD S.length N.length l) (d := dDh) (e := dDh) (i := i) (by omega)
    rw [hhl, hdD_get (e := dDf) h1] at h2
    refine ih _ ⟨i + 1, ?_, by omega⟩ (by simp only; omega)
    rw [hhl, ← h2]
    have ht : l.take (i + 1) = l.take i ++ [l.getD i dDf] := by
      rw [List.take_add_one, List.getElem?_eq_getElem h1, List.getD_eq_getElem?_getD, List.getElem?_eq_getElem h1]
      rfl
    rw [ht, psD_app, bdD_app]
    have e1 : (S ++ (psD (l.take i)).map some).length = S.length + i := by
      rw [List.length_append, List.length_map, psD_len, List.length_take]; omega
    have e2 : (N ++ (bdD (l.take i)).map some).length = N.length + i := by
      rw [List.length_append, List.length_map, bdD_len, List.length_take]; omega
    rw [e1, e2]
    simp [psD, bdD, H]
  · rw [decide_eq_false (show ¬ (i : Int) < l.length by omega), cond_false]
    obtain rfl : i = l.length := by omega
    rw [List.take_length]
    simp [hhl, List.take_of_length_le]
theorem k_toProgRelS : Ev fun n => ∀ (D : Mem Dh) (R : Mem Rh) (S : Mem ByteArray) (N : Mem Tn) (l : List Rl), SmRs 1048576 l →
    c_w_toProgRelS_deep ((C B).run n) D R S N l = some (D, (R ++ [some (hdR N.length l)], (S, (N ++ (ndR l).map some, (H R.length l.length, ()))))) := by
  have h0 : Ev fun n => ∀ (D : Mem Dh) (R : Mem Rh) (S : Mem ByteArray) (N : Mem Tn) (x : Rl), SmR 1048576 x →
      c_w_toProgRel_deep ((C B).run n) D R S N x.1 x.2.1.1 x.2.2.1.1 = some (D, (R, (S, (N ++ [some x.2.1.1, some x.2.2.1.1], (x.1, (H N.length x.2.1.1.length, (H (N.length + 1) x.2.2.1.1.length, ()))))))) := by
    refine (k_toTerm (B := B)).succ fun n hn k2 D R S N x hx => ?_
    rw [run_succB', e_w_toProgRel_deep]
    unfold p_w_toProgRel_deep
    rw [k2 _ _ _ _ _ hx.1.1]
    simp only [Option.bind_some]
    rw [k2 _ _ _ _ _ hx.2.1]
    simp
  refine h0.succ fun n hn h0 D R S N l hl => ?_
  rw [run_succB', e_w_toProgRelS_deep]
  unfold p_w_toProgRelS_deep
  have hl1 := hl.1
  rw [ok_of (mkOk_true (by rw [len_eq]; omega) (Int.le_refl _) (by rw [len_eq]; omega))]
  refine iter_const (fun q => ∃ i : Nat, q = (((i : Int), (l, ((), ((), ())))), (((hdR N.length l).take i ++ List.replicate ((hdR N.length l).length - i) dRh), (D, (R, (S, (N ++ (ndR (l.take i)).map some, ())))))) ∧ i ≤ l.length) (fun q => 1048577 - q.1.1.toNat) _ ?_ n _ (by simp only; omega) ⟨0, by rw [len_eq, hdR_len]; simp [ndR], Nat.zero_le _⟩
  rintro rec _ ⟨i, rfl, hi⟩ ih
  dsimp only
  have hhl : (hdR N.length l).length = l.length := hdR_len
  rw [len_eq, len_eq, fill_len (by omega), hhl, ilt_iff]
  by_cases h1 : i < l.length
  · rw [decide_eq_true (show (i : Int) < l.length by omega), cond_true, ok_of (inB_true (by omega) (by omega)), Int.toNat_natCast, h0 _ _ _ _ _ (hl.2 _ (getD_mem h1))]
    simp only [Option.bind_some]
    rw [ok_of (inB_true (by omega) (by omega)), iadd_eq (by omega) (by omega)]
    have h2 := fill_set (l := hdR N.length l) (d := dRh) (e := dRh) (i := i) (by omega)
    rw [hhl, hdR_get (e := dRl) h1] at h2
    refine ih _ ⟨i + 1, ?_, by omega⟩ (by simp only; omega)
    rw [hhl, ← h2]
    have ht : l.take (i + 1) = l.take i ++ [l.getD i dRl] := by
      rw [List.take_add_one, List.getElem?_eq_getElem h1, List.getD_eq_getElem?_getD, List.getElem?_eq_getElem h1]
      rfl
    rw [ht, ndR_app]
    have e2 : (N ++ (ndR (l.take i)).map some).length = N.length + 2 * i := by
      rw [List.length_append, List.length_map, ndR_len, List.length_take]; omega
    rw [e2]
    simp [ndR, H]
  · rw [decide_eq_false (show ¬ (i : Int) < l.length by omega), cond_false]
    obtain rfl : i = l.length := by omega
    rw [List.take_length]
    simp [hhl, List.take_of_length_le]
theorem k_toProg : Ev fun n => ∀ (D : Mem Dh) (R : Mem Rh) (S : Mem ByteArray) (N : Mem Tn) (X : List Df) (V : List ByteArray) (L : List Rl), SmDs 1048576 X → SmL 1048576 V → SmRs 1048576 L →
    ∃ D' R' S' N', c_w_toProg_deep ((C B).run n) D R S N X V L = some (D ++ D', (R ++ R', (S ++ S', (N ++ N', (H D.length X.length, (H (S.length + X.length) V.length, (H R.length L.length, ()))))))) ∧
      PA (D ++ D') (R ++ R') (S ++ S') (N ++ N') D.length R.length S.length (S.length + X.length) N.length (N.length + X.length) X V L ∧
      (S ++ S').length = S.length + X.length + 1 ∧ (N ++ N').length = N.length + X.length + 2 * L.length := by
  refine ((k_toProgDefS (B := B)).and ((k_toStringS (B := B)).and (k_toProgRelS (B := B)))).succ fun n hn ⟨k1, k2, k3⟩ D R S N X V L hX hV hL => ?_
  rw [run_succB', e_w_toProg_deep]
  unfold p_w_toProg_deep
  rw [k1 _ _ _ _ _ hX]
  simp only [Option.bind_some]
  rw [k2 _ _ _ _ _ hV.1]
  simp only [Option.bind_some]
  rw [k3 _ _ _ _ _ hL]
  simp only [Option.bind_some]
  have e1 : (S ++ (psD X).map some).length = S.length + X.length := by rw [List.length_append, List.length_map, psD_len]
  have e2 : (N ++ (bdD X).map some).length = N.length + X.length := by rw [List.length_append, List.length_map, bdD_len]
  refine ⟨[some (hdD S.length N.length X)], [some (hdR (N.length + X.length) L)], (psD X).map some ++ [some V], (bdD X).map some ++ (ndR L).map some, by simp only [e1, e2, List.append_assoc], ⟨at_new, at_new, ?_, ?_, ?_, ?_, .inr (Nat.le_refl _), Nat.le_refl _⟩, ?_, ?_⟩
  · rw [← List.append_assoc]; exact seg_app seg_new
  · rw [← List.append_assoc, ← e1]; exact at_new
  · rw [← List.append_assoc]; exact seg_app seg_new
  · rw [← List.append_assoc, ← e2]; exact seg_new
  · rw [← List.append_assoc, List.length_append, e1]; rfl
  · rw [← List.append_assoc, List.length_append, e2, List.length_map, ndR_len]
end Go.Px.Seat

/- Programs in the arenas are marked. Seat G. -/
namespace Go.Px.Seat
open Go Pm Pt
set_option linter.unusedVariables false
variable {B : Run}
theorem set_self {α : Type} {M : Mem α} {k : Nat} {l : List α} (h : M[k]? = some (some l)) : M.set k (some l) = M := by
  apply List.ext_getElem?
  intro j
  rw [List.getElem?_set]
  split
  · next hj => subst hj; rw [if_pos (at_lt h), h]
  · rfl
theorem row_set {α : Type} {M : Mem α} {k : Nat} {l : List α} (h : k < M.length) : mrow (M.set k (some l)) (k + 1) = l := row_at (l := l) (by rw [List.getElem?_set]; simp [h])
theorem hit_set {α : Type} {M : Mem α} {k j : Nat} {l : List α} (h : k < M.length) (hj : j < l.length) : mhit (M.set k (some l)) (k + 1) j = true := hit_at (l := l) (by rw [List.getElem?_set]; simp [h]) hj
theorem getD_set {α : Type} {l : List α} {i : Nat} {x d : α} (h : i < l.length) : (l.set i x).getD i d = x := by
  rw [List.getD_eq_getElem?_getD, List.getElem?_set]; simp [h]
theorem wr_set {α : Type} {M : Mem α} {k : Nat} {x y : Option (List α)} : mwr (M.set k x) y (k + 1) = M.set k y := by rw [wr_at, List.set_set]
def mix {α : Type} (l' l : List α) (i : Nat) : List α := l'.take i ++ l.drop i
section
variable {α : Type} {l' l : List α} {i : Nat} {e : α}
theorem mix_len (h : l'.length = l.length) : (mix l' l i).length = l.length := by
  unfold mix
  rw [List.length_append, List.length_take, List.length_drop]; omega
theorem mix_set (h : l'.length = l.length) (hi : i < l.length) : (mix l' l i).set i (l'.getD i e) = mix l' l (i + 1) := by
  unfold mix
  rw [List.set_append_right _ _ (by rw [List.length_take]; omega), show i - (l'.take i).length = 0 by rw [List.length_take]; omega, List.drop_eq_getElem_cons hi, List.set_cons_zero, List.take_add_one, List.getElem?_eq_getElem (by omega), List.getD_eq_getElem?_getD, List.getElem?_eq_getElem (by omega), List.append_assoc]
  rfl
theorem mix_get (h : l'.length = l.length) (hi : i < l.length) : (mix l' l i).getD i e = l.getD i e := by
  unfold mix
  rw [List.getD_eq_getElem?_getD, List.getElem?_append_right (by rw [List.length_take]; omega), show i - (l'.take i).length = 0 by rw [List.length_take]; omega, List.getElem?_drop, List.getD_eq_getElem?_getD, Nat.add_zero]
theorem mix_zero : mix l' l 0 = l := by simp [mix]
theorem mix_all (h : l'.length = l.length) : mix l' l l.length = l' := by
  unfold mix
  rw [List.drop_length, List.append_nil, List.take_of_length_le (by omega)]
end
theorem k_markStringS : Ev fun n => ∀ (D : Mem Dh) (R : Mem Rh) (S : Mem ByteArray) (N : Mem Tn) (k : Nat) (l : List ByteArray) (c : Int), S[k]? = some (some l) → l.length ≤ 1048576 → 0 ≤ c → c ≤ 100000000000000000 →
    c_w_markStringS_deep ((C B).run n) D R S N (H k l.length) c = some (D, (R, (S.set k (some (markL c l)), (N, (c + l.length, ()))))) := by
  refine (k_markText (B := B)).succ fun n hn km D R S N k l c hS hl hc hc' => ?_
  rw [run_succB', e_w_markStringS_deep]
  unfold p_w_markStringS_deep
  have hml : (markL c l).length = l.length := markW_len
  have hk := at_lt hS
  refine iter_const (fun q => ∃ i : Nat, q = (((i : Int), (H k l.length, (c + (i : Int), (0, ())))), (D, (R, (S.set k (some (mix (markL c l) l i)), (N, ()))))) ∧ i ≤ l.length) (fun q => 1048577 - q.1.1.toNat) _ ?_ n _ (by simp only; omega) ⟨0, by rw [mix_zero, set_self hS]; simp, Nat.zero_le _⟩
  rintro rec _ ⟨i, rfl, hi⟩ ih
  dsimp only
  rw [ilt_iff]
  by_cases h1 : i < l.length
  · rw [decide_eq_true (show (i : Int) < l.length by omega), cond_true, km _ (by omega)]
    simp only [Option.bind_some]
    rw [ok_of (inB_true (by omega) (by omega)), Nat.zero_add, Int.toNat_natCast, ok_of (hit_set hk (by rw [mix_len hml]; exact h1)), row_set hk, wr_set, iadd_eq (by omega) (by omega), iadd_eq (by omega) (by omega)]
    have h2 := mix_set (e := bs []) hml h1
    rw [markW_get (e := bs []) h1, cntW_one, List.length_take, Nat.min_eq_left (by omega), Nat.mul_one] at h2
    rw [h2]
    exact ih _ ⟨i + 1, by simp [Int.add_assoc], by omega⟩ (by simp only; omega)
  · rw [decide_eq_false (show ¬ (i : Int) < l.length by omega), cond_false]
    obtain rfl : i = l.length := by omega
    rw [mix_all hml]
theorem k_markTermNodeS : Ev fun n => ∀ (D : Mem Dh) (R : Mem Rh) (S : Mem ByteArray) (N : Mem Tn) (k : Nat) (l : List Tn) (c : Int), N[k]? = some (some l) → l.length ≤ 1048576 → 0 ≤ c → c ≤ 100000000000000000 →
    c_w_markTermNodeS_deep ((C B).run n) D R S N (H k l.length) c = some (D, (R, (S, (N.set k (some (markN c l)), (c + (3 * l.length : Nat), ()))))) := by
  refine (k_markText (B := B)).succ fun n hn km D R S N k l c hS hl hc hc' => ?_
  rw [run_succB', e_w_markTermNodeS_deep]
  unfold p_w_markTermNodeS_deep
  have hml : (markN c l).length = l.length := markW_len
  have hk := at_lt hS
  refine iter_const (fun q => ∃ i : Nat, q = (((i : Int), (H k l.length, (c + (3 * i : Nat), (0, ())))), (D, (R, (S, (N.set k (some (mix (markN c l) l i)), ()))))) ∧ i ≤ l.length) (fun q => 1048577 - q.1.1.toNat) _ ?_ n _ (by simp only; omega) ⟨0, by rw [mix_zero, set_self hS]; simp, Nat.zero_le _⟩
  rintro rec _ ⟨i, rfl, hi⟩ ih
  dsimp only
  rw [ilt_iff]
  by_cases h1 : i < l.length
  · have hil : i < (mix (markN c l) l i).length := by rw [mix_len hml]; exact h1
    rw [decide_eq_true (show (i : Int) < l.length by omega), cond_true, ok_of (inB_true (by omega) (by omega)), ok_of (by rw [Nat.zero_add, Int.toNat_natCast]; exact hit_set hk hil), ok_of (inB_true (by omega) (by omega))]
    have hl1 : ∀ x : Tn, i < ((mix (markN c l) l i).set i x).length := fun x => by rw [List.length_set]; exact hil
    simp only [Nat.zero_add, Int.toNat_natCast, row_set hk, wr_set, List.set_set, getD_set hil, hit_set hk (hl1 _)]
    rw [iadd_eq (x := c + ((3 * i : Nat) : Int)) (by omega) (by omega), iadd_eq (by omega) (by omega), show c + ((3 * i : Nat) : Int) + 1 + 1 = c + ((3 * i : Nat) : Int) + 2 by omega, ok_of rfl, km _ (by omega)]
    simp only [Option.bind_some]
    rw [ok_of (inB_true (by omega) (by omega)), ok_of rfl, iadd_eq (by omega) (by omega), iadd_eq (by omega) (by omega)]
    have h2 := mix_set (e := (0, (0, ((bs []), ())))) hml h1
    rw [markW_get (e := (0, (0, ((bs []), ())))) h1, cntW_one, List.length_take, Nat.min_eq_left (by omega), show i * 3 = 3 * i by omega] at h2
    rw [h2]
    exact ih _ ⟨i + 1, by simp; omega, by omega⟩ (by simp only; omega)
  · rw [decide_eq_false (show ¬ (i : Int) < l.length by omega), cond_false]
    obtain rfl : i = l.length := by omega
    rw [mix_all hml]
theorem hdD_set : ∀ {p n : Nat} {l : List Df} {i : Nat} {x : Df}, hdD p n (l.set i x) = (hdD p n l).set i (x.1, ((p + i + 1, (0, x.2.1.length)), (((n + i + 1, (0, x.2.2.1.1.length)), ()), ())))
  | _, _, [], _, _ => rfl
  | _, _, _ :: _, 0, _ => rfl
  | p, n, y :: l, i + 1, x => by
    rw [List.set_cons_succ, hdD, hdD_set, hdD, List.set_cons_succ, show p + 1 + i + 1 = p + (i + 1) + 1 by omega, show n + 1 + i + 1 = n + (i + 1) + 1 by omega]
theorem hdR_set : ∀ {n : Nat} {l : List Rl} {i : Nat} {x : Rl}, hdR n (l.set i x) = (hdR n l).set i (x.1, (((n + 2 * i + 1, (0, x.2.1.1.length)), ()), (((n + 2 * i + 2, (0, x.2.2.1.1.length)), ()), ())))
  | _, [], _, _ => rfl
  | _, _ :: _, 0, _ => rfl
  | n, y :: l, i + 1, x => by
    rw [List.set_cons_succ, hdR, hdR_set, hdR, List.set_cons_succ, show n + 2 + 2 * i + 1 = n + 2 * (i + 1) + 1 by omega, show n + 2 + 2 * i + 2 = n + 2 * (i + 1) + 2 by omega]
theorem psD_set {l : List Df} {i : Nat} {x : Df} : psD (l.set i x) = (psD l).set i x.2.1 := List.map_set
theorem bdD_set {l : List Df} {i : Nat} {x : Df} : bdD (l.set i x) = (bdD l).set i x.2.2.1.1 := List.map_set
theorem ndR_set : ∀ {l : List Rl} {i : Nat} {x : Rl}, ndR (l.set i x) = ((ndR l).set (2 * i) x.2.1.1).set (2 * i + 1) x.2.2.1.1
  | [], _, _ => rfl
  | _ :: _, 0, _ => rfl
  | y :: l, i + 1, x => by
    rw [List.set_cons_succ, ndR_cons, ndR_set, ndR_cons, show 2 * (i + 1) = 2 * i + 1 + 1 by omega, List.set_cons_succ, List.set_cons_succ, List.set_cons_succ, List.set_cons_succ]
theorem psD_get {l : List Df} {i : Nat} {e : Df} (h : i < l.length) : (psD l).getD i [] = (l.getD i e).2.1 := by simp [psD, List.getD_eq_getElem?_getD, h]
theorem bdD_get {l : List Df} {i : Nat} {e : Df} (h : i < l.length) : (bdD l).getD i [] = (l.getD i e).2.2.1.1 := by simp [bdD, List.getD_eq_getElem?_getD, h]
theorem ndR_get : ∀ {l : List Rl} {i : Nat} {e : Rl}, i < l.length → (ndR l).getD (2 * i) [] = (l.getD i e).2.1.1 ∧ (ndR l).getD (2 * i + 1) [] = (l.getD i e).2.2.1.1
  | [], _, _, h => by simp at h
  | _ :: _, 0, _, _ => ⟨rfl, rfl⟩
  | y :: l, i + 1, e, h => by
    rw [ndR_cons, show 2 * (i + 1) = 2 * i + 1 + 1 by omega]
    simp only [List.getD_cons_succ]
    exact ndR_get (by simpa using h)
/-- Nothing outside of a range has changed. -/
def Fr {α : Type} (a b : Nat) (M M' : Mem α) : Prop := M'.length = M.length ∧ ∀ k, (k < a ∨ b ≤ k) → M'[k]? = M[k]?
theorem fr_refl {α : Type} {a b : Nat} {M : Mem α} : Fr a b M M := ⟨rfl, fun _ _ => rfl⟩
theorem fr_set {α : Type} {a b k : Nat} {M M' : Mem α} {x : Option (List α)} (h : Fr a b M M') (h1 : a ≤ k) (h2 : k < b) : Fr a b M (M'.set k x) :=
  ⟨by rw [List.length_set, h.1], fun j hj => by rw [at_ne (by omega), h.2 j hj]⟩
theorem fr_seg {α : Type} {a b p : Nat} {M M' : Mem α} {l : List (List α)} (h : Fr a b M M') (hs : Seg M p l) (hd : p + l.length ≤ a ∨ b ≤ p) : Seg M' p l := fun i hi => by
  rw [h.2 _ (by omega)]; exact hs i hi
theorem ex2 {R α β : Type} {x : Option R} {f : α → β → R} {P : α → β → Prop} (h : Tot x fun r => ∃ a b, r = f a b ∧ P a b) : ∃ a b, x = some (f a b) ∧ P a b := by
  obtain ⟨r, h1, a, b, rfl, h2⟩ := h
  exact ⟨a, b, h1, h2⟩
theorem ex1 {R α : Type} {x : Option R} {f : α → R} {P : α → Prop} (h : Tot x fun r => ∃ a, r = f a ∧ P a) : ∃ a, x = some (f a) ∧ P a := by
  obtain ⟨r, h1, a, rfl, h2⟩ := h
  exact ⟨a, h1, h2⟩
theorem k_markProgDefS : Ev fun n => ∀ (D : Mem Dh) (R : Mem Rh) (S : Mem ByteArray) (N : Mem Tn) (d p m : Nat) (X : List Df) (c : Int), D[d]? = some (some (hdD p m X)) → Seg S p (psD X) → Seg N m (bdD X) → SmDs 1048576 X → 0 ≤ c → c ≤ 10000000000000000 →
    ∃ S' N', c_w_markProgDefS_deep ((C B).run n) D R S N (H d X.length) c = some (D.set d (some (hdD p m (markDs c X))), (R, (S', (N', (c + (cntW cntD X : Nat), ()))))) ∧
      Seg S' p (psD (markDs c X)) ∧ Seg N' m (bdD (markDs c X)) ∧ Fr p (p + X.length) S S' ∧ Fr m (m + X.length) N N' := by
  refine ((k_markText (B := B)).and ((k_markStringS (B := B)).and (k_markTermNodeS (B := B)))).succ fun n hn ⟨km, ks, kt⟩ D R S N d p m X c hD hS hN hX hc hc' => ?_
  rw [run_succB', e_w_markProgDefS_deep]
  unfold p_w_markProgDefS_deep
  have hml : (markDs c X).length = X.length := markW_len
  have hk := at_lt hD
  have hX1 := hX.1
  apply ex2
  refine tot_iter (Q := fun r => ∃ S' N', r = (D.set d (some (hdD p m (markDs c X))), (R, (S', (N', (c + (cntW cntD X : Nat), ()))))) ∧ Seg S' p (psD (markDs c X)) ∧ Seg N' m (bdD (markDs c X)) ∧ Fr p (p + X.length) S S' ∧ Fr m (m + X.length) N N')
    (fun q => ∃ (i : Nat) (S' : Mem ByteArray) (N' : Mem Tn), q = (((i : Int), (H d X.length, (c + (cntW cntD (X.take i) : Nat), (0, ())))), (D.set d (some (hdD p m (mix (markDs c X) X i))), (R, (S', (N', ()))))) ∧ i ≤ X.length ∧ Seg S' p (psD (mix (markDs c X) X i)) ∧ Seg N' m (bdD (mix (markDs c X) X i)) ∧ Fr p (p + X.length) S S' ∧ Fr m (m + X.length) N N') (fun q => 1048577 - q.1.1.toNat) (by simp only; omega)
    ⟨0, S, N, by rw [mix_zero, set_self hD]; simp [cntW], Nat.zero_le _, by rw [mix_zero]; exact hS, by rw [mix_zero]; exact hN, fr_refl, fr_refl⟩ ?_
  rintro rec _ ⟨i, S', N', rfl, hi, hS', hN', fS, fN⟩ ih
  dsimp only
  rw [ilt_iff]
  by_cases h1 : i < X.length
  · have hil : i < (mix (markDs c X) X i).length := by rw [mix_len hml]; exact h1
    have hih : i < (hdD p m (mix (markDs c X) X i)).length := by rw [hdD_len]; exact hil
    have hcb : cntW cntD (X.take i) ≤ 1048576 * 4194305 := Nat.le_trans (cntW_le fun x hx => cntD_le (hX.2 x hx)) (Nat.mul_le_mul_right _ hX1)
    have hsd := hX.2 _ (getD_mem (d := dDf) h1)
    have hsl := hsd.2.1.1
    have hsn := hsd.2.2.1
    rw [decide_eq_true (show (i : Int) < X.length by omega), cond_true, km _ (by omega)]
    simp only [Option.bind_some]
    have hih2 : ∀ x : Dh, i < ((hdD p m (mix (markDs c X) X i)).set i x).length := fun x => by rw [List.length_set]; exact hih
    rw [ok_of (inB_true (by omega) (by omega)), ok_of (by rw [Nat.zero_add, Int.toNat_natCast]; exact hit_set hk hih), ok_of (inB_true (by omega) (by omega))]
    simp only [Nat.zero_add, Int.toNat_natCast, row_set hk, wr_set, getD_set hih, hit_set hk (hih2 _)]
    rw [ok_of rfl, hdD_get (e := dDf) hil, mix_get hml h1, iadd_eq (by omega) (by omega)]
    dsimp only
    have hSi := hS' i (by rw [psD_len]; exact hil)
    have hNi := hN' i (by rw [bdD_len]; exact hil)
    rw [psD_get (e := dDf) hil, mix_get hml h1] at hSi
    rw [bdD_get (e := dDf) hil, mix_get hml h1] at hNi
    rw [ks _ _ _ _ _ _ _ hSi hsl (by omega) (by omega)]
    simp only [Option.bind_some]
    rw [ok_of (inB_true (by omega) (by omega)), ok_of (hit_set hk (hih2 _)), row_set hk, getD_set hih]
    dsimp only
    rw [kt _ _ _ _ _ _ _ hNi hsn (by omega) (by omega)]
    simp only [Option.bind_some]
    rw [iadd_eq (by omega) (by omega)]
    have hms := mix_set (e := dDf) hml h1
    rw [markW_get (e := dDf) h1] at hms
    refine ih _ ⟨i + 1, S'.set (p + i) (some (markL (c + (cntW cntD (X.take i) : Nat) + 1) (X.getD i dDf).2.1)), N'.set (m + i) (some (markN (c + (cntW cntD (X.take i) : Nat) + 1 + ((X.getD i dDf).2.1.length : Nat)) (X.getD i dDf).2.2.1.1)), ?_, by omega, ?_, ?_, fr_set (k := p + i) fS (by omega) (by omega), fr_set (k := m + i) fN (by omega) (by omega)⟩ (by simp only; omega)
    · rw [cntW_succ (e := dDf) h1, ← hms, hdD_set]
      have e1 : ((i : Int) + 1) = ((i + 1 : Nat) : Int) := by omega
      have e2 : c + ((cntW cntD (X.take i) : Nat) : Int) + 1 + ((X.getD i dDf).2.1.length : Nat) + ((3 * (X.getD i dDf).2.2.1.1.length : Nat) : Int) = c + ((cntW cntD (X.take i) + cntD (X.getD i dDf) : Nat) : Int) := by
        unfold cntD; omega
      rw [e1, e2]
      simp only [markD, markW_len]
    · rw [← hms, psD_set]
      exact seg_set hS' (by rw [psD_len]; exact hil)
    · rw [← hms, bdD_set]
      simp only [markD]
      have e3 : c + ((cntW cntD (X.take i) : Nat) : Int) + 1 + ((X.getD i dDf).2.1.length : Nat) = c + ((cntW cntD (X.take i) : Nat) : Int) + 1 + ((X.getD i dDf).2.1.length : Int) := rfl
      exact seg_set hN' (by rw [bdD_len]; exact hil)
  · rw [decide_eq_false (show ¬ (i : Int) < X.length by omega), cond_false]
    obtain rfl : i = X.length := by omega
    rw [mix_all hml] at hS' hN' ⊢
    rw [List.take_length]
    exact tot_some ⟨S', N', rfl, hS', hN', fS, fN⟩
theorem k_markProgRelS : Ev fun n => ∀ (D : Mem Dh) (R : Mem Rh) (S : Mem ByteArray) (N : Mem Tn) (r m : Nat) (X : List Rl) (c : Int), R[r]? = some (some (hdR m X)) → Seg N m (ndR X) → SmRs 1048576 X → 0 ≤ c → c ≤ 10000000000000000 →
    ∃ N', c_w_markProgRelS_deep ((C B).run n) D R S N (H r X.length) c = some (D, (R.set r (some (hdR m (markRs c X))), (S, (N', (c + (cntW cntR X : Nat), ()))))) ∧
      Seg N' m (ndR (markRs c X)) ∧ Fr m (m + 2 * X.length) N N' := by
  refine (k_markTermNodeS (B := B)).succ fun n hn kt D R S N d m X c hD hN hX hc hc' => ?_
  rw [run_succB', e_w_markProgRelS_deep]
  unfold p_w_markProgRelS_deep
  have hml : (markRs c X).length = X.length := markW_len
  have hk := at_lt hD
  have hX1 := hX.1
  apply ex1
  refine tot_iter (Q := fun r => ∃ N', r = (D, (R.set d (some (hdR m (markRs c X))), (S, (N', (c + (cntW cntR X : Nat), ()))))) ∧ Seg N' m (ndR (markRs c X)) ∧ Fr m (m + 2 * X.length) N N')
    (fun q => ∃ (i : Nat) (N' : Mem Tn), q = (((i : Int), (H d X.length, (c + (cntW cntR (X.take i) : Nat), (0, ())))), (D, (R.set d (some (hdR m (mix (markRs c X) X i))), (S, (N', ()))))) ∧ i ≤ X.length ∧ Seg N' m (ndR (mix (markRs c X) X i)) ∧ Fr m (m + 2 * X.length) N N') (fun q => 1048577 - q.1.1.toNat) (by simp only; omega)
    ⟨0, N, by rw [mix_zero, set_self hD]; simp [cntW], Nat.zero_le _, by rw [mix_zero]; exact hN, fr_refl⟩ ?_
  rintro rec _ ⟨i, N', rfl, hi, hN', fN⟩ ih
  dsimp only
  rw [ilt_iff]
  by_cases h1 : i < X.length
  · have hil : i < (mix (markRs c X) X i).length := by rw [mix_len hml]; exact h1
    have hih : i < (hdR m (mix (markRs c X) X i)).length := by rw [hdR_len]; exact hil
    have hcb : cntW cntR (X.take i) ≤ 1048576 * 6291457 := Nat.le_trans (cntW_le fun x hx => cntR_le (hX.2 x hx)) (Nat.mul_le_mul_right _ hX1)
    have hsd := hX.2 _ (getD_mem (d := dRl) h1)
    have hsl := hsd.1.1
    have hsn := hsd.2.1
    have hih2 : ∀ x : Rh, i < ((hdR m (mix (markRs c X) X i)).set i x).length := fun x => by rw [List.length_set]; exact hih
    rw [decide_eq_true (show (i : Int) < X.length by omega), cond_true, ok_of (inB_true (by omega) (by omega)), ok_of (by rw [Nat.zero_add, Int.toNat_natCast]; exact hit_set hk hih), ok_of (inB_true (by omega) (by omega))]
    simp only [Nat.zero_add, Int.toNat_natCast, row_set hk, wr_set, getD_set hih, hit_set hk (hih2 _)]
    rw [ok_of rfl, hdR_get (e := dRl) hil, mix_get hml h1, iadd_eq (by omega) (by omega)]
    dsimp only
    have hNi := hN' (2 * i) (by rw [ndR_len]; omega)
    have hNj := hN' (2 * i + 1) (by rw [ndR_len]; omega)
    rw [(ndR_get (e := dRl) hil).1, mix_get hml h1] at hNi
    rw [(ndR_get (e := dRl) hil).2, mix_get hml h1] at hNj
    rw [kt _ _ _ _ _ _ _ hNi hsl (by omega) (by omega)]
    simp only [Option.bind_some]
    rw [ok_of (inB_true (by omega) (by omega)), ok_of (hit_set hk (hih2 _)), row_set hk, getD_set hih]
    dsimp only
    have kt2 : ∀ (D : Mem Dh) (R : Mem Rh) (S : Mem ByteArray) (N : Mem Tn) (l : List Tn) (c : Int), N[m + (2 * i + 1)]? = some (some l) → l.length ≤ 1048576 → 0 ≤ c → c ≤ 100000000000000000 →
        c_w_markTermNodeS_deep ((C B).run n) D R S N (m + 2 * i + 2, (0, l.length)) c = some (D, (R, (S, (N.set (m + (2 * i + 1)) (some (markN c l)), (c + (3 * l.length : Nat), ()))))) := fun D R S N l c => kt D R S N (m + (2 * i + 1)) l c
    rw [kt2 _ _ _ _ _ _ (by rw [at_ne (by omega)]; exact hNj) hsn (by omega) (by omega)]
    simp only [Option.bind_some]
    rw [iadd_eq (by omega) (by omega)]
    have hms := mix_set (e := dRl) hml h1
    rw [markW_get (e := dRl) h1] at hms
    refine ih _ ⟨i + 1, (N'.set (m + 2 * i) (some (markN (c + (cntW cntR (X.take i) : Nat) + 1) (X.getD i dRl).2.1.1))).set (m + (2 * i + 1)) (some (markN (c + (cntW cntR (X.take i) : Nat) + 1 + ((3 * (X.getD i dRl).2.1.1.length : Nat) : Int)) (X.getD i dRl).2.2.1.1)), ?_, by omega, ?_, fr_set (k := m + (2 * i + 1)) (fr_set (k := m + 2 * i) fN (by omega) (by omega)) (by omega) (by omega)⟩ (by simp only; omega)
    · rw [cntW_succ (e := dRl) h1, ← hms, hdR_set]
      have e1 : ((i : Int) + 1) = ((i + 1 : Nat) : Int) := by omega
      have e2 : c + ((cntW cntR (X.take i) : Nat) : Int) + 1 + ((3 * (X.getD i dRl).2.1.1.length : Nat) : Int) + ((3 * (X.getD i dRl).2.2.1.1.length : Nat) : Int) = c + ((cntW cntR (X.take i) + cntR (X.getD i dRl) : Nat) : Int) := by
        unfold cntR; omega
      rw [e1, e2]
      simp only [markR, markW_len]
    · rw [← hms, ndR_set]
      simp only [markR]
      exact seg_set (i := 2 * i + 1) (seg_set hN' (by rw [ndR_len]; omega)) (by rw [List.length_set, ndR_len]; omega)
  · rw [decide_eq_false (show ¬ (i : Int) < X.length by omega), cond_false]
    obtain rfl : i = X.length := by omega
    rw [mix_all hml] at hN' ⊢
    rw [List.take_length]
    exact tot_some ⟨N', rfl, hN', fN⟩
theorem k_markProg : Ev fun n => ∀ (D : Mem Dh) (R : Mem Rh) (S : Mem ByteArray) (N : Mem Tn) (d r p v n' m : Nat) (X : List Df) (V : List ByteArray) (L : List Rl), PA D R S N d r p v n' m X V L → SmDs 1048576 X → SmL 1048576 V → SmRs 1048576 L →
    ∃ D' R' S' N', c_w_markProg_deep ((C B).run n) D R S N (H d X.length) (H v V.length) (H r L.length) 1 = some (D', (R', (S', (N', (cntP X V L, ()))))) ∧
      PA D' R' S' N' d r p v n' m (mkD1 X) (mkV1 X V) (mkR1 X V L) ∧ (∀ k, d < k → D'[k]? = D[k]?) ∧ (∀ k, r < k → R'[k]? = R[k]?) ∧ (∀ k, v < k → p + X.length ≤ k → S'[k]? = S[k]?) ∧ (∀ k, m + 2 * L.length ≤ k → N'[k]? = N[k]?) := by
  refine ((k_markProgDefS (B := B)).and ((k_markStringS (B := B)).and (k_markProgRelS (B := B)))).succ fun n hn ⟨kd, ks, kr⟩ D R S N d r p v n' m X V L h hX hV hL => ?_
  rw [run_succB', e_w_markProg_deep]
  unfold p_w_markProg_deep
  have b1 := cntDs_le hX
  have b2 := hV.1
  obtain ⟨S1, N1, e1, s1, n1, fs, fn⟩ := kd D R S N d p n' X 1 h.hD h.hP h.hB hX (by omega) (by omega)
  rw [e1]
  simp only [Option.bind_some]
  have hpv := h.hpv
  have hnm := h.hnm
  rw [ks _ _ _ _ v V _ (by rw [fs.2 _ (by omega)]; exact h.hV) b2 (by omega) (by omega)]
  simp only [Option.bind_some]
  obtain ⟨N2, e2, n2, fn2⟩ := kr (D.set d (some (hdD p n' (markDs 1 X)))) R (S1.set v (some (markL (1 + (cntW cntD X : Nat)) V))) N1 r m L (1 + (cntW cntD X : Nat) + V.length) h.hR (fr_seg fn h.hN (.inr (by omega))) hL (by omega) (by omega)
  rw [e2]
  simp only [Option.bind_some]
  have l1 : (psD (mkD1 X)).length = X.length := by rw [psD_len]; exact markW_len
  have l2 : (bdD (mkD1 X)).length = X.length := by rw [bdD_len]; exact markW_len
  refine ⟨_, _, _, _, rfl, ⟨at_set h.hD, at_set h.hR, seg_ne s1 (by rw [l1]; omega), at_set (l := V) (by rw [fs.2 _ (by omega)]; exact h.hV), fr_seg fn2 n1 (.inl (by rw [l2]; omega)), n2, ?_, ?_⟩, fun k hk => at_ne (by omega), fun k hk => at_ne (by omega), fun k h1 h2 => ?_, fun k h1 => ?_⟩
  · unfold mkD1; rw [markW_len]; exact hpv
  · unfold mkD1; rw [markW_len]; exact hnm
  · rw [at_ne (by omega), fs.2 _ (by omega)]
  · rw [fn2.2 _ (by omega), fn.2 _ (by omega)]
end Go.Px.Seat
