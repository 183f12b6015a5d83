/- Own texts, part M7: PuN PuW. -/
import Derived.Test.YthallaeafilbbaaGreatDoorM6
set_option linter.unusedVariables false

/- FnTermBack comes to true. Seat T. -/
namespace Pt
open Go.Px Go.Px.Seat
/-- is a text short enough to be read -/
def shortB (l : List Nat) : Bool := decide (l.length ≤ 1000) && (match toks l.length l with
  | none => false
  | some ts => !(ts.any badTok) && decide (ts.length ≤ 300))
theorem resI_code {o : Option (List Tok)} (h : (resI false [] o).2.1 = 0) : ∃ ts, o = some ts ∧ ts.any badTok = false ∧ ts.length ≤ 300 := by
  cases o with
  | none => cases h
  | some ts =>
    unfold resI at h
    simp only [Bool.false_or, List.nil_append] at h
    cases hb : ts.any badTok with
    | true => rw [hb] at h; cases h
    | false =>
      rw [hb, if_neg (by decide)] at h
      by_cases h3 : 300 < ts.length
      · rw [if_pos h3] at h; cases h
      · exact ⟨ts, rfl, hb, by omega⟩
theorem short_of {l : List Nat} (h : ((if 1000 < l.length then ([], (1, ())) else resI false [] (toks l.length l)) : List (Int × (ByteArray × Unit)) × (Int × Unit)).2.1 = 0) : shortB l = true := by
  unfold shortB
  by_cases h1 : 1000 < l.length
  · rw [if_pos h1] at h; cases h
  · rw [if_neg h1] at h
    obtain ⟨ts, h2, h3, h4⟩ := resI_code h
    rw [decide_eq_true (show l.length ≤ 1000 by omega), h2, Bool.true_and]
    simp only
    rw [h3, decide_eq_true h4]
    rfl
theorem short_some {l : List Nat} (h : shortB l = true) : ∃ ts, toks l.length l = some ts ∧ ts.any badTok = false ∧ ts.length ≤ 300 ∧ l.length ≤ 1000 := by
  unfold shortB at h
  rw [Bool.and_eq_true, decide_eq_true_eq] at h
  obtain ⟨h1, h2⟩ := h
  cases ht : toks l.length l with
  | none => rw [ht] at h2; cases h2
  | some ts =>
    rw [ht] at h2
    simp only [Bool.and_eq_true, Bool.not_eq_true', decide_eq_true_eq] at h2
    exact ⟨ts, rfl, h2.1, h2.2, h1⟩
theorem termRead_short {l : List Nat} {ts : List Tok} {nd : List Nd} (hs : shortB l = true) (ht : tk l = some ts) (hq : Qm ts nd) (h100 : nd.length ≤ 100) : termRead l = (nd, 0) := by
  obtain ⟨ts', h1, h2, h3, h4⟩ := short_some hs
  have e : ts' = ts := Option.some.inj (h1.symm.trans ht)
  subst e
  have hr : sumP 1000 (ts', [], false) = some ([], nd, false) := by
    have := hq.sum (K := 1000) (rest := []) (nd := []) (m := false) (by omega) trivial trivial trivial trivial trivial trivial
    rwa [List.append_nil, List.nil_append] at this
  unfold termRead
  rw [if_neg (by omega), h1]
  simp only
  rw [h2, if_neg (by decide), if_neg (by omega)]
  unfold readT
  rw [hr]
  simp only
  rw [if_neg (by simp), if_neg (by rintro (h | h); cases h; omega)]
theorem scan_trm : ∀ (n : Nat) (l : List Nd), l.length ≤ n → Trm l → ∀ (d : Int) (r : List Nd), 0 ≤ d → scan d (l ++ r) = scan (d + 1) r
  | 0, l, hn, h => absurd h.pos (by omega)
  | n + 1, l, hn, h => by
    intro d r hd
    obtain ⟨ps, x, rfl, hps, hx⟩ := sub_split h
    rw [List.length_append, List.length_singleton] at hn
    have key : ∀ (ps : List (List Nd)), (∀ p ∈ ps, Trm p) → ps.flatten.length ≤ n → ∀ (d : Int) (r : List Nd), 0 ≤ d → scan d (ps.flatten ++ r) = scan (d + ps.length) r := fun ps => by
      induction ps with
      | nil => intro _ _ d r _; simp
      | cons p ps ih =>
        intro h1 h2 d r hd
        rw [List.flatten_cons, List.length_append] at h2
        rw [List.flatten_cons, List.append_assoc, scan_trm n p (by omega) (h1 p (List.mem_cons_self ..)) d _ hd, ih (fun q hq => h1 q (List.mem_cons_of_mem _ hq)) (by omega) (d + 1) r (by omega), List.length_cons]
        congr 1
        omega
    rw [List.append_assoc, key ps hps (by omega) d _ hd, List.singleton_append, scan, if_neg (by omega), hx]
    congr 1
    omega
theorem trm_ok {l : List Nd} (h : Trm l) (h100 : l.length ≤ 100) : termOk l = true := by
  unfold termOk
  have := scan_trm l.length l (Nat.le_refl _) h 0 [] (Int.le_refl _)
  rw [List.append_nil] at this
  rw [this, decide_eq_true h100]
  rfl
/-- a text of a term that is short is read back -/
theorem text_back {l : List Nd} (h : Trm l) (h100 : l.length ≤ 100) (hs : shortB (termTxt l) = true) : termRead (termTxt l) = (l, 0) := by
  obtain ⟨w, hw⟩ := wrun_trm l.length l (Nat.le_refl _) h
  obtain ⟨ts, h1, h2, _⟩ := round l.length l w (Nat.le_refl _) h hw
  have e : termTxt l = w.1 := by
    unfold termTxt
    rw [if_pos (trm_ok h h100), hw []]
    rfl
  rw [e] at hs ⊢
  have ht : tk w.1 = some ts := by
    have := h1 [] trivial
    rw [List.append_nil, tk_nil] at this
    simpa using this
  exact termRead_short hs ht h2.2.2.2 h100
/-- what is read stands in brackets too -/
theorem bracket_back {l : List Nat} {nd : List Nd} (hl : Bl l) (h : termRead l = (nd, 0)) (h35 : 35 ∉ l) (hs : shortB (([40] ++ l) ++ [41]) = true) : termRead (([40] ++ l) ++ [41]) = (nd, 0) := by
  have h0 := h
  unfold termRead at h
  split at h
  · simp at h
  · split at h
    · simp at h
    · rename_i ts ht
      split at h
      · simp at h
      · rename_i hb
        split at h
        · simp at h
        · have hb' : ts.any badTok = false := by
            cases hq : ts.any badTok with
            | false => rfl
            | true => exact absurd hq hb
          have hok := toks_ok hl ht hb'
          obtain ⟨r1, r2, r3, r4⟩ := readT_ok hok h
          have htk : tk (([40] ++ l) ++ [41]) = some ((3, [40]) :: ts ++ [(3, [41])]) := by
            have e1 := tk_safe (b := [41]) (show stops 41 = true by decide) (by decide) l.length l ts (Nat.le_refl _) h35 ht
            have e2 := tk_sign (c := 40) (by decide) (l ++ [41])
            have e3 : tk [41] = some [(3, [41])] := by
              have := tk_sign (c := 41) (by decide) []
              rw [List.append_nil, tk_nil] at this
              exact this
            rw [List.append_assoc, e2, e1, e3]
            rfl
          obtain ⟨ts', h1, h2, h3, h4⟩ := short_some hs
          have e : ts' = (3, [40]) :: ts ++ [(3, [41])] := Option.some.inj (h1.symm.trans htk)
          have hlen : ts.length ≤ 300 := by
            rw [e] at h3
            simp only [List.length_append, List.length_cons, List.length_nil] at h3
            omega
          have hS : sumP 999 (ts ++ [(3, [41])], [], false) = some ([(3, [41])], nd, false) := by
            have := loc_sum (y := []) 1000 (ts, [], false) ([], nd, false) (by simp only; omega) r1
            exact this
          have hat : atomP (sumP 999) ((3, [40]) :: ts ++ [(3, [41])], [], false) = some ([], nd, false) := by
            unfold atomP
            simp only [List.cons_append]
            rw [if_pos trivial, hS]
            rfl
          have hsum : sumP 1000 ((3, [40]) :: ts ++ [(3, [41])], [], false) = some ([], nd, false) := by
            show sumP1 (sumP 999) _ = _
            have hsg : sgnP (sumP 999) ((3, [40]) :: ts ++ [(3, [41])], [], false) = some ([], nd, false) := by
              unfold sgnP
              simp only [List.cons_append] at hat ⊢
              rw [signedP, if_neg (by decide), hat]
              rfl
            have hpr : prodP (sumP 999) ((3, [40]) :: ts ++ [(3, [41])], [], false) = some ([], nd, false) := by
              unfold prodP
              rw [hsg]
              exact loopP_nil
            unfold sumP1
            rw [hpr]
            exact loopP_nil
          unfold termRead
          rw [if_neg (by omega), h1]
          simp only
          rw [h2, if_neg (by decide), if_neg (by omega), e]
          unfold readT
          rw [hsum]
          simp only
          rw [if_neg (by simp), if_neg (by rintro (h | h); cases h; omega)]
/-! ### What stands in a text that has tokens -/
theorem tkA_clean {s : List Nat} {ts : List Tok} (h : TkA s ts) : 35 ∉ s := by
  intro h35
  have e : ∀ b, ahead (s ++ b) = ahead s := fun b => by
    clear h
    induction s with
    | nil => cases h35
    | cons c r ih =>
      by_cases hc : c = 35
      · subst hc; rfl
      · rw [List.cons_append, ahead_cons hc, ahead_cons hc, ih ((List.mem_cons.1 h35).resolve_left fun h => hc h.symm)]
  have k : ∀ b, tk (s ++ b) = toks (s ++ [41]).length (ahead s) ∨ b.length ≠ 0 ∧ b.length ≠ 1 := fun b => by
    by_cases hb : b.length = 0 ∨ b.length = 1
    · left
      unfold tk
      rw [← toks_ahead, e b]
      have hl : (ahead s).length ≤ s.length := by
        unfold ahead
        exact (List.takeWhile_sublist _).length_le
      exact toks_fuel _ _ _ (by rw [List.length_append]; omega) (by rw [List.length_append]; omega)
    · right; omega
  have h0 := h [] trivial
  have h1 := h [41] (show stops 41 = true by decide)
  have k0 := (k []).resolve_right (by simp)
  have k1 := (k [41]).resolve_right (by simp)
  have e3 : tk [41] = some [(3, [41])] := by
    have := tk_sign (c := 41) (by decide) []
    rw [List.append_nil, tk_nil] at this
    exact this
  rw [k0, tk_nil] at h0
  rw [k1, h0, e3] at h1
  have := congrArg List.length (Option.some.inj h1)
  simp at this
theorem wlen_clean {d : Bool} : ∀ (l : List Nat) (p : Nat), 10 ∉ l.take (wlen d p l)
  | [], p, h => by cases h
  | c :: r, p, h => by
    rw [wlen] at h
    cases hw : wc d p c with
    | false => rw [hw] at h; simp at h
    | true =>
      rw [hw, if_pos rfl, Nat.add_comm, List.take_succ_cons] at h
      rcases List.mem_cons.1 h with h | h
      · subst h
        cases d <;> simp [wc, letter, digit] at hw
      · exact wlen_clean r c h
theorem one_clean {l : List Nat} {t : Tok} (h : one l = some t) : 10 ∉ t.2 ∧ l.take t.2.length = t.2 := by
  have hw := wlen_le' (d := digit (l.getD 0 0)) l 0
  have ht : (l.take (wlen (digit (l.getD 0 0)) 0 l)).length = wlen (digit (l.getD 0 0)) 0 l := by rw [List.length_take]; omega
  unfold one at h
  simp only at h
  split at h
  · split at h
    · cases h
      exact ⟨wlen_clean l 0, by simp only [ht]⟩
    · split at h
      · cases h
        exact ⟨wlen_clean l 0, by simp only [ht]⟩
      · cases h
  · split at h
    · cases h
    · cases h
      refine ⟨?_, sgn_pre l⟩
      cases l with
      | nil => intro h; cases h
      | cons c r =>
        rw [sgn_cons]
        split
        · rename_i hc
          intro h
          simp only [List.mem_cons, List.not_mem_nil, or_false] at h
          omega
        · split
          · rename_i hc
            intro h
            rw [← List.mem_singleton.1 h] at hc
            revert hc
            decide
          · intro h; cases h
theorem toks_clean : ∀ (f : Nat) (l : List Nat) (ts : List Tok), l.length ≤ f → 35 ∉ l → toks f l = some ts → 10 ∉ l
  | _, [], _, _, _, _ => fun h => by cases h
  | 0, _ :: _, _, h, _, _ => absurd h (by simp)
  | f + 1, c :: r, ts, hf, h35, h => by
    have hr : 35 ∉ r := fun h => h35 (List.mem_cons_of_mem _ h)
    rw [toks, if_neg (fun h => h35 (by rw [h]; exact List.mem_cons_self ..))] at h
    split at h
    · rename_i h32
      intro hm
      rcases List.mem_cons.1 hm with hm | hm
      · omega
      · exact toks_clean f r ts (by simpa using hf) hr h hm
    · cases ho : one (c :: r) with
      | none => rw [ho] at h; cases h
      | some t =>
        rw [ho] at h
        obtain ⟨ts', h1, _⟩ := Option.map_eq_some_iff.1 h
        obtain ⟨g1, g2⟩ := one_clean ho
        have hl := one_len ho
        intro hm
        rw [← List.take_append_drop t.2.length (c :: r), g2] at hm
        rcases List.mem_append.1 hm with hm | hm
        · exact g1 hm
        · exact toks_clean f _ ts' (by rw [List.length_drop]; simp only [List.length_cons] at hf hl ⊢; omega) (fun h => h35 (List.mem_of_mem_drop h)) h1 hm
theorem text_clean {l : List Nd} (h : Trm l) (h100 : l.length ≤ 100) : 10 ∉ termTxt l := by
  obtain ⟨w, hw⟩ := wrun_trm l.length l (Nat.le_refl _) h
  obtain ⟨ts, h1, h2, _⟩ := round l.length l w (Nat.le_refl _) h hw
  have e : termTxt l = w.1 := by
    unfold termTxt
    rw [if_pos (trm_ok h h100), hw []]
    rfl
  rw [e]
  have ht : tk w.1 = some ts := by
    have := h1 [] trivial
    rw [List.append_nil, tk_nil] at this
    simpa using this
  exact toks_clean _ _ ts (Nat.le_refl _) (tkA_clean h1) ht
theorem read_clean {l : List Nat} {nd : List Nd} (h : termRead l = (nd, 0)) (h35 : 35 ∉ l) : 10 ∉ l := by
  unfold termRead at h
  split at h
  · simp at h
  · split at h
    · simp at h
    · rename_i ts ht
      exact toks_clean _ _ ts (Nat.le_refl _) h35 ht
theorem read_ok {l : List Nat} {nd : List Nd} (hl : Bl l) (h : termRead l = (nd, 0)) : Trm nd ∧ NDs nd ∧ nd.length ≤ 100 := by
  unfold termRead at h
  split at h
  · simp at h
  · split at h
    · simp at h
    · rename_i ts ht
      split at h
      · simp at h
      · rename_i hb
        split at h
        · simp at h
        · have hb' : ts.any badTok = false := by
            cases hq : ts.any badTok with
            | false => rfl
            | true => exact absurd hq hb
          exact (readT_ok (toks_ok hl ht hb') h).2
theorem read_none {l : List Nat} (h : (termRead l).2 ≠ 0) : (termRead l).1 = [] := by
  unfold termRead at h ⊢
  split
  · rfl
  · rename_i h1
    rw [if_neg h1] at h
    cases ht : toks l.length l with
    | none => rfl
    | some ts =>
      rw [ht] at h
      simp only at h ⊢
      split
      · rfl
      · rename_i hb
        rw [if_neg hb] at h
        split
        · rfl
        · rename_i h3
          rw [if_neg h3] at h
          unfold readT at h ⊢
          cases hs : sumP 1000 (ts, [], false) with
          | none => rfl
          | some s =>
            obtain ⟨r, nd, m⟩ := s
            rw [hs] at h
            simp only at h ⊢
            split
            · rfl
            · rename_i hr
              rw [if_neg hr] at h
              split
              · rfl
              · rename_i hm
                rw [if_neg hm] at h
                exact absurd rfl h
end Pt
namespace Go.Px.Seat
open Go Pm Pt
set_option linter.unusedVariables false
theorem k_ptShort : Ev fun n => ∀ l : List Nat, Bl l → l.length ≤ 100000 → ∃ r : Bool, c_w_ptShort ((C B0).run n) (bs l) = some (r, ()) ∧ (r = true → 10 ∉ l → shortB l = true) := by
  refine k_sTokens.succ fun n hn kt l hl hb => ?_
  refine unit_ex (q := fun r => r = true → 10 ∉ l → shortB l = true) ?_
  rw [run_succ, e_w_ptShort]
  unfold p_w_ptShort
  rw [bs_len, ilt_iff]
  by_cases h8 : (8000 : Int) < l.length
  · rw [decide_eq_true h8, cond_true]
    exact tot_some (fun h => by cases h)
  rw [decide_eq_false h8, cond_false]
  refine tot_iter (fun q => ∃ i a : Nat, q = (((i : Int), (bs l, ((a : Int), (false, ())))), ()) ∧ a ≤ i ∧ i ≤ l.length + 1 ∧ (10 ∉ l → (i ≤ l.length → a = 0) ∧ (i = l.length + 1 → shortB l = true))) (fun q => (100002 - q.1.1).toNat) (by simp only; omega) ⟨0, 0, rfl, Nat.le_refl _, by omega, fun _ => ⟨fun _ => rfl, fun h => by omega⟩⟩ ?_
  rintro rec _ ⟨i, a, rfl, hai, hi, hs⟩ ih
  dsimp only
  rw [bs_len, ile_iff]
  by_cases h : i ≤ l.length
  · rw [decide_eq_true (by omega), cond_true]
    obtain ⟨c, hc⟩ : ∃ c : Bool, c = decide (i = l.length ∨ l.getD i 0 = 10) := ⟨_, rfl⟩
    rw [jb_of (x := bif ((i : Int) == (l.length : Int)) then _ else _) (p := ((c, (bs l, ((a : Int), ((i : Int), (false, ()))))), ())) (by
      rw [bq]
      by_cases hil : i = l.length
      · rw [decide_eq_true (show (i : Int) = l.length by omega), hc, decide_eq_true (.inl hil)]
        rfl
      · rw [decide_eq_false (show ¬ (i : Int) = l.length by omega), cond_false, ok_of (inB_true (by omega) (by omega)), bs_bt hl, hc, bq, decide_eq_decide.2 (show ((l.getD i 0 : Nat) : Int) = 10 ↔ (i = l.length ∨ l.getD i 0 = 10) by omega)])]
    dsimp only
    cases c with
    | false =>
      rw [cond_false]
      simp only [jb_inr]
      rw [iadd_eq (by omega) (by omega)]
      have hc' : ¬ (i = l.length ∨ l.getD i 0 = 10) := of_decide_eq_false hc.symm
      exact ih _ ⟨i + 1, a, by simp, by omega, by omega, fun hno => ⟨fun _ => (hs hno).1 h, fun h' => absurd (by omega) (fun h'' => hc' (.inl h''))⟩⟩ (by simp only; omega)
    | true =>
      have hc' : i = l.length ∨ l.getD i 0 = 10 := of_decide_eq_true hc.symm
      rw [cond_true, bs_len, ok_of (sliceOk_true (by omega) (by omega) (by omega)), Int.toNat_natCast, Int.toNat_natCast, bs_sub, kt _ (bl_drop (bl_take hl _) _) (by rw [List.length_drop, List.length_take]; omega)]
      simp only [Option.bind_some]
      obtain ⟨R, hR⟩ : ∃ R, R = (if 1000 < ((l.take i).drop a).length then ([], (1, ())) else resI false [] (toks ((l.take i).drop a).length ((l.take i).drop a)) : List (Int × (ByteArray × Unit)) × (Int × Unit)) := ⟨_, rfl⟩
      rw [← hR]
      rw [show (R.2.1 != 0) = !(R.2.1 == 0) from rfl, bq]
      by_cases h0 : R.2.1 = 0
      · rw [decide_eq_true h0, Bool.not_true, cond_false]
        simp only [jb_inr]
        rw [iadd_eq (by omega) (by omega)]
        refine ih _ ⟨i + 1, i + 1, by simp, by omega, by omega, fun hno => ?_⟩ (by simp only; omega)
        have hil : i = l.length := hc'.resolve_right fun h10 => hno (by
          rw [← h10]
          by_cases hil : i < l.length
          · rw [List.getD_eq_getElem?_getD, List.getElem?_eq_getElem hil]
            exact List.getElem_mem hil
          · rw [List.getD_eq_getElem?_getD, List.getElem?_eq_none (by omega)] at h10
            cases h10)
        refine ⟨fun h' => by omega, fun _ => ?_⟩
        have ha := (hs hno).1 h
        subst ha
        rw [hil, List.take_length, List.drop_zero] at hR
        exact short_of (by rw [← hR]; exact h0)
      · rw [decide_eq_false h0, Bool.not_false, cond_true]
        exact tot_some (fun h => by cases h)
  · rw [decide_eq_false (by omega), cond_false]
    exact tot_some (fun _ hno => (hs hno).2 (by omega))
theorem k_read : Ev fun n => ∀ (b : List Int) (p : Int), Code b → 0 ≤ p → p ≤ 1000000 → ∃ s p', c_s_l34Rd_read ((C B0).run n) b p = some (s, (b, (p', ()))) ∧ Txt 9000 s := by
  refine (k_any.and (k_termText.and (k_pick.and k_line))).succ fun n hn ⟨ka, kt, kp, kl⟩ b p hc h0 h1 => ?_
  have key : Tot (c_s_l34Rd_read ((C B0).run (n + 1)) b p) (fun r : ByteArray × (List Int × (Int × Unit)) => ∃ s p', r = (s, (b, (p', ()))) ∧ Txt 9000 s) := by
    rw [run_succ, e_s_l34Rd_read]
    unfold p_s_l34Rd_read
    obtain ⟨l, p1, hl, hnd, hlen, hp1, hp2⟩ := ka b p hc h0 (by omega)
    refine tot_eq hl ?_
    dsimp only
    refine tot_bind _ (kt l hnd (by omega)) ?_
    rintro ⟨s, u⟩ hs
    have hs : Txt 3000 s := hs
    dsimp only
    refine tot_jb (fun q : ((ByteArray × (ByteArray × (Unit × Unit)))) × (((List Int × (Int × Unit))) × Unit) => ∃ s p', q = ((s, (bs [], ((), ()))), ((b, (p', ())), ())) ∧ Txt 9000 s) ?_ (fun q ⟨s, p', hq, ht⟩ => by subst hq; exact tot_some ⟨s, p', rfl, ht⟩)
    obtain ⟨v, hv, v0, v1⟩ := kp b p1 8 hc (by omega) (by omega)
    refine tot_eq hv ?_
    dsimp only
    refine tot_if (fun _ => ?_) (fun _ => ?_)
    · obtain ⟨s1, p2, hs1, ht1, _, _⟩ := kl b (p1 + 1) hc (by omega) (by omega)
      refine tot_eq hs1 ?_
      exact tot_some ⟨s1, p2, rfl, ht1.mono (by omega)⟩
    refine tot_if (fun _ => ?_) (fun _ => ?_)
    · have b1 : Txt 1 (bs [40]) := txt1 40
      have b2 : Txt 1 (bs [41]) := txt1 41
      refine tot_ok (b1.sok hs (by omega)) (tot_ok ((b1.app hs).sok b2 (by omega)) ?_)
      exact tot_some ⟨_, _, rfl, ((b1.app hs).app b2).mono (by omega)⟩
    refine tot_if (fun _ => ?_) (fun _ => ?_)
    · obtain ⟨w, hw, w0, w1⟩ := kp b (p1 + 1) 8 hc (by omega) (by omega)
      have w1 := w1 (by decide)
      refine tot_eq hw ?_
      dsimp only
      refine tot_ok (inB_true w0 (by rw [len_eq]; exact w1)) ?_
      have ht : Txt 8 ([(bs [94, 50]), (bs [94, 57]), (bs [32, 43]), (bs [41]), (bs [44, 32, 120]), (bs [32, 61, 32, 49]), (bs [94, 50, 94, 51]), (bs [32, 53])].getD (Int.toNat w) (bs [])) :=
        txt_list (k := 8) (L := [[94, 50], [94, 57], [32, 43], [41], [44, 32, 120], [32, 61, 32, 49], [94, 50, 94, 51], [32, 53]]) (by unfold Bl; decide) _
      refine tot_ok (hs.sok ht (by omega)) ?_
      exact tot_some ⟨_, _, rfl, (hs.app ht).mono (by omega)⟩
    refine tot_if (fun _ => ?_) (fun _ => ?_)
    · have b1 : Txt 30 (bs [102, 40, 120, 44, 32, 120, 44, 32, 120, 44, 32, 120, 44, 32, 120, 44, 32, 120, 44, 32]) := txt_bs _ (by decide) (by decide)
      have b2 : Txt 1 (bs [41]) := txt1 41
      refine tot_ok (b1.sok hs (by omega)) (tot_ok ((b1.app hs).sok b2 (by omega)) ?_)
      exact tot_some ⟨_, _, rfl, ((b1.app hs).app b2).mono (by omega)⟩
    exact tot_some ⟨_, _, rfl, hs.mono (by omega)⟩
  obtain ⟨r, hr, s, p', rfl, h3⟩ := key
  exact ⟨s, p', hr, h3⟩
theorem k_draw : Ev fun n => ∀ b : List Int, (∀ x ∈ b, 0 ≤ x ∧ x < 256) → ∃ s, c_s_DrawTermRead ((C B0).run n) b = some (s, ()) ∧ Txt 9000 s := by
  refine (k_open.and k_read).succ fun n hn ⟨ko, kr⟩ b hb => ?_
  obtain ⟨b', h1, h2⟩ := ko b hb
  obtain ⟨s, p', h3, h4⟩ := kr b' 0 h2 (Int.le_refl _) (by decide)
  refine ⟨s, ?_, h4⟩
  rw [run_succ, e_s_DrawTermRead]
  unfold p_s_DrawTermRead
  rw [h1]
  simp only [Option.bind_some]
  rw [h3]
  rfl
theorem k_good : Ev fun n => ∀ b : List Int, (∀ x ∈ b, 0 ≤ x ∧ x < 256) → ∃ l, c_s_GoodTerm ((C B0).run n) b = some (l.map encN, ()) ∧ Trm l ∧ ND l ∧ l.length ≤ 100 := by
  refine (k_open.and (k_pick.and k_term)).succ fun n hn ⟨ko, kp, kt⟩ b hb => ?_
  obtain ⟨b', h1, h2⟩ := ko b hb
  obtain ⟨v, hv, v0, v1⟩ := kp b' 0 5 h2 (Int.le_refl _) (by decide)
  have v1 := v1 (by decide)
  have okx : ∀ c : Nat, (okN [c] ↔ (c < 256 ∧ nameOk [c] = true)) := fun c => ⟨fun h => ⟨h.1 c (List.mem_singleton.2 rfl), h.2.2⟩, fun h => ⟨fun x hx => by rw [List.mem_singleton.1 hx]; exact h.1, by simp, h.2⟩⟩
  obtain ⟨l, p1, hl, hs, hnd, hlen, _⟩ := kt b' (0 + 1) [[120], [121], [97]] [([102], 1), ([103], 2)] (1 + v) h2 (by omega) (by omega) (by
    intro l hl
    simp only [List.mem_cons, List.not_mem_nil, or_false] at hl
    rcases hl with rfl | rfl | rfl <;> exact (okx _).2 (by decide)) (by
    intro c hc
    simp only [List.mem_cons, List.not_mem_nil, or_false] at hc
    rcases hc with rfl | rfl <;> exact ⟨(okx _).2 (by decide), by decide, by decide⟩) (by omega)
  refine ⟨l, ?_, hs, hnd, hlen⟩
  rw [run_succ, e_s_GoodTerm]
  unfold p_s_GoodTerm
  rw [h1]
  simp only [Option.bind_some]
  rw [hv]
  simp only [Option.bind_some]
  rw [iadd_eq (by omega) (by omega)]
  have hl' : c_s_l34Rd_term ((C B0).run n) b' (0 + 1) [(bs [120]), (bs [121]), (bs [97])] [((bs [102]), (1, ())), ((bs [103]), (2, ()))] (1 + v) = some (l.map encN, (b', (p1, ()))) := hl
  rw [hl']
  rfl
theorem txt_len {l : List Nd} (h : Trm l) (h100 : l.length ≤ 100) (hnd : NDw l) : Bl (termTxt l) ∧ (termTxt l).length ≤ 50000 := by
  have hok := trm_ok h h100
  obtain ⟨w, hw⟩ := wrun_trm l.length l (Nat.le_refl _) h
  have e : termTxt l = w.1 := by
    unfold termTxt
    rw [if_pos hok, hw []]
    rfl
  have key : ∀ (n : Nat) (l : List Nd) (w : Wt), l.length ≤ n → Trm l → NDw l → Wr l w → Bl w.1 ∧ w.1.length ≤ 200 * l.length := by
    intro n
    induction n with
    | zero => intro l w hn h; exact absurd h.pos (by omega)
    | succ n ih =>
      intro l w hn h hnd hw
      obtain ⟨ps, x, rfl, hps, hx⟩ := sub_split h
      obtain ⟨ws, e1, e2, e3⟩ := wr_parts ps hps
      have hwe := hw.inj (wr_node hx e1 e3)
      rw [List.length_append, List.length_singleton] at hn ⊢
      have hx2 := hnd x (by simp)
      have hr := nargs_range x
      have all : ∀ j, j < ps.length → Bl (ws.getD j ([], 0)).1 ∧ (ws.getD j ([], 0)).1.length ≤ 200 * (ps.getD j []).length := fun j hj => by
        have hm : ps.getD j [] ∈ ps := by
          rw [List.getD_eq_getElem?_getD, List.getElem?_eq_getElem hj]
          exact List.getElem_mem hj
        have hle := (List.sublist_flatten_of_mem hm).length_le
        exact ih (ps.getD j []) (ws.getD j ([], 0)) (by omega) (hps _ hm) (fun y hy => hnd y (List.mem_append_left _ (List.mem_flatten.2 ⟨_, hm, hy⟩))) (e2 j hj)
      have htl : ∀ (ws : List Wt) (ps : List (List Nd)), ws.length = ps.length → (∀ j, j < ps.length → (ws.getD j ([], 0)).1.length ≤ 200 * (ps.getD j []).length) → tl ws ≤ 200 * ps.flatten.length := by
        intro ws
        induction ws with
        | nil => intro ps h _; simp [tl]
        | cons w ws ihw =>
          intro ps hl hall
          cases ps with
          | nil => simp at hl
          | cons p ps =>
            have h0 : w.1.length ≤ 200 * p.length := hall 0 (by simp)
            have h1 := ihw ps (by simpa using hl) (fun j hj => hall (j + 1) (by rw [List.length_cons]; omega))
            simp only [tl, List.map_cons, List.sum_cons, List.flatten_cons, List.length_append] at h1 ⊢
            omega
      have hsum := htl ws ps e1 (fun j hj => (all j hj).2)
      have hm8 : x.1 = 8 → 0 ≤ x.2.1 ∧ x.2.1 ≤ 8 := fun h8 => by
        obtain ⟨k, m, t⟩ := x
        simp only at h8
        subst h8
        have hr' : (0 : Int) ≤ nargs (8, m, t) := by rw [hx]; exact Int.natCast_nonneg _
        exact nargs_pow (t := t) hr'
      have hwl := wnode_len (k := x.1) (m := x.2.1) (t := x.2.2) (ws := ws) hx2.2 (by omega) (fun h8 => (itoa_small (hm8 h8).1 (hm8 h8).2).2)
      refine ⟨?_, by rw [hwe]; omega⟩
      rw [hwe]
      have hbl : ∀ v ∈ ws, Bl v.1 := fun v hv => by
        obtain ⟨j, hj, rfl⟩ := List.mem_iff_getElem.1 hv
        have := (all j (by omega)).1
        rw [List.getD_eq_getElem?_getD, List.getElem?_eq_getElem hj] at this
        exact this
      by_cases hk : x.1 = 8
      · exact wnode_bl hx2.1 hbl (itoa_small (hm8 hk).1 (hm8 hk).2).1
      · have : wnode x.1 x.2.1 x.2.2 ws = wnode x.1 0 x.2.2 ws := by
          unfold wnode
          rw [if_neg hk, if_neg hk]
        rw [this]
        exact wnode_bl hx2.1 hbl (itoa_small (Int.le_refl 0) (by decide)).1
  rw [e]
  have := key l.length l w (Nat.le_refl _) h hnd hw
  exact ⟨this.1, by omega⟩
theorem k_FnTermBack : Ev fun n => ∀ b c : List Int, (∀ x ∈ b, 0 ≤ x ∧ x < 256) → (∀ x ∈ c, 0 ≤ x ∧ x < 256) → c_w_FnTermBack ((C B0).run n) b c = some (true, ()) := by
  refine (k_good.and (k_iTermText.and (k_sTermText.and (k_ptShort.and (k_iTermRead.and (k_sTermRead.and (k_ptTerm.and (k_draw.and k_ptComment)))))))).succ fun n hn ⟨kg, ki, ks, kh, kr, kq, kt, kd, kc⟩ b c hb hc => ?_
  rw [run_succ, e_w_FnTermBack]
  unfold p_w_FnTermBack
  rw [len_eq, len_eq, ilt_iff, ilt_iff]
  rw [jb_of (x := bif decide ((1048576 : Int) < b.length) then _ else _) (p := ((decide ((1048576 : Int) < b.length ∨ (1048576 : Int) < c.length), (b, (c, (false, ())))), ())) (by
    by_cases h : (1048576 : Int) < b.length
    · rw [decide_eq_true h, decide_eq_true (show (1048576 : Int) < b.length ∨ (1048576 : Int) < c.length from .inl h)]; rfl
    · rw [decide_eq_false h, cond_false, decide_eq_decide.2 (show (1048576 : Int) < c.length ↔ ((1048576 : Int) < b.length ∨ (1048576 : Int) < c.length) by omega)])]
  dsimp only
  cases decide ((1048576 : Int) < b.length ∨ (1048576 : Int) < c.length) with
  | true => rfl
  | false =>
    rw [cond_false]
    obtain ⟨l, hl, hT, hnd, h100⟩ := kg b hb
    have hndw : NDw l := fun x hx => ⟨(hnd x hx).1, Nat.le_trans (hnd x hx).2 (by decide)⟩
    obtain ⟨hbl, hlen⟩ := txt_len hT h100 hndw
    rw [hl]
    simp only [Option.bind_some]
    rw [ki l hndw (by omega), ks l hnd (by omega)]
    simp only [Option.bind_some]
    have hne := termTxt_ne (trm_ok hT h100)
    rw [bs_seq hbl hbl, decide_eq_true rfl, Bool.not_true, cond_false, bs_seq hbl (by unfold Bl; decide), decide_eq_false hne]
    simp only [jb_inr]
    rw [cond_false]
    obtain ⟨r, hr, hrs⟩ := kh (termTxt l) hbl (by omega)
    rw [jb_of (p := ((c, (false, ())), ())) (by
      rw [hr]
      simp only [Option.bind_some]
      cases r with
      | false => rfl
      | true =>
        rw [cond_true, kr (termTxt l) hbl (by omega), text_back hT h100 (hrs rfl (text_clean hT h100))]
        simp only [Option.bind_some]
        rw [show ((0 : Int) != 0) = false from rfl, cond_false, kt _ (by rw [List.length_map]; omega)]
        rfl)]
    dsimp only
    obtain ⟨s, hs, tl', rfl, htb, htl⟩ := kd c hc
    rw [hs]
    simp only [Option.bind_some]
    rw [kr tl' htb (by omega), kq tl' htb (by omega)]
    simp only [Option.bind_some]
    rw [show ((termRead tl').2 != (termRead tl').2) = false by simp, cond_false, show ((termRead tl').2 != 0) = !((termRead tl').2 == 0) from rfl, bq]
    by_cases h0 : (termRead tl').2 = 0
    · rw [decide_eq_true h0, Bool.not_true, cond_false]
      obtain ⟨nd, hnd'⟩ : ∃ nd, termRead tl' = (nd, 0) := ⟨(termRead tl').1, by rw [← h0]⟩
      obtain ⟨g1, g2, g3⟩ := read_ok htb hnd'
      have g2w : NDw nd := fun x hx => ⟨(g2 x hx).1, (g2 x hx).2⟩
      obtain ⟨hbl2, hlen2⟩ := txt_len g1 g3 g2w
      rw [hnd']
      simp only
      rw [ki nd g2w (by omega)]
      simp only [Option.bind_some]
      obtain ⟨r2, hr2, hrs2⟩ := kh (termTxt nd) hbl2 (by omega)
      rw [jb_of (p := ((bs tl', ((), (false, ()))), ((nd.map encN, ()), ()))) (by
        rw [hr2]
        simp only [Option.bind_some]
        cases r2 with
        | false => rfl
        | true =>
          rw [cond_true, kr (termTxt nd) hbl2 (by omega), text_back g1 g3 (hrs2 rfl (text_clean g1 g3))]
          simp only [Option.bind_some]
          rw [show ((0 : Int) != 0) = false from rfl, cond_false, kt _ (by rw [List.length_map]; omega)]
          rfl)]
      dsimp only
      rw [kc tl' htb (by omega)]
      simp only [Option.bind_some]
      by_cases h35 : 35 ∈ tl'
      · rw [decide_eq_true h35]
        rfl
      · rw [decide_eq_false h35, cond_false]
        have hb3 : Bl (([40] ++ tl') ++ [41]) := bl_app.2 ⟨bl_app.2 ⟨by unfold Bl; decide, htb⟩, by unfold Bl; decide⟩
        have hsk1 : sok (bs [40]) (bs tl') = true := by rw [bs_sok]; exact decide_eq_true (by simp only [List.length_singleton]; omega)
        have hsk2 : sok (bs ([40] ++ tl')) (bs [41]) = true := by rw [bs_sok]; exact decide_eq_true (by simp only [List.length_append, List.length_singleton]; omega)
        rw [ok_of hsk1, bs_app, ok_of hsk2, bs_app]
        obtain ⟨r3, hr3, hrs3⟩ := kh (([40] ++ tl') ++ [41]) hb3 (by simp only [List.length_append, List.length_singleton]; omega)
        rw [hr3]
        simp only [Option.bind_some, jb_inr]
        cases r3 with
        | false => rfl
        | true =>
          rw [Bool.not_true, cond_false, ok_of hsk1, bs_app, ok_of hsk2, bs_app, kr _ hb3 (by simp only [List.length_append, List.length_singleton]; omega)]
          have h10 : 10 ∉ ([40] ++ tl') ++ [41] := fun h => by
            have := read_clean hnd' h35
            simp only [List.mem_append, List.mem_cons, List.not_mem_nil, or_false] at h
            rcases h with (h | h) | h
            · cases h
            · exact this h
            · cases h
          rw [bracket_back htb hnd' h35 (hrs3 rfl h10)]
          simp only [Option.bind_some]
          rw [show ((0 : Int) == 0) = true from rfl, cond_true, kt _ (by rw [List.length_map]; omega)]
          rfl
    · rw [decide_eq_false h0, Bool.not_false, cond_true, read_none h0]
      rfl
end Go.Px.Seat

/- Words, over any base. Seat T. -/
namespace Go.Px.Seat
open Go Pm Pt
set_option linter.unusedVariables false
variable {B : Run}
theorem run_succB (n : Nat) : (C B).run (n + 1) = (C B).step ((C B).run n) n := rfl
theorem k_isLetterB : Ev fun n => ∀ c : Nat, c_i_isLetter ((C B).run n) (c : Int) = some (letter c, ()) := by
  refine Ev.triv.succ fun n hn _ c => ?_
  rw [run_succB, e_i_isLetter]
  refine two_if.trans ?_
  unfold letter
  rw [ile_iff, ile_iff, decide_eq_decide.2 (show (97 : Int) ≤ c ↔ 97 ≤ c by omega), decide_eq_decide.2 (show (c : Int) ≤ 122 ↔ c ≤ 122 by omega)]
theorem k_isFigureB : Ev fun n => ∀ c : Nat, c_i_isFigure ((C B).run n) (c : Int) = some (digit c, ()) := by
  refine Ev.triv.succ fun n hn _ c => ?_
  rw [run_succB, e_i_isFigure]
  refine two_if.trans ?_
  unfold digit
  rw [ile_iff, ile_iff, decide_eq_decide.2 (show (48 : Int) ≤ c ↔ 48 ≤ c by omega), decide_eq_decide.2 (show (c : Int) ≤ 57 ↔ c ≤ 57 by omega)]
theorem k_inB : Ev fun n => ∀ x a b : Int, c_i_in ((C B).run n) x a b = some (decide (a ≤ x) && decide (x ≤ b), ()) := by
  refine Ev.triv.succ fun n hn _ x a b => ?_
  rw [run_succB, e_i_in]
  exact two_if
theorem k_wordOkB : Ev fun n => ∀ l : List Nat, Bl l → l.length ≤ 4000000 → c_i_wordOk ((C B).run n) (bs l) = some (plain l, ()) := by
  refine ((k_isLetterB (B := B)).and ((k_isFigureB (B := B)).and (k_inB (B := B)))).succ fun n hn ⟨kl, kf, ki⟩ l hl hb => ?_
  rw [run_succB, e_i_wordOk]
  unfold p_i_wordOk
  rw [bs_len]
  refine iter_const (fun p => ∃ k : Nat, p = (((k : Int), ((l.length : Int), (bs l, (false, ())))), ()) ∧ k ≤ l.length ∧ ∀ j, j < k → lod (l.getD j 0) = true) (fun p => 4000000 - p.1.1.toNat) _ ?_ n _ (by simp only; omega) ⟨0, rfl, Nat.zero_le _, fun j hj => absurd hj (Nat.not_lt_zero _)⟩
  rintro rec p ⟨k, rfl, hk, hd⟩ ih
  simp only
  rw [ilt_iff]
  by_cases h1 : k < l.length
  · rw [decide_eq_true (show (k : Int) < l.length by omega), cond_true, bs_len, ok_of (inB_true (by omega) (by omega)), bs_bt hl, kl]
    rw [jb_of (p := ((!(lod (l.getD k 0)), ((k : Int), ((l.length : Int), (bs l, (false, ()))))), ())) (by
      show (bif !(letter (l.getD k 0)) then _ else _) = _
      unfold lod
      cases letter (l.getD k 0) with
      | true => rfl
      | false =>
        simp only [Bool.not_false, cond_true, Bool.false_or]
        rw [ok_of (inB_true (by omega) (by omega)), kf]
        rfl)]
    simp only
    cases hg : lod (l.getD k 0) with
    | true =>
      show rec (((iadd .i64 (k : Int) 1), ((l.length : Int), (bs l, (false, ())))), ()) = _
      rw [iadd_eq (by omega) (by omega)]
      refine ih _ ⟨k + 1, by simp, by omega, fun j hj => ?_⟩ (by simp only; omega)
      by_cases hjk : j = k
      · rw [hjk]; exact hg
      · exact hd j (by omega)
    | false =>
      have : plain l = false := by
        unfold plain
        rw [show (l.all fun c => letter c || digit c) = false from all_bad (p := lod) h1 hg]
        simp
      rw [this]; rfl
  · rw [decide_eq_false (show ¬ (k : Int) < l.length by omega), cond_false]
    have ha : (l.all fun c => letter c || digit c) = true := all_get (p := lod) (fun j hj => hd j (by omega))
    unfold plain
    rw [ha, bs_len, ki, decide_eq_decide.2 (show (1 : Int) ≤ l.length ↔ 1 ≤ l.length by omega), decide_eq_decide.2 (show (l.length : Int) ≤ 8 ↔ l.length ≤ 8 by omega)]
    simp only [Option.bind_some, Bool.and_true]
    by_cases h2 : 1 ≤ l.length
    · rw [decide_eq_true h2, Bool.true_and]
      by_cases h3 : l.length ≤ 8
      · have hb0 : bt (bs l) 0 = ((l.getD 0 0 : Nat) : Int) := bs_bt hl 0
        rw [decide_eq_true h3, cond_true, ok_of (inB_true (by omega) (by omega)), hb0, kl]
        rfl
      · rw [decide_eq_false h3]; rfl
    · rw [decide_eq_false h2]; rfl
end Go.Px.Seat
