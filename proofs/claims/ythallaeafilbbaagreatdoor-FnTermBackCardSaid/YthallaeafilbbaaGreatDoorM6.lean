/- Own texts, part M6: PuJ PuK PuL PuM PuO. -/
import Derived.Test.YthallaeafilbbaaGreatDoorM5
import Derived.Test.YthallaeafilbbaaGreatDoorM2
import Derived.Test.YthallaeafilbbaaGreatDoorM1
import Derived.Test.YthallaeafilbbaaGreatDoorM4
set_option linter.unusedVariables false

/- The reference's reader of terms: atoms; all of it. Seat T. -/
namespace Go.Px.Seat
open Go Pm Pt
set_option linter.unusedVariables false
theorem callR_eq (ts : List TE) (a : Int) (nd : List Nd) (m : Bool) (name : List Nat) (c : Nat) (L : List Tok) :
    (∃ s, callP name c (L, nd, m) = some s ∧ s.1 = L ∧ callR ts a nd m name c = (ts, (a, (s.2.1.map encN, (false, (s.2.2, ())))))) ∨ (callP name c (L, nd, m) = none ∧ callR ts a nd m name c = (ts, (a, (nd.map encN, (true, (m, ())))))) := by
  unfold callR callP
  by_cases hw : name ∉ words
  · rw [if_pos hw, if_pos hw]
    exact .inl ⟨_, rfl, rfl, rfl⟩
  rw [if_neg hw, if_neg hw]
  by_cases h1 : name = [115, 113, 114, 116] ∧ c = 1
  · rw [if_pos h1, if_pos h1]
    exact .inl ⟨_, rfl, rfl, rfl⟩
  rw [if_neg h1, if_neg h1]
  by_cases h2 : name = [97, 98, 115] ∧ c = 1
  · rw [if_pos h2, if_pos h2]
    exact .inl ⟨_, rfl, rfl, rfl⟩
  rw [if_neg h2, if_neg h2]
  by_cases h3 : name = [109, 105, 110] ∧ c = 2
  · rw [if_pos h3, if_pos h3]
    exact .inl ⟨_, rfl, rfl, rfl⟩
  rw [if_neg h3, if_neg h3]
  by_cases h4 : name = [109, 97, 120] ∧ c = 2
  · rw [if_pos h4, if_pos h4]
    exact .inl ⟨_, rfl, rfl, rfl⟩
  rw [if_neg h4, if_neg h4]
  exact .inr ⟨rfl, rfl⟩
abbrev PC : Type := ((Unit × (Int × (Unit × Unit)))) × ((((List ((Int × (ByteArray × Unit)))) × (Int × (Unit × (Bool × (Bool × Unit)))))) × (((Int × (ByteArray × Unit))) × ((List ((Int × (Int × (ByteArray × Unit))))) × Unit)))
theorem k_satom {S : Rdr} (hS : Takes S) {k : Nat} (h : RdsS c_s_l12Reader_sum S k) : RdsS c_s_l12Reader_atom (atomP S) (k + 1) := by
  refine (h.and (k_ssign.and (k_swant.and (k_sput.and (k_scall.and k_l11Word))))).succ fun n hn ⟨hc, ksg, kwt, kpt, kcl, kw⟩ T i nd m hT hi hk hl => ?_
  have hTl := hT.2
  rw [run_succ, e_s_l12Reader_atom]
  unfold p_s_l12Reader_atom
  rw [ksg T i _ _ _ [40] hT hi (by unfold Bl; decide)]
  simp only [Option.bind_some]
  cases hd : T.drop i with
  | nil =>
    have hTi : T.length ≤ i := by
      have := congrArg List.length hd
      simp only [List.length_drop, List.length_nil] at this
      omega
    have e : sgnAt T i [40] = false := by unfold sgnAt; rw [hd]; rfl
    rw [e]
    simp only [cond_false, Nat.add_zero]
    rw [len_eq, List.length_map, ile_iff, decide_eq_true (by omega), cond_true]
    exact tot_some ⟨i, _, _, rfl, hi, by simp only [List.length_nil]; omega, by simp only [List.length_nil, List.length_map]; omega⟩
  | cons t r =>
    obtain ⟨hil, hr, htg, htm⟩ := drop_tok hd
    have htt := hT.1 t htm
    have hrl : r.length = T.length - (i + 1) := by rw [hr, List.length_drop]
    have e : sgnAt T i [40] = decide (t = (3, [40])) := by unfold sgnAt; rw [hd]; rfl
    rw [e]
    -- a state that is bad
    have bad : ∀ (j : Nat) (n1 : List Tn) (b : Bool), i ≤ j → j ≤ T.length → T.length - j + n1.length ≤ T.length - i + nd.length → ResS T none (t :: r, nd, m) (encS T j n1 true b) := fun j n1 b h1 h2 h3 =>
      ⟨j, n1, b, rfl, h2, by simp only [List.length_cons]; omega, by simp only [List.length_cons]; omega⟩
    by_cases h40 : t = (3, [40])
    · rw [decide_eq_true h40]
      simp only [cond_true]
      have ea : atomP S (t :: r, nd, m) = (S (r, nd, m)).bind closeP := by
        unfold atomP
        dsimp only
        rw [if_pos h40]
      rw [ea]
      have hh := hc T (i + 1) nd m hT hil (by omega) (by omega)
      rw [← hr] at hh
      refine tot_bind _ hh fun q hq => ?_
      cases hfs : S (r, nd, m) with
      | none =>
        rw [hfs] at hq
        obtain ⟨j, n1, m1, rfl, h1, h2, h3⟩ := hq
        simp only at h2 h3
        dsimp only [encS]
        rw [kwt T j _ _ _ [41] hT h1 (by unfold Bl; decide)]
        simp only [Option.bind_some, Bool.true_or]
        exact tot_some (bad _ _ _ (by omega) (sgn_le [41] h1) (by omega))
      | some s' =>
        rw [hfs] at hq
        obtain ⟨j, h1, h2, rfl⟩ := hq
        have hto := hS _ _ hfs
        have hle := hto.len
        have hnd := hto.nodes
        obtain ⟨t', n', m'⟩ := s'
        simp only at h2 hle hnd
        subst h2
        simp only [List.length_drop] at hle hnd
        dsimp only [encS]
        rw [kwt T j _ _ _ [41] hT h1 (by unfold Bl; decide)]
        simp only [Option.bind_some, Bool.false_or]
        cases hd' : T.drop j with
        | nil =>
          have e : sgnAt T j [41] = false := by unfold sgnAt; rw [hd']; rfl
          rw [e]
          simp only [cond_false, Nat.add_zero, Bool.not_false]
          exact tot_some (bad j _ _ (by omega) h1 (by rw [List.length_map]; omega))
        | cons u r' =>
          obtain ⟨hjl, hr', _, _⟩ := drop_tok hd'
          have e : sgnAt T j [41] = decide (u = (3, [41])) := by unfold sgnAt; rw [hd']; rfl
          rw [e]
          by_cases h41 : u = (3, [41])
          · have ec : closeP (u :: r', n', m') = some (r', n', m') := by
              unfold closeP
              dsimp only
              rw [if_pos h41]
            rw [decide_eq_true h41, ec]
            exact tot_some ⟨j + 1, hjl, hr', rfl⟩
          · have ec : closeP (u :: r', n', m') = none := by
              unfold closeP
              dsimp only
              rw [if_neg h41]
            rw [decide_eq_false h41, ec]
            simp only [cond_false, Nat.add_zero, Bool.not_false]
            exact tot_some (bad j _ _ (by omega) h1 (by rw [List.length_map]; omega))
    · rw [decide_eq_false h40]
      simp only [cond_false, Nat.add_zero]
      have hib : inB (i : Int) (T.length : Int) = true := inB_true (by omega) (by omega)
      rw [len_eq, List.length_map, ile_iff, decide_eq_false (by omega), cond_false, ok_of hib, enc_getD hil, htg]
      simp only [jb_inr]
      rw [show ((enc t).1 == 3) = decide (t.1 = 3) from by
        show ((t.1 : Int) == 3) = _
        rw [bq]
        exact decide_eq_decide.2 (by omega)]
      by_cases h3 : t.1 = 3
      · rw [decide_eq_true h3, cond_true]
        have ea : atomP S (t :: r, nd, m) = none := by
          unfold atomP
          dsimp only
          rw [if_neg h40, if_neg (by omega), if_neg (by omega)]
        rw [ea]
        exact tot_some (bad i _ _ (Nat.le_refl _) hi (by rw [List.length_map]; omega))
      rw [decide_eq_false h3, cond_false, len_eq, List.length_map, ok_of hib, enc_getD hil, htg, iadd_eq (by omega) (by omega)]
      rw [show ((enc t).1 == 2) = decide (t.1 = 2) from by
        show ((t.1 : Int) == 2) = _
        rw [bq]
        exact decide_eq_decide.2 (by omega)]
      have ei : ((i : Int) + 1) = ((i + 1 : Nat) : Int) := by omega
      rw [ei]
      by_cases h2 : t.1 = 2
      · rw [decide_eq_true h2, cond_true, kpt _ _ _ _ _ _ _ _ (by rw [List.length_map]; omega)]
        have ea : atomP S (t :: r, nd, m) = some (put 1 0 t.2 (r, nd, m)) := by
          unfold atomP
          dsimp only
          rw [if_neg h40, if_pos h2]
        rw [ea]
        refine tot_some ⟨i + 1, hil, hr, ?_⟩
        simp only [encS, put, List.map_append, List.map_cons, List.map_nil, encN]
        rfl
      rw [decide_eq_false h2, cond_false, ksg T (i + 1) _ _ _ [40] hT hil (by unfold Bl; decide)]
      simp only [Option.bind_some]
      have h1 : t.1 = 1 := by
        have := htt.2.1
        omega
      have hbl : Bl t.2 := htt.1
      rw [show (enc t).2.1 = bs t.2 from rfl]
      have name : Tot ((c_s_l11Word ((C B0).run n) (bs t.2)).bind fun (r89_1, _) =>
          bif r89_1 then
            some (T.map enc, (((i + 1 : Nat) : Int), (nd.map encN, (true, (m, ())))))
          else
          (c_s_l12Reader_put ((C B0).run n) (T.map enc) ((i + 1 : Nat) : Int) (nd.map encN) false m 2 0 (bs t.2)).bind fun (r132_2_1, (r132_2b, (r132_2c, (r132_2d, (r132_2e, _))))) =>
          some (r132_2_1, (r132_2b, (r132_2c, (r132_2d, (r132_2e, ())))))) (ResS T (nameP t.2 (r, nd, m)) (t :: r, nd, m)) := by
        rw [kw t.2 hbl]
        simp only [Option.bind_some]
        unfold nameP
        by_cases hw : t.2 ∈ words
        · rw [decide_eq_true hw, cond_true, if_pos hw]
          exact tot_some (bad (i + 1) _ _ (by omega) hil (by rw [List.length_map]; omega))
        · rw [decide_eq_false hw, cond_false, if_neg hw, kpt _ _ _ _ _ _ _ _ (by rw [List.length_map]; omega)]
          refine tot_some ⟨i + 1, hil, hr, ?_⟩
          simp only [encS, put, List.map_append, List.map_cons, List.map_nil, encN]
      have en : (∀ u r', r = u :: r' → u ≠ (3, [40])) → atomP S (t :: r, nd, m) = nameP t.2 (r, nd, m) := fun h => by
        unfold atomP
        dsimp only
        rw [if_neg h40, if_neg h2, if_pos h1]
        cases r with
        | nil => rfl
        | cons u r' => dsimp only; rw [if_neg (h u r' rfl)]
      cases hrr : r with
      | nil =>
        have e : sgnAt T (i + 1) [40] = false := by unfold sgnAt; rw [← hr, hrr]; rfl
        rw [e]
        simp only [cond_false, Nat.add_zero, Bool.not_false, cond_true]
        rw [← hrr, en (fun u r' h => by rw [hrr] at h; cases h)]
        exact name
      | cons u r' =>
        have hd1 : T.drop (i + 1) = u :: r' := by rw [← hr, hrr]
        obtain ⟨hil1, hr', _, _⟩ := drop_tok hd1
        have e : sgnAt T (i + 1) [40] = decide (u = (3, [40])) := by unfold sgnAt; rw [hd1]; rfl
        rw [e]
        by_cases hu : u = (3, [40])
        · rw [decide_eq_true hu]
          simp only [cond_true, Bool.not_true, cond_false]
          have ea : atomP S (t :: u :: r', nd, m) = ((S (r', nd, m)).bind fun s' => argsP S s' 1).bind fun q => callP t.2 q.2 q.1 := by
            unfold atomP
            dsimp only
            rw [if_neg h40, if_neg h2, if_pos h1, if_pos hu]
          rw [ea, ← hrr]
          obtain ⟨F, hF0⟩ : ∃ F, F = ((S (r', nd, m)).bind fun s' => argsP S s' 1).bind fun q => callP t.2 q.2 q.1 := ⟨_, rfl⟩
          rw [← hF0]
          have hh := hc T (i + 1 + 1) nd m hT hil1 (by omega) (by omega)
          rw [← hr'] at hh
          refine tot_bind _ hh fun q hq => ?_
          have hr'l : r'.length = T.length - (i + 2) := by rw [hr', List.length_drop]
          have hinit : (∃ (j : Nat) (n1 : List Nd) (m1 : Bool), q = encS T j (n1.map encN) false m1 ∧ F = ((argsP S (T.drop j, n1, m1) 1).bind fun q => callP t.2 q.2 q.1) ∧ i + 2 ≤ j ∧ j ≤ T.length ∧ T.length - j + n1.length ≤ T.length - i + nd.length) ∨
              (∃ (j : Nat) (n1 : List Tn) (m1 : Bool), q = encS T j n1 true m1 ∧ F = none ∧ i ≤ j ∧ j ≤ T.length ∧ T.length - j + n1.length ≤ T.length - i + nd.length) := by
            cases hfs : S (r', nd, m) with
            | none =>
              rw [hfs] at hq hF0
              obtain ⟨j, n1, m1, e, h1, h2, h3⟩ := hq
              simp only at h2 h3
              exact .inr ⟨j, n1, m1, e, hF0, by omega, h1, by omega⟩
            | some s' =>
              rw [hfs] at hq hF0
              obtain ⟨j, h1, h2, e⟩ := hq
              have hto := hS _ _ hfs
              have hle := hto.len
              have hnd := hto.nodes
              obtain ⟨t', n', m'⟩ := s'
              simp only at h2 hle hnd
              subst h2
              simp only [List.length_drop] at hle hnd
              exact .inl ⟨j, n', m', e, hF0, by omega, h1, by omega⟩
          refine tot_iter (fun q : PC => (∃ (j : Nat) (n1 : List Nd) (m1 : Bool) (c : Nat), q = (((), ((c : Int), ((), ()))), ((T.map enc, ((j : Int), ((), (false, (m1, ()))))), (((enc t).1, (bs t.2, ())), (n1.map encN, ())))) ∧ F = ((argsP S (T.drop j, n1, m1) c).bind fun q => callP t.2 q.2 q.1) ∧ i + 2 ≤ j ∧ c ≤ j ∧ j ≤ T.length ∧ T.length - j + n1.length ≤ T.length - i + nd.length) ∨
              (∃ (j : Nat) (n1 : List Tn) (m1 : Bool) (c : Nat), q = (((), ((c : Int), ((), ()))), ((T.map enc, ((j : Int), ((), (true, (m1, ()))))), (((enc t).1, (bs t.2, ())), (n1, ())))) ∧ F = none ∧ i ≤ j ∧ j ≤ T.length ∧ T.length - j + n1.length ≤ T.length - i + nd.length)) (fun q => T.length - q.2.1.2.1.toNat) (by
                have : T.length - (q.2.1).toNat ≤ 100000 := by omega
                exact Nat.lt_of_le_of_lt this (by omega)) (by
                rcases hinit with ⟨j, n1, m1, rfl, g1, g2, g3, g4⟩ | ⟨j, n1, m1, rfl, g1, g2, g3, g4⟩
                · exact .inl ⟨j, n1, m1, 1, rfl, g1, g2, by omega, g3, g4⟩
                · exact .inr ⟨j, n1, m1, 1, rfl, g1, g2, g3, g4⟩) ?_
          rintro rec q (⟨j, n1, m1, c, rfl, hF, g1, g2, g3, g4⟩ | ⟨j, n1, m1, c, rfl, hF, g1, g3, g4⟩) ih
          · dsimp only
            rw [Bool.not_false, cond_true, ksg T j _ _ _ [44] hT g3 (by unfold Bl; decide)]
            simp only [Option.bind_some, jb_inr]
            -- the end of the brackets
            have fin : sgnAt T j [44] = false → Tot ((c_s_l12Reader_want ((C B0).run n) (T.map enc) (j : Int) (n1.map encN) false m1 (bs [41])).bind fun (r214_2_1, (r214_2b, (r214_2c, (r214_2d, (r214_2e, _))))) =>
                bif r214_2d then
                  some (r214_2_1, (r214_2b, (r214_2c, (r214_2d, (r214_2e, ())))))
                else
                (c_s_l12Reader_call ((C B0).run n) r214_2_1 r214_2b r214_2c r214_2d r214_2e (bs t.2) (c : Int)).bind fun (r215_1, (r215b, (r215c, (r215d, (r215e, _))))) =>
                some (r215_1, (r215b, (r215c, (r215d, (r215e, ())))))) (ResS T F (t :: r, nd, m)) := by
              intro hno
              rw [kwt T j _ _ _ [41] hT g3 (by unfold Bl; decide)]
              simp only [Option.bind_some, Bool.false_or]
              cases hd' : T.drop j with
              | nil =>
                have e : sgnAt T j [41] = false := by unfold sgnAt; rw [hd']; rfl
                rw [e]
                simp only [cond_false, Nat.add_zero, Bool.not_false, cond_true]
                rw [hF, hd', argsP_nil]
                exact tot_some (bad j _ _ (by omega) g3 (by rw [List.length_map]; omega))
              | cons v r2 =>
                obtain ⟨hjl, hr2, _, _⟩ := drop_tok hd'
                have e : sgnAt T j [41] = decide (v = (3, [41])) := by unfold sgnAt; rw [hd']; rfl
                have e44 : ¬ v = (3, [44]) := by
                  unfold sgnAt at hno
                  rw [hd'] at hno
                  exact of_decide_eq_false hno
                rw [e]
                by_cases h41 : v = (3, [41])
                · subst h41
                  rw [decide_eq_true rfl]
                  simp only [cond_true, Bool.not_true, cond_false]
                  rw [kcl _ _ _ _ _ _ hbl (by omega) (by omega), hF, hd', argsP_end]
                  simp only [Option.bind_some]
                  rcases callR_eq (T.map enc) ((j + 1 : Nat) : Int) n1 m1 t.2 c r2 with ⟨s, f1, f2, f3⟩ | ⟨f1, f3⟩
                  · rw [f1, f3]
                    exact tot_some ⟨j + 1, hjl, by rw [f2, hr2], rfl⟩
                  · rw [f1, f3]
                    exact tot_some (bad (j + 1) _ _ (by omega) hjl (by rw [List.length_map]; omega))
                · rw [decide_eq_false h41]
                  simp only [cond_false, Nat.add_zero, Bool.not_false, cond_true]
                  rw [hF, hd', argsP_bad e44 h41]
                  exact tot_some (bad j _ _ (by omega) g3 (by rw [List.length_map]; omega))
            cases hs : sgnAt T j [44] with
            | false =>
              simp only [cond_false, Nat.add_zero]
              exact fin hs
            | true =>
              simp only [cond_true]
              cases hd' : T.drop j with
              | nil => unfold sgnAt at hs; rw [hd'] at hs; cases hs
              | cons v r2 =>
                obtain ⟨hjl, hr2, _, _⟩ := drop_tok hd'
                have hv : v = (3, [44]) := by
                  unfold sgnAt at hs
                  rw [hd'] at hs
                  exact of_decide_eq_true hs
                subst hv
                rw [hd', argsP_on hS.le] at hF
                have hh := hc T (j + 1) n1 m1 hT hjl (by omega) (by omega)
                rw [← hr2] at hh
                refine tot_bind _ hh fun q hq => ?_
                rw [iadd_eq (by omega) (by omega), show ((c : Int) + 1) = ((c + 1 : Nat) : Int) by omega]
                cases hfs : S (r2, n1, m1) with
                | none =>
                  rw [hfs] at hq hF
                  obtain ⟨j', n2, m2, rfl, f1, f2, f3⟩ := hq
                  simp only [hr2, List.length_drop] at f2 f3
                  exact ih _ (.inr ⟨j', n2, m2, c + 1, rfl, hF, by omega, f1, by omega⟩) (by simp only [encS]; omega)
                | some s' =>
                  rw [hfs] at hq hF
                  obtain ⟨j', f1, f2, rfl⟩ := hq
                  have hto := hS _ _ hfs
                  have hle := hto.len
                  have hnd := hto.nodes
                  obtain ⟨t', n', m'⟩ := s'
                  simp only at f2 hle hnd
                  subst f2
                  simp only [hr2, List.length_drop] at hle hnd
                  exact ih _ (.inl ⟨j', n', m', c + 1, rfl, hF, by omega, by omega, f1, by omega⟩) (by simp only [encS]; omega)
          · dsimp only
            rw [Bool.not_true, cond_false]
            simp only [jb_inr]
            rw [cond_false, kwt T j _ _ _ [41] hT g3 (by unfold Bl; decide)]
            simp only [Option.bind_some, Bool.true_or, cond_true]
            rw [hF]
            exact tot_some (bad _ _ _ (by omega) (sgn_le [41] g3) (by omega))
        · rw [decide_eq_false hu]
          simp only [cond_false, Nat.add_zero, Bool.not_false, cond_true]
          rw [← hrr, en (fun u' r'' h => by
            rw [hrr, List.cons.injEq] at h
            exact h.1 ▸ hu)]
          exact name
/-- the reference reads sums as they are told -/
theorem k_ssumP : ∀ k, RdsS c_s_l12Reader_sum (sumP k) k
  | 0 => rdsS_zero _ _
  | k + 1 => by
    have h0 := k_ssumP k
    have h1 := k_satom (sum_took k) h0
    have h2 := k_ssigned (atom_took (sum_took k)) h1
    exact k_ssum (sum_took k) (k_sproduct (sum_took k) h2)
end Go.Px.Seat

/- Both sides' TermRead. Seat T. -/
namespace Pt
open Go.Px Go.Px.Seat
theorem sgn_bl {l : List Nat} (hl : Bl l) : Bl (sgn l) := by
  cases l with
  | nil => exact hl
  | cons c r =>
    rw [sgn_cons]
    split
    · intro x hx
      rcases List.mem_cons.1 hx with rfl | hx
      · exact hl _ (List.mem_cons_self ..)
      · rw [List.mem_singleton.1 hx]; omega
    · split
      · intro x hx
        rw [List.mem_singleton.1 hx]
        exact hl _ (List.mem_cons_self ..)
      · intro x hx
        cases hx
theorem one_facts {l : List Nat} {t : Tok} (h : one l = some t) (hl : Bl l) : Bl t.2 ∧ (t.1 = 1 ∨ t.1 = 2 ∨ t.1 = 3) ∧ (t.1 = 1 → plain t.2 = true) := by
  unfold one at h
  simp only at h
  split at h
  · split at h
    · cases h
      exact ⟨bl_take hl _, .inr (.inl rfl), fun h => by cases h⟩
    · split at h
      · rename_i hp
        cases h
        exact ⟨bl_take hl _, .inl rfl, fun _ => hp⟩
      · cases h
  · split at h
    · cases h
    · cases h
      exact ⟨sgn_bl hl, .inr (.inr rfl), fun h => by cases h⟩
theorem toks_facts : ∀ (f : Nat) (l : List Nat) (ts : List Tok), Bl l → toks f l = some ts → ∀ t ∈ ts, Bl t.2 ∧ (t.1 = 1 ∨ t.1 = 2 ∨ t.1 = 3) ∧ (t.1 = 1 → plain t.2 = true)
  | 0, _, _, _, h, t, ht => by cases h; cases ht
  | f + 1, [], _, _, h, t, ht => by cases h; cases ht
  | f + 1, c :: r, ts, hl, h, t, ht => by
    rw [toks] at h
    split at h
    · cases h; cases ht
    · split at h
      · exact toks_facts f r ts (fun x hx => hl x (List.mem_cons_of_mem _ hx)) h t ht
      · cases ho : one (c :: r) with
        | none => rw [ho] at h; cases h
        | some t' =>
          rw [ho] at h
          obtain ⟨ts', h1, rfl⟩ := Option.map_eq_some_iff.1 h
          rcases List.mem_cons.1 ht with rfl | ht
          · exact one_facts ho hl
          · exact toks_facts f _ ts' (bl_drop hl _) h1 t ht
theorem toks_ok {f : Nat} {l : List Nat} {ts : List Tok} (hl : Bl l) (h : toks f l = some ts) (hb : ts.any badTok = false) : ∀ t ∈ ts, TokOk t := by
  intro t ht
  obtain ⟨h1, h2, h3⟩ := toks_facts f l ts hl h t ht
  refine ⟨h1, h2, h3, fun hk => ?_⟩
  have := List.any_eq_false.1 hb t ht
  unfold badTok at this
  rw [decide_eq_true hk, Bool.true_and] at this
  unfold numOk
  cases hq : (num t.2 && decide (t.2.length ≤ 60)) with
  | true => rfl
  | false => rw [hq] at this; exact absurd rfl this
/-- the term that tokens are, or a code -/
def readT (ts : List Tok) : List Nd × Int := match sumP 1000 (ts, [], false) with
  | none => ([], 4)
  | some (r, nd, m) => if r ≠ [] then ([], 4) else if m = true ∨ 100 < nd.length then ([], 5) else (nd, 0)
/-- the term that a text is, or a code -/
def termRead (l : List Nat) : List Nd × Int := if 1000 < l.length then ([], 1) else match toks l.length l with
  | none => ([], 2)
  | some ts => if ts.any badTok = true then ([], 3) else if 300 < ts.length then ([], 5) else readT ts
theorem readT_ok {ts : List Tok} {nd : List Nd} (ht : ∀ t ∈ ts, TokOk t) (h : readT ts = (nd, 0)) : sumP 1000 (ts, [], false) = some ([], nd, false) ∧ Trm nd ∧ NDs nd ∧ nd.length ≤ 100 := by
  unfold readT at h
  cases hs : sumP 1000 (ts, [], false) with
  | none => rw [hs] at h; simp at h
  | some s =>
    obtain ⟨r, nd', m⟩ := s
    rw [hs] at h
    simp only at h
    split at h
    · simp at h
    · rename_i hr
      split at h
      · simp at h
      · rename_i hm
        simp only [Prod.mk.injEq, and_true] at h
        subst h
        have hm1 : m = false := by
          cases m with
          | false => rfl
          | true => exact absurd (.inl rfl) hm
        have hr1 : r = [] := by
          by_cases h : r = []
          · exact h
          · exact absurd h hr
        subst hm1
        subst hr1
        obtain ⟨_, h2⟩ := sum_took 1000 _ _ hs
        obtain ⟨_, ps, h3, h4, h5, h6⟩ := h2 ht rfl
        match ps, h3 with
        | [p], _ =>
          simp only [List.flatten_cons, List.flatten_nil, List.append_nil, List.nil_append] at h5 h6
          subst h6
          exact ⟨rfl, h4 _ (List.mem_singleton.2 rfl), h5, by
            rcases Nat.lt_or_ge 100 nd'.length with h | h
            · exact absurd (.inr h) hm
            · exact h⟩
end Pt
namespace Go.Px.Seat
open Go Pm Pt
set_option linter.unusedVariables false
theorem k_iClone : Ev fun n => ∀ l : List Tn, l ≠ [] → l.length ≤ 1000000 → c_i_clone_impl_TermNode ((C B0).run n) l = some (l, ()) := by
  have hc : Ev fun n => ∀ l : List Tn, c_slices_Clip_impl_TermNode_impl_TermNode ((C B0).run n) l = some (l, ()) := by
    refine Ev.triv.succ fun n hn _ l => ?_
    rw [run_succ, e_slices_Clip_impl_TermNode_impl_TermNode]
    unfold p_slices_Clip_impl_TermNode_impl_TermNode
    rw [len_eq, ok_of (by rw [sliceOk_true (by omega) (by omega) (by omega), ile_iff]; simp), Int.toNat_natCast, List.take_of_length_le (Nat.le_refl _)]
    rfl
  refine (k_CloneT.and hc).succ fun n hn ⟨k1, k2⟩ l h1 h2 => ?_
  rw [run_succ, e_i_clone_impl_TermNode]
  unfold p_i_clone_impl_TermNode
  rw [k1 l h1 h2]
  simp only [Option.bind_some]
  rw [k2]
  rfl
theorem readT_shape {ts : List Tok} (ht : ∀ t ∈ ts, TokOk t) {r : List Tok} {nd : List Nd} {m : Bool} (h : sumP 1000 (ts, [], false) = some (r, nd, m)) : nd.length ≤ ts.length ∧ (m = false → nd ≠ []) := by
  have h0 := sum_took 1000 _ _ h
  have h1 := h0.nodes
  simp only [List.length_nil] at h1
  refine ⟨by omega, fun hm => ?_⟩
  obtain ⟨_, ps, h3, h4, h5, h6⟩ := h0.2 ht hm
  match ps, h3 with
  | [p], _ =>
    have := (h4 p (List.mem_singleton.2 rfl)).pos
    intro he
    simp only [List.flatten_cons, List.flatten_nil, List.append_nil, List.nil_append] at h6
    rw [he] at h6
    rw [← h6] at this
    exact absurd this (by decide)
theorem k_readTerm : Ev fun n => ∀ ts : List Tok, (∀ t ∈ ts, TokOk t) → ts.length < 1000 → c_i_readTerm ((C B0).run n) (ts.map enc) = some ((readT ts).1.map encN, ((readT ts).2, ())) := by
  refine ((k_sumP 1000).and k_iClone).succ fun n hn ⟨ks, kc⟩ ts ht hl => ?_
  rw [run_succ, e_i_readTerm]
  unfold p_i_readTerm readT
  obtain ⟨q, e1, hq⟩ := ks (ts, [], false) hl ht (by simp only [List.length_nil]; omega)
  simp only [List.map_nil] at e1
  rw [e1]
  simp only [Option.bind_some]
  cases hs : sumP 1000 (ts, [], false) with
  | none =>
    rw [hs] at hq
    obtain ⟨tq, nq, mq, rfl, _⟩ := hq
    rfl
  | some s =>
    obtain ⟨r, nd, m⟩ := s
    obtain ⟨g1, g2⟩ := readT_shape ht hs
    rw [hs] at hq
    have hq' : q = encR (r, nd, m) false := hq
    subst hq'
    dsimp only [encR]
    rw [cond_false, len_eq, List.length_map, ilt_iff]
    simp only [jb_inr]
    cases r with
    | cons t r =>
      rw [decide_eq_true (by rw [List.length_cons]; omega), cond_true, if_pos (by simp)]
      rfl
    | nil =>
      rw [decide_eq_false (by simp), cond_false, if_neg (by simp)]
      cases m with
      | true =>
        rw [cond_true, if_pos (.inl rfl)]
        rfl
      | false =>
        rw [cond_false, len_eq, List.length_map, ilt_iff]
        simp only [jb_inr]
        by_cases h : 100 < nd.length
        · rw [decide_eq_true (by omega), cond_true, if_pos (.inr h)]
          rfl
        · rw [decide_eq_false (by omega), cond_false, if_neg (by rintro (h' | h'); cases h'; exact h h'), kc _ (fun h => g2 rfl (List.map_eq_nil_iff.1 h)) (by rw [List.length_map]; omega)]
          rfl
theorem k_swhole : Ev fun n => ∀ ts : List Tok, (∀ t ∈ ts, TokOk t) → ts.length < 1000 → c_s_l12Whole ((C B0).run n) (ts.map enc) = some ((readT ts).1.map encN, ((readT ts).2, ())) := by
  refine (k_ssumP 1000).succ fun n hn ks ts ht hl => ?_
  rw [run_succ, e_s_l12Whole]
  unfold p_s_l12Whole readT
  obtain ⟨q, e1, hq⟩ := ks ts 0 [] false ⟨ht, by omega⟩ (Nat.zero_le _) (by omega) (by simp only [List.length_nil]; omega)
  rw [List.drop_zero] at hq
  simp only [List.map_nil] at e1
  rw [show ((0 : Int)) = ((0 : Nat) : Int) from rfl, e1]
  simp only [Option.bind_some]
  cases hs : sumP 1000 (ts, [], false) with
  | none =>
    rw [hs] at hq
    obtain ⟨a, nq, mq, rfl, _⟩ := hq
    rfl
  | some s =>
    obtain ⟨r, nd, m⟩ := s
    rw [hs] at hq
    obtain ⟨a, h1, h2, rfl⟩ := hq
    simp only at h2
    dsimp only [encS]
    rw [cond_false, len_eq, List.length_map, ilt_iff]
    simp only [jb_inr]
    by_cases hr : r = []
    · have : ts.length ≤ a := by
        have := congrArg List.length h2
        rw [hr, List.length_drop, List.length_nil] at this
        omega
      rw [decide_eq_false (by omega), cond_false, if_neg (fun h => h hr)]
      cases m with
      | true =>
        rw [cond_true, if_pos (.inl rfl)]
        rfl
      | false =>
        rw [cond_false, len_eq, List.length_map, ilt_iff]
        simp only [jb_inr]
        by_cases h : 100 < nd.length
        · rw [decide_eq_true (by omega), cond_true, if_pos (.inr h)]
          rfl
        · rw [decide_eq_false (by omega), cond_false, if_neg (by rintro (h' | h'); cases h'; exact h h')]
    · have : a < ts.length := by
        rcases Nat.lt_or_ge a ts.length with h | h
        · exact h
        · rw [List.drop_eq_nil_of_le h] at h2; exact absurd h2 hr
      rw [decide_eq_true (by omega), cond_true, if_pos hr]
      rfl
theorem k_iTermRead : Ev fun n => ∀ l : List Nat, Bl l → l.length ≤ 100000 → c_i_TermRead ((C B0).run n) (bs l) = some ((termRead l).1.map encN, ((termRead l).2, ())) := by
  refine (k_iTokens.and k_readTerm).succ fun n hn ⟨kt, kr⟩ l hl hb => ?_
  rw [run_succ, e_i_TermRead]
  unfold p_i_TermRead termRead
  rw [kt l hl hb]
  simp only [Option.bind_some]
  by_cases h1 : 1000 < l.length
  · rw [if_pos h1, if_pos h1]; rfl
  rw [if_neg h1, if_neg h1]
  cases ht : toks l.length l with
  | none => rfl
  | some ts =>
    unfold resI
    simp only [Bool.false_or, List.nil_append]
    cases hb : ts.any badTok with
    | true => rfl
    | false =>
      have hff : ¬ (false = true) := by decide
      rw [if_neg hff, if_neg hff]
      by_cases h3 : 300 < ts.length
      · rw [if_pos h3, if_pos h3]; rfl
      · rw [if_neg h3, if_neg h3]
        rw [show ((0 : Int) != 0) = false from rfl, cond_false, kr ts (toks_ok hl ht hb) (by omega)]
        rfl
theorem k_sTermRead : Ev fun n => ∀ l : List Nat, Bl l → l.length ≤ 100000 → c_s_TermRead ((C B0).run n) (bs l) = some ((termRead l).1.map encN, ((termRead l).2, ())) := by
  refine (k_sTokens.and k_swhole).succ fun n hn ⟨kt, kr⟩ l hl hb => ?_
  rw [run_succ, e_s_TermRead]
  unfold p_s_TermRead termRead
  rw [kt l hl hb]
  simp only [Option.bind_some]
  by_cases h1 : 1000 < l.length
  · rw [if_pos h1, if_pos h1]; rfl
  rw [if_neg h1, if_neg h1]
  cases ht : toks l.length l with
  | none => rfl
  | some ts =>
    unfold resI
    simp only [Bool.false_or, List.nil_append]
    cases hb : ts.any badTok with
    | true => rfl
    | false =>
      have hff : ¬ (false = true) := by decide
      rw [if_neg hff, if_neg hff]
      by_cases h3 : 300 < ts.length
      · rw [if_pos h3, if_pos h3]; rfl
      · rw [if_neg h3, if_neg h3]
        rw [show ((0 : Int) != 0) = false from rfl, cond_false, kr ts (toks_ok hl ht hb) (by omega)]
        rfl
end Go.Px.Seat

/- Tokens of texts that are put together: plain. -/
namespace Pt
theorem toks_fuel : ∀ (f g : Nat) (l : List Nat), l.length ≤ f → l.length ≤ g → toks f l = toks g l
  | f, g, [], _, _ => by cases f <;> cases g <;> rfl
  | 0, _, _ :: _, h, _ => absurd h (by simp)
  | _ + 1, 0, _ :: _, _, h => absurd h (by simp)
  | f + 1, g + 1, c :: r, hf, hg => by
    rw [toks, toks, toks_fuel f g r (by simpa using hf) (by simpa using hg)]
    split
    · rfl
    · split
      · rfl
      · cases ho : one (c :: r) with
        | none => rfl
        | some t =>
          have hl := one_len ho
          simp only
          rw [toks_fuel f g _ (by rw [List.length_drop]; simp only [List.length_cons] at hf ⊢; omega) (by rw [List.length_drop]; simp only [List.length_cons] at hg ⊢; omega)]
/-- the tokens of a text -/
def tk (l : List Nat) : Option (List Tok) := toks l.length l
theorem tk_nil : tk [] = some [] := rfl
theorem tk_blank (r : List Nat) : tk (32 :: r) = tk r := by
  unfold tk
  rw [List.length_cons, toks, if_neg (by decide), if_pos rfl]
theorem tk_cons {c : Nat} {r : List Nat} (h35 : c ≠ 35) (h32 : c ≠ 32) : tk (c :: r) = match one (c :: r) with
    | none => none
    | some t => (tk ((c :: r).drop t.2.length)).map (t :: ·) := by
  unfold tk
  rw [List.length_cons, toks, if_neg h35, if_neg h32]
  cases ho : one (c :: r) with
  | none => rfl
  | some t =>
    have hl := one_len ho
    simp only
    rw [toks_fuel _ _ _ (by rw [List.length_drop]; simp only [List.length_cons] at hl ⊢; omega) (Nat.le_refl _)]
/-- a text that no word goes on in -/
def stops (c : Nat) : Bool := !(letter c) && (!(digit c) && (c != 46 && c != 45))
def safe : List Nat → Prop
  | [] => True
  | c :: _ => stops c = true
theorem safe_wc {d : Bool} {p c : Nat} (h : stops c = true) : wc d p c = false := by
  unfold stops at h
  simp only [Bool.and_eq_true, bne_iff_ne, ne_eq, Bool.not_eq_true'] at h
  obtain ⟨h1, h2, h3, h4⟩ := h
  unfold wc
  rw [h1, h2, show (c == 46) = false from by simpa using h3, show (c == 45) = false from by simpa using h4]
  rfl
theorem wlen_safe {d : Bool} {b : List Nat} (hb : safe b) : ∀ (l : List Nat) (p : Nat), wlen d p (l ++ b) = wlen d p l
  | [], p => by
    rw [List.nil_append]
    cases b with
    | nil => rfl
    | cons c r =>
      show wlen d p (c :: r) = 0
      unfold wlen
      rw [safe_wc hb]
      rfl
  | c :: l, p => by
    rw [List.cons_append, wlen, wlen, wlen_safe hb l c]
/-- the head of a text -/
def wordy (d : Bool) (l : List Nat) : Prop := wlen d 0 l = l.length ∧ (letter (l.getD 0 0) || digit (l.getD 0 0)) = true ∧ digit (l.getD 0 0) = d
theorem wordy_pos {d : Bool} {l : List Nat} (h : wordy d l) : ∃ c r, l = c :: r := by
  cases l with
  | nil => obtain ⟨_, h, _⟩ := h; simp [letter, digit] at h
  | cons c r => exact ⟨c, r, rfl⟩
theorem one_word {d : Bool} {l b : List Nat} (h : wordy d l) (hb : safe b) (hp : d = false → plain l = true) : one (l ++ b) = some (if d then 2 else 1, l) := by
  obtain ⟨c, r, rfl⟩ := wordy_pos h
  obtain ⟨h1, h2, h3⟩ := h
  have e : ((c :: r) ++ b).getD 0 0 = c := rfl
  have e' : (c :: r).getD 0 0 = c := rfl
  rw [e'] at h2 h3
  unfold one
  simp only [e]
  rw [if_pos h2, h3, wlen_safe hb, h1, List.take_left]
  cases d with
  | true => rfl
  | false => rw [if_neg (by decide), hp rfl]; rfl
theorem word_chars {c : Nat} (h : (letter c || digit c) = true) : c ≠ 35 ∧ c ≠ 32 := by
  constructor <;> (rintro rfl; revert h; decide)
/-- s gives the tokens ts, ahead of any text; ahead of any text that no word goes on in -/
def TkS (s : List Nat) (ts : List Tok) : Prop := ∀ b, tk (s ++ b) = (tk b).map (ts ++ ·)
def TkA (s : List Nat) (ts : List Tok) : Prop := ∀ b, safe b → tk (s ++ b) = (tk b).map (ts ++ ·)
theorem TkS.a {s : List Nat} {ts : List Tok} (h : TkS s ts) : TkA s ts := fun b _ => h b
theorem map_map_app {o : Option (List Tok)} (a b : List Tok) : (o.map (b ++ ·)).map (a ++ ·) = o.map ((a ++ b) ++ ·) := by
  cases o with
  | none => rfl
  | some x => simp
theorem TkS.app {s s' : List Nat} {ts ts' : List Tok} (h : TkS s ts) (h' : TkS s' ts') : TkS (s ++ s') (ts ++ ts') := fun b => by
  rw [List.append_assoc, h, h', map_map_app]
theorem TkS.appA {s s' : List Nat} {ts ts' : List Tok} (h : TkS s ts) (h' : TkA s' ts') : TkA (s ++ s') (ts ++ ts') := fun b hb => by
  rw [List.append_assoc, h, h' b hb, map_map_app]
theorem TkA.appS {c : Nat} {s s' : List Nat} {ts ts' : List Tok} (h : TkA s ts) (h' : TkS (c :: s') ts') (hc : stops c = true) : TkS (s ++ c :: s') (ts ++ ts') := fun b => by
  rw [List.append_assoc, h _ (show safe (c :: s' ++ b) from hc), h', map_map_app]
theorem TkA.appA {c : Nat} {s s' : List Nat} {ts ts' : List Tok} (h : TkA s ts) (h' : TkA (c :: s') ts') (hc : stops c = true) : TkA (s ++ c :: s') (ts ++ ts') := fun b hb => by
  rw [List.append_assoc, h _ (show safe (c :: s' ++ b) from hc), h' b hb, map_map_app]
theorem tk_sign {c : Nat} (hc : c ∈ signs) : TkS [c] [(3, [c])] := fun b => by
  have hs : c ≠ 35 ∧ c ≠ 32 ∧ (letter c || digit c) = false ∧ c ≠ 60 ∧ c ≠ 62 := by
    simp only [signs, List.mem_cons, List.not_mem_nil, or_false] at hc
    rcases hc with rfl | rfl | rfl | rfl | rfl | rfl | rfl | rfl | rfl <;> decide
  obtain ⟨h35, h32, hl, h60, h62⟩ := hs
  have ho : one (c :: b) = some (3, [c]) := by
    unfold one
    have e : (c :: b).getD 0 0 = c := rfl
    simp only [e]
    have es : sgn (c :: b) = [c] := by rw [sgn_cons, if_neg (by rintro ⟨h | h, _⟩; exact h60 h; exact h62 h), if_pos hc]
    rw [hl, if_neg (by decide), es, if_neg (by simp)]
  rw [List.singleton_append, tk_cons h35 h32, ho]
  rfl
theorem tk_blankS : TkS [32] [] := fun b => by
  rw [List.singleton_append, tk_blank]
  cases tk b <;> rfl
theorem tk_word {d : Bool} {l : List Nat} (h : wordy d l) (hp : d = false → plain l = true) : TkA l [(if d then 2 else 1, l)] := fun b hb => by
  obtain ⟨c, r, rfl⟩ := wordy_pos h
  obtain ⟨h35, h32⟩ := word_chars (c := c) h.2.1
  have ho := one_word h hb hp
  rw [List.cons_append] at ho
  rw [List.cons_append, tk_cons h35 h32, ho]
  simp only
  rw [← List.cons_append, List.drop_left]
  cases tk b <;> rfl
theorem wl_all {d : Bool} : ∀ (l : List Nat) (p : Nat), (∀ c ∈ l, (letter c || digit c) = true) → ∀ r, wlen d p (l ++ r) = l.length + wlen d ((p :: l).getLast (by simp)) r
  | [], p, _, r => by simp
  | c :: l, p, h, r => by
    have hc := h c (List.mem_cons_self ..)
    have hw : wc d p c = true := by
      unfold wc
      cases hl : letter c with
      | true => rfl
      | false => rw [hl] at hc; rw [show digit c = true from hc]; rfl
    rw [List.cons_append, wlen, hw, if_pos rfl, wl_all l c (fun x hx => h x (List.mem_cons_of_mem _ hx)) r, List.length_cons]
    show _ = _ + wlen d ((c :: l).getLast _) r
    omega
theorem plain_wordy {l : List Nat} (h : plain l = true) : wordy false l := by
  have h' := h
  unfold plain at h
  simp only [Bool.and_eq_true, decide_eq_true_eq, List.all_eq_true] at h
  obtain ⟨h1, _, h3, h4⟩ := h
  have hd : digit (l.getD 0 0) = false := by
    have := letter_iff.1 h3
    cases hd : digit (l.getD 0 0) with
    | false => rfl
    | true => have := digit_iff.1 hd; omega
  refine ⟨?_, by rw [h3]; rfl, hd⟩
  have := wl_all (d := false) l 0 (fun c hc => h4 c hc) []
  rw [List.append_nil] at this
  rw [this]
  rfl
theorem digits_wl {l : List Nat} (h : ∀ c ∈ l, digit c = true) (p : Nat) (r : List Nat) : wlen true p (l ++ r) = l.length + wlen true ((p :: l).getLast (by simp)) r :=
  wl_all l p (fun c hc => by rw [h c hc]; cases letter c <;> rfl) r
theorem whole_digits {q : List Nat} (h : whole q = true) : ∀ c ∈ q, digit c = true := by
  unfold whole at h
  simp only [Bool.and_eq_true, List.all_eq_true] at h
  exact h.2.1
theorem ex_digits {m : Bool} {q : List Nat} (h : exOk m q = true) : ∀ c ∈ q, digit c = true := by
  unfold exOk at h
  simp only [Bool.and_eq_true] at h
  exact whole_digits h.1
theorem full_digits {q : List Nat} (h : ∀ c ∈ q, digit c = true) (p : Nat) : wlen true p q = q.length := by
  have := digits_wl h p []
  rw [List.append_nil] at this
  rw [this]
  rfl
theorem full_rexp {r : List Nat} (h : rexp r = true) (p : Nat) : wlen true p r = r.length := by
  unfold rexp at h
  split at h
  · rfl
  · rename_i q
    rw [wlen, show wc true p 101 = true from rfl, if_pos rfl]
    unfold expo at h
    split at h
    · rename_i q'
      rw [wlen, show wc true 101 45 = true from rfl, if_pos rfl, full_digits (ex_digits h)]
      simp only [List.length_cons]; omega
    · rw [full_digits (ex_digits h), List.length_cons]; omega
  · cases h
theorem full_rfrac {r : List Nat} (h : rfrac r = true) (p : Nat) : wlen true p r = r.length := by
  unfold rfrac at h
  split at h
  · rename_i q
    rw [Bool.and_eq_true] at h
    rw [wlen, show wc true p 46 = true from by unfold wc; rfl, if_pos rfl]
    have e : q = q.takeWhile digit ++ q.dropWhile digit := (List.takeWhile_append_dropWhile ..).symm
    have hl := congrArg List.length e
    rw [List.length_append] at hl
    conv => lhs; rw [e]
    rw [digits_wl (fun c hc => takeWhile_all c hc), full_rexp h.2, List.length_cons]
    omega
  · exact full_rexp h p
theorem num_wordy {l : List Nat} (h : num l = true) : wordy true l := by
  rw [num_rnum] at h
  unfold rnum at h
  rw [Bool.and_eq_true] at h
  obtain ⟨h1, h2⟩ := h
  have e : l = l.takeWhile digit ++ l.dropWhile digit := (List.takeWhile_append_dropWhile ..).symm
  have hne : l.takeWhile digit ≠ [] := by
    unfold whole at h1
    simp only [Bool.and_eq_true, decide_eq_true_eq] at h1
    exact h1.1
  have hd : digit (l.getD 0 0) = true := by
    cases l with
    | nil => exact absurd rfl hne
    | cons c r =>
      rw [List.takeWhile_cons] at hne
      show digit c = true
      cases hc : digit c with
      | true => rfl
      | false => rw [hc] at hne; exact absurd rfl hne
  refine ⟨?_, by rw [hd]; cases letter (l.getD 0 0) <;> rfl, hd⟩
  have hl := congrArg List.length e
  rw [List.length_append] at hl
  conv => lhs; rw [e]
  rw [digits_wl (fun c hc => takeWhile_all c hc), full_rfrac h2]
  omega
theorem tk_name {t : List Nat} (h : plain t = true) : TkA t [(1, t)] := tk_word (plain_wordy h) (fun _ => h)
theorem tk_num {t : List Nat} (h : num t = true) : TkA t [(2, t)] := tk_word (num_wordy h) (fun h => by cases h)
/-- a text without comments, put ahead of one that no word goes on in -/
theorem one_safe {l b : List Nat} (hl : l ≠ []) (hb : safe b) (h61 : b.head? ≠ some 61) : one (l ++ b) = one l := by
  cases l with
  | nil => exact absurd rfl hl
  | cons c r =>
    unfold one
    have e : ((c :: r) ++ b).getD 0 0 = c := rfl
    have e' : (c :: r).getD 0 0 = c := rfl
    have hs : sgn ((c :: r) ++ b) = sgn (c :: r) := by
      rw [List.cons_append, sgn_cons, sgn_cons]
      have : (r ++ b).head? = some 61 ↔ r.head? = some 61 := by
        cases r with
        | nil => exact ⟨fun h => absurd h h61, fun h => by cases h⟩
        | cons x s => exact Iff.rfl
      simp only [this]
    simp only [e, e', hs]
    have hw : wlen (digit c) 0 (c :: r ++ b) = wlen (digit c) 0 (c :: r) := wlen_safe hb _ _
    rw [hw, List.take_append_of_le_length (wlen_le' _ _)]
theorem tk_safe {b : List Nat} (hb : safe b) (h61 : b.head? ≠ some 61) : ∀ (n : Nat) (l : List Nat) (ts : List Tok), l.length ≤ n → 35 ∉ l → tk l = some ts → tk (l ++ b) = (tk b).map (ts ++ ·)
  | n, [], ts, _, _, h => by
    cases h
    rw [List.nil_append]
    cases tk b <;> rfl
  | 0, _ :: _, _, h, _, _ => absurd h (by simp)
  | n + 1, c :: r, ts, hn, hc, h => by
    have h35 : c ≠ 35 := fun h => hc (by rw [h]; exact List.mem_cons_self ..)
    have hr : 35 ∉ r := fun h => hc (List.mem_cons_of_mem _ h)
    by_cases h32 : c = 32
    · subst h32
      rw [tk_blank] at h
      rw [List.cons_append, tk_blank]
      exact tk_safe hb h61 n r ts (by simpa using hn) hr h
    · have ho := one_safe (l := c :: r) (by simp) hb h61
      rw [List.cons_append] at ho
      rw [tk_cons h35 h32] at h
      rw [List.cons_append, tk_cons h35 h32, ho]
      cases hq : one (c :: r) with
      | none => rw [hq] at h; cases h
      | some t =>
        rw [hq] at h
        have hl := one_len hq
        simp only at h ⊢
        obtain ⟨ts', h1, rfl⟩ := Option.map_eq_some_iff.1 h
        rw [← List.cons_append, List.drop_append_of_le_length hl.2, tk_safe hb h61 n ((c :: r).drop t.2.length) ts' (by rw [List.length_drop]; simp only [List.length_cons] at hn hl ⊢; omega) (fun h => hc (List.mem_of_mem_drop h)) h1]
        cases tk b <;> rfl
end Pt

/- A term's text is read back as the term: plain. Seat T. -/
namespace Pt
open Go.Px Go.Px.Seat
/-- a sign does not stand ahead -/
def noB (g : List Nat) : List Tok → Prop
  | [] => True
  | t :: _ => t ≠ (3, g)
def Qa (ts : List Tok) (l : List Nd) : Prop := (∃ t r, ts = t :: r ∧ t ≠ (3, [45])) ∧ ∀ K rest nd m, ts.length ≤ K → noB [40] rest → atomP (sumP K) (ts ++ rest, nd, m) = some (rest, nd ++ l, m)
def Qs (ts : List Tok) (l : List Nd) : Prop := ∀ K rest nd m, ts.length ≤ K → noB [40] rest → noB [94] rest → sgnP (sumP K) (ts ++ rest, nd, m) = some (rest, nd ++ l, m)
def Qp (ts : List Tok) (l : List Nd) : Prop := ∀ K rest nd m, ts.length ≤ K → noB [40] rest → noB [94] rest → prodP (sumP K) (ts ++ rest, nd, m) = loopP (sgnP (sumP K)) [42] [47] 6 7 (rest, nd ++ l, m)
def Qm (ts : List Tok) (l : List Nd) : Prop := ∀ K rest nd m, ts.length ≤ K → noB [40] rest → noB [94] rest → noB [42] rest → noB [47] rest → sumP1 (sumP K) (ts ++ rest, nd, m) = loopP (prodP (sumP K)) [43] [45] 4 5 (rest, nd ++ l, m)
theorem loop_stop {nx : Rdr} {a b : List Nat} {ka kb : Int} {rest : List Tok} {nd : List Nd} {m : Bool} (h1 : noB a rest) (h2 : noB b rest) : loopP nx a b ka kb (rest, nd, m) = some (rest, nd, m) := by
  cases rest with
  | nil => exact loopP_nil
  | cons t r => exact loopP_end (by rintro (h | h); exact h1 h; exact h2 h)
theorem Qa.s {ts : List Tok} {l : List Nd} (h : Qa ts l) : Qs ts l := by
  obtain ⟨⟨t, r, rfl, ht⟩, h⟩ := h
  intro K rest nd m hK h1 h2
  have e := h K rest nd m hK h1
  unfold sgnP
  rw [List.cons_append] at e ⊢
  simp only
  rw [signedP, if_neg ht, e]
  simp only [Option.bind_some]
  unfold powP
  cases rest with
  | nil => rfl
  | cons u r' => dsimp only; rw [if_neg h2]
theorem Qs.p {ts : List Tok} {l : List Nd} (h : Qs ts l) : Qp ts l := by
  intro K rest nd m hK h1 h2
  unfold prodP
  rw [h K rest nd m hK h1 h2]
  rfl
theorem Qp.m {ts : List Tok} {l : List Nd} (h : Qp ts l) : Qm ts l := by
  intro K rest nd m hK h1 h2 h3 h4
  unfold sumP1
  rw [h K rest nd m hK h1 h2, loop_stop h3 h4]
  rfl
/-- what a text of some tightness gives -/
def QL (v : Int) (ts : List Tok) (l : List Nd) : Prop := (5 ≤ v → Qa ts l) ∧ (3 ≤ v → Qs ts l) ∧ (2 ≤ v → Qp ts l) ∧ Qm ts l
theorem Qa.ql {ts : List Tok} {l : List Nd} (h : Qa ts l) (v : Int) : QL v ts l := ⟨fun _ => h, fun _ => h.s, fun _ => h.s.p, h.s.p.m⟩
theorem Qs.ql {ts : List Tok} {l : List Nd} (h : Qs ts l) {v : Int} (hv : v < 5) : QL v ts l := ⟨fun h5 => absurd h5 (by omega), fun _ => h, fun _ => h.p, h.p.m⟩
theorem Qp.ql {ts : List Tok} {l : List Nd} (h : Qp ts l) {v : Int} (hv : v < 3) : QL v ts l := ⟨fun h5 => absurd h5 (by omega), fun h3 => absurd h3 (by omega), fun _ => h, h.m⟩
theorem Qm.ql {ts : List Tok} {l : List Nd} (h : Qm ts l) {v : Int} (hv : v < 2) : QL v ts l := ⟨fun h5 => absurd h5 (by omega), fun h3 => absurd h3 (by omega), fun h2 => absurd h2 (by omega), h⟩
/-- a sum that nothing goes on -/
theorem Qm.sum {ts : List Tok} {l : List Nd} (h : Qm ts l) {K : Nat} {rest : List Tok} {nd : List Nd} {m : Bool} (hK : ts.length < K) (h1 : noB [40] rest) (h2 : noB [94] rest) (h3 : noB [42] rest) (h4 : noB [47] rest) (h5 : noB [43] rest) (h6 : noB [45] rest) :
    sumP K (ts ++ rest, nd, m) = some (rest, nd ++ l, m) := by
  obtain ⟨K', rfl⟩ : ∃ K', K = K' + 1 := ⟨K - 1, by omega⟩
  show sumP1 (sumP K') (ts ++ rest, nd, m) = _
  rw [h K' rest nd m (by omega) h1 h2 h3 h4, loop_stop h5 h6]
theorem noB_sign {g c : List Nat} {r : List Tok} (h : c ≠ g) : noB g ((3, c) :: r) := fun e => h (by simpa using e)
theorem Qm.brk {ts : List Tok} {l : List Nd} (h : Qm ts l) : Qa ((3, [40]) :: ts ++ [(3, [41])]) l := by
  refine ⟨⟨_, _, rfl, by decide⟩, fun K rest nd m hK h1 => ?_⟩
  simp only [List.length_cons, List.length_append, List.length_nil] at hK
  have e : ((3, [40]) :: ts ++ [(3, [41])]) ++ rest = ((3, [40]) : Tok) :: (ts ++ (3, [41]) :: rest) := by simp
  rw [e]
  unfold atomP
  dsimp only
  rw [if_pos rfl, h.sum (by omega) (noB_sign (by decide)) (noB_sign (by decide)) (noB_sign (by decide)) (noB_sign (by decide)) (noB_sign (by decide)) (noB_sign (by decide))]
  simp only [Option.bind_some, closeP]
  rw [if_pos trivial]
theorem brk_ql {w : Wt} {ts : List Tok} {l : List Nd} (ht : TkA w.1 ts) (h : QL w.2 ts l) (h5 : w.2 ≤ 5) (v : Int) : ∃ ts', TkA (brk w v) ts' ∧ QL v ts' l := by
  unfold brk
  by_cases hv : w.2 < v
  · rw [if_pos hv]
    have h1 := ((tk_sign (c := 40) (by decide)).appA ht).appA (c := 41) (s' := []) (tk_sign (c := 41) (by decide)).a (by decide)
    exact ⟨_, h1, h.2.2.2.brk.ql v⟩
  · rw [if_neg hv]
    exact ⟨ts, ht, fun h' => h.1 (by omega), fun h' => h.2.1 (by omega), fun h' => h.2.2.1 (by omega), h.2.2.2⟩
/-! ### Arguments -/
def joinT : List (List Tok) → List Tok
  | [] => []
  | [x] => x
  | x :: y :: r => x ++ (3, [44]) :: joinT (y :: r)
theorem join_tk : ∀ (ws : List Wt) (tss : List (List Tok)), ws.length = tss.length → ws ≠ [] → (∀ j, j < ws.length → TkA (ws.getD j ([], 0)).1 (tss.getD j [])) → TkA (joinL [44, 32] (ws.map (·.1))) (joinT tss)
  | [], _, _, h, _ => absurd rfl h
  | _ :: _, [], h, _, _ => absurd h (by simp)
  | [w], [t], _, _, h => h 0 (by simp)
  | [_], _ :: _ :: _, h, _, _ => absurd h (by simp)
  | _ :: _ :: _, [_], h, _, _ => absurd h (by simp)
  | w :: v :: r, t :: u :: s, hl, _, h => by
    have ih := join_tk (v :: r) (u :: s) (by simpa using hl) (by simp) (fun j hj => h (j + 1) (by rw [List.length_cons]; omega))
    have h0 : TkA w.1 t := h 0 (by simp)
    have hc : TkS (44 :: [32]) ([(3, [44])] ++ []) := (tk_sign (c := 44) (by decide)).app tk_blankS
    have := h0.appA (c := 44) (s' := 32 :: joinL [44, 32] ((v :: r).map (·.1))) (ts' := (3, [44]) :: joinT (u :: s)) (hc.appA ih) (by decide)
    exact this
theorem args_read {K : Nat} : ∀ (tss : List (List Tok)) (ls : List (List Nd)) (rest : List Tok) (nd : List Nd) (m : Bool) (n : Nat), tss.length = ls.length → tss ≠ [] → (∀ j, j < tss.length → Qm (tss.getD j []) (ls.getD j [])) → (joinT tss).length < K →
    ((sumP K (joinT tss ++ (3, [41]) :: rest, nd, m)).bind fun s' => argsP (sumP K) s' (n + 1)) = some ((rest, nd ++ ls.flatten, m), n + tss.length)
  | [], _, _, _, _, _, _, h, _, _ => absurd rfl h
  | _ :: _, [], _, _, _, _, h, _, _, _ => absurd h (by simp)
  | [x], [l], rest, nd, m, n, _, _, h, hK => by
    have h0 : Qm x l := h 0 (by simp)
    show ((sumP K (x ++ (3, [41]) :: rest, nd, m)).bind fun s' => argsP (sumP K) s' (n + 1)) = _
    rw [h0.sum hK (noB_sign (by decide)) (noB_sign (by decide)) (noB_sign (by decide)) (noB_sign (by decide)) (noB_sign (by decide)) (noB_sign (by decide))]
    simp only [Option.bind_some]
    rw [argsP_end]
    simp
  | [_], _ :: _ :: _, _, _, _, _, h, _, _, _ => absurd h (by simp)
  | _ :: _ :: _, [_], _, _, _, _, h, _, _, _ => absurd h (by simp)
  | x :: y :: r, l :: l' :: s, rest, nd, m, n, hl, _, h, hK => by
    have h0 : Qm x l := h 0 (by simp)
    have hjl : (joinT (x :: y :: r)).length = x.length + (1 + (joinT (y :: r)).length) := by
      show (x ++ (3, [44]) :: joinT (y :: r)).length = _
      rw [List.length_append, List.length_cons]
      omega
    have e : joinT (x :: y :: r) ++ (3, [41]) :: rest = x ++ (3, [44]) :: (joinT (y :: r) ++ (3, [41]) :: rest) := by
      show (x ++ (3, [44]) :: joinT (y :: r)) ++ _ = _
      simp
    have hKx : x.length < K := by omega
    rw [e, h0.sum hKx (noB_sign (by decide)) (noB_sign (by decide)) (noB_sign (by decide)) (noB_sign (by decide)) (noB_sign (by decide)) (noB_sign (by decide))]
    simp only [Option.bind_some]
    rw [argsP_on (sum_took K).le]
    have hq : ∀ j, j < (y :: r).length → Qm ((y :: r).getD j []) ((l' :: s).getD j []) := fun j hj => h (j + 1) (Nat.succ_lt_succ hj)
    have hKy : (joinT (y :: r)).length < K := by omega
    have ih := args_read (y :: r) (l' :: s) rest (nd ++ l) m (n + 1) (by simpa using hl) (by simp) hq hKy
    rw [ih]
    simp only [List.length_cons, List.flatten_cons, List.append_assoc]
    congr 2
    omega
theorem call_read {t : List Nat} {tss : List (List Tok)} {ls : List (List Nd)} {x : Nd} (hl : tss.length = ls.length) (hne : tss ≠ []) (h : ∀ j, j < tss.length → Qm (tss.getD j []) (ls.getD j []))
    (hc : ∀ (s : RSt), callP t tss.length s = some (s.1, s.2.1 ++ [x], s.2.2)) : Qa ((1, t) :: (3, [40]) :: joinT tss ++ [(3, [41])]) (ls.flatten ++ [x]) := by
  refine ⟨⟨_, _, rfl, by simp⟩, fun K rest nd m hK h1 => ?_⟩
  simp only [List.length_cons, List.length_append, List.length_nil] at hK
  have e : ((1, t) :: (3, [40]) :: joinT tss ++ [(3, [41])]) ++ rest = ((1, t) : Tok) :: (3, [40]) :: (joinT tss ++ (3, [41]) :: rest) := by simp
  rw [e]
  unfold atomP
  dsimp only
  rw [if_neg (by simp), if_neg (by simp), if_pos rfl, if_pos rfl, args_read tss ls rest nd m 0 hl hne h (by omega)]
  simp only [Option.bind_some, Nat.zero_add]
  rw [hc]
  simp
theorem call_tk {t : List Nat} {ws : List Wt} {tss : List (List Tok)} (ht : plain t = true) (hl : ws.length = tss.length) (hne : ws ≠ []) (h : ∀ j, j < ws.length → TkA (ws.getD j ([], 0)).1 (tss.getD j [])) :
    TkA (callT t ws).1 ((1, t) :: (3, [40]) :: joinT tss ++ [(3, [41])]) := by
  have h1 : TkS (t ++ 40 :: []) ([(1, t)] ++ [(3, [40])]) := (tk_name ht).appS (tk_sign (c := 40) (by decide)) (by decide)
  have h2 := (h1.appA (join_tk ws tss hl hne h)).appA (c := 41) (s' := []) (tk_sign (c := 41) (by decide)).a (by decide)
  exact h2
/-! ### All nodes -/
theorem level_bounds (x : Nd) (ws : List Wt) : (wnode x.1 x.2.1 x.2.2 ws).2 ≤ 5 := by
  rw [wnode_level]
  exact (level_range _).2
theorem itoa_digit {m : Int} (h0 : 0 ≤ m) (h8 : m ≤ 8) : itoa m = [48 + m.toNat] := by
  unfold itoa
  rw [if_neg (by omega), dec, dif_pos (by omega)]
theorem round_node {ps : List (List Nd)} {x : Nd} {ws : List Wt} (hx : nargs x = (ps.length : Int)) (e1 : ws.length = ps.length)
    (ih : ∀ j, j < ps.length → ∃ ts, TkA (ws.getD j ([], 0)).1 ts ∧ QL (ws.getD j ([], 0)).2 ts (ps.getD j []) ∧ (ws.getD j ([], 0)).2 ≤ 5) :
    ∃ ts, TkA (wnode x.1 x.2.1 x.2.2 ws).1 ts ∧ QL (wnode x.1 x.2.1 x.2.2 ws).2 ts (ps.flatten ++ [x]) := by
  obtain ⟨k, n, t⟩ := x
  have hr := nargs_range (k, n, t)
  -- two parts
  have two : ps.length = 2 → ∃ a b w v, ps = [a, b] ∧ ws = [w, v] := fun h => by
    match ps, ws, h, e1 with
    | [a, b], [w, v], _, _ => exact ⟨a, b, w, v, rfl, rfl⟩
  have one' : ps.length = 1 → ∃ a w, ps = [a] ∧ ws = [w] := fun h => by
    match ps, ws, h, e1 with
    | [a], [w], _, _ => exact ⟨a, w, rfl, rfl⟩
  -- sums and products
  have sums : ∀ (c : Nat) (kk : Int), c = 43 ∨ c = 45 → kk = (if c = 45 then 5 else 4) → ps.length = 2 → k = kk → n = 0 ∧ t = [] → ∃ ts, TkA ((brk (ws.getD 0 ([], 0)) 1 ++ [32, c, 32]) ++ brk (ws.getD 1 ([], 0)) 2) ts ∧ QL 1 ts (ps.flatten ++ [(k, n, t)]) := by
    intro c kk hc hkk hp hk ⟨hn, htt⟩
    obtain ⟨a, b, w, v, rfl, rfl⟩ := two hp
    obtain ⟨ta, a1, a2, a3⟩ := ih 0 (by simp)
    obtain ⟨tb, b1, b2, b3⟩ := ih 1 (by simp)
    obtain ⟨ta', a4, a5⟩ := brk_ql a1 a2 a3 1
    obtain ⟨tb', b4, b5⟩ := brk_ql b1 b2 b3 2
    have hcs : c ∈ signs := by rcases hc with rfl | rfl <;> decide
    have hsep : TkS (32 :: [c, 32]) ([] ++ ([(3, [c])] ++ [])) := tk_blankS.app ((tk_sign hcs).app tk_blankS)
    have ht := (a4.appS (c := 32) (s' := [c, 32]) hsep (by decide)).appA b4
    refine ⟨_, ht, Qm.ql (fun K rest nd m hK h1 h2 h3 h4 => ?_) (by decide)⟩
    simp only [List.nil_append, List.append_nil, List.length_append, List.length_cons, List.length_nil] at hK
    have e : (ta' ++ ([] ++ ([(3, [c])] ++ [])) ++ tb') ++ rest = ta' ++ (3, [c]) :: (tb' ++ rest) := by simp
    have hne : ∀ g, g ≠ [c] → noB g (((3, [c]) : Tok) :: (tb' ++ rest)) := fun g hg => noB_sign (fun h => hg h.symm)
    have q1 := a5.2.2.2 K ((3, [c]) :: (tb' ++ rest)) nd m (by omega) (hne _ (by rcases hc with rfl | rfl <;> decide)) (hne _ (by rcases hc with rfl | rfl <;> decide)) (hne _ (by rcases hc with rfl | rfl <;> decide)) (hne _ (by rcases hc with rfl | rfl <;> decide))
    have q2 := b5.2.2.1 (by decide) K rest (nd ++ a) m (by omega) h1 h2
    have hp' : [w, v].length = 2 := rfl
    simp only [List.getD_cons_zero, List.getD_cons_succ] at q1 q2
    rw [e, q1, loopP_on (by rcases hc with rfl | rfl; exact .inl rfl; exact .inr rfl) (prod_took (sum_took K)).le, q2, loop_stop h3 h4]
    simp only [Option.bind_some, put, hk, hn, hkk]
    have e2 : (if ((3, [c]) : Tok) = (3, [45]) then (5 : Int) else 4) = if c = 45 then 5 else 4 := by
      rcases hc with rfl | rfl <;> rfl
    rw [e2]
    subst htt
    simp
  have prods : ∀ (c : Nat) (kk : Int), c = 42 ∨ c = 47 → kk = (if c = 47 then 7 else 6) → ps.length = 2 → k = kk → n = 0 ∧ t = [] → ∃ ts, TkA ((brk (ws.getD 0 ([], 0)) 2 ++ [32, c, 32]) ++ brk (ws.getD 1 ([], 0)) 3) ts ∧ QL 2 ts (ps.flatten ++ [(k, n, t)]) := by
    intro c kk hc hkk hp hk ⟨hn, htt⟩
    obtain ⟨a, b, w, v, rfl, rfl⟩ := two hp
    obtain ⟨ta, a1, a2, a3⟩ := ih 0 (by simp)
    obtain ⟨tb, b1, b2, b3⟩ := ih 1 (by simp)
    obtain ⟨ta', a4, a5⟩ := brk_ql a1 a2 a3 2
    obtain ⟨tb', b4, b5⟩ := brk_ql b1 b2 b3 3
    have hcs : c ∈ signs := by rcases hc with rfl | rfl <;> decide
    have hsep : TkS (32 :: [c, 32]) ([] ++ ([(3, [c])] ++ [])) := tk_blankS.app ((tk_sign hcs).app tk_blankS)
    have ht := (a4.appS (c := 32) (s' := [c, 32]) hsep (by decide)).appA b4
    refine ⟨_, ht, Qp.ql (fun K rest nd m hK h1 h2 => ?_) (by decide)⟩
    simp only [List.nil_append, List.append_nil, List.length_append, List.length_cons, List.length_nil] at hK
    have e : (ta' ++ ([] ++ ([(3, [c])] ++ [])) ++ tb') ++ rest = ta' ++ (3, [c]) :: (tb' ++ rest) := by simp
    have hne : ∀ g, g ≠ [c] → noB g (((3, [c]) : Tok) :: (tb' ++ rest)) := fun g hg => noB_sign (fun h => hg h.symm)
    have q1 := a5.2.2.1 (by decide) K ((3, [c]) :: (tb' ++ rest)) nd m (by omega) (hne _ (by rcases hc with rfl | rfl <;> decide)) (hne _ (by rcases hc with rfl | rfl <;> decide))
    have q2 := b5.2.1 (by decide) K rest (nd ++ a) m (by omega) h1 h2
    simp only [List.getD_cons_zero, List.getD_cons_succ] at q1 q2
    rw [e, q1, loopP_on (by rcases hc with rfl | rfl; exact .inl rfl; exact .inr rfl) (sgn_took (sum_took K)).le, q2]
    simp only [Option.bind_some, put, hk, hn, hkk]
    have e2 : (if ((3, [c]) : Tok) = (3, [47]) then (7 : Int) else 6) = if c = 47 then 7 else 6 := by
      rcases hc with rfl | rfl <;> rfl
    rw [e2]
    subst htt
    simp
  have calls : ∀ (name : List Nat), plain name = true → 1 ≤ ps.length → (∀ s : RSt, callP name ps.length s = some (s.1, s.2.1 ++ [(k, n, t)], s.2.2)) → ∃ ts, TkA (callT name ws).1 ts ∧ QL (callT name ws).2 ts (ps.flatten ++ [(k, n, t)]) := by
    intro name hpl hp hcall
    have hex : ∀ i, i ≤ ps.length → ∃ tss : List (List Tok), tss.length = i ∧ ∀ j, j < i → TkA (ws.getD j ([], 0)).1 (tss.getD j []) ∧ Qm (tss.getD j []) (ps.getD j []) := by
      intro i
      induction i with
      | zero => exact fun _ => ⟨[], rfl, fun j hj => absurd hj (Nat.not_lt_zero _)⟩
      | succ i ihi =>
        intro hi
        obtain ⟨tss, g1, g2⟩ := ihi (by omega)
        obtain ⟨ts, a1, a2, _⟩ := ih i (by omega)
        refine ⟨tss ++ [ts], by rw [List.length_append, g1]; rfl, fun j hj => ?_⟩
        rcases Nat.lt_or_ge j i with h | h
        · have e : (tss ++ [ts]).getD j [] = tss.getD j [] := by rw [List.getD_eq_getElem?_getD, List.getElem?_append_left (by omega), ← List.getD_eq_getElem?_getD]
          rw [e]
          exact g2 j h
        · have hji : j = tss.length := by omega
          have e : (tss ++ [ts]).getD j [] = ts := by rw [hji]; exact getD_mid tss [] ts []
          rw [e, show j = i by omega]
          exact ⟨a1, a2.2.2.2⟩
    obtain ⟨tss, g1, g2⟩ := hex ps.length (Nat.le_refl _)
    have hne : tss ≠ [] := fun h => by rw [h] at g1; simp only [List.length_nil] at g1; omega
    have hnw : ws ≠ [] := fun h => by rw [h] at e1; simp only [List.length_nil] at e1; omega
    exact ⟨_, call_tk hpl (by omega) hnw (fun j hj => (g2 j (by omega)).1), (call_read g1 hne (fun j hj => (g2 j (by omega)).2) (fun s => by rw [g1]; exact hcall s)).ql 5⟩
  have hh := hx
  unfold nargs at hh
  simp only at hh
  unfold wnode
  simp only
  by_cases h1 : k = 1
  · subst h1
    rw [if_pos rfl] at hh
    split at hh
    · rename_i hc
      obtain ⟨rfl, hnum⟩ := hc
      have hp : ps = [] := List.length_eq_zero_iff.1 (by omega)
      subst hp
      rw [if_neg (by decide), if_neg (by decide), if_neg (by decide), if_neg (by decide), if_neg (by decide), if_neg (by decide), if_neg (by decide), if_neg (by decide), if_neg (by decide), if_neg (by decide), if_neg (by decide)]
      refine ⟨[(2, t)], tk_num (by unfold numOk at hnum; rw [Bool.and_eq_true] at hnum; exact hnum.1), Qa.ql ⟨⟨_, _, rfl, by simp⟩, fun K rest nd m hK h1 => ?_⟩ 5⟩
      rw [List.singleton_append]
      unfold atomP
      dsimp only
      rw [if_neg (by simp), if_pos rfl]
      rfl
    · omega
  rw [if_neg h1] at hh
  by_cases h2 : k = 2
  · subst h2
    rw [if_pos rfl] at hh
    split at hh
    · rename_i hc
      obtain ⟨rfl, hname⟩ := hc
      have hp : ps = [] := List.length_eq_zero_iff.1 (by omega)
      subst hp
      rw [if_neg (by decide), if_neg (by decide), if_neg (by decide), if_neg (by decide), if_neg (by decide), if_neg (by decide), if_neg (by decide), if_neg (by decide), if_neg (by decide), if_neg (by decide), if_neg (by decide)]
      unfold nameOk at hname
      simp only [Bool.and_eq_true, Bool.not_eq_true', decide_eq_false_iff_not] at hname
      refine ⟨[(1, t)], tk_name hname.1, Qa.ql ⟨⟨_, _, rfl, by simp⟩, fun K rest nd m hK h1 => ?_⟩ 5⟩
      rw [List.singleton_append]
      unfold atomP
      dsimp only
      rw [if_neg (by simp), if_neg (by simp), if_pos rfl]
      have hn : nameP t (rest, nd, m) = some (rest, nd ++ [(2, 0, t)], m) := by
        unfold nameP
        rw [if_neg hname.2]
        rfl
      cases rest with
      | nil => exact hn
      | cons u r =>
        dsimp only
        rw [if_neg h1]
        exact hn
    · omega
  rw [if_neg h2] at hh
  by_cases h3 : k = 3
  · subst h3
    rw [if_pos (.inl rfl)] at hh
    split at hh
    · rename_i hc
      obtain ⟨rfl, rfl⟩ := hc
      obtain ⟨a, w, rfl, rfl⟩ := one' (by omega)
      obtain ⟨ta, a1, a2, a3⟩ := ih 0 (by simp)
      obtain ⟨ta', a4, a5⟩ := brk_ql a1 a2 a3 3
      rw [if_pos rfl]
      refine ⟨[(3, [45])] ++ ta', (tk_sign (c := 45) (by decide)).appA a4, Qs.ql (fun K rest nd m hK h1 h2 => ?_) (by simp only; decide)⟩
      have q := a5.2.1 (by decide) K rest nd m (by simp only [List.length_append, List.length_cons, List.length_nil] at hK; omega) h1 h2
      unfold sgnP at q ⊢
      simp only [List.getD_cons_zero] at q
      rw [List.append_assoc, List.singleton_append]
      simp only
      rw [signedP, if_pos rfl, q]
      simp [put]
    · omega
  rw [if_neg h3]
  by_cases h9 : k = 9 ∨ k = 10
  · rw [if_pos (.inr h9)] at hh
    split at hh
    · rename_i hc
      obtain ⟨rfl, rfl⟩ := hc
      have hp : ps.length = 1 := by omega
      rw [if_neg (by omega), if_neg (by omega), if_neg (by omega), if_neg (by omega), if_neg (by omega)]
      rcases h9 with rfl | rfl
      · rw [if_pos rfl]
        exact calls _ (by decide) (by omega) (fun s => by rw [hp]; rfl)
      · rw [if_neg (by decide), if_pos rfl]
        exact calls _ (by decide) (by omega) (fun s => by rw [hp]; rfl)
    · omega
  rw [if_neg (by omega)] at hh
  by_cases h4 : k = 4 ∨ k = 5 ∨ k = 6 ∨ k = 7 ∨ k = 11 ∨ k = 12
  · rw [if_pos h4] at hh
    split at hh
    · rename_i hc
      have hp : ps.length = 2 := by omega
      by_cases g4 : k = 4
      · rw [if_pos g4]
        exact sums 43 4 (.inl rfl) (by decide) hp g4 hc
      rw [if_neg g4]
      by_cases g5 : k = 5
      · rw [if_pos g5]
        exact sums 45 5 (.inr rfl) (by decide) hp g5 hc
      rw [if_neg g5]
      by_cases g6 : k = 6
      · rw [if_pos g6]
        exact prods 42 6 (.inl rfl) (by decide) hp g6 hc
      rw [if_neg g6]
      by_cases g7 : k = 7
      · rw [if_pos g7]
        exact prods 47 7 (.inr rfl) (by decide) hp g7 hc
      rw [if_neg g7, if_neg (by omega), if_neg (by omega), if_neg (by omega)]
      obtain ⟨rfl, rfl⟩ := hc
      by_cases g11 : k = 11
      · subst g11
        rw [if_pos rfl]
        exact calls _ (by decide) (by omega) (fun s => by rw [hp]; rfl)
      · obtain rfl : k = 12 := by omega
        rw [if_neg g11, if_pos rfl]
        exact calls _ (by decide) (by omega) (fun s => by rw [hp]; rfl)
    · omega
  rw [if_neg h4] at hh
  rw [if_neg (by omega), if_neg (by omega), if_neg (by omega), if_neg (by omega)]
  by_cases h8 : k = 8
  · subst h8
    rw [if_pos rfl] at hh
    split at hh
    · rename_i hc
      obtain ⟨hn0, hn8, rfl⟩ := hc
      obtain ⟨a, w, rfl, rfl⟩ := one' (by omega)
      obtain ⟨ta, a1, a2, a3⟩ := ih 0 (by simp)
      obtain ⟨ta', a4, a5⟩ := brk_ql a1 a2 a3 5
      rw [if_pos rfl, itoa_digit hn0 hn8]
      have hd : num [48 + n.toNat] = true := by
        have : n = 0 ∨ n = 1 ∨ n = 2 ∨ n = 3 ∨ n = 4 ∨ n = 5 ∨ n = 6 ∨ n = 7 ∨ n = 8 := by omega
        rcases this with rfl | rfl | rfl | rfl | rfl | rfl | rfl | rfl | rfl <;> decide
      have ht := (a4.appS (c := 94) (s' := []) (tk_sign (c := 94) (by decide)) (by decide)).appA (tk_num hd)
      refine ⟨_, ht, Qs.ql (fun K rest nd m hK h1 h2 => ?_) (by simp only; decide)⟩
      obtain ⟨⟨u, r, hu, hne⟩, q⟩ := a5.1 (by decide)
      have q := q K ((3, [94]) :: (2, [48 + n.toNat]) :: rest) nd m (by simp only [List.length_append, List.length_cons, List.length_nil] at hK; omega) (noB_sign (by decide))
      have e : (ta' ++ [(3, [94])] ++ [(2, [48 + n.toNat])]) ++ rest = ta' ++ (3, [94]) :: (2, [48 + n.toNat]) :: rest := by simp
      rw [e]
      unfold sgnP
      simp only [List.getD_cons_zero] at q
      rw [hu, List.cons_append] at q ⊢
      simp only
      rw [signedP, if_neg hne, q]
      simp only [Option.bind_some]
      unfold powP
      dsimp only
      rw [if_pos rfl, if_pos ⟨rfl, rfl, by simp only [List.getD_cons_zero]; omega⟩]
      simp only [put, List.getD_cons_zero, List.flatten_cons, List.flatten_nil, List.append_nil, List.append_assoc]
      rw [show ((48 + n.toNat : Nat) : Int) - 48 = n by omega]
    · omega
  rw [if_neg h8] at hh
  rw [if_neg h8, if_neg (by omega), if_neg (by omega), if_neg (by omega), if_neg (by omega)]
  by_cases h13 : k = 13
  · subst h13
    rw [if_pos rfl] at hh
    split at hh
    · rename_i hc
      obtain ⟨hn1, hn6, hname⟩ := hc
      unfold nameOk at hname
      simp only [Bool.and_eq_true, Bool.not_eq_true', decide_eq_false_iff_not] at hname
      rw [if_pos rfl]
      refine calls t hname.1 (by omega) (fun s => ?_)
      unfold callP
      rw [if_pos hname.2, decide_eq_false (by omega), Bool.or_false, show ((ps.length : Nat) : Int) = n by omega]
    · omega
  rw [if_neg h13] at hh
  omega
theorem round : ∀ (n : Nat) (l : List Nd) (w : Wt), l.length ≤ n → Trm l → Wr l w → ∃ ts, TkA w.1 ts ∧ QL w.2 ts l ∧ w.2 ≤ 5
  | 0, l, w, hn, h, _ => absurd h.pos (by omega)
  | n + 1, l, w, hn, h, hw => by
    obtain ⟨ps, x, rfl, hps, hx⟩ := sub_split h
    obtain ⟨ws, e1, e2, e3⟩ := wr_parts ps hps
    have hwe := hw.inj (wr_node hx e1 e3)
    have ih : ∀ j, j < ps.length → ∃ ts, TkA (ws.getD j ([], 0)).1 ts ∧ QL (ws.getD j ([], 0)).2 ts (ps.getD j []) ∧ (ws.getD j ([], 0)).2 ≤ 5 := fun j hj => by
      have hm : ps.getD j [] ∈ ps := by
        rw [List.getD_eq_getElem?_getD, List.getElem?_eq_getElem hj]
        exact List.getElem_mem hj
      refine round n (ps.getD j []) (ws.getD j ([], 0)) ?_ (hps _ hm) (e2 j hj)
      have h1 : (ps.getD j []).length ≤ ps.flatten.length := by
        exact (List.sublist_flatten_of_mem hm).length_le
      rw [List.length_append, List.length_singleton] at hn
      omega
    obtain ⟨ts, h1, h2⟩ := round_node hx e1 ih
    exact ⟨ts, by rw [hwe]; exact h1, by rw [hwe]; exact h2, by rw [hwe]; exact level_bounds x ws⟩
end Pt

/- What is read is read ahead of a closing bracket too, at a depth less by one: plain. -/
namespace Pt
section
variable (y : List Tok)
abbrev addY (s : RSt) : RSt := (s.1 ++ (3, [41]) :: y, s.2)
def Loc (j : Nat) (f f' : Rdr) : Prop := ∀ s s', s.1.length < j → f s = some s' → f' (addY y s) = some (addY y s')
variable {y}
theorem loc_loop {j : Nat} {f f' : Rdr} (hf : Takes f) (hf' : Takes f') (h : Loc y j f f') {a b : List Nat} (ha : a ≠ [41]) (hb : b ≠ [41]) {ka kb : Int} : ∀ (n : Nat) (s s' : RSt), s.1.length ≤ n → s.1.length ≤ j → loopP f a b ka kb s = some s' → loopP f' a b ka kb (addY y s) = some (addY y s')
  | n, ([], nd, m), s', _, _, e => by
    rw [loopP_nil] at e
    cases e
    exact loopP_end (by rintro (h | h) <;> simp only [Prod.mk.injEq, true_and] at h; exact ha h.symm; exact hb h.symm)
  | n, (t :: r, nd, m), s', hn, hj, e => by
    simp only [addY, List.cons_append]
    by_cases ht : t = (3, a) ∨ t = (3, b)
    · rw [loopP_on ht hf.le] at e
      rw [loopP_on ht hf'.le]
      simp only [List.length_cons] at hn hj
      cases hq : f (r, nd, m) with
      | none => rw [hq] at e; cases e
      | some s1 =>
        rw [hq] at e
        have hl := (hf _ _ hq).len
        simp only at hl
        rw [show f' (r ++ (3, [41]) :: y, nd, m) = some (addY y s1) from h (r, nd, m) s1 (by simp only; omega) hq]
        match n, hn with
        | n + 1, hn => exact loc_loop hf hf' h ha hb n (put (if t = (3, b) then kb else ka) 0 [] s1) s' (by simp only [put]; omega) (by simp only [put]; omega) e
    · rw [loopP_end ht] at e
      cases e
      exact loopP_end ht
theorem loc_pow {s s' : RSt} (h : powP s = some s') : powP (addY y s) = some (addY y s') := by
  obtain ⟨ts, nd, m⟩ := s
  cases ts with
  | nil =>
    have e : s' = ([], nd, m) := by
      unfold powP at h
      exact (Option.some.inj h).symm
    subst e
    unfold powP
    simp only [addY, List.nil_append]
    rw [if_neg (by decide)]
  | cons t r =>
    unfold powP at h ⊢
    simp only [addY, List.cons_append] at h ⊢
    by_cases ht : t = (3, [94])
    · rw [if_pos ht] at h ⊢
      cases r with
      | nil => cases h
      | cons u r' =>
        simp only [List.cons_append] at h ⊢
        by_cases hu : u.1 = 2 ∧ u.2.length = 1 ∧ u.2.getD 0 0 ≤ 56
        · rw [if_pos hu] at h ⊢
          cases h
          rfl
        · rw [if_neg hu] at h
          cases h
    · rw [if_neg ht] at h ⊢
      cases h
      rfl
theorem loc_signed {j : Nat} {A A' : Rdr} (h : Loc y j A A') : ∀ (ts : List Tok) (nd : List Nd) (m : Bool) (s' : RSt), ts.length < j → signedP A ts nd m = some s' → signedP A' (ts ++ (3, [41]) :: y) nd m = some (addY y s')
  | [], nd, m, s', hj, e => by
    rw [signedP] at e
    rw [List.nil_append, signedP, if_neg (by decide)]
    cases hq : A ([], nd, m) with
    | none => rw [hq] at e; cases e
    | some s1 =>
      rw [hq] at e
      rw [show A' ((3, [41]) :: y, nd, m) = some (addY y s1) from h ([], nd, m) s1 hj hq]
      exact loc_pow e
  | t :: r, nd, m, s', hj, e => by
    rw [signedP] at e
    rw [List.cons_append, signedP]
    by_cases ht : t = (3, [45])
    · rw [if_pos ht] at e ⊢
      cases hq : signedP A r nd m with
      | none => rw [hq] at e; cases e
      | some s1 =>
        rw [hq] at e
        cases e
        rw [loc_signed h r nd m s1 (by simp only [List.length_cons] at hj; omega) hq]
        rfl
    · rw [if_neg ht] at e ⊢
      cases hq : A (t :: r, nd, m) with
      | none => rw [hq] at e; cases e
      | some s1 =>
        rw [hq] at e
        rw [show A' (t :: (r ++ (3, [41]) :: y), nd, m) = some (addY y s1) from h (t :: r, nd, m) s1 hj hq]
        exact loc_pow e
theorem loc_close {s s' : RSt} (h : closeP s = some s') : closeP (addY y s) = some (addY y s') := by
  obtain ⟨ts, nd, m⟩ := s
  cases ts with
  | nil => cases h
  | cons t r =>
    unfold closeP at h ⊢
    simp only [addY, List.cons_append] at h ⊢
    by_cases ht : t = (3, [41])
    · rw [if_pos ht] at h ⊢
      cases h
      rfl
    · rw [if_neg ht] at h
      cases h
theorem loc_args {j : Nat} {S S' : Rdr} (hS : Takes S) (hS' : Takes S') (h : Loc y j S S') : ∀ (l : Nat) (s : RSt) (n : Nat) (s' : RSt) (n' : Nat), s.1.length ≤ l → s.1.length ≤ j → argsP S s n = some (s', n') → argsP S' (addY y s) n = some (addY y s', n')
  | l, ([], nd, m), n, s', n', _, _, e => by
    rw [argsP_nil] at e
    cases e
  | l, (t :: r, nd, m), n, s', n', hl, hj, e => by
    simp only [addY, List.cons_append]
    simp only [List.length_cons] at hl hj
    by_cases h1 : t = (3, [44])
    · subst h1
      rw [argsP_on hS.le] at e
      rw [argsP_on hS'.le]
      cases hq : S (r, nd, m) with
      | none => rw [hq] at e; cases e
      | some s1 =>
        rw [hq] at e
        have hle := (hS _ _ hq).len
        simp only at hle
        rw [show S' (r ++ (3, [41]) :: y, nd, m) = some (addY y s1) from h (r, nd, m) s1 (by simp only; omega) hq]
        match l, hl with
        | l + 1, hl => exact loc_args hS hS' h l s1 (n + 1) s' n' (by omega) (by omega) e
    · by_cases h2 : t = (3, [41])
      · subst h2
        rw [argsP_end] at e
        cases e
        exact argsP_end
      · rw [argsP_bad h1 h2] at e
        cases e
theorem loc_call {t : List Nat} {n : Nat} {s s' : RSt} (h : callP t n s = some s') : callP t n (addY y s) = some (addY y s') := by
  unfold callP at h ⊢
  by_cases h1 : t ∉ words
  · rw [if_pos h1] at h ⊢
    cases h
    rfl
  rw [if_neg h1] at h ⊢
  by_cases h2 : t = [115, 113, 114, 116] ∧ n = 1
  · rw [if_pos h2] at h ⊢
    cases h
    rfl
  rw [if_neg h2] at h ⊢
  by_cases h3 : t = [97, 98, 115] ∧ n = 1
  · rw [if_pos h3] at h ⊢
    cases h
    rfl
  rw [if_neg h3] at h ⊢
  by_cases h4 : t = [109, 105, 110] ∧ n = 2
  · rw [if_pos h4] at h ⊢
    cases h
    rfl
  rw [if_neg h4] at h ⊢
  by_cases h5 : t = [109, 97, 120] ∧ n = 2
  · rw [if_pos h5] at h ⊢
    cases h
    rfl
  rw [if_neg h5] at h
  cases h
theorem loc_name {t : List Nat} {s s' : RSt} (h : nameP t s = some s') : nameP t (addY y s) = some (addY y s') := by
  unfold nameP at h ⊢
  by_cases h1 : t ∈ words
  · rw [if_pos h1] at h
    cases h
  · rw [if_neg h1] at h ⊢
    cases h
    rfl
theorem loc_atom {j : Nat} {S S' : Rdr} (hS : Takes S) (hS' : Takes S') (h : Loc y j S S') : Loc y (j + 1) (atomP S) (atomP S') := by
  rintro ⟨ts, nd, m⟩ s' hj e
  simp only at hj
  cases ts with
  | nil => cases e
  | cons t r =>
    simp only [List.length_cons] at hj
    unfold atomP at e ⊢
    simp only [addY, List.cons_append] at e ⊢
    by_cases h40 : t = (3, [40])
    · rw [if_pos h40] at e ⊢
      cases hq : S (r, nd, m) with
      | none => rw [hq] at e; cases e
      | some s1 =>
        rw [hq] at e
        rw [show S' (r ++ (3, [41]) :: y, nd, m) = some (addY y s1) from h (r, nd, m) s1 (by simp only; omega) hq]
        exact loc_close e
    rw [if_neg h40] at e ⊢
    by_cases h2 : t.1 = 2
    · rw [if_pos h2] at e ⊢
      cases e
      rfl
    rw [if_neg h2] at e ⊢
    by_cases h1 : t.1 = 1
    · rw [if_pos h1] at e ⊢
      cases r with
      | nil =>
        simp only [List.nil_append] at e ⊢
        rw [if_neg (by decide)]
        exact loc_name e
      | cons u r' =>
        simp only [List.cons_append, List.length_cons] at e hj ⊢
        by_cases hu : u = (3, [40])
        · rw [if_pos hu] at e ⊢
          cases hq : S (r', nd, m) with
          | none => rw [hq] at e; cases e
          | some s1 =>
            rw [hq] at e
            rw [show S' (r' ++ (3, [41]) :: y, nd, m) = some (addY y s1) from h (r', nd, m) s1 (by simp only; omega) hq]
            have hle := (hS _ _ hq).len
            simp only [Option.bind_some] at e hle ⊢
            cases ha : argsP S s1 1 with
            | none => rw [ha] at e; cases e
            | some q =>
              obtain ⟨s2, n2⟩ := q
              rw [ha] at e
              rw [loc_args hS hS' h s1.1.length s1 1 s2 n2 (Nat.le_refl _) (by omega) ha]
              exact loc_call e
        · rw [if_neg hu] at e ⊢
          exact loc_name e
    · rw [if_neg h1] at e
      cases e
theorem loc_sum1 {j : Nat} {S S' : Rdr} (hS : Takes S) (hS' : Takes S') (h : Loc y j S S') : Loc y (j + 1) (sumP1 S) (sumP1 S') := by
  have h1 : Loc y (j + 1) (sgnP S) (sgnP S') := fun s s' hj e => loc_signed (loc_atom hS hS' h) s.1 s.2.1 s.2.2 s' hj e
  have h2 : Loc y (j + 1) (prodP S) (prodP S') := fun s s' hj e => by
    unfold prodP at e ⊢
    cases hq : sgnP S s with
    | none => rw [hq] at e; cases e
    | some s1 =>
      rw [hq] at e
      have hle := (sgn_took hS _ _ hq).len
      rw [h1 s s1 hj hq]
      exact loc_loop (sgn_took hS) (sgn_took hS') h1 (by decide) (by decide) s1.1.length s1 s' (Nat.le_refl _) (by omega) e
  intro s s' hj e
  unfold sumP1 at e ⊢
  cases hq : prodP S s with
  | none => rw [hq] at e; cases e
  | some s1 =>
    rw [hq] at e
    have hle := (prod_took hS _ _ hq).len
    rw [h2 s s1 hj hq]
    exact loc_loop (prod_took hS) (prod_took hS') h2 (by decide) (by decide) s1.1.length s1 s' (Nat.le_refl _) (by omega) e
theorem loc_sum : ∀ k, Loc y k (sumP k) (sumP (k - 1))
  | 0 => fun s s' h => absurd h (Nat.not_lt_zero _)
  | 1 => fun s s' h e => by
    obtain ⟨ts, nd, m⟩ := s
    have : ts = [] := List.length_eq_zero_iff.1 (by simp only at h; omega)
    subst this
    cases e
  | k + 2 => loc_sum1 (sum_took (k + 1)) (sum_took k) (loc_sum (k + 1))
end
end Pt
