/- Own texts, part M5: PuC PuD PuE PuG PuH PuI. -/
import Derived.Test.YthallaeafilbbaaGreatDoorM4
set_option linter.unusedVariables false

/- The program's reader of terms: sums, products, signed things, arguments. Seat T. -/
namespace Go.Px.Seat
open Go Pm Pt
set_option linter.unusedVariables false
section
variable {n : Nat} (hn : 1152921504606846976 ≤ n)
include hn
theorem loop_bad (c : Cal) (a b : List Nat) (ka kb : Int) (ts : List TE) (nd : List Tn) (m : Bool) : loopI ((C B0).run n) n c a b ka kb (ts, (nd, (true, (m, ())))) = some (ts, (nd, (true, (m, ())))) := by
  obtain ⟨j, rfl⟩ : ∃ j, n = j + 1 := ⟨n - 1, by omega⟩
  rfl
variable 
  (kat : ∀ (ts : List TE) (nd : List Tn) (b m : Bool) (L : List ByteArray), L.length ≤ 100 → c_i_termReader_at ((C B0).run n) ts nd b m L = some (atR L ts, (ts, (nd, (b, (m, ()))))))
  (knx : ∀ (t : TE) (r : List TE) (nd : List Tn) (b m : Bool), c_i_termReader_next ((C B0).run n) (t :: r) nd b m = some (t.1, (t.2.1, (r, (nd, (b, (m, ())))))))
  (kpt : ∀ (ts : List TE) (nd : List Tn) (b m : Bool) (x y : Int) (s : ByteArray), nd.length ≤ 1000000 → c_i_termReader_put ((C B0).run n) ts nd b m x y s = some (ts, (nd ++ [(x, (y, (s, ())))], (b, (m, ())))))
include kat knx kpt
theorem chain_tot {c : Cal} {f : Rdr} (hf : Takes f) {k : Nat} (hc : RdsB c f k) {a b : List Nat} (ha : Bl a) (hb : Bl b) (ka kb : Int) :
    RdsB (fun ts nd b' m => (c ts nd b' m).bind fun q => loopI ((C B0).run n) n c a b ka kb q) (fun s => (f s).bind (loopP f a b ka kb)) k := by
  intro s hk ht hl
  refine tot_bind (Res (f s) s) (hc s hk ht hl) fun q hq => ?_
  cases hfs : f s with
  | none =>
    rw [hfs] at hq
    obtain ⟨ts, nd, m, rfl, h1, h2⟩ := hq
    rw [loop_bad hn]
    dsimp only
    rw [hfs]
    exact tot_some ⟨ts, nd, m, rfl, h1, h2⟩
  | some s' =>
    rw [hfs] at hq
    have hq' : q = encR s' false := hq
    subst hq'
    have hto := hf _ _ hfs
    have h1 := hto.len
    have h2 := hto.nodes
    dsimp only
    rw [hfs]
    refine tot_mono (loop_tot hn kat knx kpt hf hc ha hb ka kb (s := s') (by omega) (hto.all ht) (by omega)) fun r hr => ?_
    simp only [Option.bind_some]
    cases hlo : loopP f a b ka kb s' with
    | none =>
      rw [hlo] at hr
      obtain ⟨ts, nd, m, rfl, g1, g2⟩ := hr
      exact ⟨ts, nd, m, rfl, by omega, by omega⟩
    | some s'' => rw [hlo] at hr; exact hr
end
/-- from some depth on a reader of fewer than k tokens reads as it is told -/
def Rds (c : Run → Cal) (f : Rdr) (k : Nat) : Prop := Ev fun n => RdsB (c ((C B0).run n)) f k
theorem rds_zero (c : Run → Cal) (f : Rdr) : Rds c f 0 := ⟨0, fun n _ s h => absurd h (Nat.not_lt_zero _)⟩
theorem k_sum {S : Rdr} (hS : Takes S) {k : Nat} (h : Rds c_i_termReader_product (prodP S) k) : Rds c_i_termReader_sum (sumP1 S) k := by
  refine (h.and (k_at.and (k_next.and k_put))).succ fun n hn ⟨hc, kat, knx, kpt⟩ s hk ht hl => ?_
  rw [run_succ, e_i_termReader_sum]
  exact chain_tot hn kat knx kpt (prod_took hS) hc (a := [43]) (b := [45]) (by unfold Bl; decide) (by unfold Bl; decide) 4 5 s hk ht hl
theorem k_product {S : Rdr} (hS : Takes S) {k : Nat} (h : Rds c_i_termReader_signed (sgnP S) k) : Rds c_i_termReader_product (prodP S) k := by
  refine (h.and (k_at.and (k_next.and k_put))).succ fun n hn ⟨hc, kat, knx, kpt⟩ s hk ht hl => ?_
  rw [run_succ, e_i_termReader_product]
  exact chain_tot hn kat knx kpt (sgn_took hS) hc (a := [42]) (b := [47]) (by unfold Bl; decide) (by unfold Bl; decide) 6 7 s hk ht hl
theorem digit_of {t : Tok} (ht : TokOk t) (h2 : t.1 = 2) (h1 : t.2.length = 1) : ∃ d, t.2 = [d] ∧ 48 ≤ d ∧ d ≤ 57 := by
  obtain ⟨k, x⟩ := t
  match x, h1 with
  | [d], _ =>
    refine ⟨d, rfl, ?_⟩
    have hn := ht.2.2.2 h2
    simp only at hn
    have hd : digit d = true := by
      unfold numOk num at hn
      simp only [Bool.and_eq_true] at hn
      have hw := hn.1.1
      by_cases h46 : d = 46
      · subst h46; revert hw; decide
      · by_cases h101 : d = 101
        · subst h101; revert hw; decide
        · have e1 : cutAt 101 [d] = ([d], [], false) := by simp [cutAt, h101]
          have e2 : cutAt 46 [d] = ([d], [], false) := by simp [cutAt, h46]
          rw [e1] at hw
          simp only [e2, whole, Bool.and_eq_true, List.all_cons, List.all_nil, Bool.and_true] at hw
          exact hw.2.1
    exact digit_iff.1 hd
/-- the digit's place among the digits -/
theorem digit_val {d : Nat} (h : 48 ≤ d) (h' : d ≤ 57) : IntKind.wrap .i64 (isub .u8 (bt (bs [d]) 0) 48) = (d : Int) - 48 := by
  have : d = 48 ∨ d = 49 ∨ d = 50 ∨ d = 51 ∨ d = 52 ∨ d = 53 ∨ d = 54 ∨ d = 55 ∨ d = 56 ∨ d = 57 := by omega
  rcases this with h | h | h | h | h | h | h | h | h | h <;> subst h <;> rfl
theorem digit_le {d : Nat} (h : 48 ≤ d) (h' : d ≤ 57) : (slt (bs [d]) (bs [56]) || seq (bs [d]) (bs [56])) = decide (d ≤ 56) := by
  rw [bs_seq (a := [d]) (b := [56]) (fun x hx => by simp at hx; omega) (by unfold Bl; decide)]
  have e : ∀ x : Nat, x < 256 → (UInt8.ofNat x).toNat = x := fun x hx => by
    rw [UInt8.toNat_ofNat']
    exact Nat.mod_eq_of_lt hx
  unfold slt
  rw [ByteArray.toList_eq, ByteArray.toList_eq]
  have l1 : ∀ l : List Nat, (bs l).data.toList = l.map UInt8.ofNat := fun l => by simp [bs]
  rw [l1, l1]
  simp only [List.map_cons, List.map_nil, Op.bytesLess, Bool.and_false, Bool.or_false]
  have lt : decide (UInt8.ofNat d < UInt8.ofNat 56) = decide (d < 56) := by
    refine decide_eq_decide.2 ?_
    rw [UInt8.lt_iff_toNat_lt, e d (by omega), e 56 (by omega)]
  rw [lt, Bool.eq_iff_iff]
  simp only [Bool.or_eq_true, decide_eq_true_eq, List.cons.injEq, and_true]
  omega
theorem k_signed {A : Rdr} (hA : Takes A) : ∀ {k : Nat}, Rds c_i_termReader_atom A k → Rds c_i_termReader_signed (fun s => signedP A s.1 s.2.1 s.2.2) k
  | 0, _ => rds_zero _ _
  | k + 1, h => by
    have h' : Rds c_i_termReader_atom A k := h.mono fun n hn s hk => hn s (by omega)
    refine (h.and ((k_signed hA h').and (k_at.and (k_next0.and (k_next.and k_put))))).succ fun n hn ⟨ha, hs, kat, kn0, knx, kpt⟩ s hk ht hl => ?_
    obtain ⟨ts, nd, m⟩ := s
    simp only at hk ht hl ⊢
    rw [run_succ, e_i_termReader_signed]
    unfold p_i_termReader_signed
    rw [kat _ _ _ _ _ (by simp), atR_one (by unfold Bl; decide) ht]
    simp only [Option.bind_some]
    -- what stands behind an atom
    have tail : ∀ q, Res (A (ts, nd, m)) (ts, nd, m) q → Tot (jb (P := (((Bool × (Unit × Unit))) × ((((List ((Int × (ByteArray × Unit)))) × (Unit × (Bool × (Bool × Unit))))) × ((List ((Int × (Int × (ByteArray × Unit))))) × Unit)))) (
      bif q.2.2.1 then
        some (.inr ((true, ((), ())), ((q.1, ((), (q.2.2.1, (q.2.2.2.1, ())))), (q.2.1, ()))))
      else
      (c_i_termReader_at ((C B0).run n) q.1 q.2.1 q.2.2.1 q.2.2.2.1 [(bs [94])]).bind fun (r121_2_1, (r121_2b, (r121_2c, (r121_2d, (r121_2e, _))))) =>
      some (.inr (((!r121_2_1), ((), ())), ((r121_2b, ((), (r121_2d, (r121_2e, ())))), (r121_2c, ()))))) fun ((t23, (_, _)), ((o0a, (_, (o0b, (o0c, _)))), (o1, _))) =>
  bif t23 then
    some (o0a, (o1, (o0b, (o0c, ()))))
  else
  (c_i_termReader_next ((C B0).run n) o0a o1 o0b o0c).bind fun (r122_2_1, (r122_2b, (r122_2c, (r122_2d, (r122_2e, (r122_2f, _)))))) =>
  (c_i_termReader_next ((C B0).run n) r122_2c r122_2d r122_2e r122_2f).bind fun (r122_3_1, (r122_3b, (r122_3c, (r122_3d, (r122_3e, (r122_3f, _)))))) =>
  jb (P := (((Bool × (Unit × (Unit × Unit)))) × ((((List ((Int × (ByteArray × Unit)))) × (Unit × (Bool × (Bool × Unit))))) × (((Int × (ByteArray × Unit))) × ((List ((Int × (Int × (ByteArray × Unit))))) × Unit))))) (
      bif (r122_3_1 != 2) then
        some (.inr ((true, ((), ((), ()))), ((r122_3c, ((), (r122_3e, (r122_3f, ())))), ((r122_3_1, (r122_3b, ())), (r122_3d, ())))))
      else
      bif ((slen r122_3b) != 1) then
        some (.inr ((true, ((), ((), ()))), ((r122_3c, ((), (r122_3e, (r122_3f, ())))), ((r122_3_1, (r122_3b, ())), (r122_3d, ())))))
      else
      some (.inr (((!(slt r122_3b (bs [56]) || seq r122_3b (bs [56]))), ((), ((), ()))), ((r122_3c, ((), (r122_3e, (r122_3f, ())))), ((r122_3_1, (r122_3b, ())), (r122_3d, ())))))) fun ((t41, (_, (_, _))), ((o0a_1, (_, (o0b_1, (o0c_1, _)))), ((o1a, (o1b, _)), (o2, _)))) =>
  bif t41 then
    some (o0a_1, (o2, (true, (o0c_1, ()))))
  else
  ok (inB 0 (slen o1b)) <|
  (c_i_termReader_put ((C B0).run n) o0a_1 o2 o0b_1 o0c_1 8 (IntKind.wrap .i64 (isub .u8 (bt o1b 0) 48)) (bs [])).bind fun (r123_2_1, (r123_2b, (r123_2c, (r123_2d, _)))) =>
  some (r123_2_1, (r123_2b, (r123_2c, (r123_2d, ()))))) (Res ((A (ts, nd, m)).bind powP) (ts, nd, m)) := by
      intro q hq
      cases hfs : A (ts, nd, m) with
      | none =>
        rw [hfs] at hq
        obtain ⟨ts', nd', m', rfl, h1, h2⟩ := hq
        exact tot_some ⟨ts', nd', m', rfl, h1, h2⟩
      | some s' =>
        rw [hfs] at hq
        have hq' : q = encR s' false := hq
        subst hq'
        have hto := hA _ _ hfs
        have hle := hto.len
        have hnd := hto.nodes
        have hal := hto.all ht
        obtain ⟨ts', nd', m'⟩ := s'
        simp only at hle hnd hal
        dsimp only [encR]
        rw [cond_false, kat _ _ _ _ _ (by simp), atR_one (by unfold Bl; decide) hal]
        simp only [Option.bind_some, jb_inr]
        cases ts' with
        | nil => exact tot_some rfl
        | cons t r =>
          dsimp only [hd]
          unfold powP
          dsimp only
          by_cases h94 : t = (3, [94])
          · subst h94
            rw [decide_eq_true rfl, Bool.not_true, cond_false, List.map_cons, knx, if_pos rfl]
            simp only [Option.bind_some]
            simp only [List.length_cons] at hle hnd
            cases r with
            | nil =>
              rw [List.map_nil, kn0]
              exact tot_some ⟨[], nd'.map encN, m', rfl, by simp, by simp; omega⟩
            | cons u r' =>
              have hu := hal u (by simp)
              simp only [List.length_cons] at hle hnd
              rw [List.map_cons, knx]
              simp only [Option.bind_some]
              have bad : Tot (some ((r'.map enc), (nd'.map encN, (true, (m', ())))) : Option RT) (Res none (ts, nd, m)) := tot_some ⟨_, _, _, rfl, by simp only [List.length_map]; omega, by simp only [List.length_map]; omega⟩
              have e2 : ((enc u).1 != 2) = !(decide (u.1 = 2)) := by
                show (((u.1 : Int) != 2)) = _
                rw [show (((u.1 : Int) != 2)) = !((u.1 : Int) == 2) from rfl, bq, decide_eq_decide.2 (show ((u.1 : Int) = 2) ↔ u.1 = 2 by omega)]
              rw [e2]
              by_cases h2 : u.1 = 2
              · rw [decide_eq_true h2, Bool.not_true, cond_false, show slen (enc u).2.1 = (u.2.length : Int) from bs_len _, show (((u.2.length : Int)) != 1) = !((u.2.length : Int) == 1) from rfl, bq, decide_eq_decide.2 (show ((u.2.length : Int) = 1) ↔ u.2.length = 1 by omega)]
                by_cases h1 : u.2.length = 1
                · obtain ⟨d, hd, h48, h57⟩ := digit_of hu h2 h1
                  rw [decide_eq_true h1, Bool.not_true, cond_false, show (enc u).2.1 = bs [d] from by rw [← hd]; rfl, digit_le h48 h57]
                  simp only [jb_inr]
                  rw [hd]
                  by_cases h56 : d ≤ 56
                  · rw [decide_eq_true h56, Bool.not_true, cond_false, ok_of (inB_true (Int.le_refl _) (by rw [bs_len, List.length_singleton]; decide)), digit_val h48 h57, kpt _ _ _ _ _ _ _ (by rw [List.length_map]; omega), if_pos ⟨h2, rfl, h56⟩]
                    simp only [Option.bind_some]
                    refine tot_some ?_
                    show _ = encR _ false
                    simp only [encR, put, List.map_append, List.map_cons, List.map_nil, encN]
                    rfl
                  · rw [decide_eq_false h56, Bool.not_false, cond_true, if_neg (fun h => h56 h.2.2)]
                    exact bad
                · rw [decide_eq_false h1, Bool.not_false, cond_true, if_neg (fun h => h1 h.2.1)]
                  exact bad
              · rw [decide_eq_false h2, Bool.not_false, cond_true, if_neg (fun h => h2 h.1)]
                exact bad
          · rw [decide_eq_false h94, if_neg h94]
            exact tot_some rfl
    cases ts with
    | nil =>
      dsimp only [hd]
      rw [cond_false, signedP]
      exact tot_bind _ (ha ([], nd, m) hk ht hl) tail
    | cons t r =>
      dsimp only [hd]
      rw [signedP]
      by_cases h45 : t = (3, [45])
      · rw [decide_eq_true h45, cond_true, if_pos h45, List.map_cons, knx]
        simp only [Option.bind_some]
        simp only [List.length_cons] at hk hl
        refine tot_bind _ (hs (r, nd, m) (by simp only; omega) (fun u hu => ht u (List.mem_cons_of_mem _ hu)) (by simp only; omega)) fun q hq => ?_
        cases hfs : signedP A r nd m with
        | none =>
          dsimp only at hq
          rw [hfs] at hq
          obtain ⟨ts', nd', m', rfl, h1, h2⟩ := hq
          simp only at h1 h2 ⊢
          rw [kpt _ _ _ _ _ _ _ (by omega)]
          exact tot_some ⟨ts', _, m', rfl, by simp only [List.length_cons]; omega, by simp only [List.length_append, List.length_cons, List.length_nil]; omega⟩
        | some s' =>
          dsimp only at hq
          rw [hfs] at hq
          have hq' : q = encR s' false := hq
          subst hq'
          have hnd := (signed_took hA r nd m s' hfs).nodes
          simp only at hnd
          dsimp only [encR]
          rw [kpt _ _ _ _ _ _ _ (by rw [List.length_map]; omega)]
          refine tot_some ?_
          show _ = encR _ false
          simp only [encR, put, List.map_append, List.map_cons, List.map_nil, encN]
      · rw [decide_eq_false h45, cond_false, if_neg h45]
        exact tot_bind _ (ha (t :: r, nd, m) hk ht hl) tail
end Go.Px.Seat

/- The program's reader of terms: arguments, atoms. Seat T. -/
namespace Pt
/-- what stands in brackets, and how many there are -/
def bracketP (S : Rdr) (s : RSt) : Option (RSt × Nat) :=
  match s.1 with
  | [] => none
  | t :: r => if t = (3, [40]) then (S (r, s.2)).bind fun s' => argsP S s' 1 else none
theorem args_le {S : Rdr} (hS : Takes S) : ∀ (l : Nat) (s : RSt) (n : Nat) (s' : RSt) (n' : Nat), s.1.length ≤ l → argsP S s n = some (s', n') → n ≤ n' ∧ n' + s'.1.length ≤ n + s.1.length
  | l, ([], nd, m), n, s', n', _, he => by
    rw [argsP_nil] at he
    cases he
  | l, (t :: r, nd, m), n, s', n', hl, he => by
    by_cases h1 : t = (3, [44])
    · subst h1
      rw [argsP_on hS.le] at he
      cases hq : S (r, nd, m) with
      | none => rw [hq] at he; cases he
      | some s1 =>
        rw [hq] at he
        have h2 := (hS _ _ hq).len
        simp only [List.length_cons] at hl h2
        match l, hl with
        | l + 1, hl =>
          have := args_le hS l s1 (n + 1) s' n' (by omega) he
          simp only [List.length_cons]
          omega
    · by_cases h2 : t = (3, [41])
      · subst h2
        rw [argsP_end] at he
        cases he
        simp only [List.length_cons]
        omega
      · rw [argsP_bad h1 h2] at he
        cases he
/-- a sum in brackets is one argument -/
theorem close_one {S : Rdr} (hS : Takes S) (s' : RSt) : closeP s' = (match argsP S s' 1 with | some (q, n) => if n = 1 then some q else none | none => none) := by
  obtain ⟨ts, nd, m⟩ := s'
  cases ts with
  | nil => rw [argsP_nil]; rfl
  | cons t r =>
    by_cases h1 : t = (3, [44])
    · subst h1
      rw [argsP_on hS.le]
      have e : closeP ((3, [44]) :: r, nd, m) = none := by
        unfold closeP
        simp
      rw [e]
      cases hq : S (r, nd, m) with
      | none => rfl
      | some s1 =>
        simp only [Option.bind_some]
        cases ha : argsP S s1 (1 + 1) with
        | none => rfl
        | some q =>
          obtain ⟨s2, n2⟩ := q
          have := args_le hS _ s1 2 s2 n2 (Nat.le_refl _) ha
          simp only
          rw [if_neg (by omega)]
    · by_cases h2 : t = (3, [41])
      · subst h2
        rw [argsP_end]
        unfold closeP
        simp
      · rw [argsP_bad h1 h2]
        unfold closeP
        simp only
        rw [if_neg h2]
end Pt
namespace Go.Px.Seat
open Go Pm Pt
set_option linter.unusedVariables false
def ResA (o : Option (RSt × Nat)) (s0 : RSt) (q : Int × RT) : Prop := match o with
  | some (s, c) => q = ((c : Int), encR s false)
  | none => BadR s0 q.2
abbrev PA : Type := (Unit × (Int × (Int × Unit))) × ((List TE × (Unit × (Bool × (Bool × Unit)))) × ((List Tn) × Unit))
def goodA (s : RSt) (c : Nat) : PA := (((), ((c : Int), ((0 : Int), ()))), ((s.1.map enc, ((), (false, (s.2.2, ())))), (s.2.1.map encN, ())))
def badA (c : Int) (ts : List TE) (nd : List Tn) (m : Bool) : PA := (((), (c, ((0 : Int), ()))), ((ts, ((), (true, (m, ())))), (nd, ())))
theorem k_arguments {S : Rdr} (hS : Takes S) {k : Nat} (h : Rds c_i_termReader_sum S k) : Ev fun n => ∀ s : RSt, s.1.length ≤ k → (∀ t ∈ s.1, TokOk t) → s.1.length + s.2.1.length ≤ 100000 →
    Tot (c_i_termReader_arguments ((C B0).run n) (s.1.map enc) (s.2.1.map encN) false s.2.2) (ResA (bracketP S s) s) := by
  refine (h.and (k_at.and (k_next.and (k_take0.and k_take)))).succ fun n hn ⟨hc, kat, knx, kt0, ktk⟩ s hk ht hl => ?_
  obtain ⟨ts, nd, m⟩ := s
  simp only at hk ht hl ⊢
  rw [run_succ, e_i_termReader_arguments]
  unfold p_i_termReader_arguments
  -- the bracket's end
  have fin : ∀ (c : Int) (tq : List TE) (nq : List Tn) (b mq : Bool), (b = true → tq.length ≤ ts.length ∧ tq.length + nq.length ≤ ts.length + nd.length) → ∀ Q : Int × RT → Prop,
      (b = true → ∀ q, BadR (ts, nd, m) q.2 → Q q) → (b = false → (tq = [] → Q (c, ([], (nq, (true, (mq, ())))))) ∧ ∀ t r, tq = t :: r → Q (c, (r, (nq, (notS (bs [41]) t, (mq, ())))))) →
      Tot ((c_i_termReader_take ((C B0).run n) tq nq b mq (bs [41])).bind fun (r230_2_1, (r230_2b, (r230_2c, (r230_2d, _)))) => (some (c, (r230_2_1, (r230_2b, (r230_2c, (r230_2d, ()))))) : Option (Int × RT))) Q := by
    intro c tq nq b mq hb Q h1 h2
    cases tq with
    | nil =>
      rw [kt0]
      cases b with
      | true => exact tot_some (h1 rfl _ ⟨[], nq, mq, rfl, Nat.zero_le _, by have := (hb rfl).2; simpa using this⟩)
      | false => exact tot_some ((h2 rfl).1 rfl)
    | cons t r =>
      rw [ktk]
      cases b with
      | true =>
        obtain ⟨g1, g2⟩ := hb rfl
        simp only [List.length_cons] at g1 g2
        exact tot_some (h1 rfl _ ⟨r, nq, mq, rfl, by simp only; omega, by simp only; omega⟩)
      | false => exact tot_some ((h2 rfl).2 t r rfl)
  -- the loop, from a state that is good
  have loop : ∀ (F : Option (RSt × Nat)) (p0 : PA), ((∃ (s1 : RSt) (c : Nat), p0 = goodA s1 c ∧ F = ((S s1).bind fun s' => argsP S s' (c + 1)) ∧ (∀ t ∈ s1.1, TokOk t) ∧ c + s1.1.length ≤ ts.length ∧ s1.1.length < k ∧ s1.1.length + s1.2.1.length ≤ ts.length + nd.length) ∨
      (∃ c tq nq mq, p0 = badA c tq nq mq ∧ F = none ∧ tq.length ≤ ts.length ∧ tq.length + nq.length ≤ ts.length + nd.length)) →
      Tot (jb (P := (((Unit × (Int × (Int × Unit)))) × ((((List ((Int × (ByteArray × Unit)))) × (Unit × (Bool × (Bool × Unit))))) × ((List ((Int × (Int × (ByteArray × Unit))))) × Unit)))) (
      iter (P := (((Unit × (Int × (Int × Unit)))) × ((((List ((Int × (ByteArray × Unit)))) × (Unit × (Bool × (Bool × Unit))))) × ((List ((Int × (Int × (ByteArray × Unit))))) × Unit)))) (fun rec ((_, (n3, (t2, _))), ((o0a, (_, (o0b, (o0c, _)))), (o1, _))) =>
          bif (!o0b) then
            (c_i_termReader_sum ((C B0).run n) o0a o1 o0b o0c).bind fun (r84_1, (r84b, (r84c, (r84d, _)))) =>
            (c_i_termReader_at ((C B0).run n) r84_1 r84b r84c r84d [(bs [44])]).bind fun (r121_1, (r121b, (r121c, (r121d, (r121e, _))))) =>
            bif (!r121_1) then
              some (.inr (((), ((iadd .i64 n3 1), (t2, ()))), ((r121b, ((), (r121d, (r121e, ())))), (r121c, ()))))
            else
            (c_i_termReader_next ((C B0).run n) r121b r121c r121d r121e).bind fun (r122_1, (r122b, (r122c, (r122d, (r122e, (r122f, _)))))) =>
            rec (((), ((iadd .i64 n3 1), (t2, ()))), ((r122c, ((), (r122e, (r122f, ())))), (r122d, ())))
          else
          some (.inr (((), (n3, (t2, ()))), ((o0a, ((), (o0b, (o0c, ())))), (o1, ()))))) n p0) fun ((_, (n3_1, (t2_1, _))), ((o0a_1, (_, (o0b_1, (o0c_1, _)))), (o1_1, _))) =>
  (c_i_termReader_take ((C B0).run n) o0a_1 o1_1 o0b_1 o0c_1 (bs [41])).bind fun (r230_2_1, (r230_2b, (r230_2c, (r230_2d, _)))) =>
  some (n3_1, (r230_2_1, (r230_2b, (r230_2c, (r230_2d, ())))))) (ResA F (ts, nd, m)) := by
    intro F p0 hp0
    refine tot_jb (fun p : PA => (∃ (s1 : RSt) (c : Nat), p = goodA s1 c ∧ (∀ t ∈ s1.1, TokOk t) ∧ F = argsP S s1 c ∧ (∀ t r, s1.1 = t :: r → t ≠ (3, [44])) ∧ s1.1.length ≤ ts.length ∧ s1.1.length + s1.2.1.length ≤ ts.length + nd.length) ∨
      (∃ c tq nq mq, p = badA c tq nq mq ∧ F = none ∧ tq.length ≤ ts.length ∧ tq.length + nq.length ≤ ts.length + nd.length)) ?_ ?_
    · refine tot_iter (fun p : PA => (∃ (s1 : RSt) (c : Nat), p = goodA s1 c ∧ F = ((S s1).bind fun s' => argsP S s' (c + 1)) ∧ (∀ t ∈ s1.1, TokOk t) ∧ c + s1.1.length ≤ ts.length ∧ s1.1.length < k ∧ s1.1.length + s1.2.1.length ≤ ts.length + nd.length) ∨
        (∃ c tq nq mq, p = badA c tq nq mq ∧ F = none ∧ tq.length ≤ ts.length ∧ tq.length + nq.length ≤ ts.length + nd.length)) (fun p => p.2.1.1.length) (by
          rcases hp0 with ⟨s1, c, rfl, _, _, h1, _⟩ | ⟨c, tq, nq, mq, rfl, _, h1, _⟩
          · simp only [goodA, List.length_map]; omega
          · simp only [badA]; omega) hp0 ?_
      rintro rec p (⟨⟨t1, n1, m1⟩, c, rfl, hF, ht1, h1, h1k, h2⟩ | ⟨c, tq, nq, mq, rfl, hF, h1, h2⟩) ih
      · simp only at ht1 h1 h1k h2
        dsimp only [goodA]
        rw [Bool.not_false, cond_true]
        refine tot_bind (Res (S (t1, n1, m1)) (t1, n1, m1)) (hc (t1, n1, m1) h1k ht1 (by simp only; omega)) fun q hq => ?_
        cases hfs : S (t1, n1, m1) with
        | none =>
          rw [hfs] at hq hF
          obtain ⟨tq, nq, mq, rfl, g1, g2⟩ := hq
          simp only at g1 g2 ⊢
          rw [kat _ _ _ _ _ (by simp)]
          simp only [Option.bind_some]
          cases ha : atR [bs [44]] tq with
          | false =>
            rw [Bool.not_false, cond_true]
            exact tot_some (.inr ⟨_, tq, nq, mq, rfl, hF, by omega, by omega⟩)
          | true =>
            rw [Bool.not_true, cond_false]
            cases tq with
            | nil => cases ha
            | cons t r =>
              rw [knx]
              simp only [List.length_cons] at g1 g2
              exact ih _ (.inr ⟨_, r, nq, mq, rfl, hF, by omega, by omega⟩) (by simp only [goodA, List.length_map]; omega)
        | some s' =>
          rw [hfs] at hq hF
          have hq' : q = encR s' false := hq
          subst hq'
          have hto := hS _ _ hfs
          have g1 := hto.len
          have g2 := hto.nodes
          have g3 := hto.all ht1
          obtain ⟨t2, n2, m2⟩ := s'
          simp only at g1 g2 g3
          simp only [Option.bind_some] at hF
          dsimp only [encR]
          rw [kat _ _ _ _ _ (by simp), atR_one (by unfold Bl; decide) g3]
          simp only [Option.bind_some]
          rw [iadd_eq (by omega) (by omega)]
          have ec : ((c : Int) + 1) = ((c + 1 : Nat) : Int) := by omega
          rw [ec]
          cases t2 with
          | nil =>
            dsimp only [hd]
            rw [Bool.not_false, cond_true]
            exact tot_some (.inl ⟨([], n2, m2), c + 1, rfl, g3, hF, fun t r h => (by cases h), Nat.zero_le _, by simp only; omega⟩)
          | cons t r =>
            dsimp only [hd]
            simp only [List.length_cons] at g1 g2
            by_cases h44 : t = (3, [44])
            · subst h44
              rw [decide_eq_true rfl, Bool.not_true, cond_false, List.map_cons, knx]
              simp only [Option.bind_some]
              rw [argsP_on hS.le] at hF
              exact ih _ (.inl ⟨(r, n2, m2), c + 1, rfl, hF, fun u hu => g3 u (List.mem_cons_of_mem _ hu), by simp only; omega, by simp only; omega, by simp only; omega⟩) (by simp only [goodA, List.length_map]; omega)
            · rw [decide_eq_false h44, Bool.not_false, cond_true]
              exact tot_some (.inl ⟨(t :: r, n2, m2), c + 1, rfl, g3, hF, fun t' r' h => (by
                simp only [List.cons.injEq] at h
                exact h.1 ▸ h44), by simp only [List.length_cons]; omega, by simp only [List.length_cons]; omega⟩)
      · dsimp only [badA]
        rw [Bool.not_true, cond_false]
        exact tot_some (.inr ⟨c, tq, nq, mq, rfl, hF, h1, h2⟩)
    · rintro p (⟨⟨t1, n1, m1⟩, c, rfl, ht1, hF, hne, h1, h2⟩ | ⟨c, tq, nq, mq, rfl, hF, h1, h2⟩)
      · dsimp only [goodA]
        simp only at h1 h2 hne ht1
        refine fin _ _ _ _ _ (fun h => by cases h) _ (fun h => by cases h) fun _ => ⟨fun h => ?_, fun t r h => ?_⟩
        · rw [List.map_eq_nil_iff] at h
          subst h
          rw [hF, argsP_nil]
          exact ⟨[], _, _, rfl, Nat.zero_le _, by simp only [List.length_map, List.length_nil]; simp only [List.length_nil] at h2; omega⟩
        · cases t1 with
          | nil => cases h
          | cons t' r' =>
            simp only [List.map_cons, List.cons.injEq] at h
            obtain ⟨rfl, rfl⟩ := h
            rw [notS_tok (ht1 t' (List.mem_cons_self ..)) (by unfold Bl; decide), hF]
            by_cases h41 : t' = (3, [41])
            · subst h41
              rw [argsP_end, decide_eq_true rfl]
              rfl
            · rw [argsP_bad (hne t' r' rfl) h41, decide_eq_false h41]
              simp only [List.length_cons] at h1 h2
              exact ⟨_, _, _, rfl, by simp only [List.length_map]; omega, by simp only [List.length_map]; omega⟩
      · dsimp only [badA]
        rw [hF]
        exact fin _ _ _ _ _ (fun _ => ⟨h1, h2⟩) _ (fun _ q h => h) (fun h => by cases h)
  cases ts with
  | nil =>
    rw [List.map_nil, kt0]
    simp only [Option.bind_some]
    refine loop _ _ (.inr ⟨0, [], nd.map encN, m, rfl, rfl, Nat.le_refl _, by simp⟩)
  | cons t r =>
    rw [List.map_cons, ktk, notS_tok (ht t (List.mem_cons_self ..)) (by unfold Bl; decide)]
    simp only [Option.bind_some]
    simp only [List.length_cons] at hk hl loop
    unfold bracketP
    dsimp only
    by_cases h40 : t = (3, [40])
    · subst h40
      rw [decide_eq_true rfl, if_pos rfl]
      exact loop _ _ (.inl ⟨(r, nd, m), 0, rfl, rfl, fun u hu => ht u (List.mem_cons_of_mem _ hu), by simp only; omega, by simp only; omega, by simp only; omega⟩)
    · rw [decide_eq_false h40, if_neg h40]
      exact loop _ _ (.inr ⟨0, r.map enc, nd.map encN, m, rfl, rfl, by simp only [List.length_map]; omega, by simp only [List.length_map]; omega⟩)
end Go.Px.Seat

/- The program's reader of terms: atoms; all of it. Seat T. -/
namespace Go.Px.Seat
open Go Pm Pt
set_option linter.unusedVariables false
abbrev wSqrt : List Nat := [115, 113, 114, 116]
abbrev wAbs : List Nat := [97, 98, 115]
abbrev wMin : List Nat := [109, 105, 110]
abbrev wMax : List Nat := [109, 97, 120]
noncomputable abbrev map4 : List (ByteArray × Int) := mput (mput (mput (mput [] (bs [115, 113, 114, 116]) 9) (bs [97, 98, 115]) 10) (bs [109, 105, 110]) 11) (bs [109, 97, 120]) 12
theorem toL {a b : List Nat} (ha : Bl a) (hb : Bl b) : ((bs a).toList == (bs b).toList) = decide (a = b) := bs_seq ha hb
theorem map4_eq : map4 = [(bs wSqrt, 9), (bs wAbs, 10), (bs wMin, 11), (bs wMax, 12)] := by
  have b1 : Bl wSqrt := by unfold Bl; decide
  have b2 : Bl wAbs := by unfold Bl; decide
  have b3 : Bl wMin := by unfold Bl; decide
  have b4 : Bl wMax := by unfold Bl; decide
  unfold map4
  simp only [mput]
  rw [toL b2 b1, decide_eq_false (by decide), cond_false]
  simp only [mput]
  rw [toL b3 b1, toL b3 b2, decide_eq_false (by decide), cond_false, decide_eq_false (by decide), cond_false]
  simp only [mput]
  rw [toL b4 b1, toL b4 b2, toL b4 b3, decide_eq_false (by decide), cond_false, decide_eq_false (by decide), cond_false, decide_eq_false (by decide), cond_false]
/-- the kinds of the language's functions -/
def kind4 (t : List Nat) : Int := if t = wSqrt then 9 else if t = wAbs then 10 else if t = wMin then 11 else if t = wMax then 12 else 0
def is4 (t : List Nat) : Prop := t = wSqrt ∨ t = wAbs ∨ t = wMin ∨ t = wMax
instance (t : List Nat) : Decidable (is4 t) := by unfold is4; exact inferInstance
theorem map4_has {t : List Nat} (ht : Bl t) (h : is4 t) : mhas map4 (bs t) = true := by
  rw [map4_eq]
  simp only [mhas, List.any_cons, List.any_nil, Bool.or_false]
  rw [toL ht (by unfold Bl; decide), toL ht (by unfold Bl; decide), toL ht (by unfold Bl; decide), toL ht (by unfold Bl; decide)]
  unfold is4 at h
  simpa using h
theorem map4_get {t : List Nat} (ht : Bl t) : mget map4 (bs t) = kind4 t := by
  rw [map4_eq]
  simp only [mget]
  rw [toL ht (by unfold Bl; decide), toL ht (by unfold Bl; decide), toL ht (by unfold Bl; decide), toL ht (by unfold Bl; decide)]
  unfold kind4
  by_cases h1 : t = wSqrt
  · rw [decide_eq_true h1, if_pos h1]; rfl
  rw [decide_eq_false h1, if_neg h1, cond_false]
  by_cases h2 : t = wAbs
  · rw [decide_eq_true h2, if_pos h2]; rfl
  rw [decide_eq_false h2, if_neg h2, cond_false]
  by_cases h3 : t = wMin
  · rw [decide_eq_true h3, if_pos h3]; rfl
  rw [decide_eq_false h3, if_neg h3, cond_false]
  by_cases h4 : t = wMax
  · rw [decide_eq_true h4, if_pos h4]; rfl
  rw [decide_eq_false h4, if_neg h4, cond_false]
theorem four_if {R : Type} (f : Bool → R) (t : List Nat) : (bif decide (t = wSqrt) then f true else bif decide (t = wAbs) then f true else bif decide (t = wMin) then f true else f (decide (t = wMax))) = f (decide (is4 t)) := by
  by_cases g1 : t = wSqrt
  · rw [decide_eq_true g1, decide_eq_true (show is4 t from .inl g1)]; rfl
  by_cases g2 : t = wAbs
  · rw [decide_eq_false g1, decide_eq_true g2, decide_eq_true (show is4 t from .inr (.inl g2))]; rfl
  by_cases g3 : t = wMin
  · rw [decide_eq_false g1, decide_eq_false g2, decide_eq_true g3, decide_eq_true (show is4 t from .inr (.inr (.inl g3)))]; rfl
  rw [decide_eq_false g1, decide_eq_false g2, decide_eq_false g3, decide_eq_decide.2 (show is4 t ↔ t = wMax from ⟨fun h => by rcases h with h | h | h | h <;> first | exact h | exact absurd h (by assumption), fun h => .inr (.inr (.inr h))⟩)]
  rfl
theorem is4_words {t : List Nat} (h : is4 t) : t ∈ words := by
  rcases h with rfl | rfl | rfl | rfl <;> decide
theorem call4 {t : List Nat} (h : is4 t) (s : RSt) (c : Nat) : callP t c s = if (c : Int) = nargs (kind4 t, 0, []) then some (put (kind4 t) 0 [] s) else none := by
  unfold callP
  rw [if_neg (fun h' => h' (is4_words h))]
  rcases h with rfl | rfl | rfl | rfl
  · by_cases hc : c = 1
    · subst hc; rfl
    · rw [if_neg (fun h => hc h.2), if_neg (fun h => absurd h.1 (by decide)), if_neg (fun h => absurd h.1 (by decide)), if_neg (fun h => absurd h.1 (by decide)), if_neg (fun h => hc (by
        have : (c : Int) = 1 := h
        omega))]
  · by_cases hc : c = 1
    · subst hc; rfl
    · rw [if_neg (fun h => absurd h.1 (by decide)), if_neg (fun h => hc h.2), if_neg (fun h => absurd h.1 (by decide)), if_neg (fun h => absurd h.1 (by decide)), if_neg (fun h => hc (by
        have : (c : Int) = 1 := h
        omega))]
  · by_cases hc : c = 2
    · subst hc; rfl
    · rw [if_neg (fun h => absurd h.1 (by decide)), if_neg (fun h => absurd h.1 (by decide)), if_neg (fun h => hc h.2), if_neg (fun h => absurd h.1 (by decide)), if_neg (fun h => hc (by
        have : (c : Int) = 2 := h
        omega))]
  · by_cases hc : c = 2
    · subst hc; rfl
    · rw [if_neg (fun h => absurd h.1 (by decide)), if_neg (fun h => absurd h.1 (by decide)), if_neg (fun h => absurd h.1 (by decide)), if_neg (fun h => hc h.2), if_neg (fun h => hc (by
        have : (c : Int) = 2 := h
        omega))]
/-- a word that is none of the functions is no name -/
theorem call0 {t : List Nat} (h : t ∈ words) (h4 : ¬ is4 t) (s : RSt) (c : Nat) : callP t c s = none := by
  unfold callP
  unfold is4 at h4
  rw [if_neg (fun h' => h' h), if_neg (fun h => h4 (.inl h.1)), if_neg (fun h => h4 (.inr (.inl h.1))), if_neg (fun h => h4 (.inr (.inr (.inl h.1)))), if_neg (fun h => h4 (.inr (.inr (.inr h.1))))]
/-- an atom that begins with a name -/
theorem atom_name {S : Rdr} {t : Tok} {r : List Tok} {x : List Nd × Bool} (h1 : t.1 = 1) : atomP S (t :: r, x) = (match bracketP S (r, x) with
    | some (s, c) => callP t.2 c s
    | none => bif hd (fun u => decide (u = (3, [40]))) r then none else nameP t.2 (r, x)) := by
  unfold atomP bracketP
  dsimp only
  rw [if_neg (by intro h; rw [h] at h1; cases h1), if_neg (by omega), if_pos h1]
  cases r with
  | nil => rfl
  | cons u r' =>
    dsimp only [hd]
    by_cases h40 : u = (3, [40])
    · rw [if_pos h40, if_pos h40]
      cases hq : (S (r', x)).bind fun s' => argsP S s' 1 with
      | none => dsimp only; rw [decide_eq_true h40]; rfl
      | some q => obtain ⟨s, c⟩ := q; rfl
    · rw [if_neg h40, if_neg h40]
      dsimp only
      rw [decide_eq_false h40]
      rfl
theorem k_atom {S : Rdr} (hS : Takes S) {k : Nat} (h : Rds c_i_termReader_sum S k) : Rds c_i_termReader_atom (atomP S) (k + 1) := by
  refine ((k_arguments hS h).and (k_at.and (k_next0.and (k_next.and (k_put.and (k_iParts.and k_NameOk)))))).succ fun n hn ⟨ka, kat, kn0, knx, kpt, kp, kN⟩ s hk ht hl => ?_
  obtain ⟨ts, nd, m⟩ := s
  simp only at hk ht hl ⊢
  rw [run_succ, e_i_termReader_atom]
  unfold p_i_termReader_atom
  rw [kat _ _ _ _ _ (by simp), atR_one (by unfold Bl; decide) ht]
  simp only [Option.bind_some]
  cases ts with
  | nil =>
    dsimp only [hd]
    rw [cond_false, List.map_nil, kn0]
    exact tot_some ⟨[], nd.map encN, m, rfl, Nat.le_refl _, by simp⟩
  | cons t r =>
    dsimp only [hd]
    have htt := ht t (List.mem_cons_self ..)
    have htr : ∀ u ∈ r, TokOk u := fun u hu => ht u (List.mem_cons_of_mem _ hu)
    by_cases h40 : t = (3, [40])
    · rw [decide_eq_true h40, cond_true]
      refine tot_jb (fun p : ((Unit × Unit)) × ((((List ((Int × (ByteArray × Unit)))) × (Unit × (Bool × (Bool × Unit))))) × ((List ((Int × (Int × (ByteArray × Unit))))) × Unit)) => Res (atomP S (t :: r, nd, m)) (t :: r, nd, m) (p.2.1.1, (p.2.2.1, (p.2.1.2.2.1, (p.2.1.2.2.2.1, ()))))) ?_ (fun p hp => tot_some hp)
      refine tot_bind (ResA (bracketP S (t :: r, nd, m)) (t :: r, nd, m)) (ka (t :: r, nd, m) (by simp only; omega) ht hl) fun q hq => ?_
      have ea : atomP S (t :: r, nd, m) = (match bracketP S (t :: r, nd, m) with | some (s, c) => if c = 1 then some s else none | none => none) := by
        unfold atomP bracketP
        dsimp only
        rw [if_pos h40, if_pos h40]
        cases hq : S (r, nd, m) with
        | none => rfl
        | some s' => simp only [Option.bind_some]; exact close_one hS s'
      rw [ea]
      cases hb : bracketP S (t :: r, nd, m) with
      | none =>
        rw [hb] at hq
        obtain ⟨c, q2⟩ := q
        obtain ⟨tq, nq, mq, e, h1, h2⟩ := hq
        simp only at e h1 h2
        subst e
        dsimp only
        cases c != 1 with
        | true => exact tot_some ⟨tq, nq, mq, rfl, h1, h2⟩
        | false => exact tot_some ⟨tq, nq, mq, rfl, h1, h2⟩
      | some sc =>
        obtain ⟨s', c⟩ := sc
        rw [hb] at hq
        have hq' : q = ((c : Int), encR s' false) := hq
        subst hq'
        dsimp only [encR]
        rw [show ((c : Int) != 1) = !((c : Int) == 1) from rfl, bq, decide_eq_decide.2 (show ((c : Int) = 1) ↔ c = 1 by omega)]
        by_cases hc : c = 1
        · rw [decide_eq_true hc, Bool.not_true, cond_false, if_pos hc]
          exact tot_some rfl
        · rw [decide_eq_false hc, Bool.not_false, cond_true, if_neg hc]
          have hbk : bracketP S (t :: r, nd, m) = (S (r, nd, m)).bind fun s' => argsP S s' 1 := by
            unfold bracketP
            dsimp only
            rw [if_pos h40]
          rw [hbk] at hb
          cases hq : S (r, nd, m) with
          | none => rw [hq] at hb; cases hb
          | some s1 =>
            rw [hq] at hb
            have g1 := hS _ _ hq
            have g3 := (args_took hS _ (r, nd, m) s1 1 0 s' c (Nat.le_refl _) g1 hb (Nat.le_refl _)).1
            have g4 := g3.len
            have g5 := g3.nodes
            simp only at g4 g5
            exact tot_some ⟨_, _, _, rfl, by simp only [List.length_map, List.length_cons]; omega, by simp only [List.length_map, List.length_cons]; omega⟩
    · rw [decide_eq_false h40, cond_false, List.map_cons, knx]
      simp only [Option.bind_some]
      simp only [List.length_cons] at hk hl
      rw [show (enc t).1 = (t.1 : Int) from rfl, show (enc t).2.1 = bs t.2 from rfl, bq, decide_eq_decide.2 (show ((t.1 : Int) = 2) ↔ t.1 = 2 by omega)]
      have bad : ∀ b : Bool, Tot (some ((r.map enc), (nd.map encN, (true, (b, ())))) : Option RT) (Res none (t :: r, nd, m)) := fun b => tot_some ⟨_, _, _, rfl, by simp only [List.length_map, List.length_cons]; omega, by simp only [List.length_map, List.length_cons]; omega⟩
      by_cases h2 : t.1 = 2
      · rw [decide_eq_true h2, cond_true, kpt _ _ _ _ _ _ _ (by rw [List.length_map]; omega)]
        have ea : atomP S (t :: r, nd, m) = some (put 1 0 t.2 (r, nd, m)) := by
          unfold atomP
          dsimp only
          rw [if_neg h40, if_pos h2]
        rw [ea]
        refine tot_some ?_
        show _ = encR _ false
        simp only [encR, put, List.map_append, List.map_cons, List.map_nil, encN]
      rw [decide_eq_false h2, cond_false, show (((t.1 : Int)) != 1) = !((t.1 : Int) == 1) from rfl, bq, decide_eq_decide.2 (show ((t.1 : Int) = 1) ↔ t.1 = 1 by omega)]
      by_cases h1 : t.1 = 1
      · rw [decide_eq_true h1, Bool.not_true, cond_false, atom_name h1]
        have hpl := htt.2.2.1 h1
        have hbl : Bl t.2 := htt.1
        have hlen := plain_len hpl
        rw [jb_of (p := ((decide (is4 t.2), ((), ((), ()))), (((t.1 : Int), (bs t.2, ())), ((r.map enc, ((), (false, (m, ())))), (nd.map encN, ()))))) (by
          rw [bs_seq hbl (by unfold Bl; decide), bs_seq hbl (by unfold Bl; decide), bs_seq hbl (by unfold Bl; decide), bs_seq hbl (by unfold Bl; decide)]
          exact four_if (fun b => (some (.inr ((b, ((), ((), ()))), (((t.1 : Int), (bs t.2, ())), ((r.map enc, ((), (false, (m, ())))), (nd.map encN, ()))))) : Option (RT ⊕ (((Bool × (Unit × (Unit × Unit)))) × (((Int × (ByteArray × Unit))) × ((((List ((Int × (ByteArray × Unit)))) × (Unit × (Bool × (Bool × Unit))))) × ((List ((Int × (Int × (ByteArray × Unit))))) × Unit))))))) t.2)]
        dsimp only
        have harg := ka (r, nd, m) (by simp only; omega) htr (by simp only; omega)
        simp only at harg
        -- nodes and tokens behind the brackets
        have hbr : ∀ s' c, bracketP S (r, nd, m) = some (s', c) → s'.1.length ≤ r.length ∧ s'.1.length + s'.2.1.length ≤ r.length + nd.length := fun s' c hb => by
          unfold bracketP at hb
          dsimp only at hb
          cases r with
          | nil => cases hb
          | cons u r' =>
            dsimp only at hb
            split at hb
            · cases hq : S (r', nd, m) with
              | none => rw [hq] at hb; cases hb
              | some s1 =>
                rw [hq] at hb
                have g1 := hS _ _ hq
                have g3 := (args_took hS _ (r', nd, m) s1 1 0 s' c (Nat.le_refl _) g1 hb (Nat.le_refl _)).1
                have g4 := g3.len
                have g5 := g3.nodes
                simp only [List.length_cons] at g4 g5 ⊢
                omega
            · cases hb
        by_cases h4 : is4 t.2
        · rw [decide_eq_true h4, cond_true, ok_of (map4_has hbl h4), map4_get hbl]
          have hpp : c_i_TermNode_parts ((C B0).run n) (kind4 t.2) 0 (bs []) = some (nargs (kind4 t.2, 0, []), ()) := kp _ _ [] (fun x hx => by cases hx) (by decide)
          refine tot_jb (fun p : ((Unit × (Int × Unit))) × ((((List ((Int × (ByteArray × Unit)))) × (Unit × (Bool × (Bool × Unit))))) × ((List ((Int × (Int × (ByteArray × Unit))))) × Unit)) => p.1.2.1 = kind4 t.2 ∧ ((∃ s' c, bracketP S (r, nd, m) = some (s', c) ∧ (c : Int) = nargs (kind4 t.2, 0, []) ∧ p.2 = ((s'.1.map enc, ((), (false, (s'.2.2, ())))), (s'.2.1.map encN, ()))) ∨
              ((∀ s' c, bracketP S (r, nd, m) = some (s', c) → (c : Int) ≠ nargs (kind4 t.2, 0, [])) ∧ ∃ tq nq mq, p.2 = ((tq, ((), (true, (mq, ())))), (nq, ())) ∧ tq.length ≤ r.length ∧ tq.length + nq.length ≤ r.length + nd.length))) ?_ ?_
          · refine tot_bind _ harg fun q hq => ?_
            cases hb : bracketP S (r, nd, m) with
            | none =>
              rw [hb] at hq
              obtain ⟨c, q2⟩ := q
              obtain ⟨tq, nq, mq, e, g1, g2⟩ := hq
              simp only at e g1 g2
              subst e
              dsimp only
              rw [hpp]
              simp only [Option.bind_some]
              cases c != nargs (kind4 t.2, 0, []) with
              | true => exact tot_some ⟨rfl, .inr ⟨fun s' c h => (by cases h), tq, nq, mq, rfl, g1, g2⟩⟩
              | false => exact tot_some ⟨rfl, .inr ⟨fun s' c h => (by cases h), tq, nq, mq, rfl, g1, g2⟩⟩
            | some sc =>
              obtain ⟨s', c⟩ := sc
              rw [hb] at hq
              have hq' : q = ((c : Int), encR s' false) := hq
              subst hq'
              obtain ⟨g1, g2⟩ := hbr s' c hb
              dsimp only [encR]
              rw [hpp]
              simp only [Option.bind_some]
              rw [show ((c : Int) != nargs (kind4 t.2, 0, [])) = !((c : Int) == nargs (kind4 t.2, 0, [])) from rfl, bq]
              by_cases hc : (c : Int) = nargs (kind4 t.2, 0, [])
              · rw [decide_eq_true hc, Bool.not_true, cond_false]
                exact tot_some ⟨rfl, .inl ⟨s', c, rfl, hc, rfl⟩⟩
              · rw [decide_eq_false hc, Bool.not_false, cond_true]
                refine tot_some ⟨rfl, .inr ⟨fun s'' c' h => ?_, _, _, _, rfl, by rw [List.length_map]; omega, by rw [List.length_map, List.length_map]; omega⟩⟩
                cases h
                exact hc
          · rintro ⟨⟨_, k4, _⟩, p2⟩ ⟨e, ⟨s', c, hb, hc, hp⟩ | ⟨hne, tq, nq, mq, hp, g1, g2⟩⟩
            · simp only at e hp
              subst e
              subst hp
              dsimp only
              obtain ⟨g1, g2⟩ := hbr s' c hb
              rw [kpt _ _ _ _ _ _ _ (by rw [List.length_map]; omega), hb]
              dsimp only
              rw [call4 h4, if_pos hc]
              refine tot_some ?_
              show _ = encR _ false
              simp only [encR, put, List.map_append, List.map_cons, List.map_nil, encN]
            · simp only at e hp
              subst e
              subst hp
              dsimp only
              rw [kpt _ _ _ _ _ _ _ (by omega)]
              have en : (match bracketP S (r, nd, m) with
                  | some (s, c) => callP t.2 c s
                  | none => bif hd (fun u => decide (u = (3, [40]))) r then none else nameP t.2 (r, nd, m)) = none := by
                cases hb : bracketP S (r, nd, m) with
                | none =>
                  dsimp only
                  cases hd (fun u => decide (u = (3, [40]))) r with
                  | true => rfl
                  | false =>
                    rw [cond_false]
                    unfold nameP
                    rw [if_pos (is4_words h4)]
                | some sc =>
                  obtain ⟨s', c⟩ := sc
                  dsimp only
                  rw [call4 h4, if_neg (hne s' c hb)]
              rw [en]
              exact tot_some ⟨tq, _, mq, rfl, by simp only [List.length_cons]; omega, by simp only [List.length_append, List.length_cons, List.length_nil]; omega⟩
        · rw [decide_eq_false h4, cond_false, kN t.2 hbl (by omega)]
          simp only [Option.bind_some]
          have hno : nameOk t.2 = !decide (t.2 ∈ words) := by
            unfold nameOk
            rw [hpl, Bool.true_and]
          rw [hno, Bool.not_not]
          by_cases hw : t.2 ∈ words
          · rw [decide_eq_true hw, cond_true]
            have en : (match bracketP S (r, nd, m) with
                | some (s, c) => callP t.2 c s
                | none => bif hd (fun u => decide (u = (3, [40]))) r then none else nameP t.2 (r, nd, m)) = none := by
              cases hb : bracketP S (r, nd, m) with
              | none =>
                dsimp only
                cases hd (fun u => decide (u = (3, [40]))) r with
                | true => rfl
                | false =>
                  rw [cond_false]
                  unfold nameP
                  rw [if_pos hw]
              | some sc =>
                obtain ⟨s', c⟩ := sc
                dsimp only
                exact call0 hw h4 s' c
            rw [en]
            exact bad m
          · rw [decide_eq_false hw, cond_false, kat _ _ _ _ _ (by simp), atR_one (by unfold Bl; decide) htr]
            simp only [Option.bind_some]
            cases hh : hd (fun u => decide (u = (3, [40]))) r with
            | true =>
              rw [cond_true]
              refine tot_bind _ harg fun q hq => ?_
              cases hb : bracketP S (r, nd, m) with
              | none =>
                rw [hb] at hq
                obtain ⟨c, q2⟩ := q
                obtain ⟨tq, nq, mq, e, g1, g2⟩ := hq
                simp only at e g1 g2
                subst e
                dsimp only
                rw [cond_true]
                cases mq with
                | true =>
                  rw [cond_true]
                  simp only [jb_inr]
                  rw [kpt _ _ _ _ _ _ _ (by omega)]
                  exact tot_some ⟨tq, _, true, rfl, by simp only [List.length_cons]; omega, by simp only [List.length_append, List.length_cons, List.length_nil]; omega⟩
                | false =>
                  rw [cond_false]
                  simp only [jb_inr]
                  rw [kpt _ _ _ _ _ _ _ (by omega)]
                  exact tot_some ⟨tq, _, _, rfl, by simp only [List.length_cons]; omega, by simp only [List.length_append, List.length_cons, List.length_nil]; omega⟩
              | some sc =>
                obtain ⟨s', c⟩ := sc
                rw [hb] at hq
                have hq' : q = ((c : Int), encR s' false) := hq
                subst hq'
                obtain ⟨g1, g2⟩ := hbr s' c hb
                obtain ⟨t', n', m'⟩ := s'
                simp only at g1 g2
                dsimp only [encR]
                have ec : callP t.2 c (t', n', m') = some (t', n' ++ [(13, (c : Int), t.2)], m' || decide (6 < c)) := by
                  unfold callP
                  rw [if_pos hw]
                rw [ec]
                have e6 : ilt 6 (c : Int) = decide (6 < c) := decide_eq_decide.2 (show (6 : Int) < (c : Int) ↔ 6 < c by omega)
                cases m' with
                | true =>
                  rw [cond_true]
                  simp only [jb_inr]
                  rw [kpt _ _ _ _ _ _ _ (by rw [List.length_map]; omega)]
                  refine tot_some ?_
                  show _ = encR _ false
                  simp only [encR, List.map_append, List.map_cons, List.map_nil, encN, Bool.true_or]
                | false =>
                  rw [cond_false, e6]
                  simp only [jb_inr]
                  rw [kpt _ _ _ _ _ _ _ (by rw [List.length_map]; omega)]
                  refine tot_some ?_
                  show _ = encR _ false
                  simp only [encR, List.map_append, List.map_cons, List.map_nil, encN, Bool.false_or]
            | false =>
              rw [cond_false, kpt _ _ _ _ _ _ _ (by rw [List.length_map]; omega)]
              have hb : bracketP S (r, nd, m) = none := by
                unfold bracketP
                cases r with
                | nil => rfl
                | cons u r' =>
                  dsimp only [hd] at hh ⊢
                  rw [if_neg (of_decide_eq_false hh)]
              rw [hb]
              dsimp only
              rw [cond_false]
              unfold nameP
              rw [if_neg hw]
              refine tot_some ?_
              show _ = encR _ false
              simp only [encR, put, List.map_append, List.map_cons, List.map_nil, encN]
      · rw [decide_eq_false h1, Bool.not_false, cond_true]
        have ea : atomP S (t :: r, nd, m) = none := by
          unfold atomP
          dsimp only
          rw [if_neg h40, if_neg h2, if_neg h1]
        rw [ea]
        exact bad m
/-- the program reads sums as they are told -/
theorem k_sumP : ∀ k, Rds c_i_termReader_sum (sumP k) k
  | 0 => rds_zero _ _
  | k + 1 => by
    have h0 := k_sumP k
    have h1 := k_atom (sum_took k) h0
    have h2 := k_signed (atom_took (sum_took k)) h1
    exact k_sum (sum_took k) (k_product (sum_took k) h2)
end Go.Px.Seat

/- The reference's reader of terms: its small functions, its loops. Seat T. -/
namespace Go.Px.Seat
open Go Pm Pt
set_option linter.unusedVariables false
abbrev RS := List TE × (Int × (List Tn × (Bool × (Bool × Unit))))
def ToksOk (T : List Tok) : Prop := (∀ t ∈ T, TokOk t) ∧ T.length ≤ 100000
theorem drop_tok {T : List Tok} {a : Nat} {t : Tok} {r : List Tok} (h : T.drop a = t :: r) : a < T.length ∧ r = T.drop (a + 1) ∧ T.getD a (0, []) = t ∧ t ∈ T := by
  have ha : a < T.length := by
    rcases Nat.lt_or_ge a T.length with h' | h'
    · exact h'
    · rw [List.drop_eq_nil_of_le h'] at h; cases h
  rw [List.drop_eq_getElem_cons ha, List.cons.injEq] at h
  refine ⟨ha, h.2.symm, ?_, h.1 ▸ List.getElem_mem ha⟩
  rw [List.getD_eq_getElem?_getD, List.getElem?_eq_getElem ha]
  exact h.1
theorem enc_getD {T : List Tok} {a : Nat} (h : a < T.length) : List.getD (T.map enc) (Int.toNat (a : Int)) (0, ((bs []), ())) = enc (T.getD a (0, [])) := by
  rw [Int.toNat_natCast, List.getD_eq_getElem?_getD, List.getElem?_map, List.getD_eq_getElem?_getD, List.getElem?_eq_getElem h]
  rfl
/-- is the token at a place a sign -/
def sgnAt (T : List Tok) (a : Nat) (g : List Nat) : Bool := hd (fun t => decide (t = (3, g))) (T.drop a)
theorem k_ssign : Ev fun n => ∀ (T : List Tok) (a : Nat) (nd : List Tn) (b m : Bool) (g : List Nat), ToksOk T → a ≤ T.length → Bl g →
    c_s_l12Reader_sign ((C B0).run n) (T.map enc) (a : Int) nd b m (bs g) = some (sgnAt T a g, (T.map enc, (((a + (bif sgnAt T a g then 1 else 0) : Nat) : Int), (nd, (b, (m, ())))))) := by
  refine Ev.triv.succ fun n hn _ T a nd b m g hT ha hg => ?_
  rw [run_succ, e_s_l12Reader_sign]
  unfold p_s_l12Reader_sign
  have hTl := hT.2
  rw [jb_of (p := ((sgnAt T a g, ((), (false, ()))), ((T.map enc, ((a : Int), ((), (b, (m, ()))))), (nd, ())))) (by
    rw [len_eq, List.length_map, ilt_iff]
    unfold sgnAt
    cases hd : T.drop a with
    | nil =>
      have : T.length ≤ a := by
        have := congrArg List.length hd
        simp only [List.length_drop, List.length_nil] at this
        omega
      rw [decide_eq_false (by omega), cond_false]
      rfl
    | cons t r =>
      obtain ⟨h1, h2, h3, h4⟩ := drop_tok hd
      have e := tok_at (hT.1 t h4) hg
      rw [decide_eq_true (by omega), cond_true, ok_of (inB_true (by omega) (by omega)), enc_getD h1, h3]
      dsimp only [Seat.hd]
      rw [← e]
      cases (enc t).1 == 3 with
      | false => rfl
      | true => rw [cond_true, ok_of (inB_true (by omega) (by omega))]; rfl)]
  dsimp only
  cases sgnAt T a g with
  | true => rw [cond_true, iadd_eq (by omega) (by omega)]; rfl
  | false => rfl
theorem k_swant : Ev fun n => ∀ (T : List Tok) (a : Nat) (nd : List Tn) (b m : Bool) (g : List Nat), ToksOk T → a ≤ T.length → Bl g →
    c_s_l12Reader_want ((C B0).run n) (T.map enc) (a : Int) nd b m (bs g) = some (T.map enc, (((a + (bif sgnAt T a g then 1 else 0) : Nat) : Int), (nd, (b || !(sgnAt T a g), (m, ()))))) := by
  refine k_ssign.succ fun n hn k T a nd b m g hT ha hg => ?_
  rw [run_succ, e_s_l12Reader_want]
  unfold p_s_l12Reader_want
  rw [k T a nd b m g hT ha hg]
  simp only [Option.bind_some]
  cases sgnAt T a g with
  | true => cases b <;> rfl
  | false => cases b <;> rfl
theorem k_sput : Ev fun n => ∀ (ts : List TE) (a : Int) (nd : List Tn) (b m : Bool) (x y : Int) (s : ByteArray), nd.length ≤ 1000000 → c_s_l12Reader_put ((C B0).run n) ts a nd b m x y s = some (ts, (a, (nd ++ [(x, (y, (s, ())))], (b, (m, ()))))) := by
  refine Ev.triv.succ fun n hn _ ts a nd b m x y s h => ?_
  rw [run_succ, e_s_l12Reader_put]
  unfold p_s_l12Reader_put
  rw [ok_of (aok_true (by rw [List.length_append, List.length_singleton]; omega))]
theorem sgn_le {T : List Tok} {a : Nat} (g : List Nat) (h : a ≤ T.length) : a + (bif sgnAt T a g then 1 else 0) ≤ T.length := by
  cases hs : sgnAt T a g with
  | false => exact h
  | true =>
    unfold sgnAt at hs
    cases hd : T.drop a with
    | nil => rw [hd] at hs; cases hs
    | cons t r => exact (drop_tok hd).1
def encS (T : List Tok) (a : Nat) (nd : List Tn) (b m : Bool) : RS := (T.map enc, ((a : Int), (nd, (b, (m, ())))))
def BadS (T : List Tok) (s0 : RSt) (q : RS) : Prop := ∃ a nd m, q = encS T a nd true m ∧ a ≤ T.length ∧ T.length - a ≤ s0.1.length ∧ T.length - a + nd.length ≤ s0.1.length + s0.2.1.length
def ResS (T : List Tok) (o : Option RSt) (s0 : RSt) (q : RS) : Prop := match o with
  | some s => ∃ a, a ≤ T.length ∧ s.1 = T.drop a ∧ q = encS T a (s.2.1.map encN) false s.2.2
  | none => BadS T s0 q
abbrev CalS := List TE → Int → List Tn → Bool → Bool → Option RS
def RdsSB (c : CalS) (f : Rdr) (k : Nat) : Prop := ∀ (T : List Tok) (a : Nat) (nd : List Nd) (m : Bool), ToksOk T → a ≤ T.length → T.length - a < k → T.length - a + nd.length ≤ 100000 →
  Tot (c (T.map enc) (a : Int) (nd.map encN) false m) (ResS T (f (T.drop a, nd, m)) (T.drop a, nd, m))
abbrev PS : Type := (Unit × Unit) × ((List TE × (Int × (Unit × (Bool × (Bool × Unit))))) × ((List Tn) × Unit))
noncomputable def loopSI (R : Run) (n : Nat) (c : CalS) (a b : List Nat) (ka kb : Int) (q : RS) : Option RS :=
  iter (P := (((Unit × Unit)) × ((((List ((Int × (ByteArray × Unit)))) × (Int × (Unit × (Bool × (Bool × Unit)))))) × ((List ((Int × (Int × (ByteArray × Unit))))) × Unit)))) (fun rec ((_, _), ((o0a, (o0b, (_, (o0c, (o0d, _))))), (o1, _))) =>
      bif (!o0c) then
        (c_s_l12Reader_sign R o0a o0b o1 o0c o0d (bs a)).bind fun (r131_1, (r131b, (r131c, (r131d, (r131e, (r131f, _)))))) =>
        bif r131_1 then
          (c r131b r131c r131d r131e r131f).bind fun (r170_2_1, (r170_2b, (r170_2c, (r170_2d, (r170_2e, _))))) =>
          (c_s_l12Reader_put R r170_2_1 r170_2b r170_2c r170_2d r170_2e ka 0 (bs [])).bind fun (r132_1, (r132b, (r132c, (r132d, (r132e, _))))) =>
          rec (((), ()), ((r132_1, (r132b, ((), (r132d, (r132e, ()))))), (r132c, ())))
        else
        (c_s_l12Reader_sign R r131b r131c r131d r131e r131f (bs b)).bind fun (r131_2_1, (r131_2b, (r131_2c, (r131_2d, (r131_2e, (r131_2f, _)))))) =>
        bif r131_2_1 then
          (c r131_2b r131_2c r131_2d r131_2e r131_2f).bind fun (r170_3_1, (r170_3b, (r170_3c, (r170_3d, (r170_3e, _))))) =>
          (c_s_l12Reader_put R r170_3_1 r170_3b r170_3c r170_3d r170_3e kb 0 (bs [])).bind fun (r132_2_1, (r132_2b, (r132_2c, (r132_2d, (r132_2e, _))))) =>
          rec (((), ()), ((r132_2_1, (r132_2b, ((), (r132_2d, (r132_2e, ()))))), (r132_2c, ())))
        else
        some (r131_2b, (r131_2c, (r131_2d, (r131_2e, (r131_2f, ())))))
      else
      some (o0a, (o0b, (o1, (o0c, (o0d, ())))))) n (((), ()), ((q.1, (q.2.1, ((), (q.2.2.2.1, (q.2.2.2.2.1, ()))))), (q.2.2.1, ())))
section
variable {n : Nat} (hn : 1152921504606846976 ≤ n)
include hn
theorem loopS_bad (c : CalS) (a b : List Nat) (ka kb : Int) (T : List Tok) (i : Nat) (nd : List Tn) (m : Bool) : loopSI ((C B0).run n) n c a b ka kb (encS T i nd true m) = some (encS T i nd true m) := by
  obtain ⟨j, rfl⟩ : ∃ j, n = j + 1 := ⟨n - 1, by omega⟩
  rfl
variable
  (ksg : ∀ (T : List Tok) (a : Nat) (nd : List Tn) (b m : Bool) (g : List Nat), ToksOk T → a ≤ T.length → Bl g →
    c_s_l12Reader_sign ((C B0).run n) (T.map enc) (a : Int) nd b m (bs g) = some (sgnAt T a g, (T.map enc, (((a + (bif sgnAt T a g then 1 else 0) : Nat) : Int), (nd, (b, (m, ())))))))
  (kpt : ∀ (ts : List TE) (a : Int) (nd : List Tn) (b m : Bool) (x y : Int) (s : ByteArray), nd.length ≤ 1000000 → c_s_l12Reader_put ((C B0).run n) ts a nd b m x y s = some (ts, (a, (nd ++ [(x, (y, (s, ())))], (b, (m, ()))))))
include ksg kpt
theorem loopS_tot {c : CalS} {f : Rdr} (hf : Takes f) {k : Nat} (hc : RdsSB c f k) {a b : List Nat} (ha : Bl a) (hb : Bl b) (hab : a ≠ b) (ka kb : Int) {T : List Tok} (hT : ToksOk T) {i : Nat} {nd : List Nd} {m : Bool} (hi : i ≤ T.length) (hk : T.length - i ≤ k) (hl : T.length - i + nd.length ≤ 100000) :
    Tot (loopSI ((C B0).run n) n c a b ka kb (encS T i (nd.map encN) false m)) (ResS T (loopP f a b ka kb (T.drop i, nd, m)) (T.drop i, nd, m)) := by
  unfold loopSI
  obtain ⟨F, hF0⟩ : ∃ F, F = loopP f a b ka kb (T.drop i, nd, m) := ⟨_, rfl⟩
  rw [← hF0]
  have hTl := hT.2
  refine tot_iter (fun q : PS => (∃ (j : Nat) (n1 : List Nd) (m1 : Bool), q = (((), ()), ((T.map enc, ((j : Int), ((), (false, (m1, ()))))), (n1.map encN, ()))) ∧ i ≤ j ∧ j ≤ T.length ∧ loopP f a b ka kb (T.drop j, n1, m1) = F ∧ T.length - j + n1.length ≤ T.length - i + nd.length) ∨
    (∃ (j : Nat) (n1 : List Tn) (m1 : Bool), q = (((), ()), ((T.map enc, ((j : Int), ((), (true, (m1, ()))))), (n1, ()))) ∧ i ≤ j ∧ j ≤ T.length ∧ F = none ∧ T.length - j + n1.length ≤ T.length - i + nd.length)) (fun q => T.length - q.2.1.2.1.toNat) (by simp only [encS]; omega) (.inl ⟨i, nd, m, rfl, Nat.le_refl _, hi, hF0.symm, Nat.le_refl _⟩) ?_
  rintro rec q (⟨j, n1, m1, rfl, hij, hj, hF, hl1⟩ | ⟨j, n1, m1, rfl, hij, hj, hF, hl1⟩) ih
  · dsimp only
    rw [Bool.not_false, cond_true, ksg T j _ _ _ a hT hj ha]
    simp only [Option.bind_some]
    -- one more
    have more : ∀ (t : Tok) (g : List Nat) (kg : Int), T.drop j = t :: T.drop (j + 1) → j < T.length → t = (3, a) ∨ t = (3, b) → kg = (if t = (3, b) then kb else ka) →
        Tot ((c (T.map enc) ((j + 1 : Nat) : Int) (n1.map encN) false m1).bind fun (r170_2_1, (r170_2b, (r170_2c, (r170_2d, (r170_2e, _))))) =>
          (c_s_l12Reader_put ((C B0).run n) r170_2_1 r170_2b r170_2c r170_2d r170_2e kg 0 (bs [])).bind fun (r132_1, (r132b, (r132c, (r132d, (r132e, _))))) =>
          rec (((), ()), ((r132_1, (r132b, ((), (r132d, (r132e, ()))))), (r132c, ())))) (ResS T F (T.drop i, nd, m)) := by
      intro t g kg hd hjl ht hkg
      rw [hd, loopP_on ht hf.le] at hF
      refine tot_bind _ (hc T (j + 1) n1 m1 hT hjl (by omega) (by omega)) fun q hq => ?_
      cases hfr : f (T.drop (j + 1), n1, m1) with
      | none =>
        rw [hfr] at hq hF
        obtain ⟨j', n', m', rfl, h1, h2, h3⟩ := hq
        simp only [List.length_drop] at h2 h3
        dsimp only [encS]
        rw [kpt _ _ _ _ _ _ _ _ (by omega)]
        simp only [Option.bind_some]
        exact ih _ (.inr ⟨j', _, m', rfl, by omega, h1, hF.symm, by simp only [List.length_append, List.length_singleton]; omega⟩) (by simp only; omega)
      | some s' =>
        rw [hfr] at hq hF
        obtain ⟨j', h1, h2, rfl⟩ := hq
        have hto := hf _ _ hfr
        have hle := hto.len
        have hnd := hto.nodes
        rw [h2] at hle hnd
        simp only [List.length_drop] at hle hnd
        dsimp only [encS]
        rw [kpt _ _ _ _ _ _ _ _ (by rw [List.length_map]; omega)]
        simp only [Option.bind_some]
        refine ih _ (.inl ⟨j', s'.2.1 ++ [(kg, 0, [])], s'.2.2, ?_, by omega, h1, ?_, ?_⟩) (by simp only; omega)
        · simp only [List.map_append, List.map_cons, List.map_nil, encN]
        · rw [← hF, hkg]
          simp only [Option.bind_some, put, h2]
        · simp only [List.length_append, List.length_singleton]; omega
    cases hd : T.drop j with
    | nil =>
      have e : ∀ g, sgnAt T j g = false := fun g => by unfold sgnAt; rw [hd]; rfl
      rw [e a]
      simp only [cond_false, Nat.add_zero]
      rw [ksg T j _ _ _ b hT hj hb, e b]
      simp only [Option.bind_some, cond_false, Nat.add_zero]
      refine tot_some ?_
      rw [← hF, hd, loopP_nil]
      exact ⟨j, hj, hd.symm, rfl⟩
    | cons t r =>
      obtain ⟨hjl, rfl, _, htm⟩ := drop_tok hd
      have e : ∀ g, sgnAt T j g = decide (t = (3, g)) := fun g => by unfold sgnAt; rw [hd]; rfl
      rw [e a]
      by_cases h1 : t = (3, a)
      · rw [decide_eq_true h1]
        simp only [cond_true]
        exact more t a ka hd hjl (.inl h1) (by rw [if_neg (fun h => hab (by rw [h1] at h; simpa using h))])
      · rw [decide_eq_false h1]
        simp only [cond_false, Nat.add_zero]
        rw [ksg T j _ _ _ b hT hj hb, e b]
        simp only [Option.bind_some]
        by_cases h2 : t = (3, b)
        · rw [decide_eq_true h2]
          simp only [cond_true]
          exact more t b kb hd hjl (.inr h2) (by rw [if_pos h2])
        · rw [decide_eq_false h2]
          simp only [cond_false, Nat.add_zero]
          refine tot_some ?_
          rw [← hF, hd, loopP_end (by rintro (h | h); exact h1 h; exact h2 h)]
          exact ⟨j, hj, hd.symm, rfl⟩
  · dsimp only
    rw [Bool.not_true, cond_false]
    refine tot_some ?_
    rw [hF]
    exact ⟨j, n1, m1, rfl, hj, by simp only [List.length_drop]; omega, by simp only [List.length_drop]; omega⟩
theorem chainS_tot {c : CalS} {f : Rdr} (hf : Takes f) {k : Nat} (hc : RdsSB c f k) {a b : List Nat} (ha : Bl a) (hb : Bl b) (hab : a ≠ b) (ka kb : Int) :
    RdsSB (fun ts i nd b' m => (c ts i nd b' m).bind fun q => loopSI ((C B0).run n) n c a b ka kb q) (fun s => (f s).bind (loopP f a b ka kb)) k := by
  intro T i nd m hT hi hk hl
  refine tot_bind _ (hc T i nd m hT hi hk hl) fun q hq => ?_
  dsimp only
  cases hfs : f (T.drop i, nd, m) with
  | none =>
    rw [hfs] at hq
    obtain ⟨j, n1, m1, rfl, h1, h2, h3⟩ := hq
    rw [loopS_bad hn]
    exact tot_some ⟨j, n1, m1, rfl, h1, h2, h3⟩
  | some s' =>
    rw [hfs] at hq
    obtain ⟨j, h1, h2, rfl⟩ := hq
    have hto := hf _ _ hfs
    have g1 := hto.len
    have g2 := hto.nodes
    obtain ⟨t', n', m'⟩ := s'
    simp only at h2 g1 g2
    subst h2
    simp only [List.length_drop] at g1 g2
    refine tot_mono (loopS_tot hn ksg kpt hf hc ha hb hab ka kb hT (i := j) (nd := n') (m := m') h1 (by omega) (by omega)) fun r hr => ?_
    simp only [Option.bind_some]
    cases hlo : loopP f a b ka kb (T.drop j, n', m') with
    | none =>
      rw [hlo] at hr
      obtain ⟨j', n2, m2, rfl, e1, e2, e3⟩ := hr
      simp only [List.length_drop] at e2 e3
      exact ⟨j', n2, m2, rfl, e1, by simp only [List.length_drop]; omega, by simp only [List.length_drop]; omega⟩
    | some s'' => rw [hlo] at hr; exact hr
end
def RdsS (c : Run → CalS) (f : Rdr) (k : Nat) : Prop := Ev fun n => RdsSB (c ((C B0).run n)) f k
theorem rdsS_zero (c : Run → CalS) (f : Rdr) : RdsS c f 0 := ⟨0, fun n _ T a nd m hT ha h => absurd h (Nat.not_lt_zero _)⟩
theorem k_ssum {S : Rdr} (hS : Takes S) {k : Nat} (h : RdsS c_s_l12Reader_product (prodP S) k) : RdsS c_s_l12Reader_sum (sumP1 S) k := by
  refine (h.and (k_ssign.and k_sput)).succ fun n hn ⟨hc, ksg, kpt⟩ T i nd m hT hi hk hl => ?_
  rw [run_succ, e_s_l12Reader_sum]
  exact chainS_tot hn ksg kpt (prod_took hS) hc (a := [43]) (b := [45]) (by unfold Bl; decide) (by unfold Bl; decide) (by decide) 4 5 T i nd m hT hi hk hl
theorem k_sproduct {S : Rdr} (hS : Takes S) {k : Nat} (h : RdsS c_s_l12Reader_signed (sgnP S) k) : RdsS c_s_l12Reader_product (prodP S) k := by
  refine (h.and (k_ssign.and k_sput)).succ fun n hn ⟨hc, ksg, kpt⟩ T i nd m hT hi hk hl => ?_
  rw [run_succ, e_s_l12Reader_product]
  exact chainS_tot hn ksg kpt (sgn_took hS) hc (a := [42]) (b := [47]) (by unfold Bl; decide) (by unfold Bl; decide) (by decide) 6 7 T i nd m hT hi hk hl
end Go.Px.Seat

/- The reference's reader of terms: signed things, calls, atoms. Seat T. -/
namespace Go.Px.Seat
open Go Pm Pt
set_option linter.unusedVariables false
/-- the power that stands ahead -/
def powV : List Tok → Int
  | [] => -1
  | u :: _ => if u.1 = 2 ∧ u.2.length = 1 ∧ u.2.getD 0 0 ≤ 56 then (u.2.getD 0 0 : Int) - 48 else -1
theorem k_spower : Ev fun n => ∀ (T : List Tok) (a : Nat), ToksOk T → a ≤ T.length → c_s_l12Power ((C B0).run n) (T.map enc) (a : Int) = some (powV (T.drop a), ()) := by
  refine Ev.triv.succ fun n hn _ T a hT ha => ?_
  rw [run_succ, e_s_l12Power]
  unfold p_s_l12Power
  have hTl := hT.2
  rw [len_eq, List.length_map, ile_iff]
  cases hd : T.drop a with
  | nil =>
    have : T.length ≤ a := by
      have := congrArg List.length hd
      simp only [List.length_drop, List.length_nil] at this
      omega
    rw [decide_eq_true (by omega), cond_true]
    rfl
  | cons u r =>
    obtain ⟨h1, h2, h3, h4⟩ := drop_tok hd
    have hu := hT.1 u h4
    have hib : inB (a : Int) (T.length : Int) = true := inB_true (by omega) (by omega)
    rw [decide_eq_false (by omega), cond_false, ok_of hib, enc_getD h1, h3]
    unfold powV
    dsimp only
    rw [show ((enc u).1 != 2) = !((u.1 : Int) == 2) from rfl, bq, decide_eq_decide.2 (show ((u.1 : Int) = 2) ↔ u.1 = 2 by omega)]
    by_cases g2 : u.1 = 2
    · rw [decide_eq_true g2, Bool.not_true, cond_false, ok_of hib, show slen (enc u).2.1 = (u.2.length : Int) from bs_len _, show (((u.2.length : Int)) != 1) = !((u.2.length : Int) == 1) from rfl, bq, decide_eq_decide.2 (show ((u.2.length : Int) = 1) ↔ u.2.length = 1 by omega)]
      by_cases g1 : u.2.length = 1
      · obtain ⟨d, hd', h48, h57⟩ := digit_of hu g2 g1
        rw [decide_eq_true g1, Bool.not_true, cond_false, ok_of hib, show (enc u).2.1 = bs [d] from by rw [← hd']; rfl, digit_le h48 h57]
        simp only [jb_inr]
        rw [hd', len_eq, List.length_map, enc_getD h1, h3, show (enc u).2.1 = bs [d] from by rw [← hd']; rfl]
        by_cases h56 : d ≤ 56
        · rw [decide_eq_true h56, Bool.not_true, cond_false, ok_of hib, ok_of (inB_true (Int.le_refl _) (by rw [bs_len, List.length_singleton]; decide)), digit_val h48 h57, if_pos ⟨g2, rfl, h56⟩]
          rfl
        · rw [decide_eq_false h56, Bool.not_false, cond_true, if_neg (fun h => h56 h.2.2)]
      · rw [decide_eq_false g1, Bool.not_false, cond_true, if_neg (fun h => g1 h.2.1)]
        rfl
    · rw [decide_eq_false g2, Bool.not_false, cond_true, if_neg (fun h => g2 h.1)]
      rfl
theorem powV_neg {L : List Tok} (hL : ∀ t ∈ L, TokOk t) : (ilt (powV L) 0 = true ↔ ∀ nd m, powP ((3, [94]) :: L, nd, m) = none) ∧ (ilt (powV L) 0 = false → ∃ u r, L = u :: r ∧ ∀ nd m, powP ((3, [94]) :: L, nd, m) = some (put 8 (powV L) [] (r, nd, m))) := by
  cases L with
  | nil => exact ⟨⟨fun _ nd m => by unfold powP; simp, fun _ => rfl⟩, fun h => by cases h⟩
  | cons u r =>
    have hu := hL u (List.mem_cons_self ..)
    have ev : powV (u :: r) = if u.1 = 2 ∧ u.2.length = 1 ∧ u.2.getD 0 0 ≤ 56 then (u.2.getD 0 0 : Int) - 48 else -1 := rfl
    rw [ev]
    by_cases h : u.1 = 2 ∧ u.2.length = 1 ∧ u.2.getD 0 0 ≤ 56
    · obtain ⟨d, hd', h48, h57⟩ := digit_of hu h.1 h.2.1
      have e : ∀ nd m, powP ((3, [94]) :: u :: r, nd, m) = some (put 8 ((u.2.getD 0 0 : Int) - 48) [] (r, nd, m)) := fun nd m => by
        unfold powP
        dsimp only
        rw [if_pos rfl, if_pos h]
      rw [if_pos h]
      have hlt : ilt ((u.2.getD 0 0 : Int) - 48) 0 = false := by
        rw [ilt_iff]
        refine decide_eq_false ?_
        rw [hd']
        simp only [List.getD_cons_zero]
        omega
      rw [hlt]
      exact ⟨⟨fun h => (by cases h), fun h => (by
        have := h [] false
        rw [e] at this
        cases this)⟩, fun _ => ⟨u, r, rfl, e⟩⟩
    · rw [if_neg h]
      have e : ∀ nd m, powP ((3, [94]) :: u :: r, nd, m) = none := fun nd m => by
        unfold powP
        dsimp only
        rw [if_pos rfl, if_neg h]
      exact ⟨⟨fun _ => e, fun _ => rfl⟩, fun h => by cases h⟩
theorem k_ssigned {A : Rdr} (hA : Takes A) : ∀ {k : Nat}, RdsS c_s_l12Reader_atom A k → RdsS c_s_l12Reader_signed (fun s => signedP A s.1 s.2.1 s.2.2) k
  | 0, _ => rdsS_zero _ _
  | k + 1, h => by
    have h' : RdsS c_s_l12Reader_atom A k := h.mono fun n hn T a nd m hT ha hk => hn T a nd m hT ha (by omega)
    refine (h.and ((k_ssigned hA h').and (k_ssign.and (k_sput.and k_spower)))).succ fun n hn ⟨ha, hs, ksg, kpt, kpw⟩ T i nd m hT hi hk hl => ?_
    have hTl := hT.2
    rw [run_succ, e_s_l12Reader_signed]
    unfold p_s_l12Reader_signed
    rw [cond_false, ksg T i _ _ _ [45] hT hi (by unfold Bl; decide)]
    simp only [Option.bind_some]
    have tail : ∀ q, ResS T (A (T.drop i, nd, m)) (T.drop i, nd, m) q → Tot (jb (P := (((Bool × (Unit × Unit))) × ((((List ((Int × (ByteArray × Unit)))) × (Int × (Unit × (Bool × (Bool × Unit)))))) × ((List ((Int × (Int × (ByteArray × Unit))))) × Unit)))) (
      bif (!q.2.2.2.1) then
        (c_s_l12Reader_sign ((C B0).run n) q.1 q.2.1 q.2.2.1 q.2.2.2.1 q.2.2.2.2.1 (bs [94])).bind fun (r131_2_1, (r131_2b, (r131_2c, (r131_2d, (r131_2e, (r131_2f, _)))))) =>
        some (.inr ((r131_2_1, ((), ())), ((r131_2b, (r131_2c, ((), (r131_2e, (r131_2f, ()))))), (r131_2d, ()))))
      else
      some (.inr ((false, ((), ())), ((q.1, (q.2.1, ((), (q.2.2.2.1, (q.2.2.2.2.1, ()))))), (q.2.2.1, ()))))) fun ((t23, (_, _)), ((o0a, (o0b, (_, (o0c, (o0d, _))))), (o1, _))) =>
  bif t23 then
    (c_s_l12Power ((C B0).run n) o0a o0b).bind fun (r196_1, _) =>
    bif (ilt r196_1 0) then
      some (o0a, (o0b, (o1, (true, (o0d, ())))))
    else
    (c_s_l12Reader_put ((C B0).run n) o0a (iadd .i64 o0b 1) o1 o0c o0d 8 r196_1 (bs [])).bind fun (r132_2_1, (r132_2b, (r132_2c, (r132_2d, (r132_2e, _))))) =>
    some (r132_2_1, (r132_2b, (r132_2c, (r132_2d, (r132_2e, ())))))
  else
  some (o0a, (o0b, (o1, (o0c, (o0d, ())))))) (ResS T ((A (T.drop i, nd, m)).bind powP) (T.drop i, nd, m)) := by
      intro q hq
      cases hfs : A (T.drop i, nd, m) with
      | none =>
        rw [hfs] at hq
        obtain ⟨j, n1, m1, rfl, h1, h2, h3⟩ := hq
        exact tot_some ⟨j, n1, m1, rfl, h1, h2, h3⟩
      | some s' =>
        rw [hfs] at hq
        obtain ⟨j, h1, h2, rfl⟩ := hq
        have hto := hA _ _ hfs
        have hle := hto.len
        have hnd := hto.nodes
        obtain ⟨t', n', m'⟩ := s'
        simp only at h2 hle hnd
        subst h2
        simp only [List.length_drop] at hle hnd
        dsimp only [encS]
        rw [Bool.not_false, cond_true, ksg T j _ _ _ [94] hT h1 (by unfold Bl; decide)]
        simp only [Option.bind_some, jb_inr]
        cases hd : T.drop j with
        | nil =>
          have e : sgnAt T j [94] = false := by unfold sgnAt; rw [hd]; rfl
          rw [e]
          simp only [cond_false, Nat.add_zero]
          exact tot_some ⟨j, h1, hd.symm, rfl⟩
        | cons t r =>
          obtain ⟨hjl, rfl, _, htm⟩ := drop_tok hd
          have e : sgnAt T j [94] = decide (t = (3, [94])) := by unfold sgnAt; rw [hd]; rfl
          rw [e]
          by_cases h94 : t = (3, [94])
          · subst h94
            rw [decide_eq_true rfl]
            simp only [cond_true]
            rw [kpw T (j + 1) hT hjl]
            simp only [Option.bind_some]
            obtain ⟨p1, p2⟩ := powV_neg (L := T.drop (j + 1)) (fun t ht => hT.1 t (List.mem_of_mem_drop ht))
            cases hp : ilt (powV (T.drop (j + 1))) 0 with
            | true =>
              rw [cond_true, p1.1 hp]
              exact tot_some ⟨j + 1, _, _, rfl, hjl, by simp only [List.length_drop]; omega, by simp only [List.length_drop, List.length_map]; omega⟩
            | false =>
              obtain ⟨u, r, hr, hpp⟩ := p2 hp
              obtain ⟨hjl2, hr2, _, _⟩ := drop_tok hr
              rw [cond_false, hpp, kpt _ _ _ _ _ _ _ _ (by rw [List.length_map]; omega), iadd_eq (by omega) (by omega)]
              simp only [Option.bind_some]
              refine tot_some ⟨j + 2, by omega, by simp only [put]; rw [hr2], ?_⟩
              simp only [encS, put, List.map_append, List.map_cons, List.map_nil, encN]
              rfl
          · rw [decide_eq_false h94]
            simp only [cond_false, Nat.add_zero]
            have ep : powP (t :: T.drop (j + 1), n', m') = some (t :: T.drop (j + 1), n', m') := by
              unfold powP
              dsimp only
              rw [if_neg h94]
            rw [ep]
            exact tot_some ⟨j, h1, hd.symm, rfl⟩
    cases hd : T.drop i with
    | nil =>
      have e : sgnAt T i [45] = false := by unfold sgnAt; rw [hd]; rfl
      rw [e]
      simp only [cond_false, Nat.add_zero]
      rw [hd] at tail
      rw [signedP]
      have := ha T i nd m hT hi hk hl
      rw [hd] at this
      exact tot_bind _ this tail
    | cons t r =>
      obtain ⟨hil, hr, _, htm⟩ := drop_tok hd
      have e : sgnAt T i [45] = decide (t = (3, [45])) := by unfold sgnAt; rw [hd]; rfl
      rw [e, signedP]
      by_cases h45 : t = (3, [45])
      · rw [decide_eq_true h45, if_pos h45]
        simp only [cond_true]
        have hh := hs T (i + 1) nd m hT hil (by omega) (by omega)
        rw [← hr] at hh
        dsimp only at hh
        refine tot_bind _ hh fun q hq => ?_
        cases hfs : signedP A r nd m with
        | none =>
          rw [hfs] at hq
          obtain ⟨j, n1, m1, rfl, h1, h2, h3⟩ := hq
          simp only [hr, List.length_drop] at h2 h3
          dsimp only [encS]
          rw [kpt _ _ _ _ _ _ _ _ (by omega)]
          exact tot_some ⟨j, _, m1, rfl, h1, by simp only [hr, List.length_cons, List.length_drop]; omega, by simp only [hr, List.length_append, List.length_cons, List.length_nil, List.length_drop]; omega⟩
        | some s' =>
          rw [hfs] at hq
          obtain ⟨j, h1, h2, rfl⟩ := hq
          have hnd := (signed_took hA r nd m s' hfs).nodes
          rw [h2] at hnd
          simp only [hr, List.length_drop] at hnd
          dsimp only [encS]
          rw [kpt _ _ _ _ _ _ _ _ (by rw [List.length_map]; omega)]
          refine tot_some ⟨j, h1, h2, ?_⟩
          simp only [encS, put, List.map_append, List.map_cons, List.map_nil, encN]
      · rw [decide_eq_false h45, if_neg h45]
        simp only [cond_false, Nat.add_zero]
        rw [hd] at tail
        have := ha T i nd m hT hi hk hl
        rw [hd] at this
        exact tot_bind _ this tail
end Go.Px.Seat

/- The reference's reader of terms: calls, atoms; all of it. Seat T. -/
namespace Go.Px.Seat
open Go Pm Pt
set_option linter.unusedVariables false
def callR (ts : List TE) (a : Int) (nd : List Nd) (m : Bool) (name : List Nat) (c : Nat) : RS := match callP name c ([], nd, m) with
  | some s => (ts, (a, (s.2.1.map encN, (false, (s.2.2, ())))))
  | none => (ts, (a, (nd.map encN, (true, (m, ())))))
theorem k_scall : Ev fun n => ∀ (ts : List TE) (a : Int) (nd : List Nd) (m : Bool) (name : List Nat) (c : Nat), Bl name → nd.length ≤ 1000000 → c ≤ 1000000 →
    c_s_l12Reader_call ((C B0).run n) ts a (nd.map encN) false m (bs name) (c : Int) = some (callR ts a nd m name c) := by
  refine (k_l11Word.and k_sput).succ fun n hn ⟨kw, kpt⟩ ts a nd m name c hb hl hc => ?_
  rw [run_succ, e_s_l12Reader_call]
  unfold p_s_l12Reader_call callR callP
  rw [kw name hb]
  simp only [Option.bind_some]
  have bS : Bl wSqrt := by unfold Bl; decide
  have bA : Bl wAbs := by unfold Bl; decide
  have bI : Bl wMin := by unfold Bl; decide
  have bX : Bl wMax := by unfold Bl; decide
  have pt : ∀ k : Int, c_s_l12Reader_put ((C B0).run n) ts a (nd.map encN) false m k 0 (bs []) = some (ts, (a, ((put k 0 [] ([], nd, m)).2.1.map encN, (false, (m, ()))))) := fun k => by
    rw [kpt _ _ _ _ _ _ _ _ (by rw [List.length_map]; omega)]
    simp only [put, List.map_append, List.map_cons, List.map_nil, encN]
  by_cases hw : name ∈ words
  · rw [decide_eq_true hw, Bool.not_true, cond_false, if_neg (fun h => h hw)]
    rw [bs_seq hb bS]
    have ec : ∀ v : Nat, ((c : Int) == (v : Int)) = decide (c = v) := fun v => by rw [bq]; exact decide_eq_decide.2 (by omega)
    have e1 : ((c : Int) == 1) = decide (c = 1) := ec 1
    have e2 : ((c : Int) == 2) = decide (c = 2) := ec 2
    by_cases h1 : name = wSqrt
    · rw [decide_eq_true h1, cond_true, e1]
      simp only [jb_inr]
      by_cases hc1 : c = 1
      · rw [decide_eq_true hc1, cond_true, if_pos ⟨h1, hc1⟩, pt]
        rfl
      · rw [decide_eq_false hc1, cond_false, if_neg (fun h => hc1 h.2), if_neg (fun h => absurd (h1.symm.trans h.1) (by decide)), if_neg (fun h => absurd (h1.symm.trans h.1) (by decide)), if_neg (fun h => absurd (h1.symm.trans h.1) (by decide))]
        simp only [cond_false]
        rw [bs_seq hb bA, decide_eq_false (fun h => absurd (h1.symm.trans h) (by decide) : ¬ name = wAbs), cond_false]
        simp only [jb_inr, cond_false]
        rw [bs_seq hb bI, decide_eq_false (fun h => absurd (h1.symm.trans h) (by decide) : ¬ name = wMin), cond_false]
        simp only [jb_inr, cond_false]
        rw [bs_seq hb bX, decide_eq_false (fun h => absurd (h1.symm.trans h) (by decide) : ¬ name = wMax), cond_false]
        simp only [jb_inr, cond_false]
    rw [decide_eq_false h1, cond_false, if_neg (fun h => h1 h.1)]
    simp only [jb_inr, cond_false]
    rw [bs_seq hb bA]
    by_cases h2 : name = wAbs
    · rw [decide_eq_true h2, cond_true, e1]
      simp only [jb_inr]
      by_cases hc1 : c = 1
      · rw [decide_eq_true hc1, cond_true, if_pos ⟨h2, hc1⟩, pt]
        rfl
      · rw [decide_eq_false hc1, cond_false, if_neg (fun h => hc1 h.2), if_neg (fun h => absurd (h2.symm.trans h.1) (by decide)), if_neg (fun h => absurd (h2.symm.trans h.1) (by decide))]
        simp only [cond_false]
        rw [bs_seq hb bI, decide_eq_false (fun h => absurd (h2.symm.trans h) (by decide) : ¬ name = wMin), cond_false]
        simp only [jb_inr, cond_false]
        rw [bs_seq hb bX, decide_eq_false (fun h => absurd (h2.symm.trans h) (by decide) : ¬ name = wMax), cond_false]
        simp only [jb_inr, cond_false]
    rw [decide_eq_false h2, cond_false, if_neg (fun h => h2 h.1)]
    simp only [jb_inr, cond_false]
    rw [bs_seq hb bI]
    by_cases h3 : name = wMin
    · rw [decide_eq_true h3, cond_true, e2]
      simp only [jb_inr]
      by_cases hc1 : c = 2
      · rw [decide_eq_true hc1, cond_true, if_pos ⟨h3, hc1⟩, pt]
        rfl
      · rw [decide_eq_false hc1, cond_false, if_neg (fun h => hc1 h.2), if_neg (fun h => absurd (h3.symm.trans h.1) (by decide))]
        simp only [cond_false]
        rw [bs_seq hb bX, decide_eq_false (fun h => absurd (h3.symm.trans h) (by decide) : ¬ name = wMax), cond_false]
        simp only [jb_inr, cond_false]
    rw [decide_eq_false h3, cond_false, if_neg (fun h => h3 h.1)]
    simp only [jb_inr, cond_false]
    rw [bs_seq hb bX]
    by_cases h4 : name = wMax
    · rw [decide_eq_true h4, cond_true, e2]
      simp only [jb_inr]
      by_cases hc1 : c = 2
      · rw [decide_eq_true hc1, cond_true, if_pos ⟨h4, hc1⟩, pt]
        rfl
      · rw [decide_eq_false hc1, cond_false, if_neg (fun h => hc1 h.2)]
    rw [decide_eq_false h4, cond_false, if_neg (fun h => h4 h.1)]
    rfl
  · rw [decide_eq_false hw, Bool.not_false, cond_true, if_pos hw]
    have e6 : ilt 6 (c : Int) = decide (6 < c) := decide_eq_decide.2 (show (6 : Int) < (c : Int) ↔ 6 < c by omega)
    rw [e6]
    cases decide (6 < c) with
    | true =>
      rw [cond_true]
      simp only [jb_inr]
      rw [kpt _ _ _ _ _ _ _ _ (by rw [List.length_map]; omega)]
      simp only [Option.bind_some, List.map_append, List.map_cons, List.map_nil, encN, Bool.or_true]
    | false =>
      rw [cond_false]
      simp only [jb_inr]
      rw [kpt _ _ _ _ _ _ _ _ (by rw [List.length_map]; omega)]
      simp only [Option.bind_some, List.map_append, List.map_cons, List.map_nil, encN, Bool.or_false]
end Go.Px.Seat
