/- Own texts, part M6: PnC PnD PnE PnF PnG PnH PnI PnM. -/
import Derived.Test.YtbdlklncblklnaaGreatDoorM5
set_option linter.unusedVariables false

/- Limits: the program's. Seat ZD. -/
namespace Pm
open Go.Px.Seat
def li : Lm → Int
  | .neg => -1 | .pos => 1 | .num _ => 0
def lb : Lm → Bool
  | .num r => fb r | _ => false
def lu : Lm → List Int
  | .num r => ft r | _ => []
def lv : Lm → List Int
  | .num r => fq r | _ => []
/-- a limit as the program has it -/
def outL (a : Lm) : Int × (Bool × (List Int × (List Int × Unit))) := (li a, (lb a, (lu a, (lv a, ()))))
def shL (k : Nat) : Lm → Prop
  | .num r => short k r | _ => True
theorem inv_sg {s : Rat} (hs : s ≠ 0) : s⁻¹ = mkRat (sg (fb s) s.den) s.num.natAbs := by
  rw [Rat.inv_def, ← Rat.divInt_ofNat]
  have h := sg_num s
  cases hb : fb s <;> rw [hb] at h
  · have h' : (s.num.natAbs : Int) = s.num := h
    rw [h']; rfl
  · have h' : -(s.num.natAbs : Int) = s.num := h
    rw [show s.num = -(s.num.natAbs : Int) from h'.symm, Rat.divInt_neg', Int.natAbs_neg, Int.natAbs_natCast]
    rfl
theorem div_sg {r s : Rat} (hs : s ≠ 0) : r / s = mkRat (sg (fb r != fb s) (r.num.natAbs * s.den)) (r.den * s.num.natAbs) := by
  rw [Rat.div_def, inv_sg hs, sg_mul, ← Rat.mkRat_mul_mkRat, mk_self]
theorem sgn_rng (a : Lm) : a.sgn = -1 ∨ a.sgn = 0 ∨ a.sgn = 1 := by
  cases a with
  | neg => exact .inl rfl
  | pos => exact .inr (.inr rfl)
  | num r => rcases Lm.sgn_cases r with ⟨_, h⟩ | ⟨_, h⟩ | ⟨_, h⟩ <;> rw [h] <;> simp
theorem mul_inf {a b : Lm} (h : ∀ r s, ¬ (a = .num r ∧ b = .num s)) : Lm.mul a b = Lm.inf (a.sgn * b.sgn) := by
  cases a <;> cases b <;> first | rfl | exact absurd ⟨rfl, rfl⟩ (h _ _)
theorem outL_num (r : Rat) : outL (.num r) = (0, outF r) := rfl
theorem zero_out : (0, outF (mkRat (sg false 0) 1)) = outL (.num 0) := by
  rw [outL_num, sg_zero, Rat.zero_mkRat]
end Pm
namespace Go.Px.Seat
open Go Pm
set_option linter.unusedVariables false
variable {B : Run}
theorem k_limL : Ev fun n => ∀ w o : Int, wd w = true → rng w o → c_i_limitOf ((C B0).run n) w o = some (outL (lim w o)) := by
  refine ((k_BitTop (B := B0)).and k_limitOf).and k_value |>.succ fun n hn ⟨⟨hT, _⟩, hV⟩ w o hw hr => ?_
  rw [run_succ, e_i_limitOf]
  unfold p_i_limitOf
  have htn := top_pos hw
  rw [hT]
  simp only [Option.bind_some, ineg_top]
  rcases lim_cases hw hr with ⟨h, e⟩ | ⟨h, e⟩ | ⟨h, e⟩ <;> rw [e]
  · subst h
    rw [beq_f (by omega), cond_false, show ((-top w : Int) == -top w) = true by simp]; rfl
  · subst h
    rw [show ((top w : Int) == top w) = true by simp]; rfl
  · have h1 := h.2.1
    have h2 := h.2.2
    rw [beq_f (by omega), cond_false, beq_f (by omega), cond_false, hV w o h]
    rfl
theorem k_floatsL : Ev fun n => ∀ (w : Int) (a : Lm), wd w = true → shL 1024 a → c_i_limit_floats ((C B0).run n) (li a) (lb a) (lu a) (lv a) w = some (dn w a, (up w a, ())) := by
  refine (k_floats.and ((k_BitTop (B := B0)).and k_around)).succ fun n hn ⟨_, hT, hA⟩ w a hw hs => ?_
  rw [run_succ, e_i_limit_floats]
  unfold p_i_limit_floats
  have htn := top_nonneg w
  cases a with
  | neg =>
    simp only [li, show ((-1 : Int) != 0) = true from rfl, cond_true]
    rw [hT]
    simp only [Option.bind_some, dn_neg', up_neg']
    rw [imul_eq (by omega) (by omega)]
    simp
  | pos =>
    simp only [li, show ((1 : Int) != 0) = true from rfl, cond_true]
    rw [hT]
    simp only [Option.bind_some, dn_pos', up_pos']
    rw [imul_eq (by omega) (by omega)]
    simp
  | num r =>
    simp only [li, show ((0 : Int) != 0) = false from rfl, cond_false, lb, lu, lv]
    obtain ⟨d, u, h1, h2, h3⟩ := hA w r hw hs
    rw [h1, dn_num h2, up_num h3]
    rfl
theorem k_sgnL : Ev fun n => ∀ a : Lm, c_i_limit_sign ((C B).run n) (li a) (lb a) (lu a) (lv a) = some (a.sgn, ()) := by
  refine (k_sign (B := B)).succ fun n hn hS a => ?_
  rw [run_succ, e_i_limit_sign]
  unfold p_i_limit_sign
  cases a with
  | neg => rfl
  | pos => rfl
  | num r =>
    simp only [li, show ((0 : Int) != 0) = false from rfl, cond_false, lb, lu, lv]
    rw [hS]
    rfl
theorem k_mulL : Ev fun n => ∀ a b : Lm, shL 33554432 a → shL 33554432 b → c_i_limit_times ((C B0).run n) (li a) (lb a) (lu a) (lv a) (li b) (lb b) (lu b) (lv b) = some (outL (Lm.mul a b)) := by
  refine (k_Fmul.and ((k_sgnL (B := B0)).and (k_whole (B := B0)))).succ fun n hn ⟨hM, hS, hW⟩ a b ha hb => ?_
  rw [run_succ, e_i_limit_times]
  unfold p_i_limit_times
  have key : (∀ r s, ¬ (a = .num r ∧ b = .num s)) → ((c_i_limit_sign ((C B0).run n) (li a) (lb a) (lu a) (lv a)).bind fun (r158_1, _) =>
      (c_i_limit_sign ((C B0).run n) (li b) (lb b) (lu b) (lv b)).bind fun (r158_2_1, _) =>
      bif ((imul .i64 r158_1 r158_2_1) != 0) then
        some ((imul .i64 r158_1 r158_2_1), (false, (([] : List Int), (([] : List Int), ()))))
      else
      (c_i_whole ((C B0).run n) false []).bind fun (r132_1, (r132b, (r132c, _))) =>
      some ((0 : Int), (r132_1, (r132b, (r132c, ()))))) = some (outL (Lm.mul a b)) := by
    intro hne
    rw [hS, hS]
    simp only [Option.bind_some]
    rw [mul_inf hne]
    have e0 : ([] : List Int) = dig 0 := dig_zero.symm
    rcases sgn_rng a with h | h | h <;> rcases sgn_rng b with h' | h' | h' <;> rw [h, h'] <;> first | rfl | (rw [e0, hW]; exact congrArg some zero_out)
  cases a with
  | neg => exact key (by simp)
  | pos => exact key (by simp)
  | num r =>
    cases b with
    | neg => exact key (by simp)
    | pos => exact key (by simp)
    | num s =>
      simp only [li, show ((0 : Int) != 0) = false from rfl, cond_false, lb, lu, lv, jb_inr]
      rw [hM r s ha hb]
      rfl
theorem k_Fdiv : Ev fun n => ∀ r s : Rat, short 33554432 r → short 33554432 s → s ≠ 0 → c_i_Frac_div ((C B0).run n) (fb r) (ft r) (fq r) (fb s) (ft s) (fq s) = some (outF (r / s)) := by
  refine ((k_natMul (B := B0)).and k_lowest).succ fun n hn ⟨hM, hL⟩ r s hr hs h0 => ?_
  rw [run_succ, e_i_Frac_div]
  unfold p_i_Frac_div
  obtain ⟨r1, r2⟩ := hr
  obtain ⟨s1, s2⟩ := hs
  simp only [ft, fq] at r1 r2 s1 s2 ⊢
  have l1 := len_dig_mul r.num.natAbs s.den
  have l3 := len_dig_mul r.den s.num.natAbs
  have hn : s.num.natAbs ≠ 0 := fun h => h0 (Rat.num_eq_zero.1 (Int.natAbs_eq_zero.1 h))
  rw [hM _ _ (by omega) (by omega)]
  simp only [Option.bind_some]
  rw [hM _ _ (by omega) (by omega)]
  simp only [Option.bind_some, beqB_eq]
  have e : (!(fb r == fb s)) = (fb r != fb s) := rfl
  rw [e, hL _ _ _ (Nat.mul_ne_zero r.den_nz hn) (by omega) (by omega), ← div_sg h0]
  rfl
theorem k_divL : Ev fun n => ∀ a b : Lm, shL 33554432 a → shL 33554432 b → b ≠ .num 0 → c_i_limit_by ((C B0).run n) (li a) (lb a) (lu a) (lv a) (li b) (lb b) (lu b) (lv b) = some (outL (Lm.div a b)) := by
  refine (k_Fdiv.and (k_whole (B := B0))).succ fun n hn ⟨hD, hW⟩ a b ha hb h0 => ?_
  rw [run_succ, e_i_limit_by]
  unfold p_i_limit_by
  have e0 : ([] : List Int) = dig 0 := dig_zero.symm
  cases b with
  | neg =>
    simp only [li, show ((-1 : Int) != 0) = true from rfl, cond_true]
    rw [e0, hW]
    cases a <;> exact congrArg some zero_out
  | pos =>
    simp only [li, show ((1 : Int) != 0) = true from rfl, cond_true]
    rw [e0, hW]
    cases a <;> exact congrArg some zero_out
  | num s =>
    simp only [li, show ((0 : Int) != 0) = false from rfl, cond_false]
    cases a with
    | neg => rfl
    | pos => rfl
    | num r =>
      simp only [li, show ((0 : Int) != 0) = false from rfl, cond_false, lb, lu, lv]
      rw [hD r s ha hb (fun h => h0 (by rw [h]))]
      rfl
theorem shL_lim {w o : Int} (hw : wd w = true) (h : rng w o) : shL 256 (lim w o) := by
  rcases lim_cases hw h with ⟨h, e⟩ | ⟨h, e⟩ | ⟨h, e⟩ <;> rw [e]
  · trivial
  · trivial
  · exact fits_short (fits_fv h)
theorem shL_mono {k l : Nat} {a : Lm} (h : shL k a) (hk : k ≤ l) : shL l a := by
  cases a with
  | neg => trivial
  | pos => trivial
  | num r => exact short_mono h hk
theorem shL_inf (k : Nat) (hk : 1 ≤ k) (n : Int) : shL k (Lm.inf n) := by
  unfold Lm.inf
  split
  · trivial
  · split
    · exact ⟨by simp [ft], by
        have : dig 1 = [1] := one_dig.symm
        simp only [fq]
        show (dig 1).length ≤ k
        rw [this]; simpa using hk⟩
    · trivial
theorem shL_mul {w x y : Int} (hw : wd w = true) (hx : rng w x) (hy : rng w y) : shL 1024 (Lm.mul (lim w x) (lim w y)) := by
  rcases lim_cases hw hx with ⟨h, e⟩ | ⟨h, e⟩ | ⟨h, e⟩ <;> rcases lim_cases hw hy with ⟨h', e'⟩ | ⟨h', e'⟩ | ⟨h', e'⟩ <;> rw [e, e'] <;> first | exact short_mulf h h' | exact shL_inf 1024 (by omega) _
end Go.Px.Seat

/- What is reckoned of spans. -/
namespace Pm
open Go.Px.Seat
/-- ok, and not empty -/
def ok1 (w : Int) (a : Sp) : Bool := a.1 && spk w a
noncomputable def addS (w : Int) (a b : Sp) : Sp := if both w a b = true then sp (dn w (Lm.add (lim w a.2.1) (lim w b.2.1))) (up w (Lm.add (lim w a.2.2.1) (lim w b.2.2.1))) else spn
def negS (w : Int) (a : Sp) : Sp := if ok1 w a = true then sp (-a.2.2.1) (-a.2.1) else spn
noncomputable def subS (w : Int) (a b : Sp) : Sp := addS w a (negS w b)
def hullS (w : Int) (a b : Sp) : Sp := if (spk w a && spk w b) = true then (if a.1 = true then (if b.1 = true then sp (min a.2.1 b.2.1) (max a.2.2.1 b.2.2.1) else a) else b) else spn
def minS (w : Int) (a b : Sp) : Sp := if both w a b = true then sp (min a.2.1 b.2.1) (min a.2.2.1 b.2.2.1) else spn
def maxS (w : Int) (a b : Sp) : Sp := if both w a b = true then sp (max a.2.1 b.2.1) (max a.2.2.1 b.2.2.1) else spn
def absS (w : Int) (a : Sp) : Sp := if ok1 w a = true then sp (max (max 0 a.2.1) (-a.2.2.1)) (max (a.2.1.natAbs : Int) (a.2.2.1.natAbs : Int)) else spn
def stp (o : Sp) (d u : Int) : Sp := if o.1 = true then sp (min o.2.1 d) (max o.2.2.1 u) else sp d u
noncomputable def stm (w : Int) (o : Sp) (x y : Int) : Sp := stp o (dn w (Lm.mul (lim w x) (lim w y))) (up w (Lm.mul (lim w x) (lim w y)))
noncomputable def mulS (w : Int) (a b : Sp) : Sp := if both w a b = true then stm w (stm w (stm w (stm w spn a.2.1 b.2.1) a.2.1 b.2.2.1) a.2.2.1 b.2.1) a.2.2.1 b.2.2.1 else spn
open Classical in
/-- the lower end of quotients by what is above 0 -/
noncomputable def qlo (l bl bh : Lm) : Lm := if Lm.num 0 ≤ l then Lm.div l bh else if bl ≤ Lm.num 0 then .neg else Lm.div l bl
open Classical in
noncomputable def qhi (h bl bh : Lm) : Lm := if h ≤ Lm.num 0 then Lm.div h bh else if bl ≤ Lm.num 0 then .pos else Lm.div h bl
noncomputable def quotS (w : Int) (a b : Sp) : Sp := if b.2.2.1 ≤ 0 then spn else
  sp (dn w (qlo (lim w a.2.1) (lim w b.2.1) (lim w b.2.2.1))) (up w (qhi (lim w a.2.2.1) (lim w b.2.1) (lim w b.2.2.1)))
def parts (w : Int) (p q : Sp) : Sp × Sp :=
  if (p.1 && q.1 && decide (p.2.2.1 < q.2.1)) = true then (p, q) else if (p.1 && q.1 && decide (q.2.2.1 < p.2.1)) = true then (q, p) else (hullS w p q, spn)
noncomputable def divTwoS (w : Int) (a b : Sp) : Sp × Sp := if both w a b = true then parts w (quotS w a b) (quotS w (negS w a) (negS w b)) else (spn, spn)
noncomputable def divS (w : Int) (a b : Sp) : Sp := hullS w (divTwoS w a b).1 (divTwoS w a b).2
/-- its parts -/
def out2 (p : Sp × Sp) : Bool × (Int × (Int × (Bool × (Int × (Int × Unit))))) := (p.1.1, (p.1.2.1, (p.1.2.2.1, (p.2.1, (p.2.2.1, (p.2.2.2.1, ()))))))
theorem both_ok1 {w : Int} {a b : Sp} : both w a b = (ok1 w a && ok1 w b) := by
  unfold both ok1
  cases a.1 <;> cases b.1 <;> simp
theorem ok1_sp {w lo hi : Int} : ok1 w (sp lo hi) = pok w lo hi := by unfold ok1; simp [sp, spk]
theorem spk_spn {w : Int} : spk w spn = wd w := by simp [spn, spk]
theorem ok1_iff {w : Int} {a : Sp} : ok1 w a = true ↔ ∃ lo hi, a = sp lo hi ∧ pok w lo hi = true := by
  constructor
  · intro h
    unfold ok1 at h
    obtain ⟨s, lo, hi, u⟩ := a
    simp only [Bool.and_eq_true] at h
    obtain ⟨rfl, h⟩ := h
    exact ⟨lo, hi, rfl, h⟩
  · rintro ⟨lo, hi, rfl, h⟩
    rw [ok1_sp]; exact h
theorem pok_dn_up {w : Int} {a b : Lm} (hw : wd w = true) (h : a ≤ b) (ha : a ≠ .pos) (hb : b ≠ .neg) : pok w (dn w a) (up w b) = true :=
  pok_of hw (dn_rng hw a) (up_rng hw b) (dn_le_up hw h) (dn_lt hw ha) (up_gt hw hb)
theorem lim_lo_hi {w lo hi : Int} (h : pok w lo hi = true) : lim w lo ≤ lim w hi := by
  obtain ⟨hw, h1, h2, h3, _⟩ := pok_rng h
  exact (lim_le hw h1 h2).2 h3
/-- an ok span's ends as limits -/
theorem spk_of_ok1 {w : Int} {a : Sp} (h : ok1 w a = true) : spk w a = true := by
  unfold ok1 at h
  simp only [Bool.and_eq_true] at h
  exact h.2
end Pm

/- What is reckoned of spans: the program's. Seat ZD. -/
namespace Go.Px.Seat
open Go Pm
set_option linter.unusedVariables false
variable {B : Run}
theorem full1 (w : Int) (a : Sp) : ([a].all fun s => s.1 && spk w s) = ok1 w a := by simp [ok1]
theorem full2 (w : Int) (a b : Sp) : ([a, b].all fun s => s.1 && spk w s) = both w a b := full_two w a b
theorem k_NegS : Ev fun n => ∀ (w : Int) (a : Sp), c_i_SpanNeg ((C B).run n) w a.1 a.2.1 a.2.2.1 = some (negS w a) := by
  refine ((k_full (B := B)).and (k_some (B := B))).succ fun n hn ⟨hF, hSo⟩ w a => ?_
  rw [run_succ, e_i_SpanNeg]
  unfold p_i_SpanNeg negS
  have e2 : [(a.1, (a.2.1, (a.2.2.1, ())))] = [a] := rfl
  rw [e2, hF _ _ (by simp), full1]
  simp only [Option.bind_some]
  cases h : ok1 w a
  · rfl
  · obtain ⟨lo, hi, rfl, hp⟩ := ok1_iff.1 h
    obtain ⟨h1, h2, h3, h4, h5, h6⟩ := pok_iff.1 hp
    have htn := top_nonneg w
    simp only [Bool.not_true, cond_false, sp]
    rw [ineg_eq (by omega) (by omega), ineg_eq (by omega) (by omega), hSo]
    rfl
theorem k_HullS : Ev fun n => ∀ (w : Int) (a b : Sp), c_i_SpanHull ((C B).run n) w a.1 a.2.1 a.2.2.1 b.1 b.2.1 b.2.2.1 = some (hullS w a b) := by
  refine ((k_SpanOk (B := B)).and (k_some (B := B))).succ fun n hn ⟨hO, hSo⟩ w a b => ?_
  rw [run_succ, e_i_SpanHull]
  unfold p_i_SpanHull hullS
  obtain ⟨s1, a1, a2, u⟩ := a
  obtain ⟨s2, b1, b2, u'⟩ := b
  simp only
  rw [hO]
  simp only [Option.bind_some]
  cases h1 : spk w (s1, (a1, (a2, ())))
  · rfl
  simp only [Bool.not_true, cond_false]
  rw [hO]
  simp only [Option.bind_some, jb_inr]
  cases h2 : spk w (s2, (b1, (b2, ())))
  · rfl
  cases s1
  · rfl
  cases s2
  · rfl
  simp only [Bool.not_true, cond_false]
  rw [hSo]
  rfl
theorem k_AbsS : Ev fun n => ∀ (w : Int) (a : Sp), c_i_SpanAbs ((C B0).run n) w a.1 a.2.1 a.2.2.1 = some (absS w a) := by
  refine ((k_full (B := B0)).and ((k_some (B := B0)).and (k_size (B := B0)))).succ fun n hn ⟨hF, hSo, hZ⟩ w a => ?_
  rw [run_succ, e_i_SpanAbs]
  unfold p_i_SpanAbs absS
  have e2 : [(a.1, (a.2.1, (a.2.2.1, ())))] = [a] := rfl
  rw [e2, hF _ _ (by simp), full1]
  simp only [Option.bind_some]
  cases h : ok1 w a
  · rfl
  · obtain ⟨lo, hi, rfl, hp⟩ := ok1_iff.1 h
    obtain ⟨h1, h2, h3, h4, h5, h6⟩ := pok_iff.1 hp
    have htn := top_nonneg w
    simp only [Bool.not_true, cond_false, sp, if_true]
    rw [hZ lo (by omega) (by omega), hZ hi (by omega) (by omega), ineg_eq (by omega) (by omega)]
    simp only [Option.bind_some]
    rw [hSo]
    rfl
theorem k_MulS : Ev fun n => ∀ (w : Int) (a b : Sp), c_i_SpanMul ((C B0).run n) w a.1 a.2.1 a.2.2.1 b.1 b.2.1 b.2.2.1 = some (mulS w a b) := by
  refine ((k_full (B := B0)).and (k_limL.and (k_mulL.and (k_floatsL.and (k_some (B := B0)))))).succ fun n hn ⟨hF, hL, hT, hFl, hSo⟩ w a b => ?_
  rw [run_succ, e_i_SpanMul]
  unfold p_i_SpanMul
  have e2 : [(a.1, (a.2.1, (a.2.2.1, ()))), (b.1, (b.2.1, (b.2.2.1, ())))] = [a, b] := rfl
  rw [e2, hF _ _ (by simp), full2]
  simp only [Option.bind_some]
  cases h : both w a b
  · unfold mulS
    rw [h]; rfl
  rw [both_ok1, Bool.and_eq_true] at h
  have hb : both w a b = true := by rw [both_ok1, h.1, h.2]; rfl
  obtain ⟨a1, a2, rfl, pa⟩ := ok1_iff.1 h.1
  obtain ⟨b1, b2, rfl, pb⟩ := ok1_iff.1 h.2
  obtain ⟨hw, ra1, ra2, _⟩ := pok_rng pa
  obtain ⟨_, rb1, rb2, _⟩ := pok_rng pb
  simp only [Bool.not_true, cond_false, sp]
  let S : Nat → Sp := fun i => if i = 0 then spn else if i = 1 then stm w (stm w spn a1 b1) a1 b2 else stm w (stm w (stm w (stm w spn a1 b1) a1 b2) a2 b1) a2 b2
  have hres : mulS w (true, (a1, (a2, ()))) (true, (b1, (b2, ()))) = S 2 := by
    unfold mulS
    exact if_pos hb
  rw [hres]
  refine iter_const (fun st => ∃ (i : Nat) (z : Sp), i ≤ 2 ∧ st = (((i : Int), ((2 : Int), ((), ((), (w, ((), ((), ()))))))), ([a1, a2], ((true, (b1, (b2, ()))), (((S i).1, ((S i).2.1, ((S i).2.2.1, ()))), ((z.1, (z.2.1, (z.2.2.1, ()))), ()))))))
    (fun st => (2 - st.1.1).toNat) _ ?_ n _ (by simp only; omega) ⟨0, spn, by omega, rfl⟩
  rintro rec _ ⟨i, z, hi, rfl⟩ ih
  simp only [ilt_iff, len_eq]
  by_cases h : i < 2
  · obtain ⟨x, hx, hrx, hSx⟩ : ∃ x, List.getD [a1, a2] i 0 = x ∧ rng w x ∧ S (i + 1) = stm w (stm w (S i) x b1) x b2 := by
      have : i = 0 ∨ i = 1 := by omega
      rcases this with rfl | rfl
      · exact ⟨a1, rfl, ra1, rfl⟩
      · exact ⟨a2, rfl, ra2, rfl⟩
    rw [decide_eq_true (show (i : Int) < 2 by omega), cond_true, ok_of (inB_true (by omega) (by simp; omega)), Int.toNat_natCast, hx]
    generalize S i = o at hSx
    let T : Nat → Sp := fun j => if j = 0 then o else if j = 1 then stm w o x b1 else stm w (stm w o x b1) x b2
    refine iter_const (fun st => ∃ (j : Nat), j ≤ 2 ∧ st = (((j : Int), ((2 : Int), ((), (w, (x, ((), ((i : Int), ((2 : Int), ((), ((), ((), ()))))))))))), ([b1, b2], (((T j).1, ((T j).2.1, ((T j).2.2.1, ()))), ([a1, a2], ((true, (b1, (b2, ()))), ((z.1, (z.2.1, (z.2.2.1, ()))), ())))))))
      (fun st => (2 - st.1.1).toNat) _ ?_ n _ (by simp only; omega) ⟨0, by omega, rfl⟩
    rintro rec1 _ ⟨j, hj, rfl⟩ ih1
    simp only [ilt_iff, len_eq]
    by_cases h1 : j < 2
    · obtain ⟨y, hy, hry, hTy⟩ : ∃ y, List.getD [b1, b2] j 0 = y ∧ rng w y ∧ T (j + 1) = stm w (T j) x y := by
        have : j = 0 ∨ j = 1 := by omega
        rcases this with rfl | rfl
        · exact ⟨b1, rfl, rb1, rfl⟩
        · exact ⟨b2, rfl, rb2, rfl⟩
      rw [decide_eq_true (show (j : Int) < 2 by omega), cond_true, ok_of (inB_true (by omega) (by simp; omega)), Int.toNat_natCast, hy, hL w x hw hrx, hL w y hw hry]
      simp only [Option.bind_some, outL]
      rw [hT _ _ (shL_mono (shL_lim hw hrx) (by omega)) (shL_mono (shL_lim hw hry) (by omega))]
      simp only [Option.bind_some, outL]
      rw [hFl w _ hw (shL_mul hw hrx hry)]
      simp only [Option.bind_some]
      have hj1 : iadd .i64 (j : Int) 1 = (j : Int) + 1 := iadd_eq (by omega) (by omega)
      generalize T j = o1 at hTy
      obtain ⟨s, l1, l2, u⟩ := o1
      refine Eq.trans ?_ (ih1 _ ⟨j + 1, by omega, rfl⟩ (by simp only; omega))
      rw [hTy]
      unfold stm stp
      cases s
      · simp only [Bool.not_false, cond_true, Bool.false_eq_true, if_false]
        rw [hSo]
        simp only [Option.bind_some, jb_inr, sp]
        rw [hSo]
        simp only [Option.bind_some, sp]
        have m1 : ∀ d : Int, imin d d = d := fun d => by unfold imin; omega
        have m2 : ∀ d : Int, imax d d = d := fun d => by unfold imax; omega
        rw [m1, m2, hj1]
        rfl
      · simp only [Bool.not_true, cond_false, jb_inr, if_true]
        rw [hSo]
        simp only [Option.bind_some, sp]
        rw [hj1]
        rfl
    · have hj2 : j = 2 := by omega
      subst hj2
      rw [decide_eq_false (by omega), cond_false, iadd_eq (by omega) (by omega)]
      refine ih _ ⟨i + 1, z, by omega, ?_⟩ (by simp only; omega)
      rw [hSx]; rfl
  · have hi2 : i = 2 := by omega
    subst hi2
    rw [decide_eq_false (by omega), cond_false]
end Go.Px.Seat

/- Quotients of spans: the program's. Seat ZD. -/
namespace Pm
open Go.Px Go.Px.Seat
theorem sgn_nonneg (a : Lm) : 0 ≤ a.sgn ↔ Lm.num 0 ≤ a := by
  cases a with
  | neg => simp [Lm.sgn]
  | pos => simp [Lm.sgn]
  | num r => rcases Lm.sgn_cases r with ⟨h, e⟩ | ⟨h, e⟩ | ⟨h, e⟩ <;> rw [e] <;> simp <;> grind
theorem sgn_nonpos (a : Lm) : a.sgn ≤ 0 ↔ a ≤ Lm.num 0 := by
  cases a with
  | neg => simp [Lm.sgn]
  | pos => simp [Lm.sgn]
  | num r => rcases Lm.sgn_cases r with ⟨h, e⟩ | ⟨h, e⟩ | ⟨h, e⟩ <;> rw [e] <;> simp <;> grind
theorem sgn_zero (a : Lm) : a.sgn = 0 ↔ a = Lm.num 0 := by
  cases a with
  | neg => simp [Lm.sgn]
  | pos => simp [Lm.sgn]
  | num r => rcases Lm.sgn_cases r with ⟨h, e⟩ | ⟨h, e⟩ | ⟨h, e⟩ <;> rw [e] <;> simp <;> grind
theorem short_divf {w x y : Int} (hx : fin w x) (hy : fin w y) : short 1024 (fv w x / fv w y) := by
  by_cases h0 : fv w y = 0
  · rw [h0, Rat.div_def, Rat.inv_zero, Rat.mul_zero]
    exact ⟨by simp [ft], by
      show (dig 1).length ≤ _
      rw [← one_dig]; decide⟩
  rw [div_sg h0]
  have f1 := fits_len (fits_fv hx)
  have f2 := fits_len (fits_fv hy)
  simp only [ft, fq] at f1 f2
  have m1 := len_dig_mul (fv w x).num.natAbs (fv w y).den
  have m2 := len_dig_mul (fv w x).den (fv w y).num.natAbs
  have hn : (fv w y).num.natAbs ≠ 0 := fun h => h0 (Rat.num_eq_zero.1 (Int.natAbs_eq_zero.1 h))
  refine mk_short (Nat.mul_ne_zero (Rat.den_nz _) hn) ?_ (by omega)
  rw [sg_natAbs]
  omega
theorem short_zero : short 1024 0 := ⟨by simp [ft], by
  show (dig 1).length ≤ _
  rw [← one_dig]; decide⟩
theorem shL_div {w x y : Int} (hw : wd w = true) (hx : rng w x) (hy : rng w y) : shL 1024 (Lm.div (lim w x) (lim w y)) := by
  rcases lim_cases hw hx with ⟨h, e⟩ | ⟨h, e⟩ | ⟨h, e⟩ <;> rcases lim_cases hw hy with ⟨h', e'⟩ | ⟨h', e'⟩ | ⟨h', e'⟩ <;> rw [e, e'] <;> first | exact short_divf h h' | exact short_zero | trivial
/-- a quotient by what is next to 0 -/
def near (l bl : Lm) (p : Bool) : Lm := if p = true then Lm.div l bl else if l.sgn = 0 then l else Lm.inf l.sgn
theorem zero_div (a : Lm) : Lm.div (.num 0) a = .num 0 := by
  cases a with
  | neg => rfl
  | pos => rfl
  | num s => simp only [Lm.div, Rat.div_def, Rat.zero_mul]
theorem qlo_prog {l bl bh : Lm} {p : Bool} (hp : p = true ↔ ¬ bl ≤ .num 0) : qlo l bl bh = if 0 ≤ l.sgn then Lm.div l bh else near l bl p := by
  unfold qlo near
  by_cases h : Lm.num 0 ≤ l
  · rw [if_pos h, if_pos ((sgn_nonneg l).2 h)]
  · rw [if_neg h, if_neg (fun h' => h ((sgn_nonneg l).1 h'))]
    have hs : l.sgn = -1 := by
      have := sgn_rng l
      have h2 : ¬ 0 ≤ l.sgn := fun h' => h ((sgn_nonneg l).1 h')
      omega
    by_cases hb : bl ≤ .num 0
    · rw [if_pos hb, if_neg (fun h' => (hp.1 h') hb), hs]; rfl
    · rw [if_neg hb, if_pos (hp.2 hb)]
theorem qhi_prog {l bl bh : Lm} {p : Bool} (hp : p = true ↔ ¬ bl ≤ .num 0) : qhi l bl bh = if l.sgn < 0 then Lm.div l bh else near l bl p := by
  unfold qhi near
  by_cases h : l ≤ Lm.num 0
  · rw [if_pos h]
    have h2 := (sgn_nonpos l).2 h
    by_cases h0 : l.sgn = 0
    · have hl := (sgn_zero l).1 h0
      subst hl
      rw [if_neg (by omega), zero_div, zero_div]
      simp [h0]
    · rw [if_pos (by omega)]
  · rw [if_neg h]
    have h2 : ¬ l.sgn ≤ 0 := fun h' => h ((sgn_nonpos l).1 h')
    have := sgn_rng l
    rw [if_neg (show ¬ l.sgn < 0 by omega)]
    by_cases hb : bl ≤ .num 0
    · rw [if_pos hb, if_neg (fun h' => (hp.1 h') hb), if_neg (show ¬ l.sgn = 0 by omega), show l.sgn = 1 by omega]; rfl
    · rw [if_neg hb, if_pos (hp.2 hb)]
theorem pos_lim {w o : Int} (hw : wd w = true) (ho : rng w o) : ilt 0 o = true ↔ ¬ lim w o ≤ .num 0 := by
  have ht := top_pos hw
  rw [← lim_zero hw, lim_le hw ho (by unfold rng; omega), ilt_iff, decide_eq_true_iff]
  omega
theorem shL_near {w x y : Int} (hw : wd w = true) (hx : rng w x) (hy : rng w y) (p : Bool) : shL 1024 (near (lim w x) (lim w y) p) := by
  unfold near
  split
  · exact shL_div hw hx hy
  · split
    · exact shL_mono (shL_lim hw hx) (by omega)
    · exact shL_inf 1024 (by omega) _
end Pm
namespace Go.Px.Seat
open Go Pm
set_option linter.unusedVariables false
variable {B : Run}
theorem k_near : Ev fun n => ∀ (w : Int) (l : Lm) (s : Bool) (lo hi : Int), wd w = true → rng w lo → shL 33554432 l → c_i_divAbove_1 ((C B0).run n) (li l) (lb l) (lu l) (lv l) s lo hi w =
    some (li (near l (lim w lo) (ilt 0 lo)), (lb (near l (lim w lo) (ilt 0 lo)), (lu (near l (lim w lo) (ilt 0 lo)), (lv (near l (lim w lo) (ilt 0 lo)), (s, (lo, (hi, (w, ())))))))) := by
  refine (k_limL.and (k_divL.and (k_sgnL (B := B0)))).succ fun n hn ⟨hL, hD, hS⟩ w l s lo hi hw hlo hl => ?_
  rw [run_succ, e_i_divAbove_1]
  unfold p_i_divAbove_1 near
  cases hp : ilt 0 lo
  · simp only [cond_false]
    rw [hS]
    simp only [Option.bind_some]
    by_cases h0 : l.sgn = 0
    · rw [show (l.sgn == 0) = true by simp [h0], cond_true]
      simp [h0]
    · rw [beq_f h0, cond_false]
      simp only [Bool.false_eq_true, if_false, if_neg h0]
      rcases sgn_rng l with h | h | h
      · rw [h]; rfl
      · exact absurd h h0
      · rw [h]; rfl
  · simp only [cond_true, if_true]
    rw [hL w lo hw hlo]
    simp only [Option.bind_some, outL]
    rw [hD l (lim w lo) hl (shL_mono (shL_lim hw hlo) (by omega)) (fun h => by
      have := (pos_lim hw hlo).1 hp
      rw [h] at this
      exact this (Lm.rfl' _))]
    rfl
theorem k_quotS : Ev fun n => ∀ (w : Int) (a b : Sp), ok1 w a = true → ok1 w b = true → c_i_divAbove ((C B0).run n) w a.1 a.2.1 a.2.2.1 b.1 b.2.1 b.2.2.1 = some (quotS w a b) := by
  refine (k_limL.and (k_divL.and ((k_sgnL (B := B0)).and (k_near.and (k_floatsL.and (k_some (B := B0))))))).succ fun n hn ⟨hL, hD, hS, hN, hFl, hSo⟩ w a b ha hb => ?_
  obtain ⟨a1, a2, rfl, pa⟩ := ok1_iff.1 ha
  obtain ⟨b1, b2, rfl, pb⟩ := ok1_iff.1 hb
  obtain ⟨hw, ra1, ra2, _⟩ := pok_rng pa
  obtain ⟨_, rb1, rb2, _⟩ := pok_rng pb
  rw [run_succ, e_i_divAbove]
  unfold p_i_divAbove
  have e : quotS w (sp a1 a2) (sp b1 b2) = if b2 ≤ 0 then spn else sp (dn w (qlo (lim w a1) (lim w b1) (lim w b2))) (up w (qhi (lim w a2) (lim w b1) (lim w b2))) := rfl
  rw [e]
  simp only [sp, ile_iff]
  by_cases h : b2 ≤ 0
  · rw [decide_eq_true h, if_pos h]; rfl
  rw [decide_eq_false h, if_neg h, cond_false, hL w b2 hw rb2, hL w a1 hw ra1, hL w a2 hw ra2]
  simp only [Option.bind_some, outL]
  rw [hN w (lim w a1) true b1 b2 hw rb1 (shL_mono (shL_lim hw ra1) (by omega))]
  simp only [Option.bind_some]
  rw [ok_of (by simp [beqB])]
  rw [hN w (lim w a2) true b1 b2 hw rb1 (shL_mono (shL_lim hw ra2) (by omega))]
  simp only [Option.bind_some]
  rw [ok_of (by simp [beqB]), hS]
  simp only [Option.bind_some]
  have hb2 : lim w b2 ≠ .num 0 := fun h' => by
    have := (pos_lim hw rb2).1 (by simp; omega)
    rw [h'] at this
    exact this (Lm.rfl' _)
  have q1 := qlo_prog (l := lim w a1) (bh := lim w b2) (pos_lim hw rb1)
  have q2 := qhi_prog (l := lim w a2) (bh := lim w b2) (pos_lim hw rb1)
  rw [q1, q2]
  have s1 := shL_mono (l := 33554432) (shL_lim hw ra1) (by omega)
  have s2 := shL_mono (l := 33554432) (shL_lim hw ra2) (by omega)
  have s3 := shL_mono (l := 33554432) (shL_lim hw rb2) (by omega)
  have t1 := shL_div hw ra1 rb2
  have t2 := shL_div hw ra2 rb2
  have t3 := shL_near hw ra1 rb1 (ilt 0 b1)
  have t4 := shL_near hw ra2 rb1 (ilt 0 b1)
  have c1 := hD _ _ s1 s3 hb2
  have c2 := hD _ _ s2 s3 hb2
  have c3 := hS (lim w a2)
  clear hN q1 q2
  generalize ilt 0 b1 = pp at t3 t4 ⊢
  by_cases g1 : 0 ≤ (lim w a1).sgn
  · rw [decide_eq_true g1, cond_true, c1, if_pos g1]
    simp only [Option.bind_some, outL, jb_inr]
    rw [c3]
    simp only [Option.bind_some, ilt_iff]
    by_cases g2 : (lim w a2).sgn < 0
    · rw [decide_eq_true g2, cond_true, c2, if_pos g2]
      simp only [Option.bind_some, outL, jb_inr]
      rw [hFl w _ hw t1, hFl w _ hw t2]
      simp only [Option.bind_some]
      rw [hSo]
      rfl
    · rw [decide_eq_false g2, cond_false, if_neg g2]
      simp only [jb_inr]
      rw [hFl w _ hw t1, hFl w _ hw t4]
      simp only [Option.bind_some]
      rw [hSo]
      rfl
  · rw [decide_eq_false g1, cond_false, if_neg g1]
    simp only [jb_inr]
    rw [c3]
    simp only [Option.bind_some, ilt_iff]
    by_cases g2 : (lim w a2).sgn < 0
    · rw [decide_eq_true g2, cond_true, c2, if_pos g2]
      simp only [Option.bind_some, outL, jb_inr]
      rw [hFl w _ hw t3, hFl w _ hw t2]
      simp only [Option.bind_some]
      rw [hSo]
      rfl
    · rw [decide_eq_false g2, cond_false, if_neg g2]
      simp only [jb_inr]
      rw [hFl w _ hw t3, hFl w _ hw t4]
      simp only [Option.bind_some]
      rw [hSo]
      rfl
theorem ok1_neg {w : Int} {a : Sp} (h : ok1 w a = true) : ok1 w (negS w a) = true := by
  obtain ⟨lo, hi, rfl, hp⟩ := ok1_iff.1 h
  unfold negS
  rw [if_pos h, ok1_sp]
  exact pok_neg hp
theorem k_divTwoS : Ev fun n => ∀ (w : Int) (a b : Sp), c_i_SpanDivTwo ((C B0).run n) w a.1 a.2.1 a.2.2.1 b.1 b.2.1 b.2.2.1 = some (out2 (divTwoS w a b)) := by
  refine ((k_full (B := B0)).and (k_quotS.and ((k_NegS (B := B0)).and (k_HullS (B := B0))))).succ fun n hn ⟨hF, hQ, hN, hH⟩ w a b => ?_
  rw [run_succ, e_i_SpanDivTwo]
  unfold p_i_SpanDivTwo divTwoS
  have e2 : [(a.1, (a.2.1, (a.2.2.1, ()))), (b.1, (b.2.1, (b.2.2.1, ())))] = [a, b] := rfl
  rw [e2, hF _ _ (by simp), full2]
  simp only [Option.bind_some]
  cases h : both w a b
  · rfl
  have h' := h
  rw [both_ok1, Bool.and_eq_true] at h'
  simp only [Bool.not_true, cond_false, if_true]
  rw [hQ w a b h'.1 h'.2]
  simp only [Option.bind_some]
  rw [hN, hN]
  simp only [Option.bind_some]
  rw [hQ w _ _ (ok1_neg h'.1) (ok1_neg h'.2)]
  simp only [Option.bind_some]
  generalize quotS w a b = p
  generalize quotS w (negS w a) (negS w b) = q
  obtain ⟨s, p1, p2, u⟩ := p
  obtain ⟨t, q1, q2, u'⟩ := q
  unfold parts
  cases s
  · simp only [cond_false, jb_inr, Bool.false_and, Bool.false_eq_true, if_false]
    rw [hH w (false, (p1, (p2, ()))) (t, (q1, (q2, ())))]
    rfl
  cases t
  · simp only [cond_false, cond_true, jb_inr, Bool.and_false, Bool.false_and, Bool.false_eq_true, if_false]
    rw [hH w (true, (p1, (p2, ()))) (false, (q1, (q2, ())))]
    rfl
  simp only [cond_true, jb_inr, Bool.true_and, ilt_iff]
  by_cases g : p2 < q1
  · rw [decide_eq_true g, if_pos rfl]; rfl
  · rw [decide_eq_false g, cond_false, if_neg (by simp)]
    by_cases g' : q2 < p1
    · rw [decide_eq_true g', if_pos rfl]; rfl
    · rw [decide_eq_false g', cond_false, if_neg (by simp), hH w (true, (p1, (p2, ()))) (true, (q1, (q2, ())))]
      rfl
end Go.Px.Seat

/- Quotients with infinite ones; what spans leave in. -/
namespace Pm
open Go.Px Go.Px.Seat
namespace Lm
theorem div_opp (a b : Lm) : div a.opp b = (div a b).opp := by
  cases a <;> cases b <;> simp [div, Rat.div_def, Rat.neg_mul]
theorem not_le_num {s : Rat} (h : ¬ Lm.num s ≤ .num 0) : 0 < s := by
  simp at h
  exact Rat.not_le.1 h
theorem rat_div_mono {a b s : Rat} (h : a ≤ b) (hs : 0 < s) : a / s ≤ b / s := by
  rw [Rat.div_def, Rat.div_def]
  exact Rat.mul_le_mul_of_nonneg_right h (Rat.le_of_lt (Rat.inv_pos.2 hs))
theorem div_mono {a b y : Lm} (h : a ≤ b) (hy : ¬ y ≤ .num 0) : div a y ≤ div b y := by
  cases y with
  | neg => simp at hy
  | pos => cases a <;> cases b <;> simp [div]
  | num s =>
    have hs := not_le_num hy
    cases a <;> cases b <;> simp_all [div]
    exact rat_div_mono h hs
theorem div_nonneg {a y : Lm} (h : .num 0 ≤ a) (hy : ¬ y ≤ .num 0) : .num 0 ≤ div a y := by
  have := div_mono h hy
  rwa [zero_div] at this
theorem rat_inv_anti {s t : Rat} (hs : 0 < s) (h : s ≤ t) : t⁻¹ ≤ s⁻¹ := by
  have ht : 0 < t := by grind
  have h1 := Rat.mul_le_mul_of_nonneg_right h (Rat.le_of_lt (Rat.inv_pos.2 ht))
  rw [Rat.mul_inv_cancel t (Rat.ne_of_gt ht)] at h1
  have h2 := Rat.mul_le_mul_of_nonneg_left h1 (Rat.le_of_lt (Rat.inv_pos.2 hs))
  rw [← Rat.mul_assoc, Rat.inv_mul_cancel s (Rat.ne_of_gt hs), Rat.one_mul, Rat.mul_one] at h2
  exact h2
/-- by more it is less -/
theorem div_anti {a x y : Lm} (ha : .num 0 ≤ a) (hx : ¬ x ≤ .num 0) (h : x ≤ y) : div a y ≤ div a x := by
  have hy : ¬ y ≤ .num 0 := fun h' => hx (trans h h')
  cases y with
  | neg => simp at hy
  | pos => 
    rw [show div a .pos = .num 0 by cases a <;> rfl]
    exact div_nonneg ha hx
  | num t =>
    cases x with
    | neg => simp at hx
    | pos => simp at h
    | num s =>
      cases a with
      | neg => simp at ha
      | pos => exact rfl' _
      | num r =>
        simp at ha h
        simp only [div, num_le, Rat.div_def]
        exact Rat.mul_le_mul_of_nonneg_left (rat_inv_anti (not_le_num hx) h) ha
theorem div_mono_neg {a x y : Lm} (ha : a ≤ .num 0) (hx : ¬ x ≤ .num 0) (h : x ≤ y) : div a x ≤ div a y := by
  have h0 : Lm.num 0 ≤ a.opp := by
    have := opp_le.2 ha
    simpa using this
  have := div_anti h0 hx h
  rw [div_opp, div_opp] at this
  exact opp_le.1 this
end Lm
theorem qlo_opp (l bl bh : Lm) : qlo l.opp bl bh = (qhi l bl bh).opp := by
  unfold qlo qhi
  have e : Lm.num 0 ≤ l.opp ↔ l ≤ .num 0 := by
    have := Lm.opp_le (a := .num 0) (b := l)
    rw [show (Lm.num 0).opp = .num 0 by simp] at this
    exact this
  by_cases h : l ≤ .num 0
  · rw [if_pos (e.2 h), if_pos h, Lm.div_opp]
  · rw [if_neg (fun h' => h (e.1 h')), if_neg h]
    split
    · rfl
    · rw [Lm.div_opp]
theorem qhi_opp (l bl bh : Lm) : qhi l.opp bl bh = (qlo l bl bh).opp := by
  have := qlo_opp l.opp bl bh
  rw [Lm.opp_opp] at this
  rw [this, Lm.opp_opp]
theorem qlo_le {l x bl y bh : Lm} (h1 : l ≤ x) (h2 : bl ≤ y) (h3 : y ≤ bh) (hy : ¬ y ≤ .num 0) : qlo l bl bh ≤ Lm.div x y := by
  unfold qlo
  by_cases h : Lm.num 0 ≤ l
  · rw [if_pos h]
    exact Lm.trans (Lm.div_anti h hy h3) (Lm.div_mono h1 hy)
  · rw [if_neg h]
    by_cases hb : bl ≤ .num 0
    · rw [if_pos hb]; simp
    · rw [if_neg hb]
      exact Lm.trans (Lm.div_mono_neg (Lm.of_not_le h) hb h2) (Lm.div_mono h1 hy)
theorem le_qhi {h x bl y bh : Lm} (h1 : x ≤ h) (h2 : bl ≤ y) (h3 : y ≤ bh) (hy : ¬ y ≤ .num 0) : Lm.div x y ≤ qhi h bl bh := by
  have := qlo_le (l := h.opp) (x := x.opp) (Lm.opp_le.2 h1) h2 h3 hy
  rw [qlo_opp, Lm.div_opp] at this
  exact Lm.opp_le.1 this
theorem qlo_qhi {l h bl bh : Lm} (h1 : l ≤ h) (h2 : bl ≤ bh) (hy : ¬ bh ≤ .num 0) : qlo l bl bh ≤ qhi h bl bh :=
  Lm.trans (qlo_le h1 h2 (Lm.rfl' _) hy) (le_qhi (Lm.rfl' _) h2 (Lm.rfl' _) hy)
theorem div_ne_pos {a b : Lm} (h : a ≠ .pos) : Lm.div a b ≠ .pos := by
  cases a <;> cases b <;> simp_all [Lm.div]
theorem qlo_ne {l bl bh : Lm} (h : l ≠ .pos) : qlo l bl bh ≠ .pos := by
  unfold qlo
  split
  · exact div_ne_pos h
  · split
    · simp
    · exact div_ne_pos h
theorem qhi_ne {l bl bh : Lm} (h : l ≠ .neg) : qhi l bl bh ≠ .neg := by
  have := qlo_ne (l := l.opp) (bl := bl) (bh := bh) (by cases l <;> simp_all)
  rw [qlo_opp] at this
  intro h'
  rw [h'] at this
  exact this rfl
theorem pos_lim' {w o : Int} (hw : wd w = true) (ho : rng w o) : 0 < o ↔ ¬ lim w o ≤ .num 0 := by
  have := pos_lim hw ho
  rwa [ilt_iff, decide_eq_true_iff] at this
theorem nonneg_lim {w o : Int} (hw : wd w = true) (ho : rng w o) : 0 ≤ o ↔ .num 0 ≤ lim w o := by
  have ht := top_pos hw
  rw [← lim_zero hw, lim_le hw (by unfold rng; omega) ho]
theorem nonpos_lim {w o : Int} (hw : wd w = true) (ho : rng w o) : o ≤ 0 ↔ lim w o ≤ .num 0 := by
  have ht := top_pos hw
  rw [← lim_zero hw, lim_le hw ho (by unfold rng; omega)]
theorem quot_ok {w : Int} {a b : Sp} (ha : ok1 w a = true) (hb : ok1 w b = true) (h : 0 < b.2.2.1) : ok1 w (quotS w a b) = true := by
  obtain ⟨a1, a2, rfl, pa⟩ := ok1_iff.1 ha
  obtain ⟨b1, b2, rfl, pb⟩ := ok1_iff.1 hb
  obtain ⟨hw, ra1, ra2, _⟩ := pok_rng pa
  obtain ⟨_, rb1, rb2, _⟩ := pok_rng pb
  have h' : 0 < b2 := h
  have e : quotS w (sp a1 a2) (sp b1 b2) = if b2 ≤ 0 then spn else sp (dn w (qlo (lim w a1) (lim w b1) (lim w b2))) (up w (qhi (lim w a2) (lim w b1) (lim w b2))) := rfl
  rw [e, if_neg (by omega), ok1_sp]
  exact pok_dn_up hw (qlo_qhi (lim_lo_hi pa) (lim_lo_hi pb) ((pos_lim' hw rb2).1 h')) (qlo_ne (lo_ne pa).1) (qhi_ne (lo_ne pa).2)
theorem quot_spk {w : Int} {a b : Sp} (hw : wd w = true) (ha : ok1 w a = true) (hb : ok1 w b = true) : spk w (quotS w a b) = true := by
  by_cases h : 0 < b.2.2.1
  · exact spk_of_ok1 (quot_ok ha hb h)
  · unfold quotS
    rw [if_pos (by omega), spk_spn, hw]
theorem negS_sp {w lo hi : Int} (h : pok w lo hi = true) : negS w (sp lo hi) = sp (-hi) (-lo) := by
  unfold negS
  rw [ok1_sp, if_pos h]; rfl
/-- with both signs turned -/
theorem quot_neg {w : Int} {a b : Sp} (ha : ok1 w a = true) (hb : ok1 w b = true) : negS w (quotS w a b) = quotS w (negS w a) b := by
  by_cases h : 0 < b.2.2.1
  · have hq := quot_ok ha hb h
    obtain ⟨a1, a2, rfl, pa⟩ := ok1_iff.1 ha
    obtain ⟨b1, b2, rfl, pb⟩ := ok1_iff.1 hb
    obtain ⟨hw, ra1, ra2, _⟩ := pok_rng pa
    have h' : 0 < b2 := h
    have e : ∀ a1 a2, quotS w (sp a1 a2) (sp b1 b2) = if b2 ≤ 0 then spn else sp (dn w (qlo (lim w a1) (lim w b1) (lim w b2))) (up w (qhi (lim w a2) (lim w b1) (lim w b2))) := fun _ _ => rfl
    rw [negS_sp pa, e]
    rw [e] at hq ⊢
    rw [if_neg (show ¬ b2 ≤ 0 by omega)] at hq ⊢
    rw [if_neg (show ¬ b2 ≤ 0 by omega), negS_sp (by rwa [ok1_sp] at hq), lim_opp hw ra1, lim_opp hw ra2, qlo_opp, qhi_opp, dn_opp, up_opp]
  · unfold quotS
    rw [if_pos (show b.2.2.1 ≤ 0 by omega), if_pos (show b.2.2.1 ≤ 0 by omega)]
    rfl
end Pm

/- What is reckoned of spans: the reference's. Seat ZD. -/
namespace Pm
open Go.Px Go.Px.Seat
noncomputable def du (w : Int) (u : Bool) (a : Lm) : Int := if u = true then up w a else dn w a
theorem du_lim {w o : Int} (hw : wd w = true) (ho : rng w o) (u : Bool) : du w u (lim w o) = o := by
  unfold du
  split
  · exact up_lim hw ho
  · exact dn_lim hw ho
theorem du_zero {w : Int} (hw : wd w = true) (u : Bool) : du w u (.num 0) = 0 := by
  have ht := top_pos hw
  rw [← lim_zero hw]
  exact du_lim hw (by unfold rng; omega) u
theorem du_inf {w : Int} (u : Bool) : du w u .pos = top w ∧ du w u .neg = -top w := by
  unfold du
  cases u <;> simp
theorem sgn_lim {w o : Int} (hw : wd w = true) (ho : rng w o) : (lim w o).sgn = if o < 0 then -1 else if o = 0 then 0 else 1 := by
  have h1 := nonneg_lim hw ho
  have h2 := nonpos_lim hw ho
  have h3 := (sgn_nonneg (lim w o))
  have h4 := (sgn_nonpos (lim w o))
  have h5 := sgn_rng (lim w o)
  by_cases h : o < 0
  · rw [if_pos h]
    have : ¬ 0 ≤ (lim w o).sgn := fun h' => by have := h1.2 (h3.1 h'); omega
    omega
  · rw [if_neg h]
    by_cases h0 : o = 0
    · rw [if_pos h0]
      have := h3.2 (h1.1 (by omega))
      have := h4.2 (h2.1 (by omega))
      omega
    · rw [if_neg h0]
      have : ¬ (lim w o).sgn ≤ 0 := fun h' => by have := h2.2 (h4.1 h'); omega
      omega
theorem mk_quot {b : Bool} {p q r s : Nat} (hr : r ≠ 0) : mkRat (sg b (p * s)) (q * r) = mkRat (sg b p) q / mkRat (sg false r) s := by
  have e : (mkRat (sg false r) s)⁻¹ = mkRat (sg false s) r := by
    rw [← Rat.divInt_ofNat, Rat.inv_divInt]
    show Rat.divInt (s : Int) (r : Int) = _
    rw [Rat.divInt_ofNat]; rfl
  rw [Rat.div_def, e, Rat.mkRat_mul_mkRat]
  congr 1
  have := sg_mul b false p s
  simpa using this
theorem mul_zero' (a : Lm) : Lm.mul (.num 0) a = .num 0 := by
  cases a with
  | neg => rfl
  | pos => rfl
  | num s => simp only [Lm.mul, Rat.zero_mul]
theorem div_pos_inf (a : Lm) : Lm.div a .pos = .num 0 := by cases a <;> rfl
theorem stm4 (w a1 a2 b1 b2 : Int) : stm w (stm w (stm w (stm w spn a1 b1) a1 b2) a2 b1) a2 b2 =
    sp (min (min (du w false (Lm.mul (lim w a1) (lim w b1))) (du w false (Lm.mul (lim w a1) (lim w b2)))) (min (du w false (Lm.mul (lim w a2) (lim w b1))) (du w false (Lm.mul (lim w a2) (lim w b2)))))
      (max (max (du w true (Lm.mul (lim w a1) (lim w b1))) (du w true (Lm.mul (lim w a1) (lim w b2)))) (max (du w true (Lm.mul (lim w a2) (lim w b1))) (du w true (Lm.mul (lim w a2) (lim w b2))))) := by
  unfold stm stp du
  simp only [spn, sp, Bool.false_eq_true, if_false, if_true]
  congr 1
  congr 1
  · omega
  · congr 1
    omega
end Pm
namespace Go.Px.Seat
open Go Pm
set_option linter.unusedVariables false
variable {B : Run}
theorem k_sRoundD : Ev fun n => ∀ (w : Int) (b u : Bool) (p q : Nat), wd w = true → q ≠ 0 → (dig p).length ≤ 1024 → (dig q).length ≤ 1024 →
    c_s_l8Round ((C B).run n) w b (dig p) (dig q) u = some (du w u (.num (mkRat (sg b p) q)), ()) := by
  refine (k_sRoundX (B := B)).mono fun n h w b u p q hw hq l1 l2 => ?_
  obtain ⟨m, h1, h2⟩ := h w b u p q hw hq l1 l2
  rw [h1]
  unfold du
  cases u
  · simp only [Bool.false_eq_true, if_false] at h2 ⊢
    rw [dn_num h2]
  · simp only [if_true] at h2 ⊢
    rw [up_num h2]
theorem k_sInf : Ev fun n => ∀ (w o : Int), wd w = true → c_s_l9Infinite ((C B).run n) w o = some (decide (o = top w ∨ o = -top w), ()) := by
  refine (k_sTop' (B := B)).succ fun n hn hT w o hw => ?_
  rw [run_succ, e_s_l9Infinite]
  unfold p_s_l9Infinite
  rw [hT]
  simp only [Option.bind_some, ineg_top]
  by_cases h : o = top w
  · rw [show (o == top w) = true by simpa using h, cond_true]
    simp [h]
  · rw [beq_f h, cond_false]
    by_cases h' : o = -top w
    · simp [h', jb_inr]
    · simp [h, h', jb_inr, beq_f h']
theorem k_sNegS : Ev fun n => ∀ (w : Int) (a : Sp), c_s_SpanNeg ((C B).run n) w a.1 a.2.1 a.2.2.1 = some (negS w a) := by
  refine ((k_sSpanOk (B := B)).and (k_sOf (B := B))).succ fun n hn ⟨hO, hSo⟩ w a => ?_
  rw [run_succ, e_s_SpanNeg]
  unfold p_s_SpanNeg negS ok1
  obtain ⟨s1, a1, a2, u⟩ := a
  simp only
  rw [hO]
  simp only [Option.bind_some]
  cases h1 : spk w (s1, (a1, (a2, ())))
  · simp only [Bool.not_false, cond_true, jb_inr, Bool.and_false, Bool.false_eq_true, if_false]; rfl
  cases s1
  · rfl
  simp only [Bool.not_true, cond_false, jb_inr, Bool.and_true, if_true]
  have hp : pok w a1 a2 = true := h1
  obtain ⟨h1, h2, h3, h4, h5, h6⟩ := pok_iff.1 hp
  have htn := top_nonneg w
  rw [ineg_eq (by omega) (by omega), ineg_eq (by omega) (by omega), hSo]
  rfl
theorem k_sHullS : Ev fun n => ∀ (w : Int) (a b : Sp), c_s_SpanHull ((C B).run n) w a.1 a.2.1 a.2.2.1 b.1 b.2.1 b.2.2.1 = some (hullS w a b) := by
  refine ((k_sSpanOk (B := B)).and ((k_sOf (B := B)).and ((k_sMin (B := B)).and (k_sMax (B := B))))).succ fun n hn ⟨hO, hSo, hMi, hMa⟩ w a b => ?_
  rw [run_succ, e_s_SpanHull]
  unfold p_s_SpanHull hullS
  obtain ⟨s1, a1, a2, u⟩ := a
  obtain ⟨s2, b1, b2, u'⟩ := b
  simp only
  rw [hO]
  simp only [Option.bind_some]
  cases h1 : spk w (s1, (a1, (a2, ())))
  · rfl
  simp only [Bool.not_true, cond_false]
  rw [hO]
  simp only [Option.bind_some, jb_inr]
  cases h2 : spk w (s2, (b1, (b2, ())))
  · rfl
  cases s1
  · rfl
  cases s2
  · rfl
  simp only [Bool.not_true, cond_false]
  rw [hMi, hMa]
  simp only [Option.bind_some]
  rw [hSo]
  rfl
theorem k_sQuot : Ev fun n => ∀ (w a b : Int) (u : Bool), wd w = true → rng w a → rng w b → 0 < b → c_s_l9Quot ((C B).run n) w a b u = some (du w u (Lm.div (lim w a) (lim w b)), ()) := by
  refine ((k_sInf (B := B)).and ((k_sOfF (B := B)).and ((k_sMul (B := B)).and (k_sRoundD (B := B))))).succ fun n hn ⟨hI, hO, hM, hR⟩ w a b u hw ra rb hb => ?_
  rw [run_succ, e_s_l9Quot]
  unfold p_s_l9Quot
  have ht := top_pos hw
  have za : a = 0 → Lm.div (lim w a) (lim w b) = .num 0 := fun h => by rw [h, lim_zero hw, zero_div]
  by_cases h0 : a = 0
  · rw [za h0, du_zero hw, show (a == 0) = true by simpa using h0, cond_true]
    rfl
  rw [beq_f h0, cond_false, hI w b hw]
  simp only [Option.bind_some, jb_inr]
  by_cases hbt : b = top w
  · rw [decide_eq_true (.inl hbt), cond_true, hbt, lim_top, div_pos_inf, du_zero hw]
  rw [decide_eq_false (by omega), cond_false, hI w a hw]
  simp only [Option.bind_some]
  have fb' : fin w b := ⟨hw, by omega, by unfold rng at rb; omega⟩
  rcases lim_cases hw ra with ⟨h, e⟩ | ⟨h, e⟩ | ⟨h, e⟩
  · rw [decide_eq_true (.inr h), cond_true, e, lim_num fb']
    show some (a, ()) = some (du w u .neg, ())
    rw [(du_inf u).2, h]
  · rw [decide_eq_true (.inl h), cond_true, e, lim_num fb']
    show some (a, ()) = some (du w u .pos, ())
    rw [(du_inf u).1, h]
  · have h1 := h.2.1
    have h2 := h.2.2
    rw [decide_eq_false (by omega), cond_false]
    obtain ⟨p, q, g1, g2, g3, g4, g5, g6⟩ := hO w a h
    obtain ⟨r, s, k1, k2, k3, k4, k5, k6⟩ := hO w b fb'
    rw [g1, k1]
    simp only [Option.bind_some]
    have l1 := len_dig_mul p s
    have l2 := len_dig_mul q r
    have hr : r ≠ 0 := fun h => by have := k6.1 h; omega
    rw [hM _ _ (by omega) (by omega), hM _ _ (by omega) (by omega)]
    simp only [Option.bind_some]
    rw [hR w _ u _ _ hw (Nat.mul_ne_zero g2 hr) (by omega) (by omega)]
    rw [decide_eq_false (show ¬ b < 0 by omega)] at k3
    rw [mk_quot hr, g3, k3, e, lim_num fb']
    rfl
theorem k_sMulB : Ev fun n => ∀ (w a b : Int) (u : Bool), wd w = true → rng w a → rng w b → c_s_l9Mul ((C B).run n) w a b u = some (du w u (Lm.mul (lim w a) (lim w b)), ()) := by
  refine ((k_sInf (B := B)).and ((k_sOfF (B := B)).and ((k_sMul (B := B)).and ((k_sRoundD (B := B)).and (k_sTop' (B := B)))))).succ fun n hn ⟨hI, hO, hM, hR, hT⟩ w a b u hw ra rb => ?_
  rw [run_succ, e_s_l9Mul]
  unfold p_s_l9Mul
  have ht := top_pos hw
  by_cases h0 : a = 0
  · rw [h0, lim_zero hw, mul_zero', du_zero hw]
    rfl
  rw [beq_f h0, cond_false]
  simp only [jb_inr]
  by_cases h1 : b = 0
  · rw [h1, lim_zero hw, Lm.mul_comm, mul_zero', du_zero hw]
    rfl
  rw [beq_f h1, cond_false, hI w a hw]
  simp only [Option.bind_some, ilt_iff, beqB_eq]
  have inf : (a = top w ∨ a = -top w) ∨ (b = top w ∨ b = -top w) →
      (bif (!(decide (a < 0) == decide (b < 0))) then (c_s_BitTop ((C B).run n) w).bind fun (r99_1, _) => some ((ineg .i64 r99_1), ())
        else (c_s_BitTop ((C B).run n) w).bind fun (r99_2_1, _) => some (r99_2_1, ())) = some (du w u (Lm.mul (lim w a) (lim w b)), ()) := by
    intro h
    have hm : Lm.mul (lim w a) (lim w b) = Lm.inf ((lim w a).sgn * (lim w b).sgn) := by
      refine mul_inf fun r s ⟨e1, e2⟩ => ?_
      rcases h with h | h
      · rcases h with h | h
        · rw [h, lim_top] at e1; cases e1
        · rw [h, lim_bot hw] at e1; cases e1
      · rcases h with h | h
        · rw [h, lim_top] at e2; cases e2
        · rw [h, lim_bot hw] at e2; cases e2
    rw [hm, sgn_lim hw ra, sgn_lim hw rb, if_neg h0, if_neg h1, hT]
    simp only [Option.bind_some, ineg_top]
    by_cases g1 : a < 0 <;> by_cases g2 : b < 0 <;> simp [g1, g2, Lm.inf, du_inf]
  by_cases ia : a = top w ∨ a = -top w
  · rw [decide_eq_true ia, cond_true]
    simp only [jb_inr, cond_true]
    exact inf (.inl ia)
  rw [decide_eq_false ia, cond_false, hI w b hw]
  simp only [Option.bind_some, jb_inr]
  by_cases ib : b = top w ∨ b = -top w
  · rw [decide_eq_true ib, cond_true]
    exact inf (.inr ib)
  rw [decide_eq_false ib, cond_false]
  have fa : fin w a := ⟨hw, by unfold rng at ra; omega, by unfold rng at ra; omega⟩
  have fb' : fin w b := ⟨hw, by unfold rng at rb; omega, by unfold rng at rb; omega⟩
  obtain ⟨p, q, g1, g2, g3, g4, g5, g6⟩ := hO w a fa
  obtain ⟨r, s, k1, k2, k3, k4, k5, k6⟩ := hO w b fb'
  rw [g1, k1]
  simp only [Option.bind_some]
  have l1 := len_dig_mul p r
  have l2 := len_dig_mul q s
  rw [hM _ _ (by omega) (by omega), hM _ _ (by omega) (by omega)]
  simp only [Option.bind_some]
  rw [hR w _ u _ _ hw (Nat.mul_ne_zero g2 k2) (by omega) (by omega)]
  have e : (!(decide (a < 0) == decide (b < 0))) = (decide (a < 0) != decide (b < 0)) := rfl
  rw [e, sg_mul, ← Rat.mkRat_mul_mkRat, g3, k3, lim_num fa, lim_num fb']
  rfl
theorem k_sMulS : Ev fun n => ∀ (w : Int) (a b : Sp), c_s_SpanMul ((C B).run n) w a.1 a.2.1 a.2.2.1 b.1 b.2.1 b.2.2.1 = some (mulS w a b) := by
  refine ((k_sBoth (B := B)).and ((k_sMulB (B := B)).and ((k_sOf (B := B)).and ((k_sMin (B := B)).and (k_sMax (B := B)))))).succ fun n hn ⟨hB, hM, hSo, hMi, hMa⟩ w a b => ?_
  rw [run_succ, e_s_SpanMul]
  unfold p_s_SpanMul mulS
  rw [hB]
  simp only [Option.bind_some]
  cases h : both w a b
  · rfl
  rw [both_ok1, Bool.and_eq_true] at h
  obtain ⟨a1, a2, rfl, pa⟩ := ok1_iff.1 h.1
  obtain ⟨b1, b2, rfl, pb⟩ := ok1_iff.1 h.2
  obtain ⟨hw, ra1, ra2, _⟩ := pok_rng pa
  obtain ⟨_, rb1, rb2, _⟩ := pok_rng pb
  simp only [Bool.not_true, cond_false, sp, if_true]
  rw [stm4]
  simp only [hM w a1 b1 _ hw ra1 rb1, hM w a1 b2 _ hw ra1 rb2, hM w a2 b1 _ hw ra2 rb1, hM w a2 b2 _ hw ra2 rb2, Option.bind_some, hMi, hMa, hSo]
theorem k_sQuotS : Ev fun n => ∀ (w : Int) (a b : Sp), ok1 w a = true → ok1 w b = true → c_s_l9Part ((C B).run n) w a.1 a.2.1 a.2.2.1 b.1 b.2.1 b.2.2.1 = some (quotS w a b) := by
  refine ((k_sTop' (B := B)).and ((k_sQuot (B := B)).and ((k_sOf (B := B)).and (k_sMax (B := B))))).succ fun n hn ⟨hT, hQ, hSo, hMa⟩ w a b ha hb => ?_
  obtain ⟨a1, a2, rfl, pa⟩ := ok1_iff.1 ha
  obtain ⟨b1, b2, rfl, pb⟩ := ok1_iff.1 hb
  obtain ⟨hw, ra1, ra2, _⟩ := pok_rng pa
  obtain ⟨_, rb1, rb2, _⟩ := pok_rng pb
  rw [run_succ, e_s_l9Part]
  unfold p_s_l9Part
  have e : quotS w (sp a1 a2) (sp b1 b2) = if b2 ≤ 0 then spn else sp (dn w (qlo (lim w a1) (lim w b1) (lim w b2))) (up w (qhi (lim w a2) (lim w b1) (lim w b2))) := rfl
  rw [e]
  simp only [sp, ile_iff, ilt_iff]
  by_cases h : b2 ≤ 0
  · rw [decide_eq_true h, if_pos h]; rfl
  rw [decide_eq_false h, if_neg h, cond_false, hMa, hT]
  simp only [Option.bind_some, ineg_top]
  have hlo : (bif (decide (0 ≤ a1)) then
        (c_s_l9Quot ((C B).run n) w a1 b2 false).bind fun (r162_1, _) => some r162_1
      else bif (decide (0 < max b1 0)) then
        (c_s_l9Quot ((C B).run n) w a1 (max b1 0) false).bind fun (r162_1, _) => some r162_1
      else some (-top w)) = some (dn w (qlo (lim w a1) (lim w b1) (lim w b2))) := by
    unfold qlo
    by_cases g : 0 ≤ a1
    · rw [decide_eq_true g, cond_true, if_pos ((nonneg_lim hw ra1).1 g), hQ w a1 b2 false hw ra1 rb2 (by omega)]; rfl
    · rw [decide_eq_false g, cond_false, if_neg (fun h' => g ((nonneg_lim hw ra1).2 h'))]
      by_cases g' : b1 ≤ 0
      · rw [decide_eq_false (by omega), cond_false, if_pos ((nonpos_lim hw rb1).1 g'), dn_neg']
      · rw [decide_eq_true (by omega), cond_true, if_neg (fun h' => g' ((nonpos_lim hw rb1).2 h')), show max b1 0 = b1 by omega, hQ w a1 b1 false hw ra1 rb1 (by omega)]; rfl
  have hhi : (bif (decide (a2 ≤ 0)) then
        (c_s_l9Quot ((C B).run n) w a2 b2 true).bind fun (r162_1, _) => some r162_1
      else bif (decide (0 < max b1 0)) then
        (c_s_l9Quot ((C B).run n) w a2 (max b1 0) true).bind fun (r162_1, _) => some r162_1
      else some (top w)) = some (up w (qhi (lim w a2) (lim w b1) (lim w b2))) := by
    unfold qhi
    by_cases g : a2 ≤ 0
    · rw [decide_eq_true g, cond_true, if_pos ((nonpos_lim hw ra2).1 g), hQ w a2 b2 true hw ra2 rb2 (by omega)]; rfl
    · rw [decide_eq_false g, cond_false, if_neg (fun h' => g ((nonpos_lim hw ra2).2 h'))]
      by_cases g' : b1 ≤ 0
      · rw [decide_eq_false (by omega), cond_false, if_pos ((nonpos_lim hw rb1).1 g'), up_pos']
      · rw [decide_eq_true (by omega), cond_true, if_neg (fun h' => g' ((nonpos_lim hw rb1).2 h')), show max b1 0 = b1 by omega, hQ w a2 b1 true hw ra2 rb1 (by omega)]; rfl
  generalize dn w (qlo (lim w a1) (lim w b1) (lim w b2)) = L at hlo ⊢
  generalize up w (qhi (lim w a2) (lim w b1) (lim w b2)) = U at hhi ⊢
  have jlo : ∀ {R P : Type} (F : Int → P) (K : P → Option R), jb (bif (decide (0 ≤ a1)) then
        (c_s_l9Quot ((C B).run n) w a1 b2 false).bind fun (r162_1, _) => some (.inr (F r162_1))
      else bif (decide (0 < max b1 0)) then
        (c_s_l9Quot ((C B).run n) w a1 (max b1 0) false).bind fun (r162_1, _) => some (.inr (F r162_1))
      else some (.inr (F (-top w)))) K = K (F L) := by
    intro R P F K
    cases g : decide (0 ≤ a1)
    · rw [g] at hlo
      simp only [cond_false] at hlo ⊢
      cases g' : decide (0 < max b1 0)
      · rw [g'] at hlo
        simp only [cond_false, Option.some.injEq] at hlo ⊢
        rw [hlo]; rfl
      · rw [g'] at hlo
        simp only [cond_true] at hlo ⊢
        cases g2 : c_s_l9Quot ((C B).run n) w a1 (max b1 0) false with
        | none => rw [g2] at hlo; cases hlo
        | some z => rw [g2] at hlo; cases hlo; rfl
    · rw [g] at hlo
      simp only [cond_true] at hlo ⊢
      cases g2 : c_s_l9Quot ((C B).run n) w a1 b2 false with
      | none => rw [g2] at hlo; cases hlo
      | some z => rw [g2] at hlo; cases hlo; rfl
  have jhi : ∀ {R P : Type} (F : Int → P) (K : P → Option R), jb (bif (decide (a2 ≤ 0)) then
        (c_s_l9Quot ((C B).run n) w a2 b2 true).bind fun (r162_1, _) => some (.inr (F r162_1))
      else bif (decide (0 < max b1 0)) then
        (c_s_l9Quot ((C B).run n) w a2 (max b1 0) true).bind fun (r162_1, _) => some (.inr (F r162_1))
      else some (.inr (F (top w)))) K = K (F U) := by
    intro R P F K
    cases g : decide (a2 ≤ 0)
    · rw [g] at hhi
      simp only [cond_false] at hhi ⊢
      cases g' : decide (0 < max b1 0)
      · rw [g'] at hhi
        simp only [cond_false, Option.some.injEq] at hhi ⊢
        rw [hhi]; rfl
      · rw [g'] at hhi
        simp only [cond_true] at hhi ⊢
        cases g2 : c_s_l9Quot ((C B).run n) w a2 (max b1 0) true with
        | none => rw [g2] at hhi; cases hhi
        | some z => rw [g2] at hhi; cases hhi; rfl
    · rw [g] at hhi
      simp only [cond_true] at hhi ⊢
      cases g2 : c_s_l9Quot ((C B).run n) w a2 b2 true with
      | none => rw [g2] at hhi; cases hhi
      | some z => rw [g2] at hhi; cases hhi; rfl
  refine (jlo (fun z => ((w, ((), ((), ((max b1 0), (z, ((), ())))))), ((true, (a1, (a2, ()))), ((true, (b1, (b2, ()))), ((false, (0, (0, ()))), ()))))) _).trans ?_
  simp only
  rw [hT]
  simp only [Option.bind_some]
  refine (jhi (fun z => ((L, (z, ((), ()))), ((false, (0, (0, ()))), ()))) _).trans ?_
  simp only
  rw [hSo]
  rfl
theorem k_sDivTwoS : Ev fun n => ∀ (w : Int) (a b : Sp), c_s_SpanDivTwo ((C B).run n) w a.1 a.2.1 a.2.2.1 b.1 b.2.1 b.2.2.1 = some (out2 (divTwoS w a b)) := by
  refine ((k_sBoth (B := B)).and ((k_sQuotS (B := B)).and ((k_sNegS (B := B)).and ((k_sHullS (B := B)).and (k_sMeet (B := B)))))).succ fun n hn ⟨hB, hQ, hN, hH, hM⟩ w a b => ?_
  rw [run_succ, e_s_SpanDivTwo]
  unfold p_s_SpanDivTwo divTwoS
  rw [hB]
  simp only [Option.bind_some]
  cases h : both w a b
  · rfl
  have h' := h
  rw [both_ok1, Bool.and_eq_true] at h'
  have hw : wd w = true := by
    obtain ⟨a1, a2, rfl, pa⟩ := ok1_iff.1 h'.1
    exact (pok_rng pa).1
  simp only [Bool.not_true, cond_false, if_true]
  rw [hQ w a b h'.1 h'.2]
  simp only [Option.bind_some]
  rw [hN]
  simp only [Option.bind_some]
  rw [hQ w _ _ h'.1 (ok1_neg h'.2)]
  simp only [Option.bind_some]
  rw [hN, quot_neg h'.1 (ok1_neg h'.2)]
  simp only [Option.bind_some]
  have hp : spk w (quotS w a b) = true := quot_spk hw h'.1 h'.2
  have hq : spk w (quotS w (negS w a) (negS w b)) = true := quot_spk hw (ok1_neg h'.1) (ok1_neg h'.2)
  have nonp : (quotS w a b).1 = false → quotS w a b = spn := by
    unfold quotS
    split
    · intro _; rfl
    · intro h; cases h
  have nonq : (quotS w (negS w a) (negS w b)).1 = false → quotS w (negS w a) (negS w b) = spn := by
    unfold quotS
    split
    · intro _; rfl
    · intro h; cases h
  generalize quotS w a b = p at hp nonp ⊢
  generalize quotS w (negS w a) (negS w b) = q at hq nonq ⊢
  obtain ⟨s, p1, p2, u⟩ := p
  obtain ⟨t, q1, q2, u'⟩ := q
  unfold parts
  cases s
  · have e := nonp rfl
    rw [e] at hp ⊢
    simp only [spn, Bool.not_false, cond_true, Bool.false_and, Bool.false_eq_true, if_false]
    unfold hullS
    rw [if_pos (by rw [Bool.and_eq_true]; exact ⟨hp, hq⟩)]
    rfl
  cases t
  · have e := nonq rfl
    rw [e] at hq ⊢
    simp only [spn, Bool.not_false, Bool.not_true, cond_true, cond_false, Bool.false_and, Bool.and_false, Bool.false_eq_true, if_false]
    unfold hullS
    rw [if_pos (by rw [Bool.and_eq_true]; exact ⟨hp, hq⟩)]
    rfl
  have pp : pok w p1 p2 = true := hp
  have pq : pok w q1 q2 = true := hq
  have hb : both w (true, (p1, (p2, ()))) (true, (q1, (q2, ()))) = true := by
    rw [both_ok1, Bool.and_eq_true]
    exact ⟨by unfold ok1; exact hp, by unfold ok1; exact hq⟩
  simp only [Bool.not_true, cond_false, Bool.true_and]
  rw [hB w (true, (p1, (p2, ()))) (true, (q1, (q2, ()))), hb]
  simp only [Option.bind_some, cond_true]
  rw [hM w (true, (p1, (p2, ()))) (true, (q1, (q2, ())))]
  simp only [Option.bind_some, jb_inr, ilt_iff]
  obtain ⟨_, x1, x2, x3, x4, x5⟩ := pok_rng pp
  obtain ⟨_, y1, y2, y3, y4, y5⟩ := pok_rng pq
  have em : (meet w (true, (p1, (p2, ()))) (true, (q1, (q2, ())))).1 = decide (max p1 q1 ≤ min p2 q2) := by
    unfold meet
    by_cases g : max p1 q1 ≤ min p2 q2
    · rw [if_pos ⟨hb, g⟩, decide_eq_true g]; rfl
    · rw [if_neg (fun h => g h.2), decide_eq_false g]; rfl
  rw [em]
  by_cases g : p2 < q1
  · rw [decide_eq_false (show ¬ max p1 q1 ≤ min p2 q2 by omega), cond_false, decide_eq_true g, if_pos rfl, decide_eq_true (show p1 < q1 by omega), cond_true]
    rfl
  · rw [decide_eq_false g, if_neg (by simp)]
    by_cases g' : q2 < p1
    · rw [decide_eq_false (show ¬ max p1 q1 ≤ min p2 q2 by omega), cond_false, decide_eq_true g', if_pos rfl, decide_eq_false (show ¬ p1 < q1 by omega), cond_false]
      rfl
    · rw [decide_eq_true (show max p1 q1 ≤ min p2 q2 by omega), cond_true, decide_eq_false g', if_neg (by simp), hH w (true, (p1, (p2, ()))) (true, (q1, (q2, ())))]
      rfl
theorem k_sDivS : Ev fun n => ∀ (w : Int) (a b : Sp), c_s_SpanDiv ((C B).run n) w a.1 a.2.1 a.2.2.1 b.1 b.2.1 b.2.2.1 = some (divS w a b) := by
  refine ((k_sDivTwoS (B := B)).and (k_sHullS (B := B))).succ fun n hn ⟨hD, hH⟩ w a b => ?_
  rw [run_succ, e_s_SpanDiv]
  unfold p_s_SpanDiv divS
  rw [hD]
  simp only [Option.bind_some, out2]
  rw [hH w (divTwoS w a b).1 (divTwoS w a b).2]
  rfl
end Go.Px.Seat

/- What lies in spans; spans in spans. -/
namespace Pm
open Go.Px Go.Px.Seat
/-- a number in a span -/
def psI (w : Int) (s : Sp) (r : Rat) : Bool := s.1 && (pok w s.2.1 s.2.2.1 && inn w s.2.1 s.2.2.1 r)
def memS (w : Int) (s : Sp) (r : Rat) : Prop := ∃ lo hi, s = sp lo hi ∧ pok w lo hi = true ∧ lim w lo ≤ .num r ∧ .num r ≤ lim w hi
theorem psI_iff {w : Int} {s : Sp} {r : Rat} : psI w s r = true ↔ memS w s r := by
  obtain ⟨b, lo, hi, u⟩ := s
  unfold psI memS
  simp only [Bool.and_eq_true]
  constructor
  · rintro ⟨rfl, h1, h2⟩
    exact ⟨lo, hi, rfl, h1, (inn_lim h1).1 h2⟩
  · rintro ⟨lo', hi', h, h1, h2⟩
    cases h
    exact ⟨rfl, h1, (inn_lim h1).2 h2⟩
theorem memS_of {w lo hi : Int} {r : Rat} (hw : wd w = true) (h1 : rng w lo) (h2 : rng w hi) (h3 : lim w lo ≤ .num r) (h4 : .num r ≤ lim w hi) : memS w (sp lo hi) r := by
  refine ⟨lo, hi, rfl, pok_of hw h1 h2 ((lim_le hw h1 h2).1 (Lm.trans h3 h4)) ?_ ?_, h3, h4⟩
  · rcases lim_cases hw h1 with ⟨h, e⟩ | ⟨h, e⟩ | ⟨h, e⟩
    · have := top_pos hw; omega
    · rw [e] at h3; simp at h3
    · exact h.2.2
  · rcases lim_cases hw h2 with ⟨h, e⟩ | ⟨h, e⟩ | ⟨h, e⟩
    · rw [e] at h4; simp at h4
    · have := top_pos hw; omega
    · exact h.2.1
theorem memS_du {w : Int} {a b : Lm} {r : Rat} (hw : wd w = true) (h1 : a ≤ .num r) (h2 : .num r ≤ b) : memS w (sp (dn w a) (up w b)) r :=
  memS_of hw (dn_rng hw a) (up_rng hw b) (Lm.trans (lim_dn hw a) h1) (Lm.trans h2 (lim_up hw b))
theorem memS.ok1 {w : Int} {s : Sp} {r : Rat} (h : memS w s r) : ok1 w s = true := by
  obtain ⟨lo, hi, rfl, h1, _⟩ := h
  rwa [ok1_sp]
theorem memS.wd {w : Int} {s : Sp} {r : Rat} (h : memS w s r) : wd w = true := by
  obtain ⟨lo, hi, rfl, h1, _⟩ := h
  exact (pok_rng h1).1
theorem both_mem {w : Int} {a b : Sp} {f g : Rat} (h : memS w a f) (h' : memS w b g) : both w a b = true := by
  rw [both_ok1, h.ok1, h'.ok1]; rfl
theorem mulS_sp {w a1 a2 b1 b2 : Int} (pa : pok w a1 a2 = true) (pb : pok w b1 b2 = true) : mulS w (sp a1 a2) (sp b1 b2) =
    sp (min (min (dn w (Lm.mul (lim w a1) (lim w b1))) (dn w (Lm.mul (lim w a1) (lim w b2)))) (min (dn w (Lm.mul (lim w a2) (lim w b1))) (dn w (Lm.mul (lim w a2) (lim w b2)))))
      (max (max (up w (Lm.mul (lim w a1) (lim w b1))) (up w (Lm.mul (lim w a1) (lim w b2)))) (max (up w (Lm.mul (lim w a2) (lim w b1))) (up w (Lm.mul (lim w a2) (lim w b2))))) := by
  have : both w (sp a1 a2) (sp b1 b2) = true := by rw [both_ok1, ok1_sp, ok1_sp, pa, pb]; rfl
  unfold mulS
  rw [if_pos this]
  exact stm4 w a1 a2 b1 b2
theorem memS_neg {w : Int} {a : Sp} {f : Rat} (h : memS w a f) : memS w (negS w a) (-f) := by
  have hw := h.wd
  obtain ⟨a1, a2, rfl, pa, l1, l2⟩ := h
  obtain ⟨_, r1, r2, _⟩ := pok_rng pa
  rw [negS_sp pa]
  refine ⟨-a2, -a1, rfl, pok_neg pa, ?_, ?_⟩
  · rw [lim_opp hw r2, show Lm.num (-f) = (Lm.num f).opp from rfl, Lm.opp_le]; exact l2
  · rw [lim_opp hw r1, show Lm.num (-f) = (Lm.num f).opp from rfl, Lm.opp_le]; exact l1
theorem min4_rng {w a b c d : Int} (ha : rng w a) (hb : rng w b) (hc : rng w c) (hd : rng w d) : rng w (min (min a b) (min c d)) ∧ rng w (max (max a b) (max c d)) := by
  unfold rng at *; omega
theorem memS_mul {w : Int} {a b : Sp} {f g : Rat} (h : memS w a f) (h' : memS w b g) : memS w (mulS w a b) (f * g) := by
  have hw := h.wd
  obtain ⟨a1, a2, rfl, pa, l1, l2⟩ := h
  obtain ⟨b1, b2, rfl, pb, m1, m2⟩ := h'
  rw [mulS_sp pa pb]
  have hd := fun x => dn_rng hw x
  have hu := fun x => up_rng hw x
  have hbox := Lm.mul_box l1 l2 m1 m2
  rw [show Lm.mul (.num f) (.num g) = .num (f * g) from rfl] at hbox
  have kd : ∀ x : Lm, ∀ m : Int, rng w m → m ≤ dn w x → x ≤ .num (f * g) → lim w m ≤ .num (f * g) := fun x m hm h1 h2 =>
    Lm.trans ((lim_le hw hm (hd x)).2 h1) (Lm.trans (lim_dn hw x) h2)
  have ku : ∀ x : Lm, ∀ m : Int, rng w m → up w x ≤ m → .num (f * g) ≤ x → .num (f * g) ≤ lim w m := fun x m hm h1 h2 =>
    Lm.trans h2 (Lm.trans (lim_up hw x) ((lim_le hw (hu x) hm).2 h1))
  refine memS_of hw (min4_rng (hd _) (hd _) (hd _) (hd _)).1 (min4_rng (hu _) (hu _) (hu _) (hu _)).2 ?_ ?_
  · have hm := (min4_rng (hd (Lm.mul (lim w a1) (lim w b1))) (hd (Lm.mul (lim w a1) (lim w b2))) (hd (Lm.mul (lim w a2) (lim w b1))) (hd (Lm.mul (lim w a2) (lim w b2)))).1
    rcases hbox.1 with q | q | q | q
    · exact kd _ _ hm (by omega) q
    · exact kd _ _ hm (by omega) q
    · exact kd _ _ hm (by omega) q
    · exact kd _ _ hm (by omega) q
  · have hm := (min4_rng (hu (Lm.mul (lim w a1) (lim w b1))) (hu (Lm.mul (lim w a1) (lim w b2))) (hu (Lm.mul (lim w a2) (lim w b1))) (hu (Lm.mul (lim w a2) (lim w b2)))).2
    rcases hbox.2 with q | q | q | q
    · exact ku _ _ hm (by omega) q
    · exact ku _ _ hm (by omega) q
    · exact ku _ _ hm (by omega) q
    · exact ku _ _ hm (by omega) q
theorem hullS_spn {w : Int} {a : Sp} (h : spk w a = true) (hw : wd w = true) : hullS w a spn = a := by
  unfold hullS
  rw [h, spk_spn, hw]
  simp only [Bool.and_self, if_true, spn, Bool.false_eq_true, if_false]
  by_cases h1 : a.1 = true
  · rw [if_pos h1]
  · rw [if_neg h1]
    obtain ⟨s, lo, hi, u⟩ := a
    simp only [Bool.not_eq_true] at h1
    subst h1
    simp [spk] at h
    rw [h.2.1, h.2.2]
theorem hullS_sp {w a1 a2 b1 b2 : Int} (pa : pok w a1 a2 = true) (pb : pok w b1 b2 = true) : hullS w (sp a1 a2) (sp b1 b2) = sp (min a1 b1) (max a2 b2) := by
  unfold hullS
  rw [spk_sp, spk_sp, pa, pb]; rfl
theorem spn_hullS {w : Int} {a : Sp} (h : spk w a = true) (hw : wd w = true) : hullS w spn a = a := by
  unfold hullS
  rw [h, spk_spn, hw]; rfl
theorem spk_cases {w : Int} {a : Sp} (h : spk w a = true) : a = spn ∨ ∃ lo hi, a = sp lo hi ∧ pok w lo hi = true := by
  obtain ⟨s, lo, hi, u⟩ := a
  cases s
  · simp [spk] at h
    left
    rw [h.2.1, h.2.2]; rfl
  · exact .inr ⟨lo, hi, rfl, h⟩
theorem memS_hull {w : Int} {a b : Sp} {r : Rat} (ha : spk w a = true) (hb : spk w b = true) (h : memS w a r ∨ memS w b r) : memS w (hullS w a b) r := by
  have hw : wd w = true := by rcases h with h | h <;> exact h.wd
  have no : ¬ memS w spn r := fun ⟨_, _, h, _⟩ => by cases h
  rcases spk_cases ha with rfl | ⟨a1, a2, rfl, pa⟩
  · rw [spn_hullS hb hw]
    exact h.resolve_left no
  rcases spk_cases hb with rfl | ⟨b1, b2, rfl, pb⟩
  · rw [hullS_spn ha hw]
    exact h.resolve_right no
  rw [hullS_sp pa pb]
  obtain ⟨_, x1, x2, x3, x4, x5⟩ := pok_rng pa
  obtain ⟨_, y1, y2, y3, y4, y5⟩ := pok_rng pb
  have k1 : rng w (min a1 b1) := by unfold rng at *; omega
  have k2 : rng w (max a2 b2) := by unfold rng at *; omega
  rcases h with ⟨_, _, h, _, h1, h2⟩ | ⟨_, _, h, _, h1, h2⟩ <;> cases h
  · exact memS_of hw k1 k2 (Lm.trans ((lim_le hw k1 x1).2 (by omega)) h1) (Lm.trans h2 ((lim_le hw x2 k2).2 (by omega)))
  · exact memS_of hw k1 k2 (Lm.trans ((lim_le hw k1 y1).2 (by omega)) h1) (Lm.trans h2 ((lim_le hw y2 k2).2 (by omega)))
theorem quotS_sp (w a1 a2 b1 b2 : Int) : quotS w (sp a1 a2) (sp b1 b2) = if b2 ≤ 0 then spn else sp (dn w (qlo (lim w a1) (lim w b1) (lim w b2))) (up w (qhi (lim w a2) (lim w b1) (lim w b2))) := rfl
theorem memS_quot {w : Int} {a b : Sp} {f g : Rat} (h : memS w a f) (h' : memS w b g) (hg : 0 < g) : memS w (quotS w a b) (f / g) := by
  have hw := h.wd
  obtain ⟨a1, a2, rfl, pa, l1, l2⟩ := h
  obtain ⟨b1, b2, rfl, pb, m1, m2⟩ := h'
  obtain ⟨_, rb1, rb2, _⟩ := pok_rng pb
  have hy : ¬ Lm.num g ≤ .num 0 := by simp; exact Rat.not_le.2 hg
  have hb : 0 < b2 := (pos_lim' hw rb2).2 fun h => hy (Lm.trans m2 h)
  rw [quotS_sp, if_neg (by omega)]
  exact memS_du hw (qlo_le (x := .num f) (y := .num g) l1 m1 m2 hy) (le_qhi (x := .num f) (y := .num g) l2 m1 m2 hy)
theorem parts_or (w : Int) (p q : Sp) : (parts w p q = (p, q) ∧ p.1 = true ∧ q.1 = true ∧ p.2.2.1 < q.2.1) ∨ (parts w p q = (q, p) ∧ p.1 = true ∧ q.1 = true ∧ q.2.2.1 < p.2.1) ∨ parts w p q = (hullS w p q, spn) := by
  unfold parts
  by_cases h : (p.1 && q.1 && decide (p.2.2.1 < q.2.1)) = true
  · rw [if_pos h]
    simp only [Bool.and_eq_true, decide_eq_true_iff] at h
    exact .inl ⟨rfl, h.1.1, h.1.2, h.2⟩
  · rw [if_neg h]
    by_cases h' : (p.1 && q.1 && decide (q.2.2.1 < p.2.1)) = true
    · rw [if_pos h']
      simp only [Bool.and_eq_true, decide_eq_true_iff] at h'
      exact .inr (.inl ⟨rfl, h'.1.1, h'.1.2, h'.2⟩)
    · rw [if_neg h']; exact .inr (.inr rfl)
theorem divTwoS_eq {w : Int} {a b : Sp} (h : both w a b = true) : divTwoS w a b = parts w (quotS w a b) (quotS w (negS w a) (negS w b)) := by
  unfold divTwoS
  rw [if_pos h]
theorem hull_comm {w : Int} {a b : Sp} (ha : spk w a = true) (hb : spk w b = true) (hw : wd w = true) : hullS w a b = hullS w b a := by
  rcases spk_cases ha with rfl | ⟨a1, a2, rfl, pa⟩
  · rw [spn_hullS hb hw, hullS_spn hb hw]
  rcases spk_cases hb with rfl | ⟨b1, b2, rfl, pb⟩
  · rw [hullS_spn ha hw, spn_hullS ha hw]
  rw [hullS_sp pa pb, hullS_sp pb pa]
  unfold sp
  congr 2
  · omega
  · congr 1; omega
theorem hull_spk {w : Int} {a b : Sp} (ha : spk w a = true) (hb : spk w b = true) (hw : wd w = true) : spk w (hullS w a b) = true := by
  rcases spk_cases ha with rfl | ⟨a1, a2, rfl, pa⟩
  · rwa [spn_hullS hb hw]
  rcases spk_cases hb with rfl | ⟨b1, b2, rfl, pb⟩
  · rwa [hullS_spn ha hw]
  rw [hullS_sp pa pb, spk_sp]
  obtain ⟨_, x1, x2, x3, x4, x5⟩ := pok_rng pa
  obtain ⟨_, y1, y2, y3, y4, y5⟩ := pok_rng pb
  exact pok_of hw (by unfold rng at *; omega) (by unfold rng at *; omega) (by omega) (by omega) (by omega)
theorem divS_eq {w : Int} {a b : Sp} (h : both w a b = true) : divS w a b = hullS w (quotS w a b) (quotS w (negS w a) (negS w b)) := by
  have h' := h
  rw [both_ok1, Bool.and_eq_true] at h'
  have hw : wd w = true := by
    obtain ⟨a1, a2, rfl, pa⟩ := ok1_iff.1 h'.1
    exact (pok_rng pa).1
  have hp := quot_spk hw h'.1 h'.2
  have hq := quot_spk hw (ok1_neg h'.1) (ok1_neg h'.2)
  unfold divS
  rw [divTwoS_eq h]
  rcases parts_or w (quotS w a b) (quotS w (negS w a) (negS w b)) with ⟨e, _⟩ | ⟨e, _⟩ | e <;> rw [e]
  · exact hull_comm hq hp hw
  · exact hullS_spn (hull_spk hp hq hw) hw
/-- a quotient lies in one of both parts -/
theorem memS_divTwo {w : Int} {a b : Sp} {f g : Rat} (h : memS w a f) (h' : memS w b g) (hg : g ≠ 0) : memS w (divTwoS w a b).1 (f / g) ∨ memS w (divTwoS w a b).2 (f / g) := by
  have hb := both_mem h h'
  rw [divTwoS_eq hb]
  have hp := quot_spk h.wd h.ok1 h'.ok1
  have hq := quot_spk h.wd (ok1_neg h.ok1) (ok1_neg h'.ok1)
  have hm : memS w (quotS w a b) (f / g) ∨ memS w (quotS w (negS w a) (negS w b)) (f / g) := by
    by_cases h0 : 0 < g
    · exact .inl (memS_quot h h' h0)
    · right
      have := memS_quot (memS_neg h) (memS_neg h') (by grind)
      have e : -f / -g = f / g := by
        have e2 : (-g)⁻¹ = -(g⁻¹) := by
          refine Rat.inv_eq_of_mul_eq_one ?_
          rw [Rat.neg_mul, Rat.mul_neg, Rat.neg_neg, Rat.mul_inv_cancel g hg]
        rw [Rat.div_def, Rat.div_def, e2, Rat.neg_mul, Rat.mul_neg, Rat.neg_neg]
      rwa [e] at this
  rcases parts_or w (quotS w a b) (quotS w (negS w a) (negS w b)) with ⟨e, _⟩ | ⟨e, _⟩ | e <;> rw [e]
  · exact hm
  · exact hm.symm
  · exact .inl (memS_hull hp hq hm)
end Pm

/- Powers of spans: the program's. Seat ZD. -/
namespace Pm
open Go.Px Go.Px.Seat
def powL (a : Lm) (n : Nat) : Lm := if n = 0 then .num 1 else match a with
  | .num r => .num (r ^ n)
  | .pos => .pos
  | .neg => if n % 2 = 0 then .pos else .neg
theorem natAbs_pow' (a : Int) : ∀ n : Nat, (a ^ n).natAbs = a.natAbs ^ n
  | 0 => by simp
  | n + 1 => by rw [Int.pow_succ, Int.natAbs_mul, natAbs_pow' a n, Nat.pow_succ]
theorem int_pow_neg {a : Int} (h : a < 0) : ∀ n : Nat, decide (a ^ n < 0) = decide (n % 2 = 1) ∧ a ^ n ≠ 0
  | 0 => by simp
  | n + 1 => by
    obtain ⟨h1, h2⟩ := int_pow_neg h n
    rw [Int.pow_succ]
    refine ⟨?_, Int.mul_ne_zero h2 (by omega)⟩
    by_cases hn : n % 2 = 1
    · rw [decide_eq_true hn, decide_eq_true_iff] at h1
      have := Int.mul_pos_of_neg_of_neg h1 h
      rw [decide_eq_false (by omega), decide_eq_false (by omega)]
    · rw [decide_eq_false hn, decide_eq_false_iff_not] at h1
      have := Int.mul_neg_of_pos_of_neg (show 0 < a ^ n by omega) h
      rw [decide_eq_true this, decide_eq_true (by omega)]
theorem int_pow_nonneg {a : Int} (h : 0 ≤ a) (n : Nat) : 0 ≤ a ^ n := Int.pow_nonneg h
theorem fb_pow (r : Rat) (n : Nat) : fb (r ^ n) = (fb r && decide (n % 2 = 1)) := by
  unfold fb
  rw [Rat.num_pow]
  by_cases h : r.num < 0
  · rw [(int_pow_neg h n).1, decide_eq_true h, Bool.true_and]
  · have := int_pow_nonneg (show 0 ≤ r.num by omega) n
    rw [decide_eq_false h, decide_eq_false (by omega), Bool.false_and]
theorem ft_pow (r : Rat) (n : Nat) : ft (r ^ n) = dig (r.num.natAbs ^ n) := by unfold ft; rw [Rat.num_pow, natAbs_pow']
theorem fq_pow (r : Rat) (n : Nat) : fq (r ^ n) = dig (r.den ^ n) := by unfold fq; rw [Rat.den_pow]
theorem len_dig_pow {x k : Nat} (h : (dig x).length ≤ k) (hk : 1 ≤ k) : ∀ n : Nat, (dig (x ^ n)).length ≤ k * n + 1
  | 0 => by
    rw [Nat.pow_zero, ← one_dig]; simp
  | n + 1 => by
    have := len_dig_mul (x ^ n) x
    have ih := len_dig_pow h hk n
    rw [Nat.pow_succ, Nat.mul_succ]
    omega
theorem short_fv {w o : Int} (h : fin w o) : short 69 (fv w o) := by
  have hs := sz_lt w o
  have h1 := shf_sub h
  have h2 := lst_le w
  by_cases hc : lst w ≤ shf w o
  · rw [fv_big (show shf w o = lst w + (shf w o - lst w) by omega)]
    refine mk_short (by decide) ?_ (by rw [← one_dig]; decide)
    rw [sg_natAbs]
    have l1 : (dig (sz w o)).length ≤ 4 := dig_len_le.2 (Nat.lt_of_lt_of_le hs (by decide))
    have l2 := dig_len_pow (shf w o - lst w)
    have l3 := len_dig_mul (sz w o) (2 ^ (shf w o - lst w))
    omega
  · rw [fv_small (show lst w = shf w o + (lst w - shf w o) by omega)]
    refine mk_short (pow2_ne _) ?_ ?_
    · rw [sg_natAbs]
      have l1 : (dig (sz w o)).length ≤ 4 := dig_len_le.2 (Nat.lt_of_lt_of_le hs (by decide))
      omega
    · have l2 := dig_len_pow (lst w - shf w o)
      omega
theorem short_pow {r : Rat} {k : Nat} (h : short k r) (hk : 1 ≤ k) (n : Nat) : short (k * n + 1) (r ^ n) := by
  obtain ⟨h1, h2⟩ := h
  refine ⟨?_, ?_⟩
  · rw [ft_pow]; exact len_dig_pow h1 hk n
  · rw [fq_pow]; exact len_dig_pow h2 hk n
theorem shL_pow {w o : Int} (hw : wd w = true) (ho : rng w o) {n : Nat} (hn : n ≤ 8) : shL 1024 (powL (lim w o) n) := by
  unfold powL
  split
  · exact ⟨by
      show (dig 1).length ≤ _
      rw [← one_dig]; decide, by
      show (dig 1).length ≤ _
      rw [← one_dig]; decide⟩
  · rcases lim_cases hw ho with ⟨h, e⟩ | ⟨h, e⟩ | ⟨h, e⟩ <;> rw [e]
    · show shL 1024 (if n % 2 = 0 then .pos else .neg)
      split <;> trivial
    · trivial
    · have hn8 : 69 * n + 1 ≤ 1024 := by omega
      exact short_mono (short_pow (short_fv h) (by omega) n) hn8
open Classical in
noncomputable def powS (w : Int) (a : Sp) (n : Int) : Sp := if ok1 w a = true ∧ 0 ≤ n ∧ n ≤ 8 then
    sp (dn w (powL (lim w (if n % 2 = 0 then absS w a else a).2.1) n.toNat)) (up w (powL (lim w (if n % 2 = 0 then absS w a else a).2.2.1) n.toNat)) else spn
theorem absS_sp {w a1 a2 : Int} (h : pok w a1 a2 = true) : absS w (sp a1 a2) = sp (max (max 0 a1) (-a2)) (max (a1.natAbs : Int) (a2.natAbs : Int)) := by
  unfold absS
  rw [if_pos (by rwa [ok1_sp])]; rfl
theorem abs_pok {w a1 a2 : Int} (h : pok w a1 a2 = true) : pok w (max (max 0 a1) (-a2)) (max (a1.natAbs : Int) (a2.natAbs : Int)) = true ∧ 0 ≤ max (max 0 a1) (-a2) := by
  obtain ⟨hw, r1, r2, r3, r4, r5⟩ := pok_rng h
  have ht := top_pos hw
  unfold rng at *
  exact ⟨pok_of hw (by unfold rng; omega) (by unfold rng; omega) (by omega) (by omega) (by omega), by omega⟩
end Pm
namespace Go.Px.Seat
open Go Pm
set_option linter.unusedVariables false
variable {B : Run}
theorem k_natPow : Ev fun n => ∀ x m k : Nat, (dig x).length ≤ k → 1 ≤ k → k * m + 1 ≤ 1024 → c_i_natPow ((C B).run n) (dig x) (m : Int) = some (dig (x ^ m), ()) := by
  refine (k_natMul (B := B)).succ fun n hn hM x m k hx hk hm => ?_
  rw [run_succ, e_i_natPow]
  unfold p_i_natPow
  have hm2 : m ≤ 1024 := by
    have : 1 * m ≤ k * m := Nat.mul_le_mul_right m hk
    omega
  refine (jb_of (p := (((dig (x ^ m)), ((), ())), ())) ?_ _).trans rfl
  refine iter_const (fun st => ∃ i : Nat, i ≤ m ∧ st = (((i : Int), ((m : Int), (dig (x ^ i), (dig x, ((), ()))))), ())) (fun st => (m - st.1.1).toNat) _ ?_ n _ (by simp only; omega) ⟨0, Nat.zero_le _, by rw [Nat.pow_zero, ← one_dig]; rfl⟩
  rintro rec _ ⟨i, hi, rfl⟩ ih
  simp only [ilt_iff, len_eq]
  by_cases h : i < m
  · have hi1 : k * i + 1 ≤ 1024 := by
      have : k * i ≤ k * m := Nat.mul_le_mul_left k hi
      omega
    have l1 := len_dig_pow hx hk i
    have l2 := len_dig_pow hx hk (i + 1)
    have l3 : k * (i + 1) + 1 ≤ 1024 := by
      have : k * (i + 1) ≤ k * m := Nat.mul_le_mul_left k h
      omega
    have hkk : k ≤ 1024 := by
      have : k * 1 ≤ k * m := Nat.mul_le_mul_left k (by omega)
      omega
    rw [decide_eq_true (by omega), cond_true, hM _ _ (by omega) (by omega)]
    simp only [Option.bind_some]
    rw [show x ^ i * x = x ^ (i + 1) from (Nat.pow_succ ..).symm, decide_eq_false (by omega), cond_false, iadd_eq (by omega) (by omega)]
    exact ih _ ⟨i + 1, h, rfl⟩ (by simp only; omega)
  · have : i = m := by omega
    subst this
    rw [decide_eq_false (by omega), cond_false]
theorem k_Fpow : Ev fun n => ∀ (r : Rat) (m k : Nat), short k r → 1 ≤ k → k * m + 1 ≤ 1024 → c_i_Frac_pow ((C B).run n) (fb r) (ft r) (fq r) (m : Int) = some (outF (r ^ m)) := by
  refine (k_natPow (B := B)).succ fun n hn hP r m k hr hk hm => ?_
  rw [run_succ, e_i_Frac_pow]
  unfold p_i_Frac_pow outF
  rw [fb_pow, ft_pow, fq_pow]
  obtain ⟨r1, r2⟩ := hr
  simp only [ft, fq] at r1 r2 ⊢
  have h1 := hP r.num.natAbs m k r1 hk hm
  have h2 := hP r.den m k r2 hk hm
  have e : (irem .i64 (m : Int) 2 == 1) = decide (m % 2 = 1) := by
    rw [irem_eq (by omega)]
    by_cases h : m % 2 = 1
    · rw [decide_eq_true h]; simp; omega
    · rw [decide_eq_false h]; exact beq_f (by omega)
  cases hb : fb r
  · simp only [cond_false, Bool.false_and]
    rw [h1, h2]
    rfl
  · simp only [cond_true, Bool.true_and]
    rw [h1, h2, e]
    rfl
theorem k_power : Ev fun n => ∀ (w o : Int) (m : Nat), wd w = true → rng w o → m ≤ 8 → c_i_power ((C B0).run n) w o (m : Int) = some (dn w (powL (lim w o) m), (up w (powL (lim w o) m), ())) := by
  refine (k_limL.and ((k_whole (B := B0)).and (k_around.and ((k_Fpow (B := B0)).and k_floatsL)))).succ fun n hn ⟨hL, hW, hA, hP, hFl⟩ w o m hw ho hm => ?_
  rw [run_succ, e_i_power]
  unfold p_i_power
  rw [hL w o hw ho]
  simp only [Option.bind_some, outL]
  have hsh := shL_pow hw ho hm
  by_cases h0 : m = 0
  · subst h0
    have e1 : (1 : Rat) = mkRat (sg false 1) 1 := by decide +kernel
    rw [show (((0 : Nat) : Int) == 0) = true from rfl, cond_true, one_dig, hW]
    simp only [Option.bind_some, outF]
    rw [← e1]
    obtain ⟨d, u, g1, g2, g3⟩ := hA w 1 hw hsh
    rw [g1]
    simp only [Option.bind_some, jb_inl]
    have : powL (lim w o) 0 = .num 1 := rfl
    rw [this, dn_num g2, up_num g3]
  rw [beq_f (by omega), cond_false]
  have hfl := hFl w _ hw hsh
  have e2 : (irem .i64 (m : Int) 2 == 0) = decide (m % 2 = 0) := by
    rw [irem_eq (by omega)]
    by_cases h : m % 2 = 0
    · rw [decide_eq_true h]; simp; omega
    · rw [decide_eq_false h]; exact beq_f (by omega)
  rcases lim_cases hw ho with ⟨h, e⟩ | ⟨h, e⟩ | ⟨h, e⟩ <;> rw [e] at hfl ⊢
  · simp only [li, ilt_iff, show decide ((-1 : Int) < 0) = true from rfl, cond_true, jb_inr, e2]
    unfold powL at hfl ⊢
    rw [if_neg h0] at hfl ⊢
    by_cases hp : m % 2 = 0
    · simp only [hp, decide_true, cond_true, jb_inr, if_true] at hfl ⊢
      simp only [li, lb, lu, lv] at hfl ⊢
      rw [hfl]
      rfl
    · simp only [hp, decide_false, cond_false, jb_inr, if_false, show ((-1 : Int) == 0) = false from rfl] at hfl ⊢
      simp only [li, lb, lu, lv] at hfl ⊢
      rw [hfl]
      rfl
  · simp only [li, ilt_iff, show decide ((1 : Int) < 0) = false from rfl, cond_false, jb_inr, show ((1 : Int) == 0) = false from rfl]
    unfold powL at hfl ⊢
    rw [if_neg h0] at hfl ⊢
    simp only [li, lb, lu, lv] at hfl ⊢
    rw [hfl]
    rfl
  · simp only [li, lb, lu, lv, ilt_iff, show decide ((0 : Int) < 0) = false from rfl, cond_false, jb_inr, show ((0 : Int) == 0) = true from rfl, cond_true]
    unfold powL at hfl ⊢
    rw [if_neg h0] at hfl ⊢
    simp only [li, lb, lu, lv] at hfl ⊢
    rw [hP (fv w o) m 69 (short_fv h) (by omega) (by omega)]
    simp only [Option.bind_some, outF, jb_inr]
    rw [hfl]
    rfl
theorem k_powS : Ev fun n => ∀ (w : Int) (a : Sp) (m : Int), -9223372036854775808 ≤ m → c_i_SpanPow ((C B0).run n) w a.1 a.2.1 a.2.2.1 m = some (powS w a m) := by
  refine ((k_full (B := B0)).and ((k_in (B := B0)).and (k_AbsS.and (k_power.and (k_some (B := B0)))))).succ fun n hn ⟨hF, hI, hA, hP, hSo⟩ w a m hm0 => ?_
  rw [run_succ, e_i_SpanPow]
  unfold p_i_SpanPow powS
  have e2 : [(a.1, (a.2.1, (a.2.2.1, ())))] = [a] := rfl
  rw [e2, hF _ _ (by simp), full1]
  simp only [Option.bind_some]
  cases h : ok1 w a
  · rw [if_neg (by simp)]; rfl
  simp only [Bool.not_true, cond_false]
  rw [hI]
  simp only [Option.bind_some, jb_inr]
  by_cases hm : 0 ≤ m ∧ m ≤ 8
  rotate_left
  · rw [decide_eq_false hm, if_neg (fun h => hm h.2)]; rfl
  rw [decide_eq_true hm, if_pos ⟨trivial, hm⟩]
  simp only [Bool.not_true, cond_false]
  obtain ⟨k, rfl⟩ : ∃ k : Nat, m = (k : Int) := ⟨m.toNat, by omega⟩
  have e3 : (irem .i64 (k : Int) 2 == 0) = decide ((k : Int) % 2 = 0) := by
    rw [irem_eq (by omega)]
    by_cases h : (k : Int) % 2 = 0
    · rw [decide_eq_true h, h]; rfl
    · rw [decide_eq_false h]; exact beq_f h
  rw [e3, Int.toNat_natCast]
  obtain ⟨a1, a2, rfl, pa⟩ := ok1_iff.1 h
  obtain ⟨hw, r1, r2, _⟩ := pok_rng pa
  by_cases hp : (k : Int) % 2 = 0
  · simp only [hp, decide_true, cond_true, if_true]
    rw [hA w (sp a1 a2), absS_sp pa]
    obtain ⟨_, s1, s2, _⟩ := pok_rng (abs_pok pa).1
    simp only [Option.bind_some, jb_inr, sp]
    rw [hP w _ k hw s1 (by omega), hP w _ k hw s2 (by omega)]
    simp only [Option.bind_some]
    rw [hSo]
    rfl
  · simp only [hp, decide_false, cond_false, if_false, jb_inr, sp]
    rw [hP w _ k hw r1 (by omega), hP w _ k hw r2 (by omega)]
    simp only [Option.bind_some]
    rw [hSo]
    rfl
end Go.Px.Seat
