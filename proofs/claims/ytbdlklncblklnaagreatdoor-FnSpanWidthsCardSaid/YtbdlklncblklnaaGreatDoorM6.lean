/- Own texts, part M6: PnC PnD PnE PnF PnG PnH PnI PnM PnN PnK. -/
import Derived.Test.YtbdlklncblklnaaGreatDoorM5
import Derived.Test.YtbdlklncblklnaaGreatDoorM4
set_option linter.unusedVariables false

/- Limits: the program's. Seat ZD. -/
namespace Pm
open Go.Px.Seat
def li : Lm → Int
  | .neg => -1 | .pos => 1 | .num _ => 0
def lb : Lm → Bool
  | .num r => fb r | _ => false
def lu : Lm → List Int
  | .num r => ft r | _ => []
def lv : Lm → List Int
  | .num r => fq r | _ => []
/-- a limit as the program has it -/
def outL (a : Lm) : Int × (Bool × (List Int × (List Int × Unit))) := (li a, (lb a, (lu a, (lv a, ()))))
def shL (k : Nat) : Lm → Prop
  | .num r => short k r | _ => True
theorem inv_sg {s : Rat} (hs : s ≠ 0) : s⁻¹ = mkRat (sg (fb s) s.den) s.num.natAbs := by
  rw [Rat.inv_def, ← Rat.divInt_ofNat]
  have h := sg_num s
  cases hb : fb s <;> rw [hb] at h
  · have h' : (s.num.natAbs : Int) = s.num := h
    rw [h']; rfl
  · have h' : -(s.num.natAbs : Int) = s.num := h
    rw [show s.num = -(s.num.natAbs : Int) from h'.symm, Rat.divInt_neg', Int.natAbs_neg, Int.natAbs_natCast]
    rfl
theorem div_sg {r s : Rat} (hs : s ≠ 0) : r / s = mkRat (sg (fb r != fb s) (r.num.natAbs * s.den)) (r.den * s.num.natAbs) := by
  rw [Rat.div_def, inv_sg hs, sg_mul, ← Rat.mkRat_mul_mkRat, mk_self]
theorem sgn_rng (a : Lm) : a.sgn = -1 ∨ a.sgn = 0 ∨ a.sgn = 1 := by
  cases a with
  | neg => exact .inl rfl
  | pos => exact .inr (.inr rfl)
  | num r => rcases Lm.sgn_cases r with ⟨_, h⟩ | ⟨_, h⟩ | ⟨_, h⟩ <;> rw [h] <;> simp
theorem mul_inf {a b : Lm} (h : ∀ r s, ¬ (a = .num r ∧ b = .num s)) : Lm.mul a b = Lm.inf (a.sgn * b.sgn) := by
  cases a <;> cases b <;> first | rfl | exact absurd ⟨rfl, rfl⟩ (h _ _)
theorem outL_num (r : Rat) : outL (.num r) = (0, outF r) := rfl
theorem zero_out : (0, outF (mkRat (sg false 0) 1)) = outL (.num 0) := by
  rw [outL_num, sg_zero, Rat.zero_mkRat]
end Pm
namespace Go.Px.Seat
open Go Pm
set_option linter.unusedVariables false
variable {B : Run}
theorem k_limL : Ev fun n => ∀ w o : Int, wd w = true → rng w o → c_i_limitOf ((C B0).run n) w o = some (outL (lim w o)) := by
  refine ((k_BitTop (B := B0)).and k_limitOf).and k_value |>.succ fun n hn ⟨⟨hT, _⟩, hV⟩ w o hw hr => ?_
  rw [run_succ, e_i_limitOf]
  unfold p_i_limitOf
  have htn := top_pos hw
  rw [hT]
  simp only [Option.bind_some, ineg_top]
  rcases lim_cases hw hr with ⟨h, e⟩ | ⟨h, e⟩ | ⟨h, e⟩ <;> rw [e]
  · subst h
    rw [beq_f (by omega), cond_false, show ((-top w : Int) == -top w) = true by simp]; rfl
  · subst h
    rw [show ((top w : Int) == top w) = true by simp]; rfl
  · have h1 := h.2.1
    have h2 := h.2.2
    rw [beq_f (by omega), cond_false, beq_f (by omega), cond_false, hV w o h]
    rfl
theorem k_floatsL : Ev fun n => ∀ (w : Int) (a : Lm), wd w = true → shL 1024 a → c_i_limit_floats ((C B0).run n) (li a) (lb a) (lu a) (lv a) w = some (dn w a, (up w a, ())) := by
  refine (k_floats.and ((k_BitTop (B := B0)).and k_around)).succ fun n hn ⟨_, hT, hA⟩ w a hw hs => ?_
  rw [run_succ, e_i_limit_floats]
  unfold p_i_limit_floats
  have htn := top_nonneg w
  cases a with
  | neg =>
    simp only [li, show ((-1 : Int) != 0) = true from rfl, cond_true]
    rw [hT]
    simp only [Option.bind_some, dn_neg', up_neg']
    rw [imul_eq (by omega) (by omega)]
    simp
  | pos =>
    simp only [li, show ((1 : Int) != 0) = true from rfl, cond_true]
    rw [hT]
    simp only [Option.bind_some, dn_pos', up_pos']
    rw [imul_eq (by omega) (by omega)]
    simp
  | num r =>
    simp only [li, show ((0 : Int) != 0) = false from rfl, cond_false, lb, lu, lv]
    obtain ⟨d, u, h1, h2, h3⟩ := hA w r hw hs
    rw [h1, dn_num h2, up_num h3]
    rfl
theorem k_sgnL : Ev fun n => ∀ a : Lm, c_i_limit_sign ((C B).run n) (li a) (lb a) (lu a) (lv a) = some (a.sgn, ()) := by
  refine (k_sign (B := B)).succ fun n hn hS a => ?_
  rw [run_succ, e_i_limit_sign]
  unfold p_i_limit_sign
  cases a with
  | neg => rfl
  | pos => rfl
  | num r =>
    simp only [li, show ((0 : Int) != 0) = false from rfl, cond_false, lb, lu, lv]
    rw [hS]
    rfl
theorem k_mulL : Ev fun n => ∀ a b : Lm, shL 33554432 a → shL 33554432 b → c_i_limit_times ((C B0).run n) (li a) (lb a) (lu a) (lv a) (li b) (lb b) (lu b) (lv b) = some (outL (Lm.mul a b)) := by
  refine (k_Fmul.and ((k_sgnL (B := B0)).and (k_whole (B := B0)))).succ fun n hn ⟨hM, hS, hW⟩ a b ha hb => ?_
  rw [run_succ, e_i_limit_times]
  unfold p_i_limit_times
  have key : (∀ r s, ¬ (a = .num r ∧ b = .num s)) → ((c_i_limit_sign ((C B0).run n) (li a) (lb a) (lu a) (lv a)).bind fun (r158_1, _) =>
      (c_i_limit_sign ((C B0).run n) (li b) (lb b) (lu b) (lv b)).bind fun (r158_2_1, _) =>
      bif ((imul .i64 r158_1 r158_2_1) != 0) then
        some ((imul .i64 r158_1 r158_2_1), (false, (([] : List Int), (([] : List Int), ()))))
      else
      (c_i_whole ((C B0).run n) false []).bind fun (r132_1, (r132b, (r132c, _))) =>
      some ((0 : Int), (r132_1, (r132b, (r132c, ()))))) = some (outL (Lm.mul a b)) := by
    intro hne
    rw [hS, hS]
    simp only [Option.bind_some]
    rw [mul_inf hne]
    have e0 : ([] : List Int) = dig 0 := dig_zero.symm
    rcases sgn_rng a with h | h | h <;> rcases sgn_rng b with h' | h' | h' <;> rw [h, h'] <;> first | rfl | (rw [e0, hW]; exact congrArg some zero_out)
  cases a with
  | neg => exact key (by simp)
  | pos => exact key (by simp)
  | num r =>
    cases b with
    | neg => exact key (by simp)
    | pos => exact key (by simp)
    | num s =>
      simp only [li, show ((0 : Int) != 0) = false from rfl, cond_false, lb, lu, lv, jb_inr]
      rw [hM r s ha hb]
      rfl
theorem k_Fdiv : Ev fun n => ∀ r s : Rat, short 33554432 r → short 33554432 s → s ≠ 0 → c_i_Frac_div ((C B0).run n) (fb r) (ft r) (fq r) (fb s) (ft s) (fq s) = some (outF (r / s)) := by
  refine ((k_natMul (B := B0)).and k_lowest).succ fun n hn ⟨hM, hL⟩ r s hr hs h0 => ?_
  rw [run_succ, e_i_Frac_div]
  unfold p_i_Frac_div
  obtain ⟨r1, r2⟩ := hr
  obtain ⟨s1, s2⟩ := hs
  simp only [ft, fq] at r1 r2 s1 s2 ⊢
  have l1 := len_dig_mul r.num.natAbs s.den
  have l3 := len_dig_mul r.den s.num.natAbs
  have hn : s.num.natAbs ≠ 0 := fun h => h0 (Rat.num_eq_zero.1 (Int.natAbs_eq_zero.1 h))
  rw [hM _ _ (by omega) (by omega)]
  simp only [Option.bind_some]
  rw [hM _ _ (by omega) (by omega)]
  simp only [Option.bind_some, beqB_eq]
  have e : (!(fb r == fb s)) = (fb r != fb s) := rfl
  rw [e, hL _ _ _ (Nat.mul_ne_zero r.den_nz hn) (by omega) (by omega), ← div_sg h0]
  rfl
theorem k_divL : Ev fun n => ∀ a b : Lm, shL 33554432 a → shL 33554432 b → b ≠ .num 0 → c_i_limit_by ((C B0).run n) (li a) (lb a) (lu a) (lv a) (li b) (lb b) (lu b) (lv b) = some (outL (Lm.div a b)) := by
  refine (k_Fdiv.and (k_whole (B := B0))).succ fun n hn ⟨hD, hW⟩ a b ha hb h0 => ?_
  rw [run_succ, e_i_limit_by]
  unfold p_i_limit_by
  have e0 : ([] : List Int) = dig 0 := dig_zero.symm
  cases b with
  | neg =>
    simp only [li, show ((-1 : Int) != 0) = true from rfl, cond_true]
    rw [e0, hW]
    cases a <;> exact congrArg some zero_out
  | pos =>
    simp only [li, show ((1 : Int) != 0) = true from rfl, cond_true]
    rw [e0, hW]
    cases a <;> exact congrArg some zero_out
  | num s =>
    simp only [li, show ((0 : Int) != 0) = false from rfl, cond_false]
    cases a with
    | neg => rfl
    | pos => rfl
    | num r =>
      simp only [li, show ((0 : Int) != 0) = false from rfl, cond_false, lb, lu, lv]
      rw [hD r s ha hb (fun h => h0 (by rw [h]))]
      rfl
theorem shL_lim {w o : Int} (hw : wd w = true) (h : rng w o) : shL 256 (lim w o) := by
  rcases lim_cases hw h with ⟨h, e⟩ | ⟨h, e⟩ | ⟨h, e⟩ <;> rw [e]
  · trivial
  · trivial
  · exact fits_short (fits_fv h)
theorem shL_mono {k l : Nat} {a : Lm} (h : shL k a) (hk : k ≤ l) : shL l a := by
  cases a with
  | neg => trivial
  | pos => trivial
  | num r => exact short_mono h hk
theorem shL_add {w x y : Int} (hw : wd w = true) (hx : rng w x) (hy : rng w y) : shL 1024 (Lm.add (lim w x) (lim w y)) := by
  rcases lim_cases hw hx with ⟨h, e⟩ | ⟨h, e⟩ | ⟨h, e⟩ <;> rcases lim_cases hw hy with ⟨h', e'⟩ | ⟨h', e'⟩ | ⟨h', e'⟩ <;> rw [e, e'] <;> try trivial
  exact short_mono (fits_short (fits_add h h')) (by omega)
theorem shL_inf (k : Nat) (hk : 1 ≤ k) (n : Int) : shL k (Lm.inf n) := by
  unfold Lm.inf
  split
  · trivial
  · split
    · exact ⟨by simp [ft], by
        have : dig 1 = [1] := one_dig.symm
        simp only [fq]
        show (dig 1).length ≤ k
        rw [this]; simpa using hk⟩
    · trivial
theorem shL_mul {w x y : Int} (hw : wd w = true) (hx : rng w x) (hy : rng w y) : shL 1024 (Lm.mul (lim w x) (lim w y)) := by
  rcases lim_cases hw hx with ⟨h, e⟩ | ⟨h, e⟩ | ⟨h, e⟩ <;> rcases lim_cases hw hy with ⟨h', e'⟩ | ⟨h', e'⟩ | ⟨h', e'⟩ <;> rw [e, e'] <;> first | exact short_mulf h h' | exact shL_inf 1024 (by omega) _
theorem k_addL : Ev fun n => ∀ w x y : Int, wd w = true → rng w x → rng w y → c_i_SpanAdd_1 ((C B0).run n) x y w =
    some (li (Lm.add (lim w x) (lim w y)), (lb (Lm.add (lim w x) (lim w y)), (lu (Lm.add (lim w x) (lim w y)), (lv (Lm.add (lim w x) (lim w y)), (w, ()))))) := by
  refine (k_limL.and k_Fadd).succ fun n hn ⟨hL, hA⟩ w x y hw hx hy => ?_
  rw [run_succ, e_i_SpanAdd_1]
  unfold p_i_SpanAdd_1
  rw [hL w x hw hx, hL w y hw hy]
  simp only [Option.bind_some, outL]
  rcases lim_cases hw hx with ⟨h, e⟩ | ⟨h, e⟩ | ⟨h, e⟩ <;> rw [e]
  · rfl
  · rfl
  · rcases lim_cases hw hy with ⟨h', e'⟩ | ⟨h', e'⟩ | ⟨h', e'⟩ <;> rw [e']
    · rfl
    · rfl
    · simp only [li, show ((0 : Int) != 0) = false from rfl, cond_false, lb, lu, lv]
      rw [hA _ _ (short_mono (fits_short (fits_fv h)) (by omega)) (short_mono (fits_short (fits_fv h')) (by omega))]
      rfl
end Go.Px.Seat

/- What is reckoned of spans. -/
namespace Pm
open Go.Px.Seat
/-- ok, and not empty -/
def ok1 (w : Int) (a : Sp) : Bool := a.1 && spk w a
noncomputable def addS (w : Int) (a b : Sp) : Sp := if both w a b = true then sp (dn w (Lm.add (lim w a.2.1) (lim w b.2.1))) (up w (Lm.add (lim w a.2.2.1) (lim w b.2.2.1))) else spn
def negS (w : Int) (a : Sp) : Sp := if ok1 w a = true then sp (-a.2.2.1) (-a.2.1) else spn
noncomputable def subS (w : Int) (a b : Sp) : Sp := addS w a (negS w b)
def hullS (w : Int) (a b : Sp) : Sp := if (spk w a && spk w b) = true then (if a.1 = true then (if b.1 = true then sp (min a.2.1 b.2.1) (max a.2.2.1 b.2.2.1) else a) else b) else spn
def minS (w : Int) (a b : Sp) : Sp := if both w a b = true then sp (min a.2.1 b.2.1) (min a.2.2.1 b.2.2.1) else spn
def maxS (w : Int) (a b : Sp) : Sp := if both w a b = true then sp (max a.2.1 b.2.1) (max a.2.2.1 b.2.2.1) else spn
def absS (w : Int) (a : Sp) : Sp := if ok1 w a = true then sp (max (max 0 a.2.1) (-a.2.2.1)) (max (a.2.1.natAbs : Int) (a.2.2.1.natAbs : Int)) else spn
def stp (o : Sp) (d u : Int) : Sp := if o.1 = true then sp (min o.2.1 d) (max o.2.2.1 u) else sp d u
noncomputable def stm (w : Int) (o : Sp) (x y : Int) : Sp := stp o (dn w (Lm.mul (lim w x) (lim w y))) (up w (Lm.mul (lim w x) (lim w y)))
noncomputable def mulS (w : Int) (a b : Sp) : Sp := if both w a b = true then stm w (stm w (stm w (stm w spn a.2.1 b.2.1) a.2.1 b.2.2.1) a.2.2.1 b.2.1) a.2.2.1 b.2.2.1 else spn
open Classical in
/-- the lower end of quotients by what is above 0 -/
noncomputable def qlo (l bl bh : Lm) : Lm := if Lm.num 0 ≤ l then Lm.div l bh else if bl ≤ Lm.num 0 then .neg else Lm.div l bl
open Classical in
noncomputable def qhi (h bl bh : Lm) : Lm := if h ≤ Lm.num 0 then Lm.div h bh else if bl ≤ Lm.num 0 then .pos else Lm.div h bl
noncomputable def quotS (w : Int) (a b : Sp) : Sp := if b.2.2.1 ≤ 0 then spn else
  sp (dn w (qlo (lim w a.2.1) (lim w b.2.1) (lim w b.2.2.1))) (up w (qhi (lim w a.2.2.1) (lim w b.2.1) (lim w b.2.2.1)))
def parts (w : Int) (p q : Sp) : Sp × Sp :=
  if (p.1 && q.1 && decide (p.2.2.1 < q.2.1)) = true then (p, q) else if (p.1 && q.1 && decide (q.2.2.1 < p.2.1)) = true then (q, p) else (hullS w p q, spn)
noncomputable def divTwoS (w : Int) (a b : Sp) : Sp × Sp := if both w a b = true then parts w (quotS w a b) (quotS w (negS w a) (negS w b)) else (spn, spn)
noncomputable def divS (w : Int) (a b : Sp) : Sp := hullS w (divTwoS w a b).1 (divTwoS w a b).2
/-- its parts -/
def out2 (p : Sp × Sp) : Bool × (Int × (Int × (Bool × (Int × (Int × Unit))))) := (p.1.1, (p.1.2.1, (p.1.2.2.1, (p.2.1, (p.2.2.1, (p.2.2.2.1, ()))))))
theorem both_ok1 {w : Int} {a b : Sp} : both w a b = (ok1 w a && ok1 w b) := by
  unfold both ok1
  cases a.1 <;> cases b.1 <;> simp
theorem ok1_sp {w lo hi : Int} : ok1 w (sp lo hi) = pok w lo hi := by unfold ok1; simp [sp, spk]
theorem spk_spn {w : Int} : spk w spn = wd w := by simp [spn, spk]
theorem ok1_iff {w : Int} {a : Sp} : ok1 w a = true ↔ ∃ lo hi, a = sp lo hi ∧ pok w lo hi = true := by
  constructor
  · intro h
    unfold ok1 at h
    obtain ⟨s, lo, hi, u⟩ := a
    simp only [Bool.and_eq_true] at h
    obtain ⟨rfl, h⟩ := h
    exact ⟨lo, hi, rfl, h⟩
  · rintro ⟨lo, hi, rfl, h⟩
    rw [ok1_sp]; exact h
theorem pok_dn_up {w : Int} {a b : Lm} (hw : wd w = true) (h : a ≤ b) (ha : a ≠ .pos) (hb : b ≠ .neg) : pok w (dn w a) (up w b) = true :=
  pok_of hw (dn_rng hw a) (up_rng hw b) (dn_le_up hw h) (dn_lt hw ha) (up_gt hw hb)
theorem lim_lo_hi {w lo hi : Int} (h : pok w lo hi = true) : lim w lo ≤ lim w hi := by
  obtain ⟨hw, h1, h2, h3, _⟩ := pok_rng h
  exact (lim_le hw h1 h2).2 h3
/-- an ok span's ends as limits -/
theorem spk_of_ok1 {w : Int} {a : Sp} (h : ok1 w a = true) : spk w a = true := by
  unfold ok1 at h
  simp only [Bool.and_eq_true] at h
  exact h.2
end Pm

/- What is reckoned of spans: the program's. Seat ZD. -/
namespace Go.Px.Seat
open Go Pm
set_option linter.unusedVariables false
variable {B : Run}
theorem full1 (w : Int) (a : Sp) : ([a].all fun s => s.1 && spk w s) = ok1 w a := by simp [ok1]
theorem full2 (w : Int) (a b : Sp) : ([a, b].all fun s => s.1 && spk w s) = both w a b := full_two w a b
theorem k_NegS : Ev fun n => ∀ (w : Int) (a : Sp), c_i_SpanNeg ((C B).run n) w a.1 a.2.1 a.2.2.1 = some (negS w a) := by
  refine ((k_full (B := B)).and (k_some (B := B))).succ fun n hn ⟨hF, hSo⟩ w a => ?_
  rw [run_succ, e_i_SpanNeg]
  unfold p_i_SpanNeg negS
  have e2 : [(a.1, (a.2.1, (a.2.2.1, ())))] = [a] := rfl
  rw [e2, hF _ _ (by simp), full1]
  simp only [Option.bind_some]
  cases h : ok1 w a
  · rfl
  · obtain ⟨lo, hi, rfl, hp⟩ := ok1_iff.1 h
    obtain ⟨h1, h2, h3, h4, h5, h6⟩ := pok_iff.1 hp
    have htn := top_nonneg w
    simp only [Bool.not_true, cond_false, sp]
    rw [ineg_eq (by omega) (by omega), ineg_eq (by omega) (by omega), hSo]
    rfl
theorem k_AddS : Ev fun n => ∀ (w : Int) (a b : Sp), c_i_SpanAdd ((C B0).run n) w a.1 a.2.1 a.2.2.1 b.1 b.2.1 b.2.2.1 = some (addS w a b) := by
  refine ((k_full (B := B0)).and (k_addL.and (k_floatsL.and (k_some (B := B0))))).succ fun n hn ⟨hF, hS, hFl, hSo⟩ w a b => ?_
  rw [run_succ, e_i_SpanAdd]
  unfold p_i_SpanAdd addS
  have e2 : [(a.1, (a.2.1, (a.2.2.1, ()))), (b.1, (b.2.1, (b.2.2.1, ())))] = [a, b] := rfl
  rw [e2, hF _ _ (by simp), full2]
  simp only [Option.bind_some]
  cases h : both w a b
  · rfl
  · rw [both_ok1, Bool.and_eq_true] at h
    obtain ⟨a1, a2, rfl, pa⟩ := ok1_iff.1 h.1
    obtain ⟨b1, b2, rfl, pb⟩ := ok1_iff.1 h.2
    obtain ⟨hw, ra1, ra2, _⟩ := pok_rng pa
    obtain ⟨_, rb1, rb2, _⟩ := pok_rng pb
    simp only [Bool.not_true, cond_false, sp, if_true]
    rw [hS w a1 b1 hw ra1 rb1]
    simp only [Option.bind_some]
    rw [show (((w == w) && true) && true) = true by simp, ok_true, hFl w _ hw (shL_add hw ra1 rb1)]
    simp only [Option.bind_some]
    rw [hS w a2 b2 hw ra2 rb2]
    simp only [Option.bind_some]
    rw [show (((w == w) && true) && true) = true by simp, ok_true, hFl w _ hw (shL_add hw ra2 rb2)]
    simp only [Option.bind_some]
    rw [hSo]
    rfl
theorem k_HullS : Ev fun n => ∀ (w : Int) (a b : Sp), c_i_SpanHull ((C B).run n) w a.1 a.2.1 a.2.2.1 b.1 b.2.1 b.2.2.1 = some (hullS w a b) := by
  refine ((k_SpanOk (B := B)).and (k_some (B := B))).succ fun n hn ⟨hO, hSo⟩ w a b => ?_
  rw [run_succ, e_i_SpanHull]
  unfold p_i_SpanHull hullS
  obtain ⟨s1, a1, a2, u⟩ := a
  obtain ⟨s2, b1, b2, u'⟩ := b
  simp only
  rw [hO]
  simp only [Option.bind_some]
  cases h1 : spk w (s1, (a1, (a2, ())))
  · rfl
  simp only [Bool.not_true, cond_false]
  rw [hO]
  simp only [Option.bind_some, jb_inr]
  cases h2 : spk w (s2, (b1, (b2, ())))
  · rfl
  cases s1
  · rfl
  cases s2
  · rfl
  simp only [Bool.not_true, cond_false]
  rw [hSo]
  rfl
theorem k_AbsS : Ev fun n => ∀ (w : Int) (a : Sp), c_i_SpanAbs ((C B0).run n) w a.1 a.2.1 a.2.2.1 = some (absS w a) := by
  refine ((k_full (B := B0)).and ((k_some (B := B0)).and (k_size (B := B0)))).succ fun n hn ⟨hF, hSo, hZ⟩ w a => ?_
  rw [run_succ, e_i_SpanAbs]
  unfold p_i_SpanAbs absS
  have e2 : [(a.1, (a.2.1, (a.2.2.1, ())))] = [a] := rfl
  rw [e2, hF _ _ (by simp), full1]
  simp only [Option.bind_some]
  cases h : ok1 w a
  · rfl
  · obtain ⟨lo, hi, rfl, hp⟩ := ok1_iff.1 h
    obtain ⟨h1, h2, h3, h4, h5, h6⟩ := pok_iff.1 hp
    have htn := top_nonneg w
    simp only [Bool.not_true, cond_false, sp, if_true]
    rw [hZ lo (by omega) (by omega), hZ hi (by omega) (by omega), ineg_eq (by omega) (by omega)]
    simp only [Option.bind_some]
    rw [hSo]
    rfl
theorem k_MulS : Ev fun n => ∀ (w : Int) (a b : Sp), c_i_SpanMul ((C B0).run n) w a.1 a.2.1 a.2.2.1 b.1 b.2.1 b.2.2.1 = some (mulS w a b) := by
  refine ((k_full (B := B0)).and (k_limL.and (k_mulL.and (k_floatsL.and (k_some (B := B0)))))).succ fun n hn ⟨hF, hL, hT, hFl, hSo⟩ w a b => ?_
  rw [run_succ, e_i_SpanMul]
  unfold p_i_SpanMul
  have e2 : [(a.1, (a.2.1, (a.2.2.1, ()))), (b.1, (b.2.1, (b.2.2.1, ())))] = [a, b] := rfl
  rw [e2, hF _ _ (by simp), full2]
  simp only [Option.bind_some]
  cases h : both w a b
  · unfold mulS
    rw [h]; rfl
  rw [both_ok1, Bool.and_eq_true] at h
  have hb : both w a b = true := by rw [both_ok1, h.1, h.2]; rfl
  obtain ⟨a1, a2, rfl, pa⟩ := ok1_iff.1 h.1
  obtain ⟨b1, b2, rfl, pb⟩ := ok1_iff.1 h.2
  obtain ⟨hw, ra1, ra2, _⟩ := pok_rng pa
  obtain ⟨_, rb1, rb2, _⟩ := pok_rng pb
  simp only [Bool.not_true, cond_false, sp]
  let S : Nat → Sp := fun i => if i = 0 then spn else if i = 1 then stm w (stm w spn a1 b1) a1 b2 else stm w (stm w (stm w (stm w spn a1 b1) a1 b2) a2 b1) a2 b2
  have hres : mulS w (true, (a1, (a2, ()))) (true, (b1, (b2, ()))) = S 2 := by
    unfold mulS
    exact if_pos hb
  rw [hres]
  refine iter_const (fun st => ∃ (i : Nat) (z : Sp), i ≤ 2 ∧ st = (((i : Int), ((2 : Int), ((), ((), (w, ((), ((), ()))))))), ([a1, a2], ((true, (b1, (b2, ()))), (((S i).1, ((S i).2.1, ((S i).2.2.1, ()))), ((z.1, (z.2.1, (z.2.2.1, ()))), ()))))))
    (fun st => (2 - st.1.1).toNat) _ ?_ n _ (by simp only; omega) ⟨0, spn, by omega, rfl⟩
  rintro rec _ ⟨i, z, hi, rfl⟩ ih
  simp only [ilt_iff, len_eq]
  by_cases h : i < 2
  · obtain ⟨x, hx, hrx, hSx⟩ : ∃ x, List.getD [a1, a2] i 0 = x ∧ rng w x ∧ S (i + 1) = stm w (stm w (S i) x b1) x b2 := by
      have : i = 0 ∨ i = 1 := by omega
      rcases this with rfl | rfl
      · exact ⟨a1, rfl, ra1, rfl⟩
      · exact ⟨a2, rfl, ra2, rfl⟩
    rw [decide_eq_true (show (i : Int) < 2 by omega), cond_true, ok_of (inB_true (by omega) (by simp; omega)), Int.toNat_natCast, hx]
    generalize S i = o at hSx
    let T : Nat → Sp := fun j => if j = 0 then o else if j = 1 then stm w o x b1 else stm w (stm w o x b1) x b2
    refine iter_const (fun st => ∃ (j : Nat), j ≤ 2 ∧ st = (((j : Int), ((2 : Int), ((), (w, (x, ((), ((i : Int), ((2 : Int), ((), ((), ((), ()))))))))))), ([b1, b2], (((T j).1, ((T j).2.1, ((T j).2.2.1, ()))), ([a1, a2], ((true, (b1, (b2, ()))), ((z.1, (z.2.1, (z.2.2.1, ()))), ())))))))
      (fun st => (2 - st.1.1).toNat) _ ?_ n _ (by simp only; omega) ⟨0, by omega, rfl⟩
    rintro rec1 _ ⟨j, hj, rfl⟩ ih1
    simp only [ilt_iff, len_eq]
    by_cases h1 : j < 2
    · obtain ⟨y, hy, hry, hTy⟩ : ∃ y, List.getD [b1, b2] j 0 = y ∧ rng w y ∧ T (j + 1) = stm w (T j) x y := by
        have : j = 0 ∨ j = 1 := by omega
        rcases this with rfl | rfl
        · exact ⟨b1, rfl, rb1, rfl⟩
        · exact ⟨b2, rfl, rb2, rfl⟩
      rw [decide_eq_true (show (j : Int) < 2 by omega), cond_true, ok_of (inB_true (by omega) (by simp; omega)), Int.toNat_natCast, hy, hL w x hw hrx, hL w y hw hry]
      simp only [Option.bind_some, outL]
      rw [hT _ _ (shL_mono (shL_lim hw hrx) (by omega)) (shL_mono (shL_lim hw hry) (by omega))]
      simp only [Option.bind_some, outL]
      rw [hFl w _ hw (shL_mul hw hrx hry)]
      simp only [Option.bind_some]
      have hj1 : iadd .i64 (j : Int) 1 = (j : Int) + 1 := iadd_eq (by omega) (by omega)
      generalize T j = o1 at hTy
      obtain ⟨s, l1, l2, u⟩ := o1
      refine Eq.trans ?_ (ih1 _ ⟨j + 1, by omega, rfl⟩ (by simp only; omega))
      rw [hTy]
      unfold stm stp
      cases s
      · simp only [Bool.not_false, cond_true, Bool.false_eq_true, if_false]
        rw [hSo]
        simp only [Option.bind_some, jb_inr, sp]
        rw [hSo]
        simp only [Option.bind_some, sp]
        have m1 : ∀ d : Int, imin d d = d := fun d => by unfold imin; omega
        have m2 : ∀ d : Int, imax d d = d := fun d => by unfold imax; omega
        rw [m1, m2, hj1]
        rfl
      · simp only [Bool.not_true, cond_false, jb_inr, if_true]
        rw [hSo]
        simp only [Option.bind_some, sp]
        rw [hj1]
        rfl
    · have hj2 : j = 2 := by omega
      subst hj2
      rw [decide_eq_false (by omega), cond_false, iadd_eq (by omega) (by omega)]
      refine ih _ ⟨i + 1, z, by omega, ?_⟩ (by simp only; omega)
      rw [hSx]; rfl
  · have hi2 : i = 2 := by omega
    subst hi2
    rw [decide_eq_false (by omega), cond_false]
end Go.Px.Seat

/- Quotients of spans: the program's. Seat ZD. -/
namespace Pm
open Go.Px Go.Px.Seat
theorem sgn_nonneg (a : Lm) : 0 ≤ a.sgn ↔ Lm.num 0 ≤ a := by
  cases a with
  | neg => simp [Lm.sgn]
  | pos => simp [Lm.sgn]
  | num r => rcases Lm.sgn_cases r with ⟨h, e⟩ | ⟨h, e⟩ | ⟨h, e⟩ <;> rw [e] <;> simp <;> grind
theorem sgn_nonpos (a : Lm) : a.sgn ≤ 0 ↔ a ≤ Lm.num 0 := by
  cases a with
  | neg => simp [Lm.sgn]
  | pos => simp [Lm.sgn]
  | num r => rcases Lm.sgn_cases r with ⟨h, e⟩ | ⟨h, e⟩ | ⟨h, e⟩ <;> rw [e] <;> simp <;> grind
theorem sgn_zero (a : Lm) : a.sgn = 0 ↔ a = Lm.num 0 := by
  cases a with
  | neg => simp [Lm.sgn]
  | pos => simp [Lm.sgn]
  | num r => rcases Lm.sgn_cases r with ⟨h, e⟩ | ⟨h, e⟩ | ⟨h, e⟩ <;> rw [e] <;> simp <;> grind
theorem short_divf {w x y : Int} (hx : fin w x) (hy : fin w y) : short 1024 (fv w x / fv w y) := by
  by_cases h0 : fv w y = 0
  · rw [h0, Rat.div_def, Rat.inv_zero, Rat.mul_zero]
    exact ⟨by simp [ft], by
      show (dig 1).length ≤ _
      rw [← one_dig]; decide⟩
  rw [div_sg h0]
  have f1 := fits_len (fits_fv hx)
  have f2 := fits_len (fits_fv hy)
  simp only [ft, fq] at f1 f2
  have m1 := len_dig_mul (fv w x).num.natAbs (fv w y).den
  have m2 := len_dig_mul (fv w x).den (fv w y).num.natAbs
  have hn : (fv w y).num.natAbs ≠ 0 := fun h => h0 (Rat.num_eq_zero.1 (Int.natAbs_eq_zero.1 h))
  refine mk_short (Nat.mul_ne_zero (Rat.den_nz _) hn) ?_ (by omega)
  rw [sg_natAbs]
  omega
theorem short_zero : short 1024 0 := ⟨by simp [ft], by
  show (dig 1).length ≤ _
  rw [← one_dig]; decide⟩
theorem shL_div {w x y : Int} (hw : wd w = true) (hx : rng w x) (hy : rng w y) : shL 1024 (Lm.div (lim w x) (lim w y)) := by
  rcases lim_cases hw hx with ⟨h, e⟩ | ⟨h, e⟩ | ⟨h, e⟩ <;> rcases lim_cases hw hy with ⟨h', e'⟩ | ⟨h', e'⟩ | ⟨h', e'⟩ <;> rw [e, e'] <;> first | exact short_divf h h' | exact short_zero | trivial
/-- a quotient by what is next to 0 -/
def near (l bl : Lm) (p : Bool) : Lm := if p = true then Lm.div l bl else if l.sgn = 0 then l else Lm.inf l.sgn
theorem zero_div (a : Lm) : Lm.div (.num 0) a = .num 0 := by
  cases a with
  | neg => rfl
  | pos => rfl
  | num s => simp only [Lm.div, Rat.div_def, Rat.zero_mul]
theorem qlo_prog {l bl bh : Lm} {p : Bool} (hp : p = true ↔ ¬ bl ≤ .num 0) : qlo l bl bh = if 0 ≤ l.sgn then Lm.div l bh else near l bl p := by
  unfold qlo near
  by_cases h : Lm.num 0 ≤ l
  · rw [if_pos h, if_pos ((sgn_nonneg l).2 h)]
  · rw [if_neg h, if_neg (fun h' => h ((sgn_nonneg l).1 h'))]
    have hs : l.sgn = -1 := by
      have := sgn_rng l
      have h2 : ¬ 0 ≤ l.sgn := fun h' => h ((sgn_nonneg l).1 h')
      omega
    by_cases hb : bl ≤ .num 0
    · rw [if_pos hb, if_neg (fun h' => (hp.1 h') hb), hs]; rfl
    · rw [if_neg hb, if_pos (hp.2 hb)]
theorem qhi_prog {l bl bh : Lm} {p : Bool} (hp : p = true ↔ ¬ bl ≤ .num 0) : qhi l bl bh = if l.sgn < 0 then Lm.div l bh else near l bl p := by
  unfold qhi near
  by_cases h : l ≤ Lm.num 0
  · rw [if_pos h]
    have h2 := (sgn_nonpos l).2 h
    by_cases h0 : l.sgn = 0
    · have hl := (sgn_zero l).1 h0
      subst hl
      rw [if_neg (by omega), zero_div, zero_div]
      simp [h0]
    · rw [if_pos (by omega)]
  · rw [if_neg h]
    have h2 : ¬ l.sgn ≤ 0 := fun h' => h ((sgn_nonpos l).1 h')
    have := sgn_rng l
    rw [if_neg (show ¬ l.sgn < 0 by omega)]
    by_cases hb : bl ≤ .num 0
    · rw [if_pos hb, if_neg (fun h' => (hp.1 h') hb), if_neg (show ¬ l.sgn = 0 by omega), show l.sgn = 1 by omega]; rfl
    · rw [if_neg hb, if_pos (hp.2 hb)]
theorem pos_lim {w o : Int} (hw : wd w = true) (ho : rng w o) : ilt 0 o = true ↔ ¬ lim w o ≤ .num 0 := by
  have ht := top_pos hw
  rw [← lim_zero hw, lim_le hw ho (by unfold rng; omega), ilt_iff, decide_eq_true_iff]
  omega
theorem shL_near {w x y : Int} (hw : wd w = true) (hx : rng w x) (hy : rng w y) (p : Bool) : shL 1024 (near (lim w x) (lim w y) p) := by
  unfold near
  split
  · exact shL_div hw hx hy
  · split
    · exact shL_mono (shL_lim hw hx) (by omega)
    · exact shL_inf 1024 (by omega) _
end Pm
namespace Go.Px.Seat
open Go Pm
set_option linter.unusedVariables false
variable {B : Run}
theorem k_near : Ev fun n => ∀ (w : Int) (l : Lm) (s : Bool) (lo hi : Int), wd w = true → rng w lo → shL 33554432 l → c_i_divAbove_1 ((C B0).run n) (li l) (lb l) (lu l) (lv l) s lo hi w =
    some (li (near l (lim w lo) (ilt 0 lo)), (lb (near l (lim w lo) (ilt 0 lo)), (lu (near l (lim w lo) (ilt 0 lo)), (lv (near l (lim w lo) (ilt 0 lo)), (s, (lo, (hi, (w, ())))))))) := by
  refine (k_limL.and (k_divL.and (k_sgnL (B := B0)))).succ fun n hn ⟨hL, hD, hS⟩ w l s lo hi hw hlo hl => ?_
  rw [run_succ, e_i_divAbove_1]
  unfold p_i_divAbove_1 near
  cases hp : ilt 0 lo
  · simp only [cond_false]
    rw [hS]
    simp only [Option.bind_some]
    by_cases h0 : l.sgn = 0
    · rw [show (l.sgn == 0) = true by simp [h0], cond_true]
      simp [h0]
    · rw [beq_f h0, cond_false]
      simp only [Bool.false_eq_true, if_false, if_neg h0]
      rcases sgn_rng l with h | h | h
      · rw [h]; rfl
      · exact absurd h h0
      · rw [h]; rfl
  · simp only [cond_true, if_true]
    rw [hL w lo hw hlo]
    simp only [Option.bind_some, outL]
    rw [hD l (lim w lo) hl (shL_mono (shL_lim hw hlo) (by omega)) (fun h => by
      have := (pos_lim hw hlo).1 hp
      rw [h] at this
      exact this (Lm.rfl' _))]
    rfl
theorem k_quotS : Ev fun n => ∀ (w : Int) (a b : Sp), ok1 w a = true → ok1 w b = true → c_i_divAbove ((C B0).run n) w a.1 a.2.1 a.2.2.1 b.1 b.2.1 b.2.2.1 = some (quotS w a b) := by
  refine (k_limL.and (k_divL.and ((k_sgnL (B := B0)).and (k_near.and (k_floatsL.and (k_some (B := B0))))))).succ fun n hn ⟨hL, hD, hS, hN, hFl, hSo⟩ w a b ha hb => ?_
  obtain ⟨a1, a2, rfl, pa⟩ := ok1_iff.1 ha
  obtain ⟨b1, b2, rfl, pb⟩ := ok1_iff.1 hb
  obtain ⟨hw, ra1, ra2, _⟩ := pok_rng pa
  obtain ⟨_, rb1, rb2, _⟩ := pok_rng pb
  rw [run_succ, e_i_divAbove]
  unfold p_i_divAbove
  have e : quotS w (sp a1 a2) (sp b1 b2) = if b2 ≤ 0 then spn else sp (dn w (qlo (lim w a1) (lim w b1) (lim w b2))) (up w (qhi (lim w a2) (lim w b1) (lim w b2))) := rfl
  rw [e]
  simp only [sp, ile_iff]
  by_cases h : b2 ≤ 0
  · rw [decide_eq_true h, if_pos h]; rfl
  rw [decide_eq_false h, if_neg h, cond_false, hL w b2 hw rb2, hL w a1 hw ra1, hL w a2 hw ra2]
  simp only [Option.bind_some, outL]
  rw [hN w (lim w a1) true b1 b2 hw rb1 (shL_mono (shL_lim hw ra1) (by omega))]
  simp only [Option.bind_some]
  rw [ok_of (by simp [beqB])]
  rw [hN w (lim w a2) true b1 b2 hw rb1 (shL_mono (shL_lim hw ra2) (by omega))]
  simp only [Option.bind_some]
  rw [ok_of (by simp [beqB]), hS]
  simp only [Option.bind_some]
  have hb2 : lim w b2 ≠ .num 0 := fun h' => by
    have := (pos_lim hw rb2).1 (by simp; omega)
    rw [h'] at this
    exact this (Lm.rfl' _)
  have q1 := qlo_prog (l := lim w a1) (bh := lim w b2) (pos_lim hw rb1)
  have q2 := qhi_prog (l := lim w a2) (bh := lim w b2) (pos_lim hw rb1)
  rw [q1, q2]
  have s1 := shL_mono (l := 33554432) (shL_lim hw ra1) (by omega)
  have s2 := shL_mono (l := 33554432) (shL_lim hw ra2) (by omega)
  have s3 := shL_mono (l := 33554432) (shL_lim hw rb2) (by omega)
  have t1 := shL_div hw ra1 rb2
  have t2 := shL_div hw ra2 rb2
  have t3 := shL_near hw ra1 rb1 (ilt 0 b1)
  have t4 := shL_near hw ra2 rb1 (ilt 0 b1)
  have c1 := hD _ _ s1 s3 hb2
  have c2 := hD _ _ s2 s3 hb2
  have c3 := hS (lim w a2)
  clear hN q1 q2
  generalize ilt 0 b1 = pp at t3 t4 ⊢
  by_cases g1 : 0 ≤ (lim w a1).sgn
  · rw [decide_eq_true g1, cond_true, c1, if_pos g1]
    simp only [Option.bind_some, outL, jb_inr]
    rw [c3]
    simp only [Option.bind_some, ilt_iff]
    by_cases g2 : (lim w a2).sgn < 0
    · rw [decide_eq_true g2, cond_true, c2, if_pos g2]
      simp only [Option.bind_some, outL, jb_inr]
      rw [hFl w _ hw t1, hFl w _ hw t2]
      simp only [Option.bind_some]
      rw [hSo]
      rfl
    · rw [decide_eq_false g2, cond_false, if_neg g2]
      simp only [jb_inr]
      rw [hFl w _ hw t1, hFl w _ hw t4]
      simp only [Option.bind_some]
      rw [hSo]
      rfl
  · rw [decide_eq_false g1, cond_false, if_neg g1]
    simp only [jb_inr]
    rw [c3]
    simp only [Option.bind_some, ilt_iff]
    by_cases g2 : (lim w a2).sgn < 0
    · rw [decide_eq_true g2, cond_true, c2, if_pos g2]
      simp only [Option.bind_some, outL, jb_inr]
      rw [hFl w _ hw t3, hFl w _ hw t2]
      simp only [Option.bind_some]
      rw [hSo]
      rfl
    · rw [decide_eq_false g2, cond_false, if_neg g2]
      simp only [jb_inr]
      rw [hFl w _ hw t3, hFl w _ hw t4]
      simp only [Option.bind_some]
      rw [hSo]
      rfl
theorem ok1_neg {w : Int} {a : Sp} (h : ok1 w a = true) : ok1 w (negS w a) = true := by
  obtain ⟨lo, hi, rfl, hp⟩ := ok1_iff.1 h
  unfold negS
  rw [if_pos h, ok1_sp]
  exact pok_neg hp
theorem k_divTwoS : Ev fun n => ∀ (w : Int) (a b : Sp), c_i_SpanDivTwo ((C B0).run n) w a.1 a.2.1 a.2.2.1 b.1 b.2.1 b.2.2.1 = some (out2 (divTwoS w a b)) := by
  refine ((k_full (B := B0)).and (k_quotS.and ((k_NegS (B := B0)).and (k_HullS (B := B0))))).succ fun n hn ⟨hF, hQ, hN, hH⟩ w a b => ?_
  rw [run_succ, e_i_SpanDivTwo]
  unfold p_i_SpanDivTwo divTwoS
  have e2 : [(a.1, (a.2.1, (a.2.2.1, ()))), (b.1, (b.2.1, (b.2.2.1, ())))] = [a, b] := rfl
  rw [e2, hF _ _ (by simp), full2]
  simp only [Option.bind_some]
  cases h : both w a b
  · rfl
  have h' := h
  rw [both_ok1, Bool.and_eq_true] at h'
  simp only [Bool.not_true, cond_false, if_true]
  rw [hQ w a b h'.1 h'.2]
  simp only [Option.bind_some]
  rw [hN, hN]
  simp only [Option.bind_some]
  rw [hQ w _ _ (ok1_neg h'.1) (ok1_neg h'.2)]
  simp only [Option.bind_some]
  generalize quotS w a b = p
  generalize quotS w (negS w a) (negS w b) = q
  obtain ⟨s, p1, p2, u⟩ := p
  obtain ⟨t, q1, q2, u'⟩ := q
  unfold parts
  cases s
  · simp only [cond_false, jb_inr, Bool.false_and, Bool.false_eq_true, if_false]
    rw [hH w (false, (p1, (p2, ()))) (t, (q1, (q2, ())))]
    rfl
  cases t
  · simp only [cond_false, cond_true, jb_inr, Bool.and_false, Bool.false_and, Bool.false_eq_true, if_false]
    rw [hH w (true, (p1, (p2, ()))) (false, (q1, (q2, ())))]
    rfl
  simp only [cond_true, jb_inr, Bool.true_and, ilt_iff]
  by_cases g : p2 < q1
  · rw [decide_eq_true g, if_pos rfl]; rfl
  · rw [decide_eq_false g, cond_false, if_neg (by simp)]
    by_cases g' : q2 < p1
    · rw [decide_eq_true g', if_pos rfl]; rfl
    · rw [decide_eq_false g', cond_false, if_neg (by simp), hH w (true, (p1, (p2, ()))) (true, (q1, (q2, ())))]
      rfl
theorem k_divS : Ev fun n => ∀ (w : Int) (a b : Sp), c_i_SpanDiv ((C B0).run n) w a.1 a.2.1 a.2.2.1 b.1 b.2.1 b.2.2.1 = some (divS w a b) := by
  refine (k_divTwoS.and (k_HullS (B := B0))).succ fun n hn ⟨hD, hH⟩ w a b => ?_
  rw [run_succ, e_i_SpanDiv]
  unfold p_i_SpanDiv divS
  rw [hD]
  simp only [Option.bind_some, out2]
  rw [hH w (divTwoS w a b).1 (divTwoS w a b).2]
  rfl
end Go.Px.Seat

/- Quotients with infinite ones; what spans leave in. -/
namespace Pm
open Go.Px Go.Px.Seat
namespace Lm
theorem div_opp (a b : Lm) : div a.opp b = (div a b).opp := by
  cases a <;> cases b <;> simp [div, Rat.div_def, Rat.neg_mul]
theorem not_le_num {s : Rat} (h : ¬ Lm.num s ≤ .num 0) : 0 < s := by
  simp at h
  exact Rat.not_le.1 h
theorem rat_div_mono {a b s : Rat} (h : a ≤ b) (hs : 0 < s) : a / s ≤ b / s := by
  rw [Rat.div_def, Rat.div_def]
  exact Rat.mul_le_mul_of_nonneg_right h (Rat.le_of_lt (Rat.inv_pos.2 hs))
theorem div_mono {a b y : Lm} (h : a ≤ b) (hy : ¬ y ≤ .num 0) : div a y ≤ div b y := by
  cases y with
  | neg => simp at hy
  | pos => cases a <;> cases b <;> simp [div]
  | num s =>
    have hs := not_le_num hy
    cases a <;> cases b <;> simp_all [div]
    exact rat_div_mono h hs
theorem div_nonneg {a y : Lm} (h : .num 0 ≤ a) (hy : ¬ y ≤ .num 0) : .num 0 ≤ div a y := by
  have := div_mono h hy
  rwa [zero_div] at this
theorem rat_inv_anti {s t : Rat} (hs : 0 < s) (h : s ≤ t) : t⁻¹ ≤ s⁻¹ := by
  have ht : 0 < t := by grind
  have h1 := Rat.mul_le_mul_of_nonneg_right h (Rat.le_of_lt (Rat.inv_pos.2 ht))
  rw [Rat.mul_inv_cancel t (Rat.ne_of_gt ht)] at h1
  have h2 := Rat.mul_le_mul_of_nonneg_left h1 (Rat.le_of_lt (Rat.inv_pos.2 hs))
  rw [← Rat.mul_assoc, Rat.inv_mul_cancel s (Rat.ne_of_gt hs), Rat.one_mul, Rat.mul_one] at h2
  exact h2
/-- by more it is less -/
theorem div_anti {a x y : Lm} (ha : .num 0 ≤ a) (hx : ¬ x ≤ .num 0) (h : x ≤ y) : div a y ≤ div a x := by
  have hy : ¬ y ≤ .num 0 := fun h' => hx (trans h h')
  cases y with
  | neg => simp at hy
  | pos => 
    rw [show div a .pos = .num 0 by cases a <;> rfl]
    exact div_nonneg ha hx
  | num t =>
    cases x with
    | neg => simp at hx
    | pos => simp at h
    | num s =>
      cases a with
      | neg => simp at ha
      | pos => exact rfl' _
      | num r =>
        simp at ha h
        simp only [div, num_le, Rat.div_def]
        exact Rat.mul_le_mul_of_nonneg_left (rat_inv_anti (not_le_num hx) h) ha
theorem div_mono_neg {a x y : Lm} (ha : a ≤ .num 0) (hx : ¬ x ≤ .num 0) (h : x ≤ y) : div a x ≤ div a y := by
  have h0 : Lm.num 0 ≤ a.opp := by
    have := opp_le.2 ha
    simpa using this
  have := div_anti h0 hx h
  rw [div_opp, div_opp] at this
  exact opp_le.1 this
end Lm
theorem qlo_opp (l bl bh : Lm) : qlo l.opp bl bh = (qhi l bl bh).opp := by
  unfold qlo qhi
  have e : Lm.num 0 ≤ l.opp ↔ l ≤ .num 0 := by
    have := Lm.opp_le (a := .num 0) (b := l)
    rw [show (Lm.num 0).opp = .num 0 by simp] at this
    exact this
  by_cases h : l ≤ .num 0
  · rw [if_pos (e.2 h), if_pos h, Lm.div_opp]
  · rw [if_neg (fun h' => h (e.1 h')), if_neg h]
    split
    · rfl
    · rw [Lm.div_opp]
theorem qlo_le {l x bl y bh : Lm} (h1 : l ≤ x) (h2 : bl ≤ y) (h3 : y ≤ bh) (hy : ¬ y ≤ .num 0) : qlo l bl bh ≤ Lm.div x y := by
  unfold qlo
  by_cases h : Lm.num 0 ≤ l
  · rw [if_pos h]
    exact Lm.trans (Lm.div_anti h hy h3) (Lm.div_mono h1 hy)
  · rw [if_neg h]
    by_cases hb : bl ≤ .num 0
    · rw [if_pos hb]; simp
    · rw [if_neg hb]
      exact Lm.trans (Lm.div_mono_neg (Lm.of_not_le h) hb h2) (Lm.div_mono h1 hy)
theorem le_qhi {h x bl y bh : Lm} (h1 : x ≤ h) (h2 : bl ≤ y) (h3 : y ≤ bh) (hy : ¬ y ≤ .num 0) : Lm.div x y ≤ qhi h bl bh := by
  have := qlo_le (l := h.opp) (x := x.opp) (Lm.opp_le.2 h1) h2 h3 hy
  rw [qlo_opp, Lm.div_opp] at this
  exact Lm.opp_le.1 this
open Classical in
theorem qlo_mono {l l' bl bl' bh bh' : Lm} (h1 : l ≤ l') (h2 : bl ≤ bl') (h3 : bh' ≤ bh) (h4 : bl' ≤ bh') (hy : ¬ bh' ≤ .num 0) : qlo l bl bh ≤ qlo l' bl' bh' := by
  rw [show qlo l' bl' bh' = if Lm.num 0 ≤ l' then Lm.div l' bh' else if bl' ≤ .num 0 then .neg else Lm.div l' bl' from by unfold qlo; rfl]
  by_cases h : Lm.num 0 ≤ l'
  · rw [if_pos h]
    exact qlo_le h1 (Lm.trans h2 h4) h3 hy
  · rw [if_neg h]
    by_cases hb : bl' ≤ .num 0
    · rw [if_pos hb]
      unfold qlo
      rw [if_neg (fun h' => h (Lm.trans h' h1)), if_pos (Lm.trans h2 hb)]
      exact Lm.rfl' _
    · rw [if_neg hb]
      exact qlo_le h1 h2 (Lm.trans h4 h3) hb
theorem qhi_mono {l l' bl bl' bh bh' : Lm} (h1 : l' ≤ l) (h2 : bl ≤ bl') (h3 : bh' ≤ bh) (h4 : bl' ≤ bh') (hy : ¬ bh' ≤ .num 0) : qhi l' bl' bh' ≤ qhi l bl bh := by
  have := qlo_mono (l := l.opp) (l' := l'.opp) (Lm.opp_le.2 h1) h2 h3 h4 hy
  rw [qlo_opp, qlo_opp] at this
  exact Lm.opp_le.1 this
theorem qlo_qhi {l h bl bh : Lm} (h1 : l ≤ h) (h2 : bl ≤ bh) (hy : ¬ bh ≤ .num 0) : qlo l bl bh ≤ qhi h bl bh :=
  Lm.trans (qlo_le h1 h2 (Lm.rfl' _) hy) (le_qhi (Lm.rfl' _) h2 (Lm.rfl' _) hy)
theorem div_ne_pos {a b : Lm} (h : a ≠ .pos) : Lm.div a b ≠ .pos := by
  cases a <;> cases b <;> simp_all [Lm.div]
theorem qlo_ne {l bl bh : Lm} (h : l ≠ .pos) : qlo l bl bh ≠ .pos := by
  unfold qlo
  split
  · exact div_ne_pos h
  · split
    · simp
    · exact div_ne_pos h
theorem qhi_ne {l bl bh : Lm} (h : l ≠ .neg) : qhi l bl bh ≠ .neg := by
  have := qlo_ne (l := l.opp) (bl := bl) (bh := bh) (by cases l <;> simp_all)
  rw [qlo_opp] at this
  intro h'
  rw [h'] at this
  exact this rfl
theorem pos_lim' {w o : Int} (hw : wd w = true) (ho : rng w o) : 0 < o ↔ ¬ lim w o ≤ .num 0 := by
  have := pos_lim hw ho
  rwa [ilt_iff, decide_eq_true_iff] at this
theorem nonneg_lim {w o : Int} (hw : wd w = true) (ho : rng w o) : 0 ≤ o ↔ .num 0 ≤ lim w o := by
  have ht := top_pos hw
  rw [← lim_zero hw, lim_le hw (by unfold rng; omega) ho]
theorem quot_ok {w : Int} {a b : Sp} (ha : ok1 w a = true) (hb : ok1 w b = true) (h : 0 < b.2.2.1) : ok1 w (quotS w a b) = true := by
  obtain ⟨a1, a2, rfl, pa⟩ := ok1_iff.1 ha
  obtain ⟨b1, b2, rfl, pb⟩ := ok1_iff.1 hb
  obtain ⟨hw, ra1, ra2, _⟩ := pok_rng pa
  obtain ⟨_, rb1, rb2, _⟩ := pok_rng pb
  have h' : 0 < b2 := h
  have e : quotS w (sp a1 a2) (sp b1 b2) = if b2 ≤ 0 then spn else sp (dn w (qlo (lim w a1) (lim w b1) (lim w b2))) (up w (qhi (lim w a2) (lim w b1) (lim w b2))) := rfl
  rw [e, if_neg (by omega), ok1_sp]
  exact pok_dn_up hw (qlo_qhi (lim_lo_hi pa) (lim_lo_hi pb) ((pos_lim' hw rb2).1 h')) (qlo_ne (lo_ne pa).1) (qhi_ne (lo_ne pa).2)
theorem quot_spk {w : Int} {a b : Sp} (hw : wd w = true) (ha : ok1 w a = true) (hb : ok1 w b = true) : spk w (quotS w a b) = true := by
  by_cases h : 0 < b.2.2.1
  · exact spk_of_ok1 (quot_ok ha hb h)
  · unfold quotS
    rw [if_pos (by omega), spk_spn, hw]
theorem negS_sp {w lo hi : Int} (h : pok w lo hi = true) : negS w (sp lo hi) = sp (-hi) (-lo) := by
  unfold negS
  rw [ok1_sp, if_pos h]; rfl
end Pm

/- What is reckoned of spans: the reference's. Seat ZD. -/
namespace Pm
open Go.Px Go.Px.Seat
noncomputable def du (w : Int) (u : Bool) (a : Lm) : Int := if u = true then up w a else dn w a
theorem stm4 (w a1 a2 b1 b2 : Int) : stm w (stm w (stm w (stm w spn a1 b1) a1 b2) a2 b1) a2 b2 =
    sp (min (min (du w false (Lm.mul (lim w a1) (lim w b1))) (du w false (Lm.mul (lim w a1) (lim w b2)))) (min (du w false (Lm.mul (lim w a2) (lim w b1))) (du w false (Lm.mul (lim w a2) (lim w b2)))))
      (max (max (du w true (Lm.mul (lim w a1) (lim w b1))) (du w true (Lm.mul (lim w a1) (lim w b2)))) (max (du w true (Lm.mul (lim w a2) (lim w b1))) (du w true (Lm.mul (lim w a2) (lim w b2))))) := by
  unfold stm stp du
  simp only [spn, sp, Bool.false_eq_true, if_false, if_true]
  congr 1
  congr 1
  · omega
  · congr 1
    omega
end Pm
namespace Go.Px.Seat
open Go Pm
set_option linter.unusedVariables false
variable {B : Run}
end Go.Px.Seat

/- What lies in spans; spans in spans. -/
namespace Pm
open Go.Px Go.Px.Seat
/-- a number in a span -/
def psI (w : Int) (s : Sp) (r : Rat) : Bool := s.1 && (pok w s.2.1 s.2.2.1 && inn w s.2.1 s.2.2.1 r)
def memS (w : Int) (s : Sp) (r : Rat) : Prop := ∃ lo hi, s = sp lo hi ∧ pok w lo hi = true ∧ lim w lo ≤ .num r ∧ .num r ≤ lim w hi
theorem memS_of {w lo hi : Int} {r : Rat} (hw : wd w = true) (h1 : rng w lo) (h2 : rng w hi) (h3 : lim w lo ≤ .num r) (h4 : .num r ≤ lim w hi) : memS w (sp lo hi) r := by
  refine ⟨lo, hi, rfl, pok_of hw h1 h2 ((lim_le hw h1 h2).1 (Lm.trans h3 h4)) ?_ ?_, h3, h4⟩
  · rcases lim_cases hw h1 with ⟨h, e⟩ | ⟨h, e⟩ | ⟨h, e⟩
    · have := top_pos hw; omega
    · rw [e] at h3; simp at h3
    · exact h.2.2
  · rcases lim_cases hw h2 with ⟨h, e⟩ | ⟨h, e⟩ | ⟨h, e⟩
    · rw [e] at h4; simp at h4
    · have := top_pos hw; omega
    · exact h.2.1
theorem memS.ok1 {w : Int} {s : Sp} {r : Rat} (h : memS w s r) : ok1 w s = true := by
  obtain ⟨lo, hi, rfl, h1, _⟩ := h
  rwa [ok1_sp]
theorem memS.wd {w : Int} {s : Sp} {r : Rat} (h : memS w s r) : wd w = true := by
  obtain ⟨lo, hi, rfl, h1, _⟩ := h
  exact (pok_rng h1).1
theorem addS_sp {w a1 a2 b1 b2 : Int} (pa : pok w a1 a2 = true) (pb : pok w b1 b2 = true) : addS w (sp a1 a2) (sp b1 b2) = sp (dn w (Lm.add (lim w a1) (lim w b1))) (up w (Lm.add (lim w a2) (lim w b2))) := by
  have : both w (sp a1 a2) (sp b1 b2) = true := by rw [both_ok1, ok1_sp, ok1_sp, pa, pb]; rfl
  unfold addS
  rw [if_pos this]; rfl
theorem mulS_sp {w a1 a2 b1 b2 : Int} (pa : pok w a1 a2 = true) (pb : pok w b1 b2 = true) : mulS w (sp a1 a2) (sp b1 b2) =
    sp (min (min (dn w (Lm.mul (lim w a1) (lim w b1))) (dn w (Lm.mul (lim w a1) (lim w b2)))) (min (dn w (Lm.mul (lim w a2) (lim w b1))) (dn w (Lm.mul (lim w a2) (lim w b2)))))
      (max (max (up w (Lm.mul (lim w a1) (lim w b1))) (up w (Lm.mul (lim w a1) (lim w b2)))) (max (up w (Lm.mul (lim w a2) (lim w b1))) (up w (Lm.mul (lim w a2) (lim w b2))))) := by
  have : both w (sp a1 a2) (sp b1 b2) = true := by rw [both_ok1, ok1_sp, ok1_sp, pa, pb]; rfl
  unfold mulS
  rw [if_pos this]
  exact stm4 w a1 a2 b1 b2
theorem min4_rng {w a b c d : Int} (ha : rng w a) (hb : rng w b) (hc : rng w c) (hd : rng w d) : rng w (min (min a b) (min c d)) ∧ rng w (max (max a b) (max c d)) := by
  unfold rng at *; omega
theorem memS_mul {w : Int} {a b : Sp} {f g : Rat} (h : memS w a f) (h' : memS w b g) : memS w (mulS w a b) (f * g) := by
  have hw := h.wd
  obtain ⟨a1, a2, rfl, pa, l1, l2⟩ := h
  obtain ⟨b1, b2, rfl, pb, m1, m2⟩ := h'
  rw [mulS_sp pa pb]
  have hd := fun x => dn_rng hw x
  have hu := fun x => up_rng hw x
  have hbox := Lm.mul_box l1 l2 m1 m2
  rw [show Lm.mul (.num f) (.num g) = .num (f * g) from rfl] at hbox
  have kd : ∀ x : Lm, ∀ m : Int, rng w m → m ≤ dn w x → x ≤ .num (f * g) → lim w m ≤ .num (f * g) := fun x m hm h1 h2 =>
    Lm.trans ((lim_le hw hm (hd x)).2 h1) (Lm.trans (lim_dn hw x) h2)
  have ku : ∀ x : Lm, ∀ m : Int, rng w m → up w x ≤ m → .num (f * g) ≤ x → .num (f * g) ≤ lim w m := fun x m hm h1 h2 =>
    Lm.trans h2 (Lm.trans (lim_up hw x) ((lim_le hw (hu x) hm).2 h1))
  refine memS_of hw (min4_rng (hd _) (hd _) (hd _) (hd _)).1 (min4_rng (hu _) (hu _) (hu _) (hu _)).2 ?_ ?_
  · have hm := (min4_rng (hd (Lm.mul (lim w a1) (lim w b1))) (hd (Lm.mul (lim w a1) (lim w b2))) (hd (Lm.mul (lim w a2) (lim w b1))) (hd (Lm.mul (lim w a2) (lim w b2)))).1
    rcases hbox.1 with q | q | q | q
    · exact kd _ _ hm (by omega) q
    · exact kd _ _ hm (by omega) q
    · exact kd _ _ hm (by omega) q
    · exact kd _ _ hm (by omega) q
  · have hm := (min4_rng (hu (Lm.mul (lim w a1) (lim w b1))) (hu (Lm.mul (lim w a1) (lim w b2))) (hu (Lm.mul (lim w a2) (lim w b1))) (hu (Lm.mul (lim w a2) (lim w b2)))).2
    rcases hbox.2 with q | q | q | q
    · exact ku _ _ hm (by omega) q
    · exact ku _ _ hm (by omega) q
    · exact ku _ _ hm (by omega) q
    · exact ku _ _ hm (by omega) q
theorem hullS_spn {w : Int} {a : Sp} (h : spk w a = true) (hw : wd w = true) : hullS w a spn = a := by
  unfold hullS
  rw [h, spk_spn, hw]
  simp only [Bool.and_self, if_true, spn, Bool.false_eq_true, if_false]
  by_cases h1 : a.1 = true
  · rw [if_pos h1]
  · rw [if_neg h1]
    obtain ⟨s, lo, hi, u⟩ := a
    simp only [Bool.not_eq_true] at h1
    subst h1
    simp [spk] at h
    rw [h.2.1, h.2.2]
theorem hullS_sp {w a1 a2 b1 b2 : Int} (pa : pok w a1 a2 = true) (pb : pok w b1 b2 = true) : hullS w (sp a1 a2) (sp b1 b2) = sp (min a1 b1) (max a2 b2) := by
  unfold hullS
  rw [spk_sp, spk_sp, pa, pb]; rfl
theorem spn_hullS {w : Int} {a : Sp} (h : spk w a = true) (hw : wd w = true) : hullS w spn a = a := by
  unfold hullS
  rw [h, spk_spn, hw]; rfl
theorem spk_cases {w : Int} {a : Sp} (h : spk w a = true) : a = spn ∨ ∃ lo hi, a = sp lo hi ∧ pok w lo hi = true := by
  obtain ⟨s, lo, hi, u⟩ := a
  cases s
  · simp [spk] at h
    left
    rw [h.2.1, h.2.2]; rfl
  · exact .inr ⟨lo, hi, rfl, h⟩
theorem quotS_sp (w a1 a2 b1 b2 : Int) : quotS w (sp a1 a2) (sp b1 b2) = if b2 ≤ 0 then spn else sp (dn w (qlo (lim w a1) (lim w b1) (lim w b2))) (up w (qhi (lim w a2) (lim w b1) (lim w b2))) := rfl
theorem parts_or (w : Int) (p q : Sp) : (parts w p q = (p, q) ∧ p.1 = true ∧ q.1 = true ∧ p.2.2.1 < q.2.1) ∨ (parts w p q = (q, p) ∧ p.1 = true ∧ q.1 = true ∧ q.2.2.1 < p.2.1) ∨ parts w p q = (hullS w p q, spn) := by
  unfold parts
  by_cases h : (p.1 && q.1 && decide (p.2.2.1 < q.2.1)) = true
  · rw [if_pos h]
    simp only [Bool.and_eq_true, decide_eq_true_iff] at h
    exact .inl ⟨rfl, h.1.1, h.1.2, h.2⟩
  · rw [if_neg h]
    by_cases h' : (p.1 && q.1 && decide (q.2.2.1 < p.2.1)) = true
    · rw [if_pos h']
      simp only [Bool.and_eq_true, decide_eq_true_iff] at h'
      exact .inr (.inl ⟨rfl, h'.1.1, h'.1.2, h'.2⟩)
    · rw [if_neg h']; exact .inr (.inr rfl)
theorem divTwoS_eq {w : Int} {a b : Sp} (h : both w a b = true) : divTwoS w a b = parts w (quotS w a b) (quotS w (negS w a) (negS w b)) := by
  unfold divTwoS
  rw [if_pos h]
theorem hull_comm {w : Int} {a b : Sp} (ha : spk w a = true) (hb : spk w b = true) (hw : wd w = true) : hullS w a b = hullS w b a := by
  rcases spk_cases ha with rfl | ⟨a1, a2, rfl, pa⟩
  · rw [spn_hullS hb hw, hullS_spn hb hw]
  rcases spk_cases hb with rfl | ⟨b1, b2, rfl, pb⟩
  · rw [hullS_spn ha hw, spn_hullS ha hw]
  rw [hullS_sp pa pb, hullS_sp pb pa]
  unfold sp
  congr 2
  · omega
  · congr 1; omega
theorem hull_spk {w : Int} {a b : Sp} (ha : spk w a = true) (hb : spk w b = true) (hw : wd w = true) : spk w (hullS w a b) = true := by
  rcases spk_cases ha with rfl | ⟨a1, a2, rfl, pa⟩
  · rwa [spn_hullS hb hw]
  rcases spk_cases hb with rfl | ⟨b1, b2, rfl, pb⟩
  · rwa [hullS_spn ha hw]
  rw [hullS_sp pa pb, spk_sp]
  obtain ⟨_, x1, x2, x3, x4, x5⟩ := pok_rng pa
  obtain ⟨_, y1, y2, y3, y4, y5⟩ := pok_rng pb
  exact pok_of hw (by unfold rng at *; omega) (by unfold rng at *; omega) (by omega) (by omega) (by omega)
theorem divS_eq {w : Int} {a b : Sp} (h : both w a b = true) : divS w a b = hullS w (quotS w a b) (quotS w (negS w a) (negS w b)) := by
  have h' := h
  rw [both_ok1, Bool.and_eq_true] at h'
  have hw : wd w = true := by
    obtain ⟨a1, a2, rfl, pa⟩ := ok1_iff.1 h'.1
    exact (pok_rng pa).1
  have hp := quot_spk hw h'.1 h'.2
  have hq := quot_spk hw (ok1_neg h'.1) (ok1_neg h'.2)
  unfold divS
  rw [divTwoS_eq h]
  rcases parts_or w (quotS w a b) (quotS w (negS w a) (negS w b)) with ⟨e, _⟩ | ⟨e, _⟩ | e <;> rw [e]
  · exact hull_comm hq hp hw
  · exact hullS_spn (hull_spk hp hq hw) hw
end Pm

/- Powers of spans: the program's. Seat ZD. -/
namespace Pm
open Go.Px Go.Px.Seat
def powL (a : Lm) (n : Nat) : Lm := if n = 0 then .num 1 else match a with
  | .num r => .num (r ^ n)
  | .pos => .pos
  | .neg => if n % 2 = 0 then .pos else .neg
theorem natAbs_pow' (a : Int) : ∀ n : Nat, (a ^ n).natAbs = a.natAbs ^ n
  | 0 => by simp
  | n + 1 => by rw [Int.pow_succ, Int.natAbs_mul, natAbs_pow' a n, Nat.pow_succ]
theorem int_pow_neg {a : Int} (h : a < 0) : ∀ n : Nat, decide (a ^ n < 0) = decide (n % 2 = 1) ∧ a ^ n ≠ 0
  | 0 => by simp
  | n + 1 => by
    obtain ⟨h1, h2⟩ := int_pow_neg h n
    rw [Int.pow_succ]
    refine ⟨?_, Int.mul_ne_zero h2 (by omega)⟩
    by_cases hn : n % 2 = 1
    · rw [decide_eq_true hn, decide_eq_true_iff] at h1
      have := Int.mul_pos_of_neg_of_neg h1 h
      rw [decide_eq_false (by omega), decide_eq_false (by omega)]
    · rw [decide_eq_false hn, decide_eq_false_iff_not] at h1
      have := Int.mul_neg_of_pos_of_neg (show 0 < a ^ n by omega) h
      rw [decide_eq_true this, decide_eq_true (by omega)]
theorem int_pow_nonneg {a : Int} (h : 0 ≤ a) (n : Nat) : 0 ≤ a ^ n := Int.pow_nonneg h
theorem fb_pow (r : Rat) (n : Nat) : fb (r ^ n) = (fb r && decide (n % 2 = 1)) := by
  unfold fb
  rw [Rat.num_pow]
  by_cases h : r.num < 0
  · rw [(int_pow_neg h n).1, decide_eq_true h, Bool.true_and]
  · have := int_pow_nonneg (show 0 ≤ r.num by omega) n
    rw [decide_eq_false h, decide_eq_false (by omega), Bool.false_and]
theorem ft_pow (r : Rat) (n : Nat) : ft (r ^ n) = dig (r.num.natAbs ^ n) := by unfold ft; rw [Rat.num_pow, natAbs_pow']
theorem fq_pow (r : Rat) (n : Nat) : fq (r ^ n) = dig (r.den ^ n) := by unfold fq; rw [Rat.den_pow]
theorem len_dig_pow {x k : Nat} (h : (dig x).length ≤ k) (hk : 1 ≤ k) : ∀ n : Nat, (dig (x ^ n)).length ≤ k * n + 1
  | 0 => by
    rw [Nat.pow_zero, ← one_dig]; simp
  | n + 1 => by
    have := len_dig_mul (x ^ n) x
    have ih := len_dig_pow h hk n
    rw [Nat.pow_succ, Nat.mul_succ]
    omega
theorem short_fv {w o : Int} (h : fin w o) : short 69 (fv w o) := by
  have hs := sz_lt w o
  have h1 := shf_sub h
  have h2 := lst_le w
  by_cases hc : lst w ≤ shf w o
  · rw [fv_big (show shf w o = lst w + (shf w o - lst w) by omega)]
    refine mk_short (by decide) ?_ (by rw [← one_dig]; decide)
    rw [sg_natAbs]
    have l1 : (dig (sz w o)).length ≤ 4 := dig_len_le.2 (Nat.lt_of_lt_of_le hs (by decide))
    have l2 := dig_len_pow (shf w o - lst w)
    have l3 := len_dig_mul (sz w o) (2 ^ (shf w o - lst w))
    omega
  · rw [fv_small (show lst w = shf w o + (lst w - shf w o) by omega)]
    refine mk_short (pow2_ne _) ?_ ?_
    · rw [sg_natAbs]
      have l1 : (dig (sz w o)).length ≤ 4 := dig_len_le.2 (Nat.lt_of_lt_of_le hs (by decide))
      omega
    · have l2 := dig_len_pow (lst w - shf w o)
      omega
theorem short_pow {r : Rat} {k : Nat} (h : short k r) (hk : 1 ≤ k) (n : Nat) : short (k * n + 1) (r ^ n) := by
  obtain ⟨h1, h2⟩ := h
  refine ⟨?_, ?_⟩
  · rw [ft_pow]; exact len_dig_pow h1 hk n
  · rw [fq_pow]; exact len_dig_pow h2 hk n
theorem shL_pow {w o : Int} (hw : wd w = true) (ho : rng w o) {n : Nat} (hn : n ≤ 8) : shL 1024 (powL (lim w o) n) := by
  unfold powL
  split
  · exact ⟨by
      show (dig 1).length ≤ _
      rw [← one_dig]; decide, by
      show (dig 1).length ≤ _
      rw [← one_dig]; decide⟩
  · rcases lim_cases hw ho with ⟨h, e⟩ | ⟨h, e⟩ | ⟨h, e⟩ <;> rw [e]
    · show shL 1024 (if n % 2 = 0 then .pos else .neg)
      split <;> trivial
    · trivial
    · have hn8 : 69 * n + 1 ≤ 1024 := by omega
      exact short_mono (short_pow (short_fv h) (by omega) n) hn8
open Classical in
noncomputable def powS (w : Int) (a : Sp) (n : Int) : Sp := if ok1 w a = true ∧ 0 ≤ n ∧ n ≤ 8 then
    sp (dn w (powL (lim w (if n % 2 = 0 then absS w a else a).2.1) n.toNat)) (up w (powL (lim w (if n % 2 = 0 then absS w a else a).2.2.1) n.toNat)) else spn
theorem absS_sp {w a1 a2 : Int} (h : pok w a1 a2 = true) : absS w (sp a1 a2) = sp (max (max 0 a1) (-a2)) (max (a1.natAbs : Int) (a2.natAbs : Int)) := by
  unfold absS
  rw [if_pos (by rwa [ok1_sp])]; rfl
theorem abs_pok {w a1 a2 : Int} (h : pok w a1 a2 = true) : pok w (max (max 0 a1) (-a2)) (max (a1.natAbs : Int) (a2.natAbs : Int)) = true ∧ 0 ≤ max (max 0 a1) (-a2) := by
  obtain ⟨hw, r1, r2, r3, r4, r5⟩ := pok_rng h
  have ht := top_pos hw
  unfold rng at *
  exact ⟨pok_of hw (by unfold rng; omega) (by unfold rng; omega) (by omega) (by omega) (by omega), by omega⟩
end Pm
namespace Go.Px.Seat
open Go Pm
set_option linter.unusedVariables false
variable {B : Run}
theorem k_natPow : Ev fun n => ∀ x m k : Nat, (dig x).length ≤ k → 1 ≤ k → k * m + 1 ≤ 1024 → c_i_natPow ((C B).run n) (dig x) (m : Int) = some (dig (x ^ m), ()) := by
  refine (k_natMul (B := B)).succ fun n hn hM x m k hx hk hm => ?_
  rw [run_succ, e_i_natPow]
  unfold p_i_natPow
  have hm2 : m ≤ 1024 := by
    have : 1 * m ≤ k * m := Nat.mul_le_mul_right m hk
    omega
  refine (jb_of (p := (((dig (x ^ m)), ((), ())), ())) ?_ _).trans rfl
  refine iter_const (fun st => ∃ i : Nat, i ≤ m ∧ st = (((i : Int), ((m : Int), (dig (x ^ i), (dig x, ((), ()))))), ())) (fun st => (m - st.1.1).toNat) _ ?_ n _ (by simp only; omega) ⟨0, Nat.zero_le _, by rw [Nat.pow_zero, ← one_dig]; rfl⟩
  rintro rec _ ⟨i, hi, rfl⟩ ih
  simp only [ilt_iff, len_eq]
  by_cases h : i < m
  · have hi1 : k * i + 1 ≤ 1024 := by
      have : k * i ≤ k * m := Nat.mul_le_mul_left k hi
      omega
    have l1 := len_dig_pow hx hk i
    have l2 := len_dig_pow hx hk (i + 1)
    have l3 : k * (i + 1) + 1 ≤ 1024 := by
      have : k * (i + 1) ≤ k * m := Nat.mul_le_mul_left k h
      omega
    have hkk : k ≤ 1024 := by
      have : k * 1 ≤ k * m := Nat.mul_le_mul_left k (by omega)
      omega
    rw [decide_eq_true (by omega), cond_true, hM _ _ (by omega) (by omega)]
    simp only [Option.bind_some]
    rw [show x ^ i * x = x ^ (i + 1) from (Nat.pow_succ ..).symm, decide_eq_false (by omega), cond_false, iadd_eq (by omega) (by omega)]
    exact ih _ ⟨i + 1, h, rfl⟩ (by simp only; omega)
  · have : i = m := by omega
    subst this
    rw [decide_eq_false (by omega), cond_false]
theorem k_Fpow : Ev fun n => ∀ (r : Rat) (m k : Nat), short k r → 1 ≤ k → k * m + 1 ≤ 1024 → c_i_Frac_pow ((C B).run n) (fb r) (ft r) (fq r) (m : Int) = some (outF (r ^ m)) := by
  refine (k_natPow (B := B)).succ fun n hn hP r m k hr hk hm => ?_
  rw [run_succ, e_i_Frac_pow]
  unfold p_i_Frac_pow outF
  rw [fb_pow, ft_pow, fq_pow]
  obtain ⟨r1, r2⟩ := hr
  simp only [ft, fq] at r1 r2 ⊢
  have h1 := hP r.num.natAbs m k r1 hk hm
  have h2 := hP r.den m k r2 hk hm
  have e : (irem .i64 (m : Int) 2 == 1) = decide (m % 2 = 1) := by
    rw [irem_eq (by omega)]
    by_cases h : m % 2 = 1
    · rw [decide_eq_true h]; simp; omega
    · rw [decide_eq_false h]; exact beq_f (by omega)
  cases hb : fb r
  · simp only [cond_false, Bool.false_and]
    rw [h1, h2]
    rfl
  · simp only [cond_true, Bool.true_and]
    rw [h1, h2, e]
    rfl
theorem k_power : Ev fun n => ∀ (w o : Int) (m : Nat), wd w = true → rng w o → m ≤ 8 → c_i_power ((C B0).run n) w o (m : Int) = some (dn w (powL (lim w o) m), (up w (powL (lim w o) m), ())) := by
  refine (k_limL.and ((k_whole (B := B0)).and (k_around.and ((k_Fpow (B := B0)).and k_floatsL)))).succ fun n hn ⟨hL, hW, hA, hP, hFl⟩ w o m hw ho hm => ?_
  rw [run_succ, e_i_power]
  unfold p_i_power
  rw [hL w o hw ho]
  simp only [Option.bind_some, outL]
  have hsh := shL_pow hw ho hm
  by_cases h0 : m = 0
  · subst h0
    have e1 : (1 : Rat) = mkRat (sg false 1) 1 := by decide +kernel
    rw [show (((0 : Nat) : Int) == 0) = true from rfl, cond_true, one_dig, hW]
    simp only [Option.bind_some, outF]
    rw [← e1]
    obtain ⟨d, u, g1, g2, g3⟩ := hA w 1 hw hsh
    rw [g1]
    simp only [Option.bind_some, jb_inl]
    have : powL (lim w o) 0 = .num 1 := rfl
    rw [this, dn_num g2, up_num g3]
  rw [beq_f (by omega), cond_false]
  have hfl := hFl w _ hw hsh
  have e2 : (irem .i64 (m : Int) 2 == 0) = decide (m % 2 = 0) := by
    rw [irem_eq (by omega)]
    by_cases h : m % 2 = 0
    · rw [decide_eq_true h]; simp; omega
    · rw [decide_eq_false h]; exact beq_f (by omega)
  rcases lim_cases hw ho with ⟨h, e⟩ | ⟨h, e⟩ | ⟨h, e⟩ <;> rw [e] at hfl ⊢
  · simp only [li, ilt_iff, show decide ((-1 : Int) < 0) = true from rfl, cond_true, jb_inr, e2]
    unfold powL at hfl ⊢
    rw [if_neg h0] at hfl ⊢
    by_cases hp : m % 2 = 0
    · simp only [hp, decide_true, cond_true, jb_inr, if_true] at hfl ⊢
      simp only [li, lb, lu, lv] at hfl ⊢
      rw [hfl]
      rfl
    · simp only [hp, decide_false, cond_false, jb_inr, if_false, show ((-1 : Int) == 0) = false from rfl] at hfl ⊢
      simp only [li, lb, lu, lv] at hfl ⊢
      rw [hfl]
      rfl
  · simp only [li, ilt_iff, show decide ((1 : Int) < 0) = false from rfl, cond_false, jb_inr, show ((1 : Int) == 0) = false from rfl]
    unfold powL at hfl ⊢
    rw [if_neg h0] at hfl ⊢
    simp only [li, lb, lu, lv] at hfl ⊢
    rw [hfl]
    rfl
  · simp only [li, lb, lu, lv, ilt_iff, show decide ((0 : Int) < 0) = false from rfl, cond_false, jb_inr, show ((0 : Int) == 0) = true from rfl, cond_true]
    unfold powL at hfl ⊢
    rw [if_neg h0] at hfl ⊢
    simp only [li, lb, lu, lv] at hfl ⊢
    rw [hP (fv w o) m 69 (short_fv h) (by omega) (by omega)]
    simp only [Option.bind_some, outF, jb_inr]
    rw [hfl]
    rfl
theorem k_powS : Ev fun n => ∀ (w : Int) (a : Sp) (m : Int), -9223372036854775808 ≤ m → c_i_SpanPow ((C B0).run n) w a.1 a.2.1 a.2.2.1 m = some (powS w a m) := by
  refine ((k_full (B := B0)).and ((k_in (B := B0)).and (k_AbsS.and (k_power.and (k_some (B := B0)))))).succ fun n hn ⟨hF, hI, hA, hP, hSo⟩ w a m hm0 => ?_
  rw [run_succ, e_i_SpanPow]
  unfold p_i_SpanPow powS
  have e2 : [(a.1, (a.2.1, (a.2.2.1, ())))] = [a] := rfl
  rw [e2, hF _ _ (by simp), full1]
  simp only [Option.bind_some]
  cases h : ok1 w a
  · rw [if_neg (by simp)]; rfl
  simp only [Bool.not_true, cond_false]
  rw [hI]
  simp only [Option.bind_some, jb_inr]
  by_cases hm : 0 ≤ m ∧ m ≤ 8
  rotate_left
  · rw [decide_eq_false hm, if_neg (fun h => hm h.2)]; rfl
  rw [decide_eq_true hm, if_pos ⟨trivial, hm⟩]
  simp only [Bool.not_true, cond_false]
  obtain ⟨k, rfl⟩ : ∃ k : Nat, m = (k : Int) := ⟨m.toNat, by omega⟩
  have e3 : (irem .i64 (k : Int) 2 == 0) = decide ((k : Int) % 2 = 0) := by
    rw [irem_eq (by omega)]
    by_cases h : (k : Int) % 2 = 0
    · rw [decide_eq_true h, h]; rfl
    · rw [decide_eq_false h]; exact beq_f h
  rw [e3, Int.toNat_natCast]
  obtain ⟨a1, a2, rfl, pa⟩ := ok1_iff.1 h
  obtain ⟨hw, r1, r2, _⟩ := pok_rng pa
  by_cases hp : (k : Int) % 2 = 0
  · simp only [hp, decide_true, cond_true, if_true]
    rw [hA w (sp a1 a2), absS_sp pa]
    obtain ⟨_, s1, s2, _⟩ := pok_rng (abs_pok pa).1
    simp only [Option.bind_some, jb_inr, sp]
    rw [hP w _ k hw s1 (by omega), hP w _ k hw s2 (by omega)]
    simp only [Option.bind_some]
    rw [hSo]
    rfl
  · simp only [hp, decide_false, cond_false, if_false, jb_inr, sp]
    rw [hP w _ k hw r1 (by omega), hP w _ k hw r2 (by omega)]
    simp only [Option.bind_some]
    rw [hSo]
    rfl
end Go.Px.Seat

/- Roots of floats: the program's. Seat ZD. -/
namespace Pm
open Go.Px Go.Px.Seat
theorem rat_pow_le {x y : Rat} (hx : 0 ≤ x) (h : x ≤ y) : ∀ n : Nat, x ^ n ≤ y ^ n
  | 0 => by rw [Rat.pow_zero, Rat.pow_zero]; exact Rat.le_refl
  | n + 1 => by
    rw [Rat.pow_succ, Rat.pow_succ]
    have hy : 0 ≤ y := Rat.le_trans hx h
    have h1 := rat_pow_le hx h n
    have h2 : 0 ≤ y ^ n := Rat.pow_nonneg hy
    exact Rat.le_trans (Rat.mul_le_mul_of_nonneg_right h1 hx) (Rat.mul_le_mul_of_nonneg_left h h2)
theorem rat_pow_lt {x y : Rat} (hx : 0 ≤ x) (h : x < y) : ∀ n : Nat, n ≠ 0 → x ^ n < y ^ n
  | 0, h0 => absurd rfl h0
  | n + 1, _ => by
    rw [Rat.pow_succ, Rat.pow_succ]
    have hy : 0 < y := by grind
    have h1 := rat_pow_le hx (Rat.le_of_lt h) n
    have h2 : 0 < y ^ n := Rat.pow_pos hy
    have h3 := Rat.mul_le_mul_of_nonneg_right h1 hx
    have h4 := Rat.mul_lt_mul_of_pos_left h h2
    grind
theorem rat_pow_le_iff {x y : Rat} (hx : 0 ≤ x) (hy : 0 ≤ y) {n : Nat} (hn : n ≠ 0) : x ^ n ≤ y ^ n ↔ x ≤ y := by
  constructor
  · intro h
    refine Rat.not_lt.1 fun h' => ?_
    exact absurd h (Rat.not_le.2 (rat_pow_lt hy h' n hn))
  · exact fun h => rat_pow_le hx h n
theorem fv_nonneg {w o : Int} (h : 0 ≤ o) : 0 ≤ fv w o := by
  rw [← fv_zero' (w := w)]; exact fv_le.2 h
theorem fv_pos {w o : Int} (h : 0 < o) : 0 < fv w o := by
  rw [← fv_zero' (w := w)]; exact fv_lt.2 h
theorem zero_pow' {n : Nat} (hn : n ≠ 0) : (0 : Rat) ^ n = 0 := by
  obtain ⟨m, rfl⟩ : ∃ m, n = m + 1 := ⟨n - 1, by omega⟩
  rw [Rat.pow_succ, Rat.mul_zero]
/-- the greatest float whose power is not above -/
def IsRt (w a : Int) (n : Nat) (d : Int) : Prop := 0 ≤ d ∧ d < top w ∧ fv w d ^ n ≤ fv w a ∧ (d = top w - 1 ∨ fv w a < fv w (d + 1) ^ n)
theorem IsRt.le {w a : Int} {n : Nat} {d : Int} (h : IsRt w a n d) (hn : n ≠ 0) {o : Int} (h0 : 0 ≤ o) (h1 : o < top w) : o ≤ d ↔ fv w o ^ n ≤ fv w a := by
  obtain ⟨a1, a2, a3, a4⟩ := h
  constructor
  · intro hod
    exact Rat.le_trans (rat_pow_le (fv_nonneg h0) (fv_le.2 hod) n) a3
  · intro ho
    rcases a4 with h | h
    · omega
    · refine Int.not_lt.1 fun h' => ?_
      have := rat_pow_le (fv_nonneg (w := w) (show 0 ≤ d + 1 by omega)) (fv_le.2 (show d + 1 ≤ o by omega)) n
      exact absurd (Rat.le_trans this ho) (Rat.not_le.2 h)
theorem IsRt.unique {w a : Int} {n : Nat} {d e : Int} (hn : n ≠ 0) (h : IsRt w a n d) (h' : IsRt w a n e) : d = e := by
  have h1 := (h.le hn h'.1 h'.2.1).2 h'.2.2.1
  have h2 := (h'.le hn h.1 h.2.1).2 h.2.2.1
  omega
open Classical in
noncomputable def rt (w a : Int) (n : Nat) : Int := if h : ∃ d, IsRt w a n d then choose h else 0
theorem rt_of {w a : Int} {n : Nat} {d : Int} (hn : n ≠ 0) (h : IsRt w a n d) : rt w a n = d := by
  unfold rt
  rw [dif_pos ⟨d, h⟩]
  exact IsRt.unique hn (Classical.choose_spec (⟨d, h⟩ : ∃ d, IsRt w a n d)) h
theorem rt_ex {w a : Int} {n : Nat} (hw : wd w = true) (hn : n ≠ 0) (ha : 0 ≤ a) : ∃ d, IsRt w a n d := by
  have ht := top_pos hw
  have key : ∀ k : Nat, (k : Int) < top w → ∃ d : Int, 0 ≤ d ∧ d ≤ (k : Int) ∧ fv w d ^ n ≤ fv w a ∧ (d = (k : Int) ∨ fv w a < fv w (d + 1) ^ n) := by
    intro k
    induction k with
    | zero => intro _; exact ⟨0, by omega, by omega, by rw [fv_zero', zero_pow' hn]; exact fv_nonneg ha, .inl rfl⟩
    | succ k ih =>
      intro hk
      obtain ⟨d, h1, h2, h3, h4⟩ := ih (by omega)
      rcases h4 with h4 | h4
      · by_cases h : fv w (d + 1) ^ n ≤ fv w a
        · exact ⟨d + 1, by omega, by omega, h, .inl (by omega)⟩
        · exact ⟨d, h1, by omega, h3, .inr (Rat.not_le.1 h)⟩
      · exact ⟨d, h1, by omega, h3, .inr h4⟩
  obtain ⟨d, h1, h2, h3, h4⟩ := key (top w - 1).toNat (by omega)
  exact ⟨d, h1, by omega, h3, h4.elim (fun h => .inl (by omega)) .inr⟩
theorem rt_spec {w a : Int} {n : Nat} (hw : wd w = true) (hn : n ≠ 0) (ha : 0 ≤ a) : IsRt w a n (rt w a n) := by
  obtain ⟨d, h⟩ := rt_ex hw hn ha
  rw [rt_of hn h]; exact h
/-- down and up, of what is from 0 on -/
noncomputable def rdn0 (w a : Int) (n : Nat) : Int := if a = top w then top w else rt w a n
open Classical in
noncomputable def rup0 (w a : Int) (n : Nat) : Int := if a = top w then top w else if fv w (rt w a n) ^ n = fv w a then rt w a n else rt w a n + 1
noncomputable def rdn (w a : Int) (n : Nat) : Int := if a < 0 then -rup0 w (-a) n else rdn0 w a n
noncomputable def rup (w a : Int) (n : Nat) : Int := if a < 0 then -rdn0 w (-a) n else rup0 w a n
theorem powL_num {r : Rat} {n : Nat} (hn : n ≠ 0) : powL (.num r) n = .num (r ^ n) := by unfold powL; rw [if_neg hn]
theorem powL_pos {n : Nat} (hn : n ≠ 0) : powL .pos n = .pos := by unfold powL; rw [if_neg hn]
theorem rdn0_rng {w a : Int} {n : Nat} (hw : wd w = true) (hn : n ≠ 0) (ha : 0 ≤ a) : 0 ≤ rdn0 w a n ∧ rdn0 w a n ≤ top w := by
  have ht := top_pos hw
  have h := rt_spec hw hn ha
  unfold rdn0
  split
  · omega
  · exact ⟨h.1, by have := h.2.1; omega⟩
theorem rup0_rng {w a : Int} {n : Nat} (hw : wd w = true) (hn : n ≠ 0) (ha : 0 ≤ a) : 0 ≤ rup0 w a n ∧ rup0 w a n ≤ top w := by
  have ht := top_pos hw
  have h := rt_spec hw hn ha
  have h1 := h.1
  have h2 := h.2.1
  unfold rup0
  split
  · omega
  · split <;> omega
theorem le_rdn0 {w a o : Int} {n : Nat} (hw : wd w = true) (hn : n ≠ 0) (ha : 0 ≤ a) (ha' : a ≤ top w) (ho : 0 ≤ o) (ho' : o ≤ top w) : o ≤ rdn0 w a n ↔ powL (lim w o) n ≤ lim w a := by
  have ht := top_pos hw
  have h := rt_spec hw hn ha
  unfold rdn0
  by_cases hat : a = top w
  · rw [if_pos hat, hat, lim_top]; simp; omega
  · rw [if_neg hat, lim_num (o := a) ⟨hw, by omega, by omega⟩]
    by_cases hot : o = top w
    · rw [hot, lim_top, powL_pos hn]; simp; exact h.2.1
    · rw [lim_num (o := o) ⟨hw, by omega, by omega⟩, powL_num hn, h.le hn ho (by omega)]; rfl
theorem rup0_le {w a o : Int} {n : Nat} (hw : wd w = true) (hn : n ≠ 0) (ha : 0 ≤ a) (ha' : a ≤ top w) (ho : 0 ≤ o) (ho' : o ≤ top w) : rup0 w a n ≤ o ↔ lim w a ≤ powL (lim w o) n := by
  have ht := top_pos hw
  have h := rt_spec hw hn ha
  unfold rup0
  by_cases hat : a = top w
  · rw [if_pos hat, hat, lim_top]
    by_cases hot : o = top w
    · rw [hot, lim_top, powL_pos hn]; simp
    · rw [lim_num (o := o) ⟨hw, by omega, by omega⟩, powL_num hn]; simp; omega
  · rw [if_neg hat, lim_num (o := a) ⟨hw, by omega, by omega⟩]
    by_cases hot : o = top w
    · rw [hot, lim_top, powL_pos hn]
      have := h.2.1
      simp
      split <;> omega
    · rw [lim_num (o := o) ⟨hw, by omega, by omega⟩, powL_num hn, Lm.num_le]
      have hle := h.le hn ho (show o < top w by omega)
      generalize rt w a n = d at h hle ⊢
      by_cases he : fv w d ^ n = fv w a
      · rw [if_pos he, ← he, rat_pow_le_iff (fv_nonneg h.1) (fv_nonneg ho) hn, fv_le]
      · rw [if_neg he]
        have h1 : fv w d ^ n ≤ fv w a := h.2.2.1
        constructor
        · intro h'
          have : ¬ fv w o ^ n ≤ fv w a := fun hh => by have := hle.2 hh; omega
          exact Rat.le_of_lt (Rat.not_le.1 this)
        · intro h'
          refine Int.not_lt.1 fun hh => ?_
          have hod : o ≤ d := by omega
          have h2 := hle.1 hod
          have h3 : fv w o ^ n = fv w a := Rat.le_antisymm h2 h'
          have h4 := rat_pow_le (fv_nonneg (w := w) ho) (fv_le.2 hod) n
          rw [h3] at h4
          exact he (Rat.le_antisymm h1 h4)
noncomputable def rootS (w : Int) (a : Sp) : Sp := if (meet w a (sp 0 (top w))).1 = true then sp (rdn0 w (meet w a (sp 0 (top w))).2.1 2) (rup0 w (meet w a (sp 0 (top w))).2.2.1 2) else spn
/-! ### a power by its length -/
theorem pow_bl {x : Nat} (hx : x ≠ 0) (n : Nat) : 2 ^ ((bl x - 1) * n) ≤ x ^ n ∧ x ^ n ≤ 2 ^ (bl x * n) := by
  rw [Nat.pow_mul, Nat.pow_mul]
  exact ⟨Nat.pow_le_pow_left (bl_ge hx) n, Nat.pow_le_pow_left (Nat.le_of_lt (bl_lt x)) n⟩
theorem fv_pow {w o : Int} (h : 0 ≤ o) (n : Nat) : fv w o ^ n = mkRat (((sz w o * 2 ^ shf w o) ^ n : Nat) : Int) ((2 ^ lst w) ^ n) := by
  have e : fv w o = mkRat ((sz w o * 2 ^ shf w o : Nat) : Int) (2 ^ lst w) := by
    rw [fv, fI_sg, decide_eq_false (by omega)]; rfl
  rw [e]
  induction n with
  | zero => rw [Rat.pow_zero, Nat.pow_zero, Nat.pow_zero]; decide +kernel
  | succ n ih =>
    rw [Rat.pow_succ, ih, Rat.mkRat_mul_mkRat, Nat.pow_succ, Nat.pow_succ]
    rw [Int.natCast_mul ((sz w o * 2 ^ shf w o) ^ n)]
theorem cmp_pow {w o : Int} {T D : Nat} (h : 0 ≤ o) (n : Nat) (hD : D ≠ 0) : mkRat (T : Int) D < fv w o ^ n ↔ T * (2 ^ lst w) ^ n < (sz w o * 2 ^ shf w o) ^ n * D := by
  rw [fv_pow h, mk_lt2 hD (Nat.ne_of_gt (Nat.pow_pos (Nat.pow_pos (by decide)))), ← Int.natCast_mul, ← Int.natCast_mul, Int.ofNat_lt]
theorem sz_pos {w o : Int} (h : 0 < o) : sz w o ≠ 0 := by
  intro h0
  have : fv w o = 0 := by rw [fv, fI_sg, h0]; cases decide (o < 0) <;> simp [sg, Rat.zero_mkRat]
  have h2 := fv_pos (w := w) h
  rw [this] at h2
  exact absurd h2 (by decide)
theorem above_yes {w o : Int} {T D n : Nat} (h : 0 < o) (hT : T ≠ 0) (hD : D ≠ 0) (hl : (n : Int) * ((bl (sz w o) : Int) - 1 + (-(lst w : Int) + shf w o)) > (bl T : Int) - bl D + 1) : mkRat (T : Int) D < fv w o ^ n := by
  rw [cmp_pow (by omega) n hD]
  have hs := sz_pos (w := w) h
  have hb := bl_pos hs
  have h1 := (pow_bl hs n).1
  have h2 := bl_lt T
  have h3 := bl_ge hD
  have hbD := bl_pos hD
  rw [Nat.mul_pow, ← Nat.pow_mul, ← Nat.pow_mul]
  have e : (n : Int) * ((bl (sz w o) : Int) - 1 + (-(lst w : Int) + shf w o)) = (((bl (sz w o) - 1) * n : Nat) : Int) + ((shf w o * n : Nat) : Int) - ((lst w * n : Nat) : Int) := by
    rw [show ((bl (sz w o) : Int) - 1) = ((bl (sz w o) - 1 : Nat) : Int) by omega, Int.mul_add, Int.mul_add, Int.mul_neg]
    simp only [Int.natCast_mul]
    rw [Int.mul_comm (n : Int), Int.mul_comm (n : Int), Int.mul_comm (n : Int)]
    omega
  rw [e] at hl
  generalize (bl (sz w o) - 1) * n = A at h1 hl
  generalize shf w o * n = Bq at hl ⊢
  generalize lst w * n = Cq at hl ⊢
  have k1 : T * 2 ^ Cq < 2 ^ (bl T + Cq) := by
    rw [Nat.pow_add]; exact Nat.mul_lt_mul_of_pos_right h2 (Nat.pow_pos (by decide))
  have k2 : 2 ^ (A + Bq + (bl D - 1)) ≤ sz w o ^ n * 2 ^ Bq * D := by
    rw [Nat.pow_add, Nat.pow_add]
    exact Nat.mul_le_mul (Nat.mul_le_mul_right _ h1) h3
  have k3 : 2 ^ (bl T + Cq) ≤ 2 ^ (A + Bq + (bl D - 1)) := Nat.pow_le_pow_right (by decide) (by omega)
  omega
theorem above_no {w o : Int} {T D n : Nat} (h : 0 < o) (hT : T ≠ 0) (hD : D ≠ 0) (hl : (n : Int) * ((bl (sz w o) : Int) - 1 + (-(lst w : Int) + shf w o)) + n < (bl T : Int) - bl D - 1) : ¬ mkRat (T : Int) D < fv w o ^ n := by
  rw [cmp_pow (by omega) n hD]
  have hs := sz_pos (w := w) h
  have hb := bl_pos hs
  have h1 := (pow_bl hs n).2
  have h2 := bl_ge hT
  have h3 := bl_lt D
  have hbT := bl_pos hT
  rw [Nat.mul_pow, ← Nat.pow_mul, ← Nat.pow_mul]
  have e : (n : Int) * ((bl (sz w o) : Int) - 1 + (-(lst w : Int) + shf w o)) + n = ((bl (sz w o) * n : Nat) : Int) + ((shf w o * n : Nat) : Int) - ((lst w * n : Nat) : Int) := by
    rw [Int.mul_add, Int.mul_add, Int.mul_neg, Int.mul_sub]
    simp only [Int.natCast_mul]
    rw [Int.mul_comm (n : Int), Int.mul_comm (n : Int) (lst w : Int), Int.mul_comm (n : Int) (shf w o : Int)]
    omega
  rw [e] at hl
  generalize bl (sz w o) * n = A at h1 hl
  generalize shf w o * n = Bq at hl ⊢
  generalize lst w * n = Cq at hl ⊢
  have k1 : 2 ^ (bl T - 1 + Cq) ≤ T * 2 ^ Cq := by
    rw [Nat.pow_add]; exact Nat.mul_le_mul_right _ h2
  have k2 : sz w o ^ n * 2 ^ Bq * D ≤ 2 ^ (A + Bq + bl D) := by
    rw [Nat.pow_add, Nat.pow_add]
    exact Nat.mul_le_mul (Nat.mul_le_mul_right _ h1) (Nat.le_of_lt h3)
  have k3 : 2 ^ (A + Bq + bl D) ≤ 2 ^ (bl T - 1 + Cq) := Nat.pow_le_pow_right (by decide) (by omega)
  omega
end Pm
namespace Go.Px.Seat
open Go Pm
set_option linter.unusedVariables false
variable {B : Run}
theorem k_cmpS : Ev fun n => ∀ r s : Rat, short 1048576 r → short 1048576 s → c_i_Frac_cmp ((C B).run n) (fb r) (ft r) (fq r) (fb s) (ft s) (fq s) = some (cmpR r s, ()) := by
  refine ((k_sign (B := B)).and ((k_natMul (B := B)).and (k_natCmp (B := B)))).succ fun n hn ⟨hSign, hMul, hCmp⟩ r s hr hs => ?_
  rw [run_succ, e_i_Frac_cmp]
  unfold p_i_Frac_cmp
  obtain ⟨r1, r2⟩ := hr
  obtain ⟨s1, s2⟩ := hs
  rw [hSign, hSign]
  simp only [Option.bind_some]
  have b1 : -1 ≤ sgnR r ∧ sgnR r ≤ 1 := by unfold sgnR; split <;> (try split) <;> omega
  have b2 : -1 ≤ sgnR s ∧ sgnR s ≤ 1 := by unfold sgnR; split <;> (try split) <;> omega
  by_cases hne : sgnR r = sgnR s
  · have h1 : (sgnR r != sgnR s) = false := by simp [hne]
    simp only [h1, cond_false]
    have l1 : (dig (r.num.natAbs * s.den)).length ≤ 2097152 := by
      have := len_dig_mul r.num.natAbs s.den
      simp only [ft, fq] at r1 r2 s1 s2
      omega
    have l2 : (dig (s.num.natAbs * r.den)).length ≤ 2097152 := by
      have := len_dig_mul s.num.natAbs r.den
      simp only [ft, fq] at r1 r2 s1 s2
      omega
    simp only [ft, fq] at r1 r2 s1 s2 ⊢
    rw [hMul _ _ (by omega) (by omega)]
    simp only [Option.bind_some]
    rw [hMul _ _ (by omega) (by omega)]
    simp only [Option.bind_some]
    rw [hCmp _ _ (by omega) (by omega)]
    simp only [Option.bind_some]
    rw [cmpR_num, fb]
    have hsn : (r.num < 0 ∧ s.num < 0) ∨ (0 ≤ r.num ∧ 0 ≤ s.num) := by
      have e1 := fb_iff r
      have e2 := fb_iff s
      unfold fb at e1 e2
      have e1' : r.num < 0 ↔ r < 0 := by simpa using e1
      have e2' : s.num < 0 ↔ s < 0 := by simpa using e2
      unfold sgnR at hne
      by_cases h1 : r < 0 <;> by_cases h2 : s < 0
      · exact .inl ⟨e1'.2 h1, e2'.2 h2⟩
      · rw [if_pos h1, if_neg h2] at hne
        split at hne <;> omega
      · rw [if_neg h1, if_pos h2] at hne
        split at hne <;> omega
      · have := mt e1'.1 h1
        have := mt e2'.1 h2
        exact .inr ⟨by omega, by omega⟩
    rcases hsn with ⟨h2, h3⟩ | ⟨h2, h3⟩
    · have e1 : r.num * s.den = -((r.num.natAbs * s.den : Nat) : Int) := by rw [Int.natCast_mul, Int.ofNat_natAbs_of_nonpos (by omega), Int.neg_mul, Int.neg_neg]
      have e2 : s.num * r.den = -((s.num.natAbs * r.den : Nat) : Int) := by rw [Int.natCast_mul, Int.ofNat_natAbs_of_nonpos (by omega), Int.neg_mul, Int.neg_neg]
      rw [e1, e2]
      generalize r.num.natAbs * s.den = X at *
      generalize s.num.natAbs * r.den = Z at *
      simp only [h2, decide_true, cond_true]
      congr 2
      unfold cmp3
      rw [ineg_eq (by split <;> (try split) <;> omega) (by split <;> (try split) <;> omega)]
      rcases Nat.lt_trichotomy X Z with h | h | h
      · rw [if_pos h, if_neg (by omega), if_pos (by omega)]; rfl
      · subst h; simp
      · rw [if_neg (by omega), if_pos h, if_pos (by omega)]
    · have e1 : r.num * s.den = ((r.num.natAbs * s.den : Nat) : Int) := by rw [Int.natCast_mul, Int.natAbs_of_nonneg h2]
      have e2 : s.num * r.den = ((s.num.natAbs * r.den : Nat) : Int) := by rw [Int.natCast_mul, Int.natAbs_of_nonneg h3]
      rw [e1, e2]
      generalize r.num.natAbs * s.den = X at *
      generalize s.num.natAbs * r.den = Z at *
      simp only [show ¬ r.num < 0 by omega, decide_false, cond_false]
      congr 2
      unfold cmp3
      rcases Nat.lt_trichotomy X Z with h | h | h
      · rw [if_pos h, if_pos (by omega)]
      · subst h; simp
      · rw [if_neg (by omega), if_pos h, if_neg (by omega), if_pos (by omega)]
  · have h1 : (sgnR r != sgnR s) = true := by simpa using hne
    simp only [h1, cond_true]
    rw [isub_eq (by omega) (by omega)]
    congr 2
    unfold cmpR sgnR imax imin at *
    have t1 := @Rat.not_lt r 0
    have t2 := @Rat.not_lt s 0
    by_cases a1 : r < 0 <;> by_cases a2 : s < 0
    · rw [if_pos a1, if_pos a2] at hne; exact absurd rfl hne
    · have : r < s := by grind
      rw [if_pos a1, if_neg a2, if_pos this]
      by_cases a3 : s = 0 <;> simp [a3] <;> omega
    · have h2 : s < r := by grind
      have h3 : ¬ r < s := by grind
      rw [if_neg a1, if_pos a2, if_neg h3, if_pos h2]
      by_cases a3 : r = 0 <;> simp [a3] <;> omega
    · rw [if_neg a1, if_neg a2] at hne ⊢
      by_cases a3 : r = 0 <;> by_cases a4 : s = 0
      · rw [if_pos a3, if_pos a4] at hne; exact absurd rfl hne
      · have : r < s := by grind
        rw [if_pos a3, if_neg a4, if_pos this]; omega
      · have h2 : s < r := by grind
        have h3 : ¬ r < s := by grind
        rw [if_neg a3, if_pos a4, if_neg h3, if_pos h2]; omega
      · rw [if_neg a3, if_neg a4] at hne; exact absurd rfl hne
end Go.Px.Seat

/- Backward over a product: both sides; bytes turned round. Seat ZD. -/
namespace Pm
open Go.Px Go.Px.Seat
/-- has 0 -/
def nuS (s : Sp) : Bool := decide (s.2.1 ≤ 0 ∧ 0 ≤ s.2.2.1)
def three (w : Int) (z y x : Sp) : Bool := ok1 w z && (ok1 w y && ok1 w x)
noncomputable def bparts (w : Int) (z y x : Sp) : Sp × Sp := (meet w x (divTwoS w z y).1, meet w x (divTwoS w z y).2)
noncomputable def bmulS (w : Int) (z y x : Sp) : Sp := if three w z y x = true then (if (nuS z && nuS y) = true then x else hullS w (bparts w z y x).1 (bparts w z y x).2) else spn
noncomputable def gapS (w : Int) (z y x : Sp) : Int × (Int × (Bool × Unit)) :=
  if (three w z y x && (!(nuS z && nuS y) && ((bparts w z y x).1.1 && (bparts w z y x).2.1))) = true then ((bparts w z y x).1.2.2.1, ((bparts w z y x).2.2.1, (true, ()))) else (0, (0, (false, ())))
theorem meet_cases (w : Int) (a b : Sp) : meet w a b = spn ∨ ∃ a1 a2 b1 b2, a = sp a1 a2 ∧ b = sp b1 b2 ∧ pok w a1 a2 = true ∧ pok w b1 b2 = true ∧ max a1 b1 ≤ min a2 b2 ∧ meet w a b = sp (max a1 b1) (min a2 b2) := by
  unfold meet
  by_cases h : both w a b = true ∧ max a.2.1 b.2.1 ≤ min a.2.2.1 b.2.2.1
  · right
    have h1 := h.1
    rw [both_ok1, Bool.and_eq_true] at h1
    obtain ⟨a1, a2, rfl, pa⟩ := ok1_iff.1 h1.1
    obtain ⟨b1, b2, rfl, pb⟩ := ok1_iff.1 h1.2
    exact ⟨a1, a2, b1, b2, rfl, rfl, pa, pb, h.2, if_pos h⟩
  · exact .inl (if_neg h)
end Pm
namespace Go.Px.Seat
open Go Pm
set_option linter.unusedVariables false
variable {B : Run}
end Go.Px.Seat
