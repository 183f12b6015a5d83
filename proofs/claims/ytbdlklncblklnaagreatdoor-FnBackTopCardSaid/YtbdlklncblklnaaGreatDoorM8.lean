/- Own texts, part M8: PnU PnP PnR PnV PnZ PnX PoB. -/
import Derived.Test.YtbdlklncblklnaaGreatDoorM7
import Derived.Test.YtbdlklncblklnaaGreatDoorM4
set_option linter.unusedVariables false

/- Narrow spans around wide ones, and back: the reference's. Seat ZD. -/
namespace Pm
open Go.Px Go.Px.Seat
/-- the span of wide floats of a narrow one -/
noncomputable def wideS (s : Sp) : Sp := if (s.1 && pok 32 s.2.1 s.2.2.1) = true then sp (wide s.2.1) (wide s.2.2.1) else spn
noncomputable def narS (s : Sp) : Sp := if (s.1 && pok 64 s.2.1 s.2.2.1) = true then sp (dn 32 (lim 64 s.2.1)) (up 32 (lim 64 s.2.2.1)) else spn
end Pm
namespace Go.Px.Seat
open Go Pm
set_option linter.unusedVariables false
variable {B : Run}
end Go.Px.Seat
namespace Pm
open Go.Px Go.Px.Seat
/-- a narrow span around a wide one -/
structure Nar (a1 a2 x1 x2 : Int) : Prop where
  pa : pok 64 a1 a2 = true
  px : pok 32 x1 x2 = true
  l : lim 32 x1 ≤ lim 64 a1
  r : lim 64 a2 ≤ lim 32 x2
variable {a1 a2 x1 x2 b1 b2 y1 y2 : Int}
theorem Nar.neg (h : Nar a1 a2 x1 x2) : Nar (-a2) (-a1) (-x2) (-x1) := by
  obtain ⟨_, r1, r2, _⟩ := pok_rng h.pa
  obtain ⟨_, s1, s2, _⟩ := pok_rng h.px
  refine ⟨pok_neg h.pa, pok_neg h.px, ?_, ?_⟩
  · rw [lim_opp wd32 s2, lim_opp wd64 r2, Lm.opp_le]; exact h.r
  · rw [lim_opp wd32 s1, lim_opp wd64 r1, Lm.opp_le]; exact h.l
theorem mulS_ok {w a1 a2 b1 b2 : Int} (pa : pok w a1 a2 = true) (pb : pok w b1 b2 = true) :
    pok w (min (min (dn w (Lm.mul (lim w a1) (lim w b1))) (dn w (Lm.mul (lim w a1) (lim w b2)))) (min (dn w (Lm.mul (lim w a2) (lim w b1))) (dn w (Lm.mul (lim w a2) (lim w b2)))))
      (max (max (up w (Lm.mul (lim w a1) (lim w b1))) (up w (Lm.mul (lim w a1) (lim w b2)))) (max (up w (Lm.mul (lim w a2) (lim w b1))) (up w (Lm.mul (lim w a2) (lim w b2))))) = true := by
  obtain ⟨hw, r1, r2, r3, r4, r5⟩ := pok_rng pa
  obtain ⟨_, s1, s2, s3, s4, s5⟩ := pok_rng pb
  have ht := top_pos hw
  -- a number that lies in each
  have pick : ∀ {u v : Int}, pok w u v = true → ∃ r, memS w (sp u v) r := by
    intro u v h
    obtain ⟨_, t1, t2, t3, t4, t5⟩ := pok_rng h
    rcases lim_cases hw t1 with ⟨h1, e1⟩ | ⟨h1, e1⟩ | ⟨h1, e1⟩
    · rcases lim_cases hw t2 with ⟨h2, e2⟩ | ⟨h2, e2⟩ | ⟨h2, e2⟩
      · omega
      · exact ⟨0, u, v, rfl, h, by rw [e1]; simp, by rw [e2]; simp⟩
      · exact ⟨fv w v, u, v, rfl, h, by rw [e1]; simp, by rw [e2]; exact Lm.rfl' _⟩
    · omega
    · exact ⟨fv w u, u, v, rfl, h, by rw [e1]; exact Lm.rfl' _, by rw [← e1]; exact lim_lo_hi h⟩
  obtain ⟨r, hr⟩ := pick pa
  obtain ⟨s, hs⟩ := pick pb
  have := memS_mul hr hs
  rw [mulS_sp pa pb] at this
  obtain ⟨lo, hi, e, hp, _⟩ := this
  cases e
  exact hp
end Pm

/- Draws: a span within a span. Seat ZD. -/
namespace Go.Px.Seat
open Go Pm
set_option linter.unusedVariables false
variable {B : Run}
theorem k_rpair : Ev fun n => ∀ (b : List Int) (p w : Int), rdr b → 0 ≤ p → p < 137438953472 → wd w = true → ∃ x y p', c_s_l31Rd_pair ((C B).run n) b p w = some (x, (y, (b, (p', ())))) ∧ p ≤ p' ∧ p' ≤ p + 100 := by
  refine ((k_pick (B := B)).and (k_ord (B := B))).succ fun n hn ⟨hP, hO⟩ b p w hb h1 h2 hw => ?_
  rw [run_succ, e_s_l31Rd_pair]
  unfold p_s_l31Rd_pair
  obtain ⟨x, p1, a1, a2, a3⟩ := hO b p w hb (by omega) (by omega) hw
  obtain ⟨y, p2, b1, b2, b3⟩ := hO b p1 w hb (by omega) (by omega) hw
  rw [a1]
  simp only [Option.bind_some]
  rw [b1]
  simp only [Option.bind_some]
  refine jb_goal (fun o => ∃ x y p', o = some (x, (y, (b, (p', ())))) ∧ p ≤ p' ∧ p' ≤ p + 100) (fun st => ∃ x y p3 : Int, st = ((x, (y, ((), ((), ())))), ((b, (p3, ())), ((0, (0, ())), ()))) ∧ p ≤ p3 ∧ p3 ≤ p + 66) ?_ ?_
  · obtain ⟨v, c1, c2, c3⟩ := hP b p2 6 hb (by omega) (by omega) (by omega) (by omega)
    obtain ⟨v4, d1, d2, d3⟩ := hP b (p2 + 1) 4 hb (by omega) (by omega) (by omega) (by omega)
    obtain ⟨v5, e1, e2, e3⟩ := hP b (p2 + 1) 1000 hb (by omega) (by omega) (by omega) (by omega)
    rw [c1]
    simp only [Option.bind_some, d1, e1]
    cases v == 0
    · cases v == 1
      · cases v == 2
        · exact ⟨_, rfl, _, _, _, rfl, by omega, by omega⟩
        · exact ⟨_, rfl, _, _, _, rfl, by omega, by omega⟩
      · exact ⟨_, rfl, _, _, _, rfl, by omega, by omega⟩
    · exact ⟨_, rfl, _, _, _, rfl, by omega, by omega⟩
  · rintro _ ⟨x, y, p3, rfl, q1, q2⟩
    simp only
    refine jb_goal (fun o => ∃ x y p', o = some (x, (y, (b, (p', ())))) ∧ p ≤ p' ∧ p' ≤ p + 100) (fun st => ∃ x y p4 : Int, st = ((x, (y, ((), ((), ())))), ((0, (0, ())), ((b, (p4, ())), ()))) ∧ p ≤ p4 ∧ p4 ≤ p + 67) ?_ ?_
    · obtain ⟨v, c1, c2, c3⟩ := hP b p3 24 hb (by omega) (by omega) (by omega) (by omega)
      rw [c1]
      simp only [Option.bind_some]
      cases ilt y x
      · simp only [cond_false, jb_inr]
        exact ⟨_, rfl, _, _, _, rfl, by omega, by omega⟩
      · simp only [cond_true, jb_inr]
        cases ilt 0 v
        · exact ⟨_, rfl, _, _, _, rfl, by omega, by omega⟩
        · exact ⟨_, rfl, _, _, _, rfl, by omega, by omega⟩
    · rintro _ ⟨x, y, p4, rfl, q1, q2⟩
      simp only
      exact ⟨_, _, _, rfl, by omega, by omega⟩
theorem k_rwithin : Ev fun n => ∀ (b : List Int) (p w lo hi : Int), rdr b → 0 ≤ p → p < 68719476736 → pok w lo hi = true → ∃ x y p', c_s_l31Rd_within ((C B).run n) b p w lo hi = some (x, (y, (b, (p', ())))) ∧ p ≤ p' ∧ p' ≤ p + 200 := by
  refine ((k_pick (B := B)).and ((k_rpair (B := B)).and ((k_big (B := B)).and (k_sGap (B := B))))).succ fun n hn ⟨hP, hR, hB, hG⟩ b p w lo hi hb h1 h2 hp => ?_
  rw [run_succ, e_s_l31Rd_within]
  unfold p_s_l31Rd_within
  obtain ⟨hw, r1, r2, r3, r4, r5⟩ := pok_iff.1 hp
  have htn := top_nonneg w
  rw [hG lo hi (by omega) (by omega) (by omega)]
  simp only [Option.bind_some]
  have hgne : ¬ iadd .u64 (hi - lo) 1 = 0 := by
    unfold iadd
    rw [wrapu64 (by omega) (by omega)]
    omega
  refine jb_goal (fun o => ∃ x y p', o = some (x, (y, (b, (p', ())))) ∧ p ≤ p' ∧ p' ≤ p + 200) (fun st => ∃ (t : Bool) (p3 : Int), st = ((t, ((), (w, ((), (hi - lo, ((), ())))))), ((b, (p3, ())), ((0, (0, ())), ((lo, (hi, ())), ())))) ∧ p ≤ p3 ∧ p3 ≤ p + 1) ?_ ?_
  · obtain ⟨v, c1, c2, c3⟩ := hP b p 16 hb (by omega) (by omega) (by omega) (by omega)
    rw [c1]
    simp only [Option.bind_some]
    cases hi - lo == 0
    · exact ⟨_, rfl, _, _, rfl, by omega, by omega⟩
    · exact ⟨_, rfl, _, _, rfl, by omega, by omega⟩
  · rintro _ ⟨t, p3, rfl, q1, q2⟩
    simp only
    cases t
    · simp only [cond_false]
      obtain ⟨v1, a1⟩ := hB b p3 hb (by omega) (by omega)
      obtain ⟨v2, a2⟩ := hB b (p3 + 8) hb (by omega) (by omega)
      rw [a1]
      simp only [Option.bind_some]
      rw [a2]
      simp only [Option.bind_some, ok_ne hgne]
      refine jb_goal (fun o => ∃ x y p', o = some (x, (y, (b, (p', ())))) ∧ p ≤ p' ∧ p' ≤ p + 200) (fun st => ∃ x y p3 : Int, st = ((x, (y, ((), ((), ((), ()))))), ((b, (p3, ())), ((lo, (hi, ())), ((0, (0, ())), ())))) ∧ p ≤ p3 ∧ p3 ≤ p + 30) ?_ ?_
      · obtain ⟨v, c1, c2, c3⟩ := hP b (p3 + 8 + 8) 5 hb (by omega) (by omega) (by omega) (by omega)
        obtain ⟨v4, d1, d2, d3⟩ := hP b (p3 + 8 + 8 + 1) 3 hb (by omega) (by omega) (by omega) (by omega)
        rw [c1]
        simp only [Option.bind_some, d1, ok_ne hgne]
        cases v == 0
        · cases v == 1
          · cases v == 2
            · exact ⟨_, rfl, _, _, _, rfl, by omega, by omega⟩
            · exact ⟨_, rfl, _, _, _, rfl, by omega, by omega⟩
          · exact ⟨_, rfl, _, _, _, rfl, by omega, by omega⟩
        · exact ⟨_, rfl, _, _, _, rfl, by omega, by omega⟩
      · rintro _ ⟨x, y, p4, rfl, q3, q4⟩
        simp only
        refine jb_goal (fun o => ∃ x y p', o = some (x, (y, (b, (p', ())))) ∧ p ≤ p' ∧ p' ≤ p + 200) (fun st => ∃ x y p4 : Int, st = (((), (x, (y, ((), ((), ()))))), ((lo, (hi, ())), ((0, (0, ())), ((b, (p4, ())), ())))) ∧ p ≤ p4 ∧ p4 ≤ p + 40) ?_ ?_
        · obtain ⟨v, c1, c2, c3⟩ := hP b p4 12 hb (by omega) (by omega) (by omega) (by omega)
          rw [c1]
          simp only [Option.bind_some]
          cases ilt y x
          · simp only [cond_false, jb_inr]
            exact ⟨_, rfl, _, _, _, rfl, by omega, by omega⟩
          · simp only [cond_true, jb_inr]
            cases ilt 0 v
            · exact ⟨_, rfl, _, _, _, rfl, by omega, by omega⟩
            · exact ⟨_, rfl, _, _, _, rfl, by omega, by omega⟩
        · rintro _ ⟨x, y, p5, rfl, q5, q6⟩
          simp only
          exact ⟨_, _, _, rfl, by omega, by omega⟩
    · simp only [cond_true]
      obtain ⟨x, y, p4, a1, a2, a3⟩ := hR b p3 w hb (by omega) (by omega) hw
      rw [a1]
      simp only [Option.bind_some]
      exact ⟨_, _, _, rfl, by omega, by omega⟩
theorem k_sPairIs : Ev fun n => ∀ a b c d : Int, c_s_PairIs ((C B).run n) a b c d = some (decide (c ≤ a ∧ b ≤ d), ()) := by
  refine Ev.triv.succ fun n hn _ a b c d => ?_
  rw [run_succ, e_s_PairIs]
  unfold p_s_PairIs
  simp only [ile_iff]
  by_cases h : c ≤ a
  · rw [decide_eq_true h, cond_true, jb_inr]; simp [h]
  · rw [decide_eq_false h, cond_false, jb_inr]; simp [h]
theorem k_Within : Ev fun n => ∀ (w lo hi : Int) (l : List Int), pok w lo hi = true → byt l → l.length ≤ 1099511627776 → ∃ x y, c_s_Within ((C B).run n) w true lo hi l = some (sp x y) ∧ pok w x y = true ∧ lo ≤ x ∧ y ≤ hi := by
  refine ((k_open (B := B)).and ((k_sPair (B := B)).and ((k_rwithin (B := B)).and ((k_sPairOk (B := B)).and ((k_sOf (B := B)).and (k_sPairIs (B := B))))))).succ fun n hn ⟨hO, hPr, hR, hOk, hSo, hIs⟩ w lo hi l hp hl hlen => ?_
  rw [run_succ, e_s_Within]
  unfold p_s_Within
  obtain ⟨b, a1, a2⟩ := hO l hl hlen
  obtain ⟨x, y, p', b1, b2, b3⟩ := hR b 0 w lo hi a2 (by omega) (by omega) hp
  rw [a1, hPr]
  simp only [Option.bind_some]
  rw [b1]
  simp only [Option.bind_some]
  rw [hOk]
  simp only [Option.bind_some]
  cases hq : pok w x y
  · simp only [Bool.not_false, cond_true, jb_inr]
    exact ⟨lo, hi, rfl, hp, by omega, by omega⟩
  · simp only [Bool.not_true, cond_false]
    rw [hIs]
    simp only [Option.bind_some, jb_inr]
    by_cases h : lo ≤ x ∧ y ≤ hi
    · rw [decide_eq_true h, Bool.not_true, cond_false, hSo]
      exact ⟨x, y, rfl, hq, h⟩
    · rw [decide_eq_false h, Bool.not_false, cond_true]
      exact ⟨lo, hi, rfl, hp, by omega, by omega⟩
end Go.Px.Seat

/- The law that more makes more: what its function comes to. Seat ZD. -/
namespace Go.Px.Seat
open Go Pm
set_option linter.unusedVariables false
variable {B : Run}
theorem k_isS : Ev fun n => ∀ (a b : Sp), c_w_psIs ((C B).run n) a.1 a.2.1 a.2.2.1 b.1 b.2.1 b.2.2.1 = some (isS a b, ()) := k_psIs (B := B)
end Go.Px.Seat

/- The law on both widths: what its function comes to. Seat ZD. -/
namespace Pm
open Go.Px Go.Px.Seat
variable {a1 a2 x1 x2 b1 b2 y1 y2 : Int}
theorem powL_ok {w a b : Int} {n : Nat} (h : pok w a b = true) (hc : n % 2 = 1 ∨ 0 ≤ a) : pok w (dn w (powL (lim w a) n)) (up w (powL (lim w b) n)) = true := by
  obtain ⟨hw, r1, r2, r3, _⟩ := pok_rng h
  have hl := lim_lo_hi h
  have hn := lo_ne h
  have hc' : n % 2 = 1 ∨ .num 0 ≤ lim w a := hc.imp (fun h => h) (fun h => (nonneg_lim hw r1).1 h)
  refine pok_dn_up hw (powL_mono n hl hc') ?_ ?_
  · generalize lim w a = A at hn hc'
    unfold powL
    split
    · simp
    · cases A with
      | pos => exact absurd rfl hn.1
      | num r => simp
      | neg =>
        rcases hc' with h | h
        · simp; omega
        · simp at h
  · generalize lim w b = A at hn
    unfold powL
    split
    · simp
    · cases A with
      | pos => simp
      | num r => simp
      | neg => exact absurd rfl hn.2
theorem powS_sp {w a b : Int} {n : Nat} (h : pok w a b = true) (hn : n ≤ 8) : powS w (sp a b) n =
    if n % 2 = 0 then sp (dn w (powL (lim w (max (max 0 a) (-b))) n)) (up w (powL (lim w (max (a.natAbs : Int) (b.natAbs : Int))) n))
    else sp (dn w (powL (lim w a) n)) (up w (powL (lim w b) n)) := by
  have e : powS w (sp a b) n = sp (dn w (powL (lim w (if (n : Int) % 2 = 0 then absS w (sp a b) else sp a b).2.1) n)) (up w (powL (lim w (if (n : Int) % 2 = 0 then absS w (sp a b) else sp a b).2.2.1) n)) := if_pos ⟨by rw [ok1_sp]; exact h, by omega, by omega⟩
  rw [e]
  by_cases hp : n % 2 = 0
  · rw [if_pos (show (n : Int) % 2 = 0 by omega), if_pos hp, absS_sp h]; rfl
  · rw [if_neg (show ¬ (n : Int) % 2 = 0 by omega), if_neg hp]; rfl
end Pm
namespace Go.Px.Seat
open Go Pm
set_option linter.unusedVariables false
variable {B : Run}
end Go.Px.Seat

/- Powers of spans, roots of fractions: the reference's. Seat ZD. -/
namespace Pm
open Go.Px Go.Px.Seat
theorem sg_pow (b : Bool) (p m : Nat) : sg (b && decide (m % 2 = 1)) (p ^ m) = sg b p ^ m := by
  cases b
  · simp [sg, Int.natCast_pow]
  · induction m with
    | zero => simp [sg]
    | succ m ih =>
      rw [Int.pow_succ, ← ih, Nat.pow_succ]
      by_cases h : m % 2 = 1
      · simp only [show ¬ (m + 1) % 2 = 1 by omega, h, decide_true, decide_false, Bool.and_true, Bool.and_false, sg, if_true, Bool.false_eq_true, if_false]
        rw [Int.natCast_mul]
        simp [Int.neg_mul, Int.mul_neg]
      · simp only [show (m + 1) % 2 = 1 by omega, h, decide_true, decide_false, Bool.and_true, Bool.and_false, sg, if_true, Bool.false_eq_true, if_false]
        rw [Int.natCast_mul]
        simp [Int.mul_neg]
theorem mk_pow {a : Int} {q : Nat} (hq : q ≠ 0) : ∀ m : Nat, mkRat (a ^ m) (q ^ m) = mkRat a q ^ m
  | 0 => by simp; decide +kernel
  | m + 1 => by rw [Rat.pow_succ, ← mk_pow hq m, Rat.mkRat_mul_mkRat, Int.pow_succ, Nat.pow_succ]
end Pm
namespace Go.Px.Seat
open Go Pm
set_option linter.unusedVariables false
variable {B : Run}
theorem k_sAbsS : Ev fun n => ∀ (w : Int) (a : Sp), c_s_SpanAbs ((C B).run n) w a.1 a.2.1 a.2.2.1 = some (absS w a) := by
  refine ((k_sSpanOk (B := B)).and ((k_sOf (B := B)).and (k_sMax (B := B)))).succ fun n hn ⟨hO, hSo, hMa⟩ w a => ?_
  rw [run_succ, e_s_SpanAbs]
  unfold p_s_SpanAbs
  obtain ⟨s, lo, hi, u⟩ := a
  simp only
  rw [hO]
  simp only [Option.bind_some]
  cases h1 : spk w (s, (lo, (hi, ())))
  · have e : absS w (s, (lo, (hi, u))) = spn := by
      unfold absS ok1
      rw [h1, Bool.and_false]; rfl
    simp only [Bool.not_false, cond_true, jb_inr]
    rw [e, hO, h1]
    rfl
  cases s
  · have e : absS w (false, (lo, (hi, u))) = (false, (lo, (hi, ()))) := by
      simp [spk] at h1
      rw [h1.2.1, h1.2.2]; rfl
    simp only [Bool.not_true, Bool.not_false, cond_false, cond_true, jb_inr]
    rw [e, hO, h1]
    rfl
  have hp : pok w lo hi = true := h1
  have e := absS_sp hp
  have e' : absS w (true, (lo, (hi, u))) = sp (max (max 0 lo) (-hi)) (max (lo.natAbs : Int) (hi.natAbs : Int)) := e
  rw [e']
  obtain ⟨hw, r1, r2, r3, r4, r5⟩ := pok_rng hp
  have htn := top_nonneg w
  unfold rng at r1 r2
  simp only [Bool.not_true, cond_false, jb_inr, ile_iff]
  by_cases h : 0 ≤ lo
  · rw [decide_eq_true h, cond_true, hO, h1]
    simp only [Option.bind_some, Bool.not_true, cond_false]
    rw [show max (max 0 lo) (-hi) = lo by omega, show max (lo.natAbs : Int) (hi.natAbs : Int) = hi by omega]
    rfl
  rw [decide_eq_false h, cond_false]
  by_cases h2 : hi ≤ 0
  · rw [decide_eq_true h2, cond_true, ineg_eq (by omega) (by omega), ineg_eq (by omega) (by omega), hSo]
    rw [show max (max 0 lo) (-hi) = -hi by omega, show max (lo.natAbs : Int) (hi.natAbs : Int) = -lo by omega]
    rfl
  · rw [decide_eq_false h2, cond_false, ineg_eq (by omega) (by omega), hMa]
    simp only [Option.bind_some]
    rw [hSo]
    rw [show max (max 0 lo) (-hi) = 0 by omega, show max (lo.natAbs : Int) (hi.natAbs : Int) = max (-lo) hi by omega]
    rfl
theorem k_sPower : Ev fun n => ∀ (b : Bool) (p q m k : Nat), (dig p).length ≤ k → (dig q).length ≤ k → 1 ≤ k → 1 ≤ m → k * m + 1 ≤ 2048 → c_s_l9Power ((C B).run n) b (dig p) (dig q) (m : Int) = some ((b && decide (m % 2 = 1)), (dig (p ^ m), (dig (q ^ m), ()))) := by
  refine (k_sMul (B := B)).succ fun n hn hM b p q m k hp hq hk hm1 hm => ?_
  rw [run_succ, e_s_l9Power]
  unfold p_s_l9Power
  have hm2 : m ≤ 2048 := by
    have : 1 * m ≤ k * m := Nat.mul_le_mul_right m hk
    omega
  refine iter_const (fun st => ∃ i : Nat, 1 ≤ i ∧ i ≤ m ∧ st = (((i : Int), ((m : Int), ((), ((), ((), ()))))), (((b && decide (i % 2 = 1)), (dig (p ^ i), (dig (q ^ i), ()))), ((b, (dig p, (dig q, ()))), ((false, ((), ((), ()))), ()))))) (fun st => (m - st.1.1).toNat) _ ?_ n _ (by simp only; omega)
    ⟨1, by omega, hm1, by rw [Nat.pow_one, Nat.pow_one]; simp⟩
  rintro rec _ ⟨i, hi1, hi, rfl⟩ ih
  simp only
  by_cases h : i < m
  · have hi2 : k * i + 1 ≤ 2048 := by
      have : k * i ≤ k * m := Nat.mul_le_mul_left k hi
      omega
    have hkk : k ≤ 2048 := by
      have : k * 1 ≤ k * m := Nat.mul_le_mul_left k hm1
      omega
    have l1 := len_dig_pow hp hk i
    have l2 := len_dig_pow hq hk i
    rw [show ilt (i : Int) (m : Int) = true from decide_eq_true (by omega), cond_true, hM _ _ (by omega) (by omega), hM _ _ (by omega) (by omega)]
    simp only [Option.bind_some]
    rw [show p ^ i * p = p ^ (i + 1) from (Nat.pow_succ ..).symm, show q ^ i * q = q ^ (i + 1) from (Nat.pow_succ ..).symm, iadd_eq (by omega) (by omega)]
    refine ih _ ⟨i + 1, by omega, h, ?_⟩ (by simp only; omega)
    have e : (!(beqB (b && decide (i % 2 = 1)) b)) = (b && decide ((i + 1) % 2 = 1)) := by
      rw [beqB_eq]
      by_cases ho : i % 2 = 1
      · rw [decide_eq_true ho, decide_eq_false (by omega)]; cases b <;> rfl
      · rw [decide_eq_false ho, decide_eq_true (by omega)]; cases b <;> rfl
    rw [e]; rfl
  · have : i = m := by omega
    subst this
    rw [show ilt (i : Int) (i : Int) = false from decide_eq_false (by omega), cond_false]
theorem k_sPowB : Ev fun n => ∀ (w a : Int) (m : Nat) (u : Bool), wd w = true → rng w a → 1 ≤ m → m ≤ 7 → c_s_l9Pow ((C B).run n) w a (m : Int) u = some (du w u (powL (lim w a) m), ()) := by
  refine ((k_sInf (B := B)).and ((k_sTop' (B := B)).and ((k_sOfF (B := B)).and ((k_sPower (B := B)).and (k_sRoundD (B := B)))))).succ fun n hn ⟨hI, hT, hO, hP, hR⟩ w a m u hw ra hm1 hm => ?_
  rw [run_succ, e_s_l9Pow]
  unfold p_s_l9Pow
  rw [hI w a hw]
  simp only [Option.bind_some]
  have ht := top_pos hw
  have e2 : (irem .i64 (m : Int) 2 == 0) = decide (m % 2 = 0) := by
    rw [irem_eq (by omega)]
    by_cases h : m % 2 = 0
    · rw [decide_eq_true h]; simp; omega
    · rw [decide_eq_false h]; exact beq_f (by omega)
  rw [e2]
  rcases lim_cases hw ra with ⟨h, e⟩ | ⟨h, e⟩ | ⟨h, e⟩ <;> rw [e]
  · rw [decide_eq_true (.inr h), cond_true]
    unfold powL
    rw [if_neg (by omega)]
    by_cases hp : m % 2 = 0
    · rw [decide_eq_true hp, cond_true, hT]
      simp only [Option.bind_some, hp, if_true]
      rw [(du_inf u).1]
    · rw [decide_eq_false hp, cond_false]
      simp only [hp, if_false]
      rw [(du_inf u).2, h]
  · rw [decide_eq_true (.inl h), cond_true, powL_pos (by omega)]
    by_cases hp : m % 2 = 0
    · rw [decide_eq_true hp, cond_true, hT, (du_inf u).1]; rfl
    · rw [decide_eq_false hp, cond_false, (du_inf u).1, h]
  · have h1 := h.2.1
    have h2 := h.2.2
    rw [decide_eq_false (by omega), cond_false]
    obtain ⟨p, q, g1, g2, g3, g4, g5, g6⟩ := hO w a h
    rw [g1]
    simp only [Option.bind_some]
    have hm7 : 128 * m + 1 ≤ 1024 := by omega
    have l1 := len_dig_pow g4 (by decide) m
    have l2 := len_dig_pow g5 (by decide) m
    rw [hP _ p q m 128 g4 g5 (by decide) hm1 (by omega)]
    simp only [Option.bind_some]
    rw [hR w _ u _ _ hw (Nat.ne_of_gt (Nat.pow_pos (Nat.pos_of_ne_zero g2))) (by omega) (by omega)]
    rw [sg_pow, mk_pow g2, g3, powL_num (by omega)]
    rfl
theorem k_sPowS : Ev fun n => ∀ (w a1 a2 : Int) (m : Nat), pok w a1 a2 = true → 1 ≤ m → m ≤ 7 → c_s_SpanPow ((C B).run n) w true a1 a2 (m : Int) = some (powS w (sp a1 a2) m) := by
  refine ((k_sSpanOk (B := B)).and ((k_sAbsS (B := B)).and ((k_sPowB (B := B)).and (k_sOf (B := B))))).succ fun n hn ⟨hO, hA, hP, hSo⟩ w a1 a2 m pa hm1 hm => ?_
  rw [run_succ, e_s_SpanPow]
  unfold p_s_SpanPow
  rw [hO, show spk w (true, (a1, (a2, ()))) = true from pa]
  simp only [Option.bind_some, Bool.not_true, cond_false]
  rw [show ilt (m : Int) 0 = false from decide_eq_false (by omega), cond_false, jb_inr]
  simp only
  rw [show ilt 8 (m : Int) = false from decide_eq_false (by omega), cond_false, beq_f (by omega), cond_false, powS_sp pa (by omega)]
  obtain ⟨hw, r1, r2, _⟩ := pok_rng pa
  have e2 : (irem .i64 (m : Int) 2 == 0) = decide (m % 2 = 0) := by
    rw [irem_eq (by omega)]
    by_cases h : m % 2 = 0
    · rw [decide_eq_true h]; simp; omega
    · rw [decide_eq_false h]; exact beq_f (by omega)
  rw [e2]
  by_cases hp : m % 2 = 0
  · rw [decide_eq_true hp, cond_true, if_pos hp, hA w (true, (a1, (a2, ()))), show absS w (true, (a1, (a2, ()))) = _ from absS_sp pa]
    simp only [Option.bind_some, jb_inr, sp]
    obtain ⟨_, s1, s2, _⟩ := pok_rng (abs_pok pa).1
    rw [hP w _ m false hw s1 hm1 hm, hP w _ m true hw s2 hm1 hm]
    simp only [Option.bind_some]
    rw [hSo]
    rfl
  · rw [decide_eq_false hp, cond_false, if_neg hp]
    simp only [jb_inr]
    rw [hP w _ m false hw r1 hm1 hm, hP w _ m true hw r2 hm1 hm]
    simp only [Option.bind_some]
    rw [hSo]
    rfl
/-- the greatest number whose square is not above -/
def IsSq (x r : Nat) : Prop := r * r ≤ x ∧ x < (r + 1) * (r + 1)
theorem k_sRootN : Ev fun n => ∀ x : Nat, x < 65536 ^ 256 → ∃ r, c_s_l5Root ((C B).run n) (dig x) = some (dig r, ()) ∧ IsSq x r ∧ (dig r).length ≤ 256 := by
  refine ((k_sBits (B := B)).and ((k_sPow2 (B := B)).and ((k_sAdd (B := B)).and ((k_sMul (B := B)).and (k_sCmp (B := B)))))).succ fun n hn ⟨hB, hP2, hA, hM, hC⟩ x hx => ?_
  rw [run_succ, e_s_l5Root]
  unfold p_s_l5Root
  have hxl : (dig x).length ≤ 256 := dig_len_le.2 hx
  have hbl := bl_len x
  rw [hB x (by omega)]
  simp only [Option.bind_some]
  have e1 : iadd .i64 (bl x : Int) 1 = (bl x : Int) + 1 := iadd_eq (by omega) (by omega)
  have e2 : iquo .i64 ((bl x : Int) + 1) 2 = (((bl x + 1) / 2 : Nat) : Int) := by rw [iquo_eq (by omega) (by omega) (by omega)]; omega
  rw [e1, e2]
  have hK : bl x < 2 * ((bl x + 1) / 2 + 1) := by omega
  have hK2 : (bl x + 1) / 2 ≤ 2048 := by omega
  generalize (bl x + 1) / 2 = K at hK hK2
  have hsq : ∀ r : Nat, r * r ≤ x → (dig r).length ≤ 256 := fun r hr => by
    refine Nat.le_trans (dig_len_mono (b := x) ?_) hxl
    rcases Nat.eq_zero_or_pos r with h | h
    · subst h; omega
    · exact Nat.le_trans (Nat.le_mul_of_pos_right r h) hr
  refine iter_goal (fun o => ∃ r, o = some (dig r, ()) ∧ IsSq x r ∧ (dig r).length ≤ 256) (fun st => ∃ (k r : Nat), k ≤ K + 1 ∧ r * r ≤ x ∧ x < (r + 2 ^ k) * (r + 2 ^ k) ∧ st = ((((k : Int) - 1), (dig r, (dig x, ((), ())))), ()))
    (fun st => (st.1.1 + 1).toNat) (fun (o : List Int × Unit) => ∃ r, o = (dig r, ()) ∧ IsSq x r ∧ (dig r).length ≤ 256) ?_ (by simp only; omega) ⟨K + 1, 0, Nat.le_refl _, Nat.zero_le _, ?_, by rw [dig_zero]; simp⟩ ?_
  · rintro rec _ ⟨k, r, hk, h1, h2, rfl⟩ ih
    simp only
    by_cases h : k = 0
    · subst h
      rw [show ile 0 (((0 : Nat) : Int) - 1) = false from decide_eq_false (by omega), cond_false]
      exact ⟨_, rfl, r, rfl, ⟨h1, by simpa using h2⟩, hsq r h1⟩
    · obtain ⟨k', rfl⟩ : ∃ k', k = k' + 1 := ⟨k - 1, by omega⟩
      rw [show ile 0 (((k' + 1 : Nat) : Int) - 1) = true from decide_eq_true (by omega), cond_true, show ((k' + 1 : Nat) : Int) - 1 = (k' : Int) by omega, hP2 k' (by omega)]
      simp only [Option.bind_some]
      have l1 := dig_len_pow k'
      have l2 := hsq r h1
      have l3 := len_dig_add r (2 ^ k')
      rw [hA _ _ (by omega) (by omega)]
      simp only [Option.bind_some]
      have l4 := len_dig_mul (r + 2 ^ k') (r + 2 ^ k')
      rw [hM _ _ (by omega) (by omega)]
      simp only [Option.bind_some]
      rw [hC _ _ (by omega) (by omega)]
      simp only [Option.bind_some]
      have e3 : isub .i64 (k' : Int) 1 = (k' : Int) - 1 := isub_eq (by omega) (by omega)
      by_cases hc : (r + 2 ^ k') * (r + 2 ^ k') ≤ x
      · have : ile (cmp3 ((r + 2 ^ k') * (r + 2 ^ k')) x) 0 = true := by
          unfold cmp3
          generalize (r + 2 ^ k') * (r + 2 ^ k') = z at hc
          rw [ile_iff, decide_eq_true_iff]
          split
          · omega
          · split <;> omega
        rw [this]
        simp only [cond_true, jb_inr]
        rw [e3]
        refine ih _ ⟨k', r + 2 ^ k', by omega, hc, ?_, rfl⟩ (by simp only; omega)
        have e4 : r + 2 ^ k' + 2 ^ k' = r + 2 ^ (k' + 1) := by rw [Nat.pow_succ]; omega
        rw [e4]; exact h2
      · have : ile (cmp3 ((r + 2 ^ k') * (r + 2 ^ k')) x) 0 = false := by
          unfold cmp3
          generalize (r + 2 ^ k') * (r + 2 ^ k') = z at hc
          rw [ile_iff, decide_eq_false_iff_not]
          rw [if_neg (by omega), if_pos (by omega)]
          omega
        rw [this]
        simp only [cond_false, jb_inr]
        rw [e3]
        exact ih _ ⟨k', r, by omega, h1, Nat.not_le.1 hc, rfl⟩ (by simp only; omega)
  · have hb := bl_lt x
    rw [Nat.zero_add, ← Nat.pow_add]
    exact Nat.lt_of_lt_of_le hb (Nat.pow_le_pow_right (by decide) (by omega))
  · rintro _ ⟨r, rfl, h⟩
    exact ⟨r, rfl, h⟩
theorem k_sFracRoot : Ev fun n => ∀ r : Rat, fits r → ∃ (c t : Bool) (u v : List Int), c_s_FracRoot ((C B).run n) (fb r) (ft r) (fq r) = some (c, (u, (v, (t, ())))) ∧ (t = true → ∃ s : Rat, 0 ≤ s ∧ s ^ 2 = r ∧ fits s ∧ c = fb s ∧ u = ft s ∧ v = fq s) := by
  have hN : Ev fun n => ∀ x : Nat, x < 65536 ^ 256 → ∃ (r : Nat) (e : Bool), c_s_NatRoot ((C B).run n) (dig x) = some (dig r, (e, (true, ()))) ∧ (e = true → r * r = x) ∧ (dig r).length ≤ 256 := by
    refine ((k_sNatOk (B := B)).and ((k_sRootN (B := B)).and ((k_sMul (B := B)).and (k_sCmp (B := B))))).succ fun n hn ⟨hO, hR, hM, hC⟩ x hx => ?_
    rw [run_succ, e_s_NatRoot]
    unfold p_s_NatRoot
    obtain ⟨r, h1, h2, h3⟩ := hR x hx
    have hxl : (dig x).length ≤ 256 := dig_len_le.2 hx
    have l1 := len_dig_mul r r
    rw [hO, nok_dig, decide_eq_true hx]
    simp only [Option.bind_some, Bool.not_true, cond_false]
    rw [h1]
    simp only [Option.bind_some]
    rw [hM _ _ (by omega) (by omega)]
    simp only [Option.bind_some]
    rw [hC _ _ (by omega) (by omega)]
    refine ⟨r, _, rfl, fun he => ?_, h3⟩
    unfold cmp3 at he
    by_cases h4 : r * r < x
    · rw [if_pos h4] at he; cases he
    · by_cases h5 : x < r * r
      · rw [if_neg h4, if_pos h5] at he; cases he
      · omega
  refine ((k_sFracOk (B := B)).and hN).succ fun n hn ⟨hO, hN⟩ r hr => ?_
  rw [run_succ, e_s_FracRoot]
  unfold p_s_FracRoot
  rw [hO, fok_fr, decide_eq_true hr]
  simp only [Option.bind_some, Bool.not_true, cond_false, jb_inr]
  cases hb : fb r
  rotate_left
  · exact ⟨false, false, [], [], rfl, fun h => by cases h⟩
  simp only [cond_false]
  obtain ⟨p, e1, a1, a2, a3⟩ := hN r.num.natAbs hr.1
  obtain ⟨q, e2, b1, b2, b3⟩ := hN r.den hr.2
  simp only [ft, fq]
  rw [a1, b1]
  simp only [Option.bind_some]
  cases e1
  · exact ⟨false, false, [], [], rfl, fun h => by cases h⟩
  cases e2
  · exact ⟨false, false, [], [], rfl, fun h => by cases h⟩
  simp only [Bool.not_true, cond_false, jb_inr]
  refine ⟨false, true, dig p, dig q, rfl, fun _ => ?_⟩
  have hp := a2 rfl
  have hq := b2 rfl
  have hq0 : q ≠ 0 := fun h => by subst h; exact r.den_nz hq.symm
  have hg : Nat.gcd p q = 1 := by
    have h1 : Nat.gcd p q ∣ Nat.gcd (p * p) (q * q) := Nat.dvd_gcd (Nat.dvd_mul_right_of_dvd (Nat.gcd_dvd_left p q) p) (Nat.dvd_mul_right_of_dvd (Nat.gcd_dvd_right p q) q)
    rw [hp, hq, gcd_one] at h1
    exact Nat.dvd_one.1 h1
  have hself : mkRat (r.num.natAbs : Int) r.den = r := by
    have := mk_self r
    rw [hb] at this
    exact this
  refine ⟨mkRat (sg false p) q, ?_, ?_, ?_, ?_, ?_, ?_⟩
  · have := @mk_neg (sg false p) q hq0
    refine Rat.not_lt.1 fun h => ?_
    have := this.1 h
    simp [sg] at this
    omega
  · rw [show (2 : Nat) = 0 + 1 + 1 from rfl, Rat.pow_succ, Rat.pow_succ, Rat.pow_zero, Rat.one_mul, Rat.mkRat_mul_mkRat, hq]
    rw [show sg false p * sg false p = ((p * p : Nat) : Int) by simp [sg], hp]
    exact hself
  · exact fits_mk hq0 (dig_len_le.1 a3) (dig_len_le.1 b3)
  · by_cases h0 : p = 0
    · subst h0; rw [sg_zero, Rat.zero_mkRat]; decide
    · exact (mk_rb h0 hq0).symm
  · have := mk_rt (b := false) (p := p) hq0
    rw [hg, Nat.div_one] at this
    exact this.symm
  · have := mk_rd (b := false) (p := p) hq0
    rw [hg, Nat.div_one] at this
    exact this.symm
end Go.Px.Seat

/- The law that nothing falls out: what its function comes to. Seat ZD. -/
namespace Go.Px.Seat
open Go Pm
set_option linter.unusedVariables false
variable {B : Run}
theorem cmpR_one (s r : Rat) : (cmpR s r == 1) = decide (r < s) := cmp_gt s r
end Go.Px.Seat

/- The law that backward loses nothing: what its function comes to. Seat ZD. -/
namespace Pm
open Go.Px Go.Px.Seat
theorem spk_some {w : Int} {a : Sp} (h : spk w a = true) (h' : a.1 = true) : ∃ z1 z2, a = sp z1 z2 ∧ pok w z1 z2 = true := by
  rcases spk_cases h with rfl | h
  · cases h'
  · exact h
end Pm
namespace Go.Px.Seat
open Go Pm
set_option linter.unusedVariables false
variable {B : Run}
set_option maxRecDepth 100000 in
theorem k_FnBackTop : Ev fun n => ∀ l m : List Int, byt l → byt m → c_w_FnBackTop ((C B0).run n) l m = some (true, ()) := by
  refine ((k_Fine (B := B0)).and ((k_FineOf (B := B0)).and ((k_psTurn (B := B0)).and ((k_Within (B := B0)).and ((k_psI (B := B0)).and ((k_isS (B := B0)).and ((k_sMulS (B := B0)).and ((k_sDivS (B := B0)).and ((k_sPowS (B := B0)).and (k_bmulS.and (k_btopS.and (k_bbotS.and (k_bpowS.and (k_brootS.and (k_babsS.and ((k_bminS (B := B0)).and ((k_bmaxS (B := B0)).and ((k_sFracMul (B := B0)).and ((k_sFracDiv (B := B0)).and ((k_sFracPow (B := B0)).and ((k_sFracRoot (B := B0)).and ((k_sFracAbs (B := B0)).and (k_sFracCmp (B := B0)))))))))))))))))))))))).succ
    fun n hn ⟨hF, hFO, hTu, hW, hI, hIs, sM, sD, sP, hBM, hBT, hBB, hBP, hBR, hBA, hBN, hBX, fM, fD, fP, fR, fA, fC⟩ l m hl hm => ?_
  rw [run_succ, e_w_FnBackTop]
  unfold p_w_FnBackTop
  by_cases q1 : (1048576 : Int) < (l.length : Int)
  · rw [show ilt 1048576 (len l) = true from decide_eq_true q1]; rfl
  rw [show ilt 1048576 (len l) = false from decide_eq_false q1, cond_false, jb_inr]
  simp only
  by_cases q2 : (1048576 : Int) < (m.length : Int)
  · rw [show ilt 1048576 (len m) = true from decide_eq_true q2]; rfl
  rw [show ilt 1048576 (len m) = false from decide_eq_false q2, cond_false]
  obtain ⟨th, t1, t2, t3⟩ := hTu m hm (by omega)
  obtain ⟨w, x1, x2, r, a1, a2, a3, a4, a5⟩ := hF l hl (by omega)
  obtain ⟨y1, y2, s, b1, b2, b3, b4⟩ := hFO w m a2 hm (by omega)
  obtain ⟨g1, g2, g, c1, c2, c3, c4⟩ := hFO w th a2 t2 (by omega)
  have mr : memS w (sp x1 x2) r := ⟨x1, x2, rfl, a3, (inn_lim a3).1 a5⟩
  have ms : memS w (sp y1 y2) s := ⟨y1, y2, rfl, b2, (inn_lim b2).1 b4⟩
  rw [t1, a1]
  simp only [Option.bind_some]
  rw [b1, c1]
  simp only [Option.bind_some]
  -- the third span
  refine jb_goal (fun o => o = some (true, ())) (fun st => ∃ z1 z2, pok w z1 z2 = true ∧ st = ((w, ((), ((), ((), ((), ((), (m, (false, ())))))))), ((true, (z1, (z2, ()))), ((true, (y1, (y2, ()))), ((true, (x1, (x2, ()))), ((fb r, (ft r, (fq r, ()))), ((fb s, (ft s, (fq s, ()))), ()))))))) ?_ ?_
  · have e7 : irem .i64 (len th) 7 = ((th.length % 7 : Nat) : Int) := by rw [len_eq, irem_eq (by omega)]; omega
    rw [e7]
    obtain ⟨u1, u2, d1, d2, _, _⟩ := hW w x1 x2 th a3 t2 (by omega)
    obtain ⟨v1, v2, d3, d4, _, _⟩ := hW w y1 y2 th b2 t2 (by omega)
    by_cases k3 : th.length % 7 < 3
    rotate_left
    · rw [show ilt ((th.length % 7 : Nat) : Int) 3 = false from decide_eq_false (by omega), cond_false]
      exact ⟨_, rfl, g1, g2, c2, rfl⟩
    rw [show ilt ((th.length % 7 : Nat) : Int) 3 = true from decide_eq_true (by omega), cond_true]
    have hk : th.length % 7 = 0 ∨ th.length % 7 = 1 ∨ th.length % 7 = 2 := by omega
    -- what is taken for z at the end
    have fin_ : ∀ hull : Sp, spk w hull = true → ∃ p, (bif hull.1 then
          some (.inr ((w, ((), ((), ((), ((), ((), (m, (false, ())))))))), ((hull.1, (hull.2.1, (hull.2.2.1, ()))), ((true, (y1, (y2, ()))), ((true, (x1, (x2, ()))), ((fb r, (ft r, (fq r, ()))), ((fb s, (ft s, (fq s, ()))), ())))))))
        else
          some (.inr ((w, ((), ((), ((), ((), ((), (m, (false, ())))))))), ((true, (g1, (g2, ()))), ((true, (y1, (y2, ()))), ((true, (x1, (x2, ()))), ((fb r, (ft r, (fq r, ()))), ((fb s, (ft s, (fq s, ()))), ())))))))) = (some (.inr p) : Option ((Bool × Unit) ⊕ _)) ∧
        ∃ z1 z2, pok w z1 z2 = true ∧ p = ((w, ((), ((), ((), ((), ((), (m, (false, ())))))))), ((true, (z1, (z2, ()))), ((true, (y1, (y2, ()))), ((true, (x1, (x2, ()))), ((fb r, (ft r, (fq r, ()))), ((fb s, (ft s, (fq s, ()))), ())))))) := by
      intro hull hh
      cases h1 : hull.1
      · exact ⟨_, rfl, g1, g2, c2, rfl⟩
      · obtain ⟨z1, z2, rfl, pz⟩ := spk_some hh h1
        exact ⟨_, rfl, z1, z2, pz, rfl⟩
    rcases hk with hk | hk | hk
    · rw [hk]
      simp only [show (((0 : Nat) : Int) == 0) = true from rfl, cond_true]
      rw [d1]
      simp only [Option.bind_some, sp]
      rw [d3]
      simp only [Option.bind_some, sp]
      rw [sM w (true, (u1, (u2, ()))) (true, (v1, (v2, ())))]
      simp only [Option.bind_some, jb_inr, show (((0 : Nat) : Int) == 1) = false from rfl, show (((0 : Nat) : Int) == 2) = false from rfl, cond_false]
      refine fin_ (mulS w (sp u1 u2) (sp v1 v2)) ?_
      rw [mulS_sp d2 d4, spk_sp]; exact mulS_ok d2 d4
    · rw [hk]
      simp only [show (((1 : Nat) : Int) == 0) = false from rfl, cond_false, jb_inr, show (((1 : Nat) : Int) == 1) = true from rfl, cond_true]
      rw [d1]
      simp only [Option.bind_some, sp]
      rw [d3]
      simp only [Option.bind_some, sp]
      rw [sD w (true, (u1, (u2, ()))) (true, (v1, (v2, ())))]
      simp only [Option.bind_some, jb_inr, show (((1 : Nat) : Int) == 2) = false from rfl, cond_false]
      refine fin_ (divS w (sp u1 u2) (sp v1 v2)) ?_
      have o : ∀ {a b : Int}, pok w a b = true → ok1 w (sp a b) = true := fun h => by rwa [ok1_sp]
      rw [divS_eq (both_sp d2 d4)]
      exact hull_spk (quot_spk a2 (o d2) (o d4)) (quot_spk a2 (ok1_neg (o d2)) (ok1_neg (o d4))) a2
    · rw [hk]
      simp only [show (((2 : Nat) : Int) == 0) = false from rfl, cond_false, jb_inr, show (((2 : Nat) : Int) == 1) = false from rfl, show (((2 : Nat) : Int) == 2) = true from rfl, cond_true]
      rw [d1]
      simp only [Option.bind_some, sp]
      have e4 : iadd .i64 1 (irem .i64 (len m) 4) = ((1 + m.length % 4 : Nat) : Int) := by
        rw [len_eq, irem_eq (by omega), iadd_eq (by omega) (by omega)]; omega
      rw [e4, sP w u1 u2 (1 + m.length % 4) d2 (by omega) (by omega)]
      simp only [Option.bind_some, jb_inr]
      refine fin_ (powS w (sp u1 u2) (1 + m.length % 4 : Nat)) ?_
      rw [powS_sp d2 (by omega)]
      split
      · rw [spk_sp]; exact powL_ok (abs_pok d2).1 (.inr (abs_pok d2).2)
      · rw [spk_sp]; exact powL_ok d2 (.inl (by omega))
  rintro _ ⟨z1, z2, pz, rfl⟩
  simp only
  clear c1 c2 c3 c4 t1 t2 t3 a1 b1
  have oz : ok1 w (sp z1 z2) = true := by rwa [ok1_sp]
  have ox : ok1 w (sp x1 x2) = true := by rwa [ok1_sp]
  have oy : ok1 w (sp y1 y2) = true := by rwa [ok1_sp]
  have ps : ∀ (s : Sp) (r : Rat), fits r → memS w s r → c_w_psIn ((C B0).run n) w s.1 s.2.1 s.2.2.1 (fb r) (ft r) (fq r) = some (true, ()) := fun s r hr hm => by
    rw [hI w s r hr, psI_iff.2 hm]
  have zI : ∀ v : Rat, fits v → c_w_psIn ((C B0).run n) w true z1 z2 (fb v) (ft v) (fq v) = some (psI w (sp z1 z2) v, ()) := fun v hv => hI w (sp z1 z2) v hv
  -- products
  have M1 := hBM w (sp z1 z2) (sp y1 y2) (sp x1 x2)
  have i1 := hIs (bmulS w (sp z1 z2) (sp y1 y2) (sp x1 x2)) (sp x1 x2)
  rw [bmul_isS] at i1
  have p1 := fun h => ps _ r a4 (@memS_bmul w (sp z1 z2) (sp y1 y2) (sp x1 x2) r s h ms mr)
  generalize bmulS w (sp z1 z2) (sp y1 y2) (sp x1 x2) = R1 at M1 i1 p1
  simp only [sp] at M1 i1
  rw [M1]
  simp only [Option.bind_some]
  rw [i1]
  simp only [Option.bind_some, Bool.not_true, cond_false]
  rw [fM r s a4 b3]
  simp only [Option.bind_some]
  refine Eq.trans (jb_of (p := ?zp1) ?zx1 _) ?zk1
  case zx1 =>
    by_cases h : fits (r * s)
    · rw [resF_fits h]
      simp only [cond_true]
      rw [zI _ h]
      simp only [Option.bind_some]
      cases hp : psI w (sp z1 z2) (r * s)
      · rfl
      · simp only [cond_true]
        rw [p1 (psI_iff.1 hp)]
        rfl
    · rw [resF_not h]; rfl
  simp only [cond_false]
  clear M1 i1 p1
  -- quotients
  have M2 := hBT w (sp z1 z2) (sp y1 y2) (sp x1 x2)
  have M3 := hBB w (sp z1 z2) (sp x1 x2) (sp y1 y2)
  have i2 := hIs (btopS w (sp z1 z2) (sp y1 y2) (sp x1 x2)) (sp x1 x2)
  have i3 := hIs (bbotS w (sp z1 z2) (sp x1 x2) (sp y1 y2)) (sp y1 y2)
  rw [btop_isS] at i2
  rw [bbot_isS] at i3
  have p2 := fun (h : memS w (sp z1 z2) (r / s)) (h0 : s ≠ 0) => ps _ r a4 (memS_btop h ms mr h0).1
  have p3 := fun (h : memS w (sp z1 z2) (r / s)) (h0 : s ≠ 0) => ps _ s b3 (memS_btop h ms mr h0).2
  generalize btopS w (sp z1 z2) (sp y1 y2) (sp x1 x2) = R2 at M2 i2 p2
  generalize bbotS w (sp z1 z2) (sp x1 x2) (sp y1 y2) = R3 at M3 i3 p3
  simp only [sp] at M2 i2 M3 i3
  rw [M2, M3]
  simp only [Option.bind_some]
  rw [i2]
  simp only [Option.bind_some, Bool.not_true, cond_false]
  rw [i3]
  simp only [Option.bind_some, Bool.not_true, jb_inr, cond_false]
  rw [fD r s a4 b3]
  simp only [Option.bind_some]
  refine Eq.trans (jb_of (p := ?zp2) ?zx2 _) ?zk2
  case zx2 =>
    by_cases h0 : s = 0
    · rw [if_pos h0]; rfl
    rw [if_neg h0]
    by_cases h : fits (r / s)
    · rw [resF_fits h]
      simp only [cond_true]
      rw [zI _ h]
      simp only [Option.bind_some]
      cases hp : psI w (sp z1 z2) (r / s)
      · rfl
      · simp only [cond_true]
        rw [p2 (psI_iff.1 hp) h0]
        simp only [Option.bind_some, Bool.not_true, cond_false]
        rw [p3 (psI_iff.1 hp) h0]
        rfl
    · rw [resF_not h]; rfl
  simp only [cond_false]
  clear M2 M3 i2 i3 p2 p3
  -- powers
  have e5 : irem .i64 (len m) 5 = ((m.length % 5 : Nat) : Int) := by rw [len_eq, irem_eq (by omega)]; omega
  rw [e5]
  have hk8 : m.length % 5 ≤ 8 := by omega
  generalize m.length % 5 = k at hk8
  have M4 := hBP w (sp z1 z2) k (sp x1 x2) hk8
  have i4 := hIs (bpowS w (sp z1 z2) k (sp x1 x2)) (sp x1 x2)
  rw [bpow_isS] at i4
  have p4 := fun h => ps _ r a4 (memS_bpow (z := sp z1 z2) hk8 h mr)
  generalize bpowS w (sp z1 z2) k (sp x1 x2) = R4 at M4 i4 p4
  simp only [sp] at M4 i4
  rw [M4]
  simp only [Option.bind_some]
  rw [i4]
  simp only [Option.bind_some, Bool.not_true, cond_false]
  rw [fP r k a4 (by omega)]
  simp only [Option.bind_some]
  refine Eq.trans (jb_of (p := ?zp3) ?zx3 _) ?zk3
  case zx3 =>
    by_cases h : fits (r ^ k)
    · rw [resF_fits h]
      simp only [cond_true]
      rw [zI _ h]
      simp only [Option.bind_some]
      cases hp : psI w (sp z1 z2) (r ^ k)
      · rfl
      · simp only [cond_true]
        rw [p4 (psI_iff.1 hp)]
        rfl
    · rw [resF_not h]; rfl
  simp only [cond_false]
  clear M4 i4 p4
  -- roots, sizes
  have M5 := hBR w (sp z1 z2) (sp x1 x2)
  have M6 := hBA w (sp z1 z2) (sp x1 x2)
  have i5 := hIs (brootS w (sp z1 z2) (sp x1 x2)) (sp x1 x2)
  have i6 := hIs (babsS w (sp z1 z2) (sp x1 x2)) (sp x1 x2)
  rw [broot_isS] at i5
  rw [babs_isS] at i6
  have p5 := fun (v : Rat) (h1 : 0 ≤ v) (h2 : v ^ 2 = r) h => ps _ r a4 (memS_broot (z := sp z1 z2) h1 h2 h mr)
  have p6 := fun h => ps _ r a4 (memS_babs (z := sp z1 z2) h mr)
  generalize brootS w (sp z1 z2) (sp x1 x2) = R5 at M5 i5 p5
  generalize babsS w (sp z1 z2) (sp x1 x2) = R6 at M6 i6 p6
  simp only [sp] at M5 i5 M6 i6
  rw [M5, M6]
  simp only [Option.bind_some]
  rw [i5]
  simp only [Option.bind_some, Bool.not_true, cond_false]
  rw [i6]
  simp only [Option.bind_some, Bool.not_true, jb_inr, cond_false]
  obtain ⟨rc, rt_, ru, rv, r1, r2⟩ := fR r a4
  rw [r1]
  simp only [Option.bind_some]
  refine Eq.trans (jb_of (p := ?zp4) ?zx4 _) ?zk4
  case zx4 =>
    cases rt_
    · rfl
    obtain ⟨v, v1, v2, v3, rfl, rfl, rfl⟩ := r2 rfl
    simp only [cond_true]
    rw [zI _ v3]
    simp only [Option.bind_some]
    cases hp : psI w (sp z1 z2) v
    · rfl
    · simp only [cond_true]
      rw [p5 v v1 v2 (psI_iff.1 hp)]
      rfl
  simp only [cond_false]
  rw [fA r a4]
  simp only [Option.bind_some, cond_true]
  refine Eq.trans (jb_of (p := ?zp5) ?zx5 _) ?zk5
  case zx5 =>
    rw [zI _ (rabs_fits a4)]
    simp only [Option.bind_some]
    cases hp : psI w (sp z1 z2) (rabs r)
    · rfl
    · simp only [cond_true]
      rw [p6 (psI_iff.1 hp)]
      rfl
  simp only [cond_false]
  clear M5 M6 i5 i6 p5 p6 r1 r2
  -- the lesser, the greater
  rw [fC r s a4 b3]
  simp only [Option.bind_some, cmpR_one]
  have fmn : fits (mnF r s) := by rcases mnF_or r s with h | h <;> rw [h] <;> assumption
  have fmx : fits (mxF r s) := by rcases mxF_or r s with h | h <;> rw [h] <;> assumption
  refine Eq.trans (jb_of (p := ((w, ((), ((), ((), ((), ((), ((), (false, ())))))))), ((true, (z1, (z2, ()))), ((true, (y1, (y2, ()))), ((true, (x1, (x2, ()))), ((fb (mnF r s), (ft (mnF r s), (fq (mnF r s), ()))), ((fb r, (ft r, (fq r, ()))), ((fb (mxF r s), (ft (mxF r s), (fq (mxF r s), ()))), ())))))))) ?_ _) ?_
  · unfold mnF mxF
    by_cases h : s < r
    · rw [decide_eq_true h, if_pos h, if_neg (by grind)]; rfl
    · rw [decide_eq_false h, if_neg h]
      by_cases h' : r < s
      · rw [if_pos h']; rfl
      · have e : r = s := by grind
        rw [if_neg h', e]; rfl
  simp only
  have M7 := hBN w (sp z1 z2) (sp y1 y2) (sp x1 x2)
  have M8 := hBX w (sp z1 z2) (sp y1 y2) (sp x1 x2)
  have i7 := hIs (bminS w (sp z1 z2) (sp y1 y2) (sp x1 x2)) (sp x1 x2)
  have i8 := hIs (bmaxS w (sp z1 z2) (sp y1 y2) (sp x1 x2)) (sp x1 x2)
  rw [bmin_isS] at i7
  rw [bmax_isS ox] at i8
  have p7 := fun h => ps _ r a4 (@memS_bmin w (sp z1 z2) (sp y1 y2) (sp x1 x2) r s h ms mr)
  have p8 := fun h => ps _ r a4 (@memS_bmax w (sp z1 z2) (sp y1 y2) (sp x1 x2) r s h ms mr)
  generalize bminS w (sp z1 z2) (sp y1 y2) (sp x1 x2) = R7 at M7 i7 p7
  generalize bmaxS w (sp z1 z2) (sp y1 y2) (sp x1 x2) = R8 at M8 i8 p8
  simp only [sp] at M7 i7 M8 i8
  rw [M7, M8]
  simp only [Option.bind_some]
  rw [i7]
  simp only [Option.bind_some, Bool.not_true, cond_false]
  rw [i8]
  simp only [Option.bind_some, Bool.not_true, jb_inr, cond_false]
  rw [zI _ fmn]
  simp only [Option.bind_some]
  have last : (c_w_psIn ((C B0).run n) w true z1 z2 (fb (mxF r s)) (ft (mxF r s)) (fq (mxF r s))).bind (fun (r28_13_1, _) =>
        bif (!r28_13_1) then
          some (.inr ((true, ()), ()))
        else
        (c_w_psIn ((C B0).run n) w R8.1 R8.2.1 R8.2.2.1 (fb r) (ft r) (fq r)).bind fun (r28_14_1, _) =>
        some (.inr ((r28_14_1, ()), ()))) = (some (.inr ((true, ()), ())) : Option ((Bool × Unit) ⊕ ((Bool × Unit) × Unit))) := by
    rw [zI _ fmx]
    simp only [Option.bind_some]
    cases hp : psI w (sp z1 z2) (mxF r s)
    · rfl
    · simp only [Bool.not_true, cond_false]
      rw [p8 (psI_iff.1 hp)]
      rfl
  cases hp : psI w (sp z1 z2) (mnF r s)
  · simp only [Bool.not_false, cond_true]
    rw [last]
    rfl
  · simp only [Bool.not_true, cond_false]
    rw [p7 (psI_iff.1 hp)]
    simp only [Option.bind_some, cond_true]
    rw [last]
    rfl
end Go.Px.Seat
