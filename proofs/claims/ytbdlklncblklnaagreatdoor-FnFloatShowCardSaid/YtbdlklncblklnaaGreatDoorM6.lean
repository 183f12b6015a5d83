/- Own texts, part M6: PnW PqH PqI PqJ. -/
import Derived.Test.YtbdlklncblklnaaGreatDoorM5
import Derived.Test.YtbdlklncblklnaaGreatDoorM4
set_option linter.unusedVariables false

/- Quotients, powers, sizes of fractions: the reference's; more that lies in spans. Seat ZD. -/
namespace Pm
open Go.Px Go.Px.Seat
def rabs (r : Rat) : Rat := if r < 0 then -r else r
theorem rabs_nonneg (r : Rat) : 0 ≤ rabs r := by
  unfold rabs
  split <;> grind
theorem rabs_fb (r : Rat) : fb (rabs r) = false := by rw [fb_iff]; exact decide_eq_false (Rat.not_lt.2 (rabs_nonneg r))
theorem rabs_ft (r : Rat) : ft (rabs r) = ft r := by unfold rabs; split <;> simp [ft_neg]
theorem rabs_fq (r : Rat) : fq (rabs r) = fq r := by unfold rabs; split <;> simp [fq_neg]
theorem rabs_fits {r : Rat} (h : fits r) : fits (rabs r) := by
  unfold rabs
  split
  · exact fits_neg.2 h
  · exact h
end Pm
namespace Go.Px.Seat
open Go Pm
set_option linter.unusedVariables false
variable {B : Run}
theorem k_sFracDiv : Ev fun n => ∀ r s : Rat, fits r → fits s → c_s_FracDiv ((C B).run n) (fb r) (ft r) (fq r) (fb s) (ft s) (fq s) = some (if s = 0 then (false, ([], ([], (false, ())))) else resF (r / s)) := by
  refine ((k_sFracOk (B := B)).and ((k_sMul (B := B)).and (k_sMake (B := B)))).succ fun n hn ⟨hO, hM, hK⟩ r s hr hs => ?_
  rw [run_succ, e_s_FracDiv]
  unfold p_s_FracDiv
  obtain ⟨r1, r2⟩ := fits_len hr
  obtain ⟨s1, s2⟩ := fits_len hs
  rw [hO, hO, fok_fr, fok_fr, decide_eq_true hr, decide_eq_true hs]
  simp only [Option.bind_some, Bool.not_true, cond_false, jb_inr, len_zero_iff]
  by_cases h0 : s = 0
  · rw [if_pos h0, ft_nil.2 h0]; rfl
  have e : (ft s).isEmpty = false := by
    cases h : (ft s).isEmpty
    · rfl
    · exact absurd (ft_nil.1 (List.isEmpty_iff.1 h)) h0
  rw [if_neg h0, e, cond_false]
  simp only [ft, fq] at r1 r2 s1 s2 ⊢
  have l1 := len_dig_mul r.num.natAbs s.den
  have l3 := len_dig_mul r.den s.num.natAbs
  have hn : s.num.natAbs ≠ 0 := fun h => h0 (Rat.num_eq_zero.1 (Int.natAbs_eq_zero.1 h))
  rw [hM _ _ (by omega) (by omega)]
  simp only [Option.bind_some]
  rw [hM _ _ (by omega) (by omega)]
  simp only [Option.bind_some, beqB_eq]
  have e' : (!(fb r == fb s)) = (fb r != fb s) := rfl
  rw [e', hK _ _ _ (Nat.mul_ne_zero r.den_nz hn) (by omega) (by omega), ← div_sg h0]
  rfl
theorem k_sFracAbs : Ev fun n => ∀ r : Rat, fits r → c_s_FracAbs ((C B).run n) (fb r) (ft r) (fq r) = some (fb (rabs r), (ft (rabs r), (fq (rabs r), (true, ())))) := by
  refine ((k_sFracOk (B := B)).and (k_sTrim (B := B))).succ fun n hn ⟨hO, hT⟩ r hr => ?_
  rw [run_succ, e_s_FracAbs]
  unfold p_s_FracAbs
  obtain ⟨r1, r2⟩ := fits_len hr
  have st : ∀ x, strip (dig x) = dig x := fun x => by rw [strip_dig (dig_Dg x), val_dig, Int.toNat_natCast]
  have e1 : strip (ft r) = ft r := st _
  have e2 : strip (fq r) = fq r := st _
  rw [hO, fok_fr, decide_eq_true hr]
  simp only [Option.bind_some, Bool.not_true, cond_false]
  rw [hT _ (by omega), hT _ (by omega), e1, e2, rabs_fb, rabs_ft, rabs_fq]
  rfl
theorem k_sFracNeg : Ev fun n => ∀ r : Rat, fits r → c_s_FracNeg ((C B).run n) (fb r) (ft r) (fq r) = some (fb (-r), (ft (-r), (fq (-r), (true, ())))) := by
  refine ((k_sFracOk (B := B)).and (k_sNegR (B := B))).succ fun n hn ⟨hO, hN⟩ r hr => ?_
  rw [run_succ, e_s_FracNeg]
  unfold p_s_FracNeg
  rw [hO, fok_fr, decide_eq_true hr]
  simp only [Option.bind_some, Bool.not_true, cond_false]
  rw [hN r hr]
  rfl
end Go.Px.Seat

/- What is drawn to be shown; literals read: the reference. -/
namespace Go.Px.Seat
open Go Pm
set_option linter.unusedVariables false
theorem k_ordAny : Ev fun n => ∀ (b : List Int) (p w : Int), rdr b → 0 ≤ p → p < 274877906944 → Tot (c_s_l31Rd_ord ((C B0).run n) b p w) (fun r => ∃ v p', r = (v, (b, (p', ()))) ∧ p ≤ p' ∧ p' ≤ p + 32) := by
  refine ((k_pick (B := B0)).and ((k_big (B := B0)).and (k_sTop' (B := B0)))).succ fun n hn ⟨hP, hB, hT⟩ b p w hb h1 h2 => ?_
  rw [run_succ, e_s_l31Rd_ord]
  unfold p_s_l31Rd_ord
  have ht := top_lt w
  refine tot_eq (hT w) ?_
  dsimp only
  refine tot_jb (fun s => ∃ n6 p1 : Int, s = (((), (top w, (n6, (0, ())))), ((b, (p1, ())), ())) ∧ p ≤ p1 ∧ p1 ≤ p + 16) ?_ ?_
  · obtain ⟨v, a1, a2, a3⟩ := hP b p 10 hb (by omega) (by omega) (by omega) (by omega)
    refine tot_eq a1 ?_
    dsimp only
    refine tot_if (fun _ => ?_) (fun _ => tot_if (fun _ => ?_) (fun _ => ?_))
    · obtain ⟨v6, b1, b2, b3⟩ := hP b (p + 1) 6 hb (by omega) (by omega) (by omega) (by omega)
      exact tot_eq b1 (tot_some ⟨_, p + 1 + 1, rfl, by omega, by omega⟩)
    · obtain ⟨v6, b1, b2, b3⟩ := hP b (p + 1) 6 hb (by omega) (by omega) (by omega) (by omega)
      exact tot_eq b1 (tot_some ⟨_, p + 1 + 1, rfl, by omega, by omega⟩)
    · rw [jb_of (p := ((((v == 2) || (v == 3)), ((), (w, (v, (top w, (0, (0, ()))))))), ((b, (p + 1, ())), ()))) (by cases v == 2 <;> rfl)]
      dsimp only
      refine tot_if (fun _ => ?_) (fun _ => tot_if (fun _ => ?_) (fun _ => ?_))
      · obtain ⟨vk, c1, c2, c3⟩ := hP b (p + 1) 2048 hb (by omega) (by omega) (by omega) (by omega)
        obtain ⟨v4, d1, d2, d3⟩ := hP b (p + 1 + 1) 4 hb (by omega) (by omega) (by omega) (by omega)
        refine tot_eq c1 (tot_eq d1 ?_)
        dsimp only
        refine tot_if (fun _ => ?_) (fun _ => tot_some ⟨_, p + 1 + 1 + 1, rfl, by omega, by omega⟩)
        obtain ⟨vl, e1, e2, e3⟩ := hP b (p + 1 + 1 + 1) 256 hb (by omega) (by omega) (by omega) (by omega)
        obtain ⟨vm, f1, f2, f3⟩ := hP b (p + 1 + 1 + 1 + 1) 4 hb (by omega) (by omega) (by omega) (by omega)
        exact tot_eq e1 (tot_eq f1 (tot_some ⟨_, p + 1 + 1 + 1 + 1 + 1, rfl, by omega, by omega⟩))
      · obtain ⟨vn, g1, g2, g3⟩ := hP b (p + 1) 1048576 hb (by omega) (by omega) (by omega) (by omega)
        exact tot_eq g1 (tot_some ⟨_, p + 1 + 1, rfl, by omega, by omega⟩)
      · obtain ⟨vb, i1⟩ := hB b (p + 1) hb (by omega) (by omega)
        refine tot_eq i1 ?_
        dsimp only
        rw [iadd_eq (x := top w) (by omega) (by omega)]
        exact tot_if (fun h => tot_ok (by
          have : 0 < top w := by simpa using h
          simp only [Bool.not_eq_true', beq_eq_false_iff_ne, ne_eq]
          omega) (tot_some ⟨_, p + 1 + 8, rfl, by omega, by omega⟩)) (fun _ => tot_some ⟨_, p + 1 + 8, rfl, by omega, by omega⟩)
  · rintro _ ⟨n6, p1, rfl, q1, q2⟩
    dsimp only
    refine tot_jb (fun s => ∃ n6 p1 : Int, s = (((), (n6, (0, ()))), ((b, (p1, ())), ())) ∧ p ≤ p1 ∧ p1 ≤ p + 18) ?_ ?_
    · obtain ⟨v, a1, a2, a3⟩ := hP b p1 40 hb (by omega) (by omega) (by omega) (by omega)
      refine tot_eq a1 ?_
      dsimp only
      refine tot_if (fun _ => ?_) (fun _ => tot_if (fun _ => tot_some ⟨_, p1 + 1, rfl, by omega, by omega⟩) (fun _ => tot_some ⟨_, p1 + 1, rfl, by omega, by omega⟩))
      obtain ⟨v6, b1, b2, b3⟩ := hP b (p1 + 1) 3 hb (by omega) (by omega) (by omega) (by omega)
      exact tot_eq b1 (tot_some ⟨_, p1 + 1 + 1, rfl, by omega, by omega⟩)
    · rintro _ ⟨n6, p2, rfl, q3, q4⟩
      dsimp only
      obtain ⟨v, a1, a2, a3⟩ := hP b p2 2 hb (by omega) (by omega) (by omega) (by omega)
      refine tot_eq a1 ?_
      dsimp only
      exact tot_if (fun _ => tot_some ⟨_, p2 + 1, rfl, by omega, by omega⟩) (fun _ => tot_some ⟨_, p2 + 1, rfl, by omega, by omega⟩)
theorem k_width : Ev fun n => ∀ (b : List Int) (p : Int), rdr b → 0 ≤ p → p < 274877906944 → Tot (c_s_l31Rd_width ((C B0).run n) b p) (fun r => ∃ v p', r = (v, (b, (p', ()))) ∧ p ≤ p' ∧ p' ≤ p + 2) := by
  refine (k_pick (B := B0)).succ fun n hn hP b p hb h1 h2 => ?_
  rw [run_succ, e_s_l31Rd_width]
  unfold p_s_l31Rd_width
  obtain ⟨v, a1, a2, a3⟩ := hP b p 32 hb (by omega) (by omega) (by omega) (by omega)
  refine tot_eq a1 ?_
  dsimp only
  refine tot_if (fun _ => tot_some ⟨_, p + 1, rfl, by omega, by omega⟩) (fun _ => tot_if (fun _ => tot_some ⟨_, p + 1, rfl, by omega, by omega⟩) (fun _ => ?_))
  obtain ⟨v4, b1, b2, b3⟩ := hP b (p + 1) 4 hb (by omega) (by omega) (by omega) (by omega)
  exact tot_eq b1 (tot_ok (inB_true b2 b3) (tot_some ⟨_, p + 1 + 1, rfl, by omega, by omega⟩))
theorem k_drawFS : Ev fun n => ∀ l : List Int, byt l → l.length ≤ 1099511627776 → Tot (c_s_DrawFloatShow ((C B0).run n) l) (fun _ => True) := by
  refine ((k_open (B := B0)).and (k_width.and (k_ordAny.and ((k_pick (B := B0)).and ((k_sWidth (B := B0)).and (k_nice (B := B0))))))).succ fun n hn ⟨ho, hw, hr, hP, hW, hN⟩ l hl hlen => ?_
  rw [run_succ, e_s_DrawFloatShow]
  unfold p_s_DrawFloatShow
  obtain ⟨b, h1, hb⟩ := ho l hl hlen
  refine tot_eq h1 ?_
  dsimp only
  refine tot_bind _ (hw b 0 hb (by omega) (by omega)) ?_
  rintro _ ⟨w, p1, rfl, q1, q2⟩
  dsimp only
  refine tot_bind _ (hr b p1 w hb (by omega) (by omega)) ?_
  rintro _ ⟨o, p2, rfl, q3, q4⟩
  dsimp only
  refine tot_jb (fun s => ∃ o' p3 : Int, s = ((w, (o', ((), (0, (0, (false, ())))))), ((b, (p3, ())), ())) ∧ 0 ≤ p3 ∧ p3 ≤ 1000) ?_ ?_
  · refine tot_jb (fun s => ∃ t : Bool, s = ((t, ((), (w, (o, (0, (0, (false, ()))))))), ((b, (p2 + 1, ())), ())) ∧ (t = true → wd w = true)) ?_ ?_
    · obtain ⟨v, a1, a2, a3⟩ := hP b p2 4 hb (by omega) (by omega) (by omega) (by omega)
      refine tot_eq a1 ?_
      dsimp only
      exact tot_if (fun _ => tot_eq (hW w) (tot_some ⟨_, rfl, fun h => h⟩)) (fun _ => tot_some ⟨_, rfl, fun h => (by cases h)⟩)
    · rintro _ ⟨t, rfl, ht⟩
      dsimp only
      refine tot_if (fun h => ?_) (fun _ => tot_some ⟨_, p2 + 1, rfl, by omega, by omega⟩)
      obtain ⟨v, hv⟩ := hN b (p2 + 1) w hb (by omega) (by omega) (ht h)
      exact tot_eq hv (tot_some ⟨_, p2 + 1 + 3, rfl, by omega, by omega⟩)
  · rintro _ ⟨o', p3, rfl, q5, q6⟩
    dsimp only
    obtain ⟨v, a1, a2, a3⟩ := hP b p3 2 hb (by omega) (by omega) (by omega) (by omega)
    exact tot_eq a1 (tot_some trivial)
theorem k_sDecFrac : Ev fun n => ∀ (c0 : Nat) (rest : List Nat) (K : Int), isd c0 = true → (∀ x ∈ rest, isd x = true) → rest.length ≤ 40 → -401 < K → K < 401 →
    c_s_DecFrac ((C B0).run n) (bs (c0 :: (pB rest ++ pC K))) = some (resF (mkRat ((vd 0 (c0 :: rest) * tp (K - rest.length) : Nat) : Int) (tp (-(K - rest.length))))) := by
  refine (k_s7Parts.and ((k_sTimes (B := B0)).and ((k_sNatOf (B := B0)).and ((k_sAdd (B := B0)).and ((k_sTrim (B := B0)).and (k_s7Tens.and ((k_sMul (B := B0)).and (k_sMake (B := B0))))))))).succ fun n hn ⟨kp, kt, ko, ka, kr, ks, km, kk⟩ c0 rest K hc0 hrest hrl hK1 hK2 => ?_
  rw [run_succ, e_s_DecFrac]
  unfold p_s_DecFrac
  rw [kp c0 rest K hc0 hrest hrl hK1 hK2]
  simp only [Option.bind_some]
  rw [Bool.not_true, cond_false]
  obtain ⟨ds, hds⟩ : ∃ ds, ds = c0 :: rest := ⟨_, rfl⟩
  have hdl : ds.length = rest.length + 1 := by rw [hds]; rfl
  have hdi : ∀ x ∈ ds, isd x = true := by
    rw [hds]
    intro x hx
    rcases List.mem_cons.1 hx with rfl | hx
    · exact hc0
    · exact hrest x hx
  have hdb : Bl ds := fun x hx => isd_lt (hdi x hx)
  rw [← hds]
  have hvl : ∀ i, (dig (vd 0 (ds.take i))).length ≤ 42 := by
    intro i
    have h1 := vd_lt (ds.take i) 0 (fun x hx => hdi x (List.mem_of_mem_take hx))
    rw [Nat.zero_add, Nat.one_mul] at h1
    have h2 := dig_len_mono (Nat.le_of_lt h1)
    have h3 := dig_ten (ds.take i).length
    have h4 : (ds.take i).length ≤ ds.length := by rw [List.length_take]; omega
    omega
  refine iter_const (fun s => ∃ i : Nat, s = (((i : Int), (bs ds, (dig (vd 0 (ds.take i)), (K, ((rest.length : Int), ((), (false, ()))))))), ((false, ((), ((), ()))), ())) ∧ i ≤ ds.length) (fun s => (1000 - s.1.1).toNat) _ ?_ n _ (by simp only; omega) ⟨0, by
    rw [List.take_zero]
    have : dig (vd 0 []) = [] := dig_zero
    rw [this]; rfl, Nat.zero_le _⟩
  rintro rec _ ⟨i, rfl, hi⟩ ih
  dsimp only
  have hv := hvl i
  rw [bs_len, ilt_iff]
  by_cases h1 : i < ds.length
  · have t10 := kt (vd 0 (ds.take i)) 10 (by omega) (by decide)
    rw [show (((10 : Nat) : Int)) = 10 from rfl] at t10
    rw [decide_eq_true (by omega), cond_true, t10]
    simp only [Option.bind_some]
    have h9 := isd_iff.1 (hdi (ds.getD i 0) (by
      rw [List.getD_eq_getElem?_getD, List.getElem?_eq_getElem h1]
      exact List.getElem_mem _))
    have e8 : isub .u8 ((ds.getD i 0 : Nat) : Int) 48 = (((ds.getD i 0 - 48 : Nat)) : Int) := by
      show IntKind.u8.wrap _ = _
      rw [wrapu8 (by omega) (by omega)]
      omega
    have ev : vd 0 (ds.take (i + 1)) = vd 0 (ds.take i) * 10 + (ds.getD i 0 - 48) := by
      rw [List.take_add_one, List.getElem?_eq_getElem h1, vd_app, List.getD_eq_getElem?_getD, List.getElem?_eq_getElem h1]
      rfl
    have hd10 : (dig (vd 0 (ds.take i) * 10)).length ≤ 43 := by
      have := len_dig_mul (vd 0 (ds.take i)) 10
      have e10 : (dig 10).length = 1 := by rw [dig_of_lt (by decide) (by decide)]; rfl
      omega
    have hd1 : (dig (ds.getD i 0 - 48)).length ≤ 1 := dig_len_le.2 (by omega)
    rw [ok_of (inB_true (by omega) (by omega)), bs_bt hdb, e8, wrapu64 (by omega) (by omega), ko _ (by omega)]
    simp only [Option.bind_some]
    rw [ka _ _ (by omega) (by omega)]
    simp only [Option.bind_some]
    rw [← ev, kr _ (by have := hvl (i + 1); omega), strip_dig (dig_Dg _), val_dig, Int.toNat_natCast]
    simp only [Option.bind_some]
    rw [iadd_eq (by omega) (by omega)]
    exact ih _ ⟨i + 1, by simp, by omega⟩ (by simp only; omega)
  · have hil : i = ds.length := by omega
    have htk : ds.take i = ds := by rw [hil, List.take_length]
    rw [htk] at hv
    rw [decide_eq_false (by omega), cond_false, htk, isub_eq (by omega) (by omega), ile_iff]
    obtain ⟨e, he⟩ : ∃ e, e = K - (rest.length : Int) := ⟨_, rfl⟩
    rw [← he]
    by_cases h0 : 0 ≤ e
    · have hte := tp_len (k := e) (by omega)
      have := ks e.toNat (by omega)
      rw [show ((e.toNat : Nat) : Int) = e by omega] at this
      rw [decide_eq_true h0, cond_true, this]
      simp only [Option.bind_some]
      have hl2 := len_dig_mul (vd 0 ds) (tp e)
      rw [km _ _ (by omega) (by unfold tp at hte; omega)]
      simp only [Option.bind_some]
      show (c_s_l6Make _ false (dig (vd 0 ds * tp e)) [1]).bind _ = _
      rw [one_dg, kk false _ 1 (by decide) (by omega) (by rw [← one_dg]; decide), tp_one (k := -e) (by omega)]
      rfl
    · have hte := tp_len (k := -e) (by omega)
      rw [decide_eq_false h0, cond_false, ineg_eq (by omega) (by omega)]
      have := ks (-e).toNat (by omega)
      rw [show (((-e).toNat : Nat) : Int) = -e by omega] at this
      rw [this]
      simp only [Option.bind_some]
      show (c_s_l6Make _ false (dig (vd 0 ds)) (dig (tp (-e)))).bind _ = _
      rw [kk false _ _ (Nat.ne_of_gt (tp_pos _)) (by omega) (by omega), tp_one (k := e) (by omega), Nat.mul_one]
      rfl
end Go.Px.Seat

/- Values of what is shown: plain. -/
namespace Pm
open Go.Px.Seat
theorem G_fv4 {w o : Int} {p q : Nat} (hf : fin w o) (ho : ¬ o < 0) (hq : q ≠ 0) (h : mkRat (p : Int) q = fv w o) : ¬ G p q 400 := by
  rw [fv_nat ho] at h
  have hr := ratio_of hq (pow2_ne _) h
  have hs := sz_lt w o
  have hsh := shf_sub hf
  obtain ⟨bb, hbb⟩ : ∃ b : Nat, b = 400 := ⟨_, rfl⟩
  rw [G_ratio hq (pow2_ne _) hr, G_iff (m := bb) (n := 0) (by omega), Nat.pow_zero, Nat.mul_one]
  have h1 : sz w o * 2 ^ shf w o < 2 ^ 53 * 2 ^ (lst w + 971) := by
    have h2 : 2 ^ shf w o ≤ 2 ^ (lst w + 971) := Nat.pow_le_pow_right (by decide) hsh
    refine Nat.lt_of_lt_of_le (Nat.mul_lt_mul_of_pos_right (show sz w o < 2 ^ 53 by omega) (Nat.pow_pos (by decide))) (Nat.mul_le_mul_left _ h2)
  have h3 : 2 ^ 53 * 2 ^ (lst w + 971) ≤ 2 ^ lst w * 10 ^ bb := by
    obtain ⟨e, he⟩ : ∃ e : Nat, e = 1024 := ⟨_, rfl⟩
    rw [← Nat.pow_add, show 53 + (lst w + 971) = lst w + e by omega, Nat.pow_add]
    exact Nat.mul_le_mul_left _ (two_ten' (by omega))
  omega
/-- a float above 0 in parts, and how many tens it has -/
theorem fv_parts {w o : Int} (hf : fin w o) (h : 0 < o) : ∃ k, LG (fv w o).num.natAbs (fv w o).den k ∧ -400 ≤ k ∧ k < 400 ∧ (fv w o).num.natAbs ≠ 0 ∧ fv w o = mkRat (((fv w o).num.natAbs : Nat) : Int) (fv w o).den := by
  have hpos : 0 < fv w o := by
    have h1 : fv w 0 < fv w o := fv_lt.2 h
    rwa [fv_zero] at h1
  have hnum : 0 < (fv w o).num := by
    have h1 : 0 ≤ (fv w o).num := Rat.num_nonneg.2 (Rat.le_of_lt hpos)
    have h2 : (fv w o).num ≠ 0 := fun h0 => by
      rw [Rat.num_eq_zero.1 h0] at hpos
      exact Rat.lt_irrefl hpos
    omega
  have hself : mkRat (((fv w o).num.natAbs : Nat) : Int) (fv w o).den = fv w o := by
    rw [show ((((fv w o).num.natAbs : Nat)) : Int) = (fv w o).num by omega, Rat.mkRat_self]
  have hn0 : (fv w o).num.natAbs ≠ 0 := by omega
  obtain ⟨g1, _⟩ := G_fv hf (by omega) hn0 (fv w o).den_nz hself
  have g2 := G_fv4 hf (by omega) (fv w o).den_nz hself
  obtain ⟨k, hk, h1, h2⟩ := LG_ex 800 (-400) g1 (by simpa using g2)
  exact ⟨k, hk, h1, by omega, hn0, hself.symm⟩
/-- the value of the text of a number -/
noncomputable def nv (p q : Nat) (up : Bool) : Rat := mkRat ((rnd up (p * tp (8 - lgOf p q)) (q * tp (lgOf p q - 8)) * tp (lgOf p q - 8) : Nat) : Int) (tp (8 - lgOf p q))
noncomputable def pv (w o : Int) (up : Bool) : Rat := if o = 0 then 0 else nv (fv w o).num.natAbs (fv w o).den up
noncomputable def lvv (w o : Int) (up : Bool) : Rat := if o < 0 then -pv w (-o) (!up) else pv w o up
theorem ten_fits {m : Nat} (h : m ≤ 800) : 10 ^ m < 65536 ^ 256 := by
  have key : ∀ j : Nat, m ≤ 4 * j → j < 256 → 10 ^ m < 65536 ^ 256 := by
    intro j h1 h2
    have e1 : 10 ^ m ≤ 10 ^ (4 * j) := Nat.pow_le_pow_right (by decide) h1
    have e2 : 10 ^ (4 * j) ≤ 65536 ^ j := by rw [Nat.pow_mul]; exact Nat.pow_le_pow_left (by decide) j
    have e3 : 65536 ^ j < 65536 ^ 256 := Nat.pow_lt_pow_right (by decide) h2
    omega
  exact key 200 h (by decide)
theorem nv_facts {p q : Nat} {k : Int} (up : Bool) (hq : q ≠ 0) (h : LG p q k) (h1 : -400 ≤ k) (h2 : k < 400) : fits (nv p q up) ∧
    ∃ (c0 : Nat) (rest : List Nat) (K : Int), numTxt p q up = c0 :: (pB rest ++ pC K) ∧ isd c0 = true ∧ (∀ x ∈ rest, isd x = true) ∧ rest.length ≤ 40 ∧ -401 < K ∧ K < 401 ∧
      mkRat ((vd 0 (c0 :: rest) * tp (K - rest.length) : Nat) : Int) (tp (-(K - rest.length))) = nv p q up := by
  have hl := shown_len (up := up) hq h
  have h9 := LG_nine hq h
  have hrd := rnd_le (up := up) (a := p * tp (8 - k)) (b := q * tp (k - 8))
  unfold nv numTxt
  rw [lgOf_eq h]
  obtain ⟨N, hN⟩ : ∃ N, N = rnd up (p * tp (8 - k)) (q * tp (k - 8)) := ⟨_, rfl⟩
  rw [← hN] at hl hrd ⊢
  have hN9 : N ≤ 10 ^ 9 := by omega
  constructor
  · refine fits_mkI (Nat.ne_of_gt (tp_pos _)) ?_ ?_
    · rw [Int.natAbs_natCast]
      obtain ⟨e, he⟩ : ∃ e : Nat, e = 400 := ⟨_, rfl⟩
      have : N * tp (k - 8) ≤ 10 ^ (9 + e) := by
        rw [Nat.pow_add]
        exact Nat.mul_le_mul hN9 (Nat.pow_le_pow_right (by decide) (by omega))
      exact Nat.lt_of_le_of_lt this (ten_fits (by omega))
    · exact ten_fits (by omega)
  · have hdi := dec_isd N
    have hdv := vd_dec N
    have hshow : shown k N = (dec N).take 1 ++ (pB ((((dec N).drop 1).reverse.dropWhile (· == 48)).reverse) ++ pC (k + (((dec N).length : Int) - 9))) := rfl
    rw [hshow]
    obtain ⟨d, hd⟩ : ∃ d, d = dec N := ⟨_, rfl⟩
    rw [← hd] at hl hdi hdv ⊢
    match d, hl with
    | c0 :: r, hl =>
      obtain ⟨z, hz⟩ := trim_rep r
      obtain ⟨rest, hrest⟩ : ∃ rest, rest = (r.reverse.dropWhile (· == 48)).reverse := ⟨_, rfl⟩
      rw [← hrest] at hz
      have hrl : r.length = rest.length + z := by
        conv => lhs; rw [hz]
        rw [List.length_append, List.length_replicate]
      rw [List.length_cons] at hl
      have hK : k + ((((c0 :: r).length : Nat) : Int) - 9) = k - 8 + z + rest.length := by rw [List.length_cons]; omega
      refine ⟨c0, rest, k - 8 + z + rest.length, ?_, hdi c0 (List.mem_cons_self ..), fun x hx => hdi x (List.mem_cons_of_mem _ (by rw [hz]; exact List.mem_append_left _ hx)), by omega, by omega, by omega, ?_⟩
      · show [c0] ++ (pB (r.reverse.dropWhile (· == 48)).reverse ++ pC (k + ((((c0 :: r).length : Nat) : Int) - 9))) = _
        rw [hK, ← hrest]; rfl
      · have hNv : N = vd 0 (c0 :: rest) * 10 ^ z := by
          rw [← vd_noughts, ← vd_app, ← hdv]
          congr 1
          rw [List.cons_append, ← hz]
        rw [show k - 8 + (z : Int) + (rest.length : Int) - (rest.length : Int) = k - 8 + z by omega, Rat.mkRat_eq_iff (Nat.ne_of_gt (tp_pos _)) (Nat.ne_of_gt (tp_pos _)), ← Int.natCast_mul, ← Int.natCast_mul, hNv]
        congr 1
        unfold tp
        rw [Nat.mul_assoc, ← Nat.pow_add, Nat.mul_assoc, Nat.mul_assoc, ← Nat.pow_add, ← Nat.pow_add]
        congr 2
        omega
/-- a number lies between what is shown of it below and above -/
theorem nv_band {p q : Nat} {k : Int} (hq : q ≠ 0) (h : LG p q k) : nv p q false ≤ mkRat (p : Int) q ∧ mkRat (p : Int) q ≤ nv p q true ∧ nv p q true - nv p q false ≤ mkRat (p : Int) q / 100000000 := by
  have h9 := LG_nine hq h
  unfold nv
  rw [lgOf_eq h]
  obtain ⟨A, hA⟩ : ∃ A, A = p * tp (8 - k) := ⟨_, rfl⟩
  obtain ⟨D, hD⟩ : ∃ D, D = q * tp (k - 8) := ⟨_, rfl⟩
  have hD0 : 0 < D := by rw [hD]; exact Nat.mul_pos (by omega) (tp_pos _)
  rw [← hA, ← hD] at h9 ⊢
  obtain ⟨F, hF⟩ : ∃ F, F = rnd false A D := ⟨_, rfl⟩
  obtain ⟨T, hT⟩ : ∃ T, T = rnd true A D := ⟨_, rfl⟩
  have hF1 : F = A / D := by rw [hF]; unfold rnd; simp
  have hdm := Nat.div_add_mod A D
  have hml := Nat.mod_lt A hD0
  have hT1 : F ≤ T ∧ T ≤ F + 1 ∧ A ≤ T * D := by
    rw [hT, hF1]
    unfold rnd
    by_cases h0 : A % D = 0
    · rw [if_neg (by simp [h0])]
      refine ⟨by omega, by omega, ?_⟩
      rw [Nat.add_zero, Nat.mul_comm]; omega
    · rw [if_pos ⟨rfl, h0⟩]
      refine ⟨by omega, by omega, ?_⟩
      rw [Nat.add_mul, Nat.one_mul, Nat.mul_comm]; omega
  have hFD : F * D ≤ A := by rw [hF1, Nat.mul_comm]; omega
  have h8 : 100000000 * D ≤ A := by
    have h1 : 10 ^ 8 * D ≤ A / D * D := Nat.mul_le_mul_right _ h9.1
    have h2 := Nat.div_mul_le_self A D
    omega
  rw [← hF, ← hT]
  obtain ⟨x, hx⟩ : ∃ x, x = tp (8 - k) := ⟨_, rfl⟩
  obtain ⟨y, hy⟩ : ∃ y, y = tp (k - 8) := ⟨_, rfl⟩
  have hx0 : 0 < x := by rw [hx]; exact tp_pos _
  have hy0 : 0 < y := by rw [hy]; exact tp_pos _
  rw [← hx, ← hy]
  rw [← hx] at hA
  rw [← hy] at hD
  -- all over one thing above 0
  have qx : (0 : Rat) < (x : Rat) := Rat.natCast_pos.2 hx0
  have qy : (0 : Rat) < (y : Rat) := Rat.natCast_pos.2 hy0
  have qq : (0 : Rat) < (q : Rat) := Rat.natCast_pos.2 (by omega)
  obtain ⟨c, hc⟩ : ∃ c : Rat, c = ((q : Rat) * (x : Rat))⁻¹ := ⟨_, rfl⟩
  have hcp : 0 < c := by
    rw [hc]
    exact Rat.inv_pos.2 (Rat.mul_pos qq qx)
  have e0 : mkRat (p : Int) q = ((A : Nat) : Rat) * c := by
    rw [Rat.mkRat_eq_div, hA, hc, Rat.natCast_mul]
    have : ((p : Int) : Rat) = (p : Rat) := rfl
    rw [this]
    grind
  have eN : ∀ N : Nat, mkRat ((N * y : Nat) : Int) x = ((N * D : Nat) : Rat) * c := by
    intro N
    rw [Rat.mkRat_eq_div, hD, hc, Rat.natCast_mul, Rat.natCast_mul]
    have : (((N * y : Nat) : Int) : Rat) = ((N * y : Nat) : Rat) := rfl
    rw [this, Rat.natCast_mul]
    grind
  rw [e0, eN, eN]
  have le : ∀ {a b : Nat}, a ≤ b → ((a : Nat) : Rat) * c ≤ ((b : Nat) : Rat) * c := fun h => Rat.mul_le_mul_of_nonneg_right (Rat.natCast_le_natCast.2 h) (Rat.le_of_lt hcp)
  refine ⟨le hFD, le hT1.2.2, ?_⟩
  have h3 := le (show T * D ≤ F * D + D by rw [← Nat.succ_mul]; exact Nat.mul_le_mul_right _ hT1.2.1)
  have h4 := le h8
  rw [Rat.natCast_add] at h3
  rw [Rat.natCast_mul] at h4
  have e8 : ((100000000 : Nat) : Rat) = 100000000 := rfl
  rw [e8] at h4
  grind
end Pm

/- A number that is shown is on the right side: the law comes to true. -/
namespace Pm
open Go.Px.Seat
theorem frac_inj {r s : Rat} (h1 : fb r = fb s) (h2 : ft r = ft s) (h3 : fq r = fq s) : r = s := by
  have e2 : r.num.natAbs = s.num.natAbs := dig_inj h2
  have e3 : r.den = s.den := dig_inj h3
  have e1 : (r.num < 0) ↔ (s.num < 0) := by simpa [fb] using h1
  refine Rat.ext ?_ e3
  omega
theorem vd_one : vd 0 [48] = 0 := rfl
theorem nv_inj {p q : Nat} (h : nv p q false = nv p q true) : numTxt p q false = numTxt p q true := by
  unfold nv at h
  rw [Rat.mkRat_eq_iff (Nat.ne_of_gt (tp_pos _)) (Nat.ne_of_gt (tp_pos _)), ← Int.natCast_mul, ← Int.natCast_mul] at h
  have h1 := Int.natCast_inj.1 h
  have h2 := Nat.eq_of_mul_eq_mul_right (tp_pos _) h1
  have h3 := Nat.eq_of_mul_eq_mul_right (tp_pos _) h2
  unfold numTxt
  rw [h3]
end Pm
namespace Go.Px.Seat
open Go Pm
set_option linter.unusedVariables false
theorem pos_cases {w o : Int} (up : Bool) (hf : fin w o) (h0 : 0 ≤ o) : fits (pv w o up) ∧ ∃ (c0 : Nat) (rest : List Nat) (K : Int), posTxt w o up = c0 :: (pB rest ++ pC K) ∧ isd c0 = true ∧ (∀ x ∈ rest, isd x = true) ∧ rest.length ≤ 40 ∧ -401 < K ∧ K < 401 ∧
      mkRat ((vd 0 (c0 :: rest) * tp (K - rest.length) : Nat) : Int) (tp (-(K - rest.length))) = pv w o up := by
  unfold posTxt pv
  by_cases hz : o = 0
  · rw [if_pos hz, if_pos hz]
    refine ⟨⟨?_, ?_⟩, 48, [], 0, rfl, rfl, fun x hx => (by cases hx), by decide, by decide, by decide, ?_⟩
    · show 0 < 65536 ^ 256
      exact Nat.pow_pos (by decide)
    · exact Nat.one_lt_pow (by decide) (by decide)
    · rw [vd_one, Nat.zero_mul]
      simp
  · rw [if_neg hz, if_neg hz, if_neg (by have := hf.2; omega)]
    obtain ⟨k, hk, h1, h2, _, _⟩ := fv_parts hf (by omega)
    exact nv_facts up (fv w o).den_nz hk h1 h2
theorem k_lit : Ev fun n => ∀ (w o : Int) (up : Bool), fin w o → 0 ≤ o → c_s_DecFrac ((C B0).run n) (bs (posTxt w o up)) = some (fb (pv w o up), (ft (pv w o up), (fq (pv w o up), (true, ())))) := by
  refine k_sDecFrac.mono fun n kd w o up hf h0 => ?_
  obtain ⟨hft, c0, rest, K, ht, h1, h2, h3, h4, h5, hv⟩ := pos_cases up hf h0
  rw [ht, kd c0 rest K h1 h2 h3 h4 h5, hv, resF_fits hft]
theorem pos_txt {w o : Int} (up : Bool) (hf : fin w o) (h0 : 0 ≤ o) : ∃ (c0 : Nat) (r : List Nat), posTxt w o up = c0 :: r ∧ isd c0 = true ∧ Bl (posTxt w o up) ∧ (posTxt w o up).length ≤ 100 := by
  obtain ⟨_, c0, rest, K, ht, h1, h2, h3, h4, h5, _⟩ := pos_cases up hf h0
  have hil := itoa_len (x := K) (by omega) (by omega)
  refine ⟨c0, _, ht, h1, ?_, ?_⟩
  · rw [ht]
    intro x hx
    rcases List.mem_cons.1 hx with rfl | hx
    · exact isd_lt h1
    · exact (bl_app.2 ⟨pB_bl h2, pC_bl K⟩) x hx
  · rw [ht, List.length_cons, List.length_append]
    unfold pB pC
    split <;> split <;> simp only [List.length_nil, List.length_cons] <;> omega
theorem lvv_fits {w o : Int} (up : Bool) (hf : fin w o) : fits (lvv w o up) := by
  unfold lvv
  split
  · exact fits_neg.2 (pos_cases _ (fin_neg hf) (by omega)).1
  · exact (pos_cases _ hf (by omega)).1
theorem fsh_bl {w o : Int} (up : Bool) (hf : fin w o) : Bl (fsh w o up) ∧ (fsh w o up).length ≤ 101 := by
  unfold fsh
  split
  · obtain ⟨c, r, h1, h2, h3, h4⟩ := pos_txt (!up) (fin_neg hf) (by omega)
    refine ⟨fun x hx => ?_, by rw [List.length_cons]; omega⟩
    rcases List.mem_cons.1 hx with rfl | hx
    · decide
    · exact h3 x hx
  · obtain ⟨c, r, h1, h2, h3, h4⟩ := pos_txt up hf (by omega)
    exact ⟨h3, by omega⟩
theorem k_ppLit : Ev fun n => ∀ (w o : Int) (up : Bool), fin w o → c_w_ppLiteral ((C B0).run n) (bs (fsh w o up)) = some (fb (lvv w o up), (ft (lvv w o up), (fq (lvv w o up), (true, ())))) := by
  refine (k_lit.and (k_sFracNeg (B := B0))).succ fun n hn ⟨kl, kn⟩ w o up hf => ?_
  rw [run_succ, e_w_ppLiteral]
  unfold p_w_ppLiteral
  obtain ⟨hb, hl⟩ := fsh_bl up hf
  by_cases hneg : o < 0
  · obtain ⟨c, r, h1, h2, h3, h4⟩ := pos_txt (!up) (fin_neg hf) (by omega)
    have hT : fsh w o up = 45 :: posTxt w (-o) (!up) := if_pos hneg
    have hv : lvv w o up = -pv w (-o) (!up) := if_pos hneg
    rw [hv]
    rw [hT] at hb hl ⊢
    have hb0 : bt (bs (45 :: posTxt w (-o) (!up))) 0 = (((45 :: posTxt w (-o) (!up)).getD 0 0 : Nat) : Int) := bs_bt hb 0
    rw [jb_of (p := ((true, (bs (45 :: posTxt w (-o) (!up)), ((), (false, ())))), ((false, ((), ((), ()))), ()))) (by
      rw [bs_len, ilt_iff, decide_eq_true (by rw [List.length_cons]; omega), cond_true, ok_of (inB_true (by omega) (by rw [List.length_cons]; omega)), hb0]; rfl)]
    dsimp only
    have e1 : ByteArray.extract (bs (45 :: posTxt w (-o) (!up))) (Int.toNat 1) (Int.toNat (((45 :: posTxt w (-o) (!up)).length : Nat) : Int)) = bs (posTxt w (-o) (!up)) := by
      rw [bs_sub, Int.toNat_natCast, List.take_length]; rfl
    rw [cond_true, bs_len, ok_of (sliceOk_true (by omega) (by rw [List.length_cons]; omega) (by omega)), e1, kl w (-o) (!up) (fin_neg hf) (by omega)]
    simp only [Option.bind_some]
    rw [kn _ (pos_cases (!up) (fin_neg hf) (by omega)).1]
    rfl
  · obtain ⟨c, r, h1, h2, h3, h4⟩ := pos_txt up hf (by omega)
    have hT : fsh w o up = posTxt w o up := if_neg hneg
    have hv : lvv w o up = pv w o up := if_neg hneg
    have h9 := isd_iff.1 h2
    rw [hv, hT]
    have hb0 : bt (bs (posTxt w o up)) 0 = (((posTxt w o up).getD 0 0 : Nat) : Int) := bs_bt h3 0
    have hc : (posTxt w o up).getD 0 0 = c := by rw [h1]; rfl
    have hlp : 0 < (posTxt w o up).length := by rw [h1]; exact Nat.succ_pos _
    rw [jb_of (p := ((false, (bs (posTxt w o up), ((), (false, ())))), ((false, ((), ((), ()))), ()))) (by
      rw [bs_len, ilt_iff, decide_eq_true (by omega), cond_true, ok_of (inB_true (by omega) (by omega)), hb0, hc, beq_f (by omega)])]
    dsimp only
    rw [cond_false, kl w o up hf (by omega)]
    rfl
theorem txt_inj {w o : Int} (h : lvv w o false = lvv w o true) : fsh w o false = fsh w o true := by
  have pos : ∀ o : Int, pv w o false = pv w o true → posTxt w o false = posTxt w o true := by
    intro o h
    unfold pv at h
    unfold posTxt
    by_cases hz : o = 0
    · rw [if_pos hz, if_pos hz]
    · rw [if_neg hz, if_neg hz] at h
      rw [if_neg hz, if_neg hz, nv_inj h]
  unfold lvv at h
  unfold fsh
  by_cases hneg : o < 0
  · rw [if_pos hneg, if_pos hneg] at h
    rw [if_pos hneg, if_pos hneg]
    have h1 : pv w (-o) false = pv w (-o) true := by
      have : -pv w (-o) true = -pv w (-o) false := h
      grind
    exact congrArg _ (pos _ h1).symm
  · rw [if_neg hneg, if_neg hneg] at h
    rw [if_neg hneg, if_neg hneg]
    exact pos _ h
theorem k_sHund : Ev fun n => c_s_FracInt ((C B0).run n) 100000000 = some (fb ((100000000 : Nat) : Rat), (ft ((100000000 : Nat) : Rat), (fq ((100000000 : Nat) : Rat), ()))) := by
  refine (k_sNatOf (B := B0)).succ fun n hn hO => ?_
  rw [run_succ, e_s_FracInt]
  unfold p_s_FracInt
  have h1 : fb ((100000000 : Nat) : Rat) = false := by
    rw [fb, Rat.num_natCast]; rfl
  have h2 : ft ((100000000 : Nat) : Rat) = dig 100000000 := by
    rw [ft, Rat.num_natCast]; rfl
  have h3 : fq ((100000000 : Nat) : Rat) = [1] := by
    rw [fq, Rat.den_natCast, one_dg]
  have := hO 100000000 (by decide)
  rw [ilt_iff, decide_eq_false (by decide), cond_false, wrapu64 (by decide) (by decide), h1, h2, h3, show (100000000 : Int) = ((100000000 : Nat) : Int) from rfl, this]
  rfl
theorem band {w o : Int} (hf : fin w o) : lvv w o false ≤ fv w o ∧ fv w o ≤ lvv w o true ∧ lvv w o true - lvv w o false ≤ rabs (fv w o) / 100000000 := by
  have pos : ∀ o : Int, fin w o → 0 ≤ o → pv w o false ≤ fv w o ∧ fv w o ≤ pv w o true ∧ pv w o true - pv w o false ≤ fv w o / 100000000 ∧ 0 ≤ fv w o := by
    intro o hf h0
    unfold pv
    by_cases hz : o = 0
    · rw [if_pos hz, if_pos hz, hz, fv_zero]
      refine ⟨?_, ?_, ?_, ?_⟩ <;> grind
    · rw [if_neg hz, if_neg hz]
      obtain ⟨k, hk, h1, h2, h3, h4⟩ := fv_parts hf (by omega)
      have hb := nv_band (fv w o).den_nz hk
      rw [← h4] at hb
      have hp : 0 ≤ fv w o := by
        have h5 : fv w 0 < fv w o := fv_lt.2 (by omega)
        rw [fv_zero] at h5
        exact Rat.le_of_lt h5
      exact ⟨hb.1, hb.2.1, hb.2.2, hp⟩
  unfold lvv rabs
  by_cases hneg : o < 0
  · rw [if_pos hneg, if_pos hneg]
    obtain ⟨h1, h2, h3, h4⟩ := pos (-o) (fin_neg hf) (by omega)
    rw [fv_neg] at h1 h2 h3 h4
    show -pv w (-o) true ≤ _ ∧ _ ≤ -pv w (-o) false ∧ -pv w (-o) false - -pv w (-o) true ≤ _
    split
    · refine ⟨?_, ?_, ?_⟩ <;> grind
    · refine ⟨?_, ?_, ?_⟩ <;> grind
  · rw [if_neg hneg, if_neg hneg]
    obtain ⟨h1, h2, h3, h4⟩ := pos o hf (by omega)
    rw [if_neg (Rat.not_lt.2 h4)]
    exact ⟨h1, h2, h3⟩
theorem rabs_fits {r : Rat} (h : fits r) : fits (rabs r) := by
  unfold rabs
  split
  · exact fits_neg.2 h
  · exact h
theorem hund_fits : fits ((100000000 : Nat) : Rat) := by
  refine ⟨?_, ?_⟩
  · rw [Rat.num_natCast]
    show 100000000 < 65536 ^ 256
    have : 65536 ^ 2 ≤ 65536 ^ 256 := Nat.pow_le_pow_right (by decide) (by decide)
    omega
  · rw [Rat.den_natCast]
    exact Nat.one_lt_pow (by decide) (by decide)
theorem k_FnFloatShow : Ev fun n => ∀ l : List Int, byt l → c_w_FnFloatShow ((C B0).run n) l = some (true, ()) := by
  refine (k_drawFS.and (k_FloatShow.and ((k_sFloatFrac (B := B0)).and ((k_sFloatFracNo (B := B0)).and ((k_sBitOk (B := B0)).and (k_ppLit.and ((k_sFracCmp (B := B0)).and ((k_sFracSub (B := B0)).and ((k_sFracAbs (B := B0)).and (k_sHund.and ((k_sFracDiv (B := B0)).and (k_sSign (B := B0))))))))))))).succ fun n hn ⟨kd, ks, kf, kno, kb, kp, kc, ksub, ka, kh, kdiv, kg⟩ l hl => ?_
  rw [run_succ, e_w_FnFloatShow]
  unfold p_w_FnFloatShow
  rw [len_eq, ilt_iff]
  by_cases hlen : (1048576 : Int) < l.length
  · rw [decide_eq_true hlen]; rfl
  rw [decide_eq_false hlen, cond_false]
  obtain ⟨⟨w, o, t, u⟩, hdr, _⟩ := kd l hl (by omega)
  rw [hdr]
  simp only [Option.bind_some]
  obtain ⟨_, s2, s3⟩ := ks w o false
  obtain ⟨_, t2, t3⟩ := ks w o true
  rw [s2]
  simp only [Option.bind_some]
  rw [t2]
  simp only [Option.bind_some]
  by_cases hf : fin w o
  · have hbo : bok w o = true := bok_iff.2 ⟨hf.1, by have := hf.2; omega, by have := hf.2; omega⟩
    have e1 : fsh0 w o false = fsh w o false := if_pos hbo
    have e2 : fsh0 w o true = fsh w o true := if_pos hbo
    obtain ⟨hfv, hff⟩ := kf w o hf
    rw [hff]
    simp only [Option.bind_some]
    rw [Bool.not_true, cond_false, e1, e2]
    rw [e1] at s3
    rw [e2] at t3
    have p1 := kp w o false hf
    have p2 := kp w o true hf
    have f1 := lvv_fits false hf
    have f2 := lvv_fits true hf
    obtain ⟨b1, b2, b3⟩ := band hf
    rw [p1]
    simp only [Option.bind_some]
    rw [p2]
    simp only [Option.bind_some]
    have hinj : fsh w o false = fsh w o true ↔ lvv w o true - lvv w o false = 0 := by
      constructor
      · intro h
        rw [h] at p1
        have := p1.symm.trans p2
        simp only [Option.some.injEq, Prod.mk.injEq, and_true] at this
        have := frac_inj this.1 this.2.1 this.2.2
        rw [this]
        grind
      · intro h
        have h0 : lvv w o false = lvv w o true := by grind
        exact txt_inj h0
    rw [jb_of (p := ((false, ((), ((), ((), (bs (fsh w o false), (bs (fsh w o true), (false, ()))))))), ((fb (lvv w o true), (ft (lvv w o true), (fq (lvv w o true), ()))), ((fb (lvv w o false), (ft (lvv w o false), (fq (lvv w o false), ()))), ((fb (fv w o), (ft (fv w o), (fq (fv w o), ()))), ()))))) (by
      rw [Bool.not_true, cond_false, cond_false, kc _ _ f1 hfv]
      simp only [Option.bind_some]
      rw [beq_f (show ¬ cmpR (lvv w o false) (fv w o) = 1 by have := (cmpR_le _ _).2 b1; omega), cond_false, kc _ _ hfv f2]
      simp only [Option.bind_some]
      rw [beq_f (show ¬ cmpR (fv w o) (lvv w o true) = 1 by have := (cmpR_le _ _).2 b2; omega)])]
    dsimp only
    rw [cond_false, ksub _ _ f2 f1, ka _ hfv, kh]
    by_cases g1 : fits (lvv w o true - lvv w o false)
    · rw [resF_fits g1]
      simp only [Option.bind_some]
      rw [kdiv _ _ (rabs_fits hfv) hund_fits, if_neg (by
        intro h
        have := congrArg Rat.num h
        rw [Rat.num_natCast] at this
        cases this)]
      simp only [Option.bind_some]
      by_cases g2 : fits (rabs (fv w o) / ((100000000 : Nat) : Rat))
      · rw [resF_fits g2]
        simp only [Bool.not_true, cond_false]
        rw [kc _ _ g1 g2]
        simp only [Option.bind_some]
        have e8 : ((100000000 : Nat) : Rat) = 100000000 := rfl
        rw [ile_iff, decide_eq_true ((cmpR_le _ _).2 (by rw [e8]; exact b3)), cond_true, kg _ g1, bs_seq s3 t3]
        simp only [Option.bind_some]
        by_cases h0 : lvv w o true - lvv w o false = 0
        · rw [sgnR_zero.2 h0, decide_eq_true (hinj.2 h0)]; rfl
        · rw [decide_eq_false (fun h => h0 (hinj.1 h)), beq_f (fun h => h0 (sgnR_zero.1 h))]; rfl
      · rw [resF_not g2]; rfl
    · rw [resF_not g1]
      simp only [Option.bind_some]
      rw [kdiv _ _ (rabs_fits hfv) hund_fits, if_neg (by
        intro h
        have := congrArg Rat.num h
        rw [Rat.num_natCast] at this
        cases this)]
      unfold resF
      split <;> rfl
  · rw [kno w o hf]
    simp only [Option.bind_some]
    rw [Bool.not_false, cond_true, kb]
    simp only [Option.bind_some]
    have hsame : fsh0 w o false = fsh0 w o true ∧ ((fsh0 w o false = []) ↔ bok w o = false) := by
      unfold fsh0
      cases hb : bok w o with
      | false => simp
      | true =>
        obtain ⟨hw, h1, h2⟩ := bok_iff.1 hb
        have htp := top_lt w
        have ho : o = top w ∨ o = -top w := by
          by_cases h3 : o = top w
          · exact .inl h3
          · by_cases h4 : o = -top w
            · exact .inr h4
            · exact absurd ⟨hw, by omega, by omega⟩ hf
        have ht0 : top w ≠ 0 := by
          rcases of_decide_eq_true hw with h | h <;> subst h <;> decide
        simp only [if_true, Bool.true_eq_false, iff_false]
        have e : ∀ up, posTxt w (top w) up = [105, 110, 102] := by
          intro up
          unfold posTxt
          rw [if_neg ht0, if_pos rfl]
        rcases ho with ho | ho
        · rw [fsh_pos (by omega), fsh_pos (by omega), ho, e, e]
          exact ⟨rfl, by simp⟩
        · rw [fsh_neg (by omega), fsh_neg (by omega), show -o = top w by omega, e, e]
          exact ⟨rfl, by simp⟩
    rw [bs_seq s3 (fun x hx => by cases hx), bs_seq s3 t3, decide_eq_true hsame.1]
    cases hb : bok w o with
    | false => rw [decide_eq_true (hsame.2.2 hb)]; rfl
    | true => rw [decide_eq_false (fun h => by have := hsame.2.1 h; rw [hb] at this; cases this)]; rfl
end Go.Px.Seat
