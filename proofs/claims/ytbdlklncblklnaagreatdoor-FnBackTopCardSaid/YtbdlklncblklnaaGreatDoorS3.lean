/- Own texts, part S3: PxEqs. -/
import Derived.Test.YtbdlklncblklnaaGreatDoorS2
set_option linter.unusedVariables false

namespace Go.Px.Seat
open Go
set_option linter.unusedVariables false
noncomputable def C (B : Run) : Prog := ⟨T, F, S, B⟩
variable {B : Run}
theorem e_w_FnBackTop (R : Run) (n : Nat) (u0 : List Int) (u1 : List Int) : c_w_FnBackTop ((C B).step R n) u0 u1 = p_w_FnBackTop R n u0 u1 := by kernel_rfl
theorem e_s_Fine (R : Run) (n : Nat) (u0 : List Int) : c_s_Fine ((C B).step R n) u0 = p_s_Fine R n u0 := by kernel_rfl
theorem e_s_FineOf (R : Run) (n : Nat) (u0 : Int) (u1 : List Int) : c_s_FineOf ((C B).step R n) u0 u1 = p_s_FineOf R n u0 u1 := by kernel_rfl
theorem e_s_FloatFrac (R : Run) (n : Nat) (u0 : Int) (u1 : Int) : c_s_FloatFrac ((C B).step R n) u0 u1 = p_s_FloatFrac R n u0 u1 := by kernel_rfl
theorem e_s_FracAdd (R : Run) (n : Nat) (u0 : Bool) (u1 : List Int) (u2 : List Int) (u3 : Bool) (u4 : List Int) (u5 : List Int) : c_s_FracAdd ((C B).step R n) u0 u1 u2 u3 u4 u5 = p_s_FracAdd R n u0 u1 u2 u3 u4 u5 := by kernel_rfl
theorem e_s_FracSub (R : Run) (n : Nat) (u0 : Bool) (u1 : List Int) (u2 : List Int) (u3 : Bool) (u4 : List Int) (u5 : List Int) : c_s_FracSub ((C B).step R n) u0 u1 u2 u3 u4 u5 = p_s_FracSub R n u0 u1 u2 u3 u4 u5 := by kernel_rfl
theorem e_i_SpanMul (R : Run) (n : Nat) (u0 : Int) (u1 : Bool) (u2 : Int) (u3 : Int) (u4 : Bool) (u5 : Int) (u6 : Int) : c_i_SpanMul ((C B).step R n) u0 u1 u2 u3 u4 u5 u6 = p_i_SpanMul R n u0 u1 u2 u3 u4 u5 u6 := by kernel_rfl
theorem e_s_FracMul (R : Run) (n : Nat) (u0 : Bool) (u1 : List Int) (u2 : List Int) (u3 : Bool) (u4 : List Int) (u5 : List Int) : c_s_FracMul ((C B).step R n) u0 u1 u2 u3 u4 u5 = p_s_FracMul R n u0 u1 u2 u3 u4 u5 := by kernel_rfl
theorem e_s_FracCmp (R : Run) (n : Nat) (u0 : Bool) (u1 : List Int) (u2 : List Int) (u3 : Bool) (u4 : List Int) (u5 : List Int) : c_s_FracCmp ((C B).step R n) u0 u1 u2 u3 u4 u5 = p_s_FracCmp R n u0 u1 u2 u3 u4 u5 := by kernel_rfl
theorem e_i_SpanDivTwo (R : Run) (n : Nat) (u0 : Int) (u1 : Bool) (u2 : Int) (u3 : Int) (u4 : Bool) (u5 : Int) (u6 : Int) : c_i_SpanDivTwo ((C B).step R n) u0 u1 u2 u3 u4 u5 u6 = p_i_SpanDivTwo R n u0 u1 u2 u3 u4 u5 u6 := by kernel_rfl
theorem e_s_SpanDivTwo (R : Run) (n : Nat) (u0 : Int) (u1 : Bool) (u2 : Int) (u3 : Int) (u4 : Bool) (u5 : Int) (u6 : Int) : c_s_SpanDivTwo ((C B).step R n) u0 u1 u2 u3 u4 u5 u6 = p_s_SpanDivTwo R n u0 u1 u2 u3 u4 u5 u6 := by kernel_rfl
theorem e_s_SpanHull (R : Run) (n : Nat) (u0 : Int) (u1 : Bool) (u2 : Int) (u3 : Int) (u4 : Bool) (u5 : Int) (u6 : Int) : c_s_SpanHull ((C B).step R n) u0 u1 u2 u3 u4 u5 u6 = p_s_SpanHull R n u0 u1 u2 u3 u4 u5 u6 := by kernel_rfl
theorem e_w_psIn (R : Run) (n : Nat) (u0 : Int) (u1 : Bool) (u2 : Int) (u3 : Int) (u4 : Bool) (u5 : List Int) (u6 : List Int) : c_w_psIn ((C B).step R n) u0 u1 u2 u3 u4 u5 u6 = p_w_psIn R n u0 u1 u2 u3 u4 u5 u6 := by kernel_rfl
theorem e_w_psTurn (R : Run) (n : Nat) (u0 : List Int) : c_w_psTurn ((C B).step R n) u0 = p_w_psTurn R n u0 := by kernel_rfl
theorem e_i_BackMul (R : Run) (n : Nat) (u0 : Int) (u1 : Bool) (u2 : Int) (u3 : Int) (u4 : Bool) (u5 : Int) (u6 : Int) (u7 : Bool) (u8 : Int) (u9 : Int) : c_i_BackMul ((C B).step R n) u0 u1 u2 u3 u4 u5 u6 u7 u8 u9 = p_i_BackMul R n u0 u1 u2 u3 u4 u5 u6 u7 u8 u9 := by kernel_rfl
theorem e_w_psIs (R : Run) (n : Nat) (u0 : Bool) (u1 : Int) (u2 : Int) (u3 : Bool) (u4 : Int) (u5 : Int) : c_w_psIs ((C B).step R n) u0 u1 u2 u3 u4 u5 = p_w_psIs R n u0 u1 u2 u3 u4 u5 := by kernel_rfl
theorem e_s_Within (R : Run) (n : Nat) (u0 : Int) (u1 : Bool) (u2 : Int) (u3 : Int) (u4 : List Int) : c_s_Within ((C B).step R n) u0 u1 u2 u3 u4 = p_s_Within R n u0 u1 u2 u3 u4 := by kernel_rfl
theorem e_i_SpanPow (R : Run) (n : Nat) (u0 : Int) (u1 : Bool) (u2 : Int) (u3 : Int) (u4 : Int) : c_i_SpanPow ((C B).step R n) u0 u1 u2 u3 u4 = p_i_SpanPow R n u0 u1 u2 u3 u4 := by kernel_rfl
theorem e_i_SpanAbs (R : Run) (n : Nat) (u0 : Int) (u1 : Bool) (u2 : Int) (u3 : Int) : c_i_SpanAbs ((C B).step R n) u0 u1 u2 u3 = p_i_SpanAbs R n u0 u1 u2 u3 := by kernel_rfl
theorem e_s_FracDiv (R : Run) (n : Nat) (u0 : Bool) (u1 : List Int) (u2 : List Int) (u3 : Bool) (u4 : List Int) (u5 : List Int) : c_s_FracDiv ((C B).step R n) u0 u1 u2 u3 u4 u5 = p_s_FracDiv R n u0 u1 u2 u3 u4 u5 := by kernel_rfl
theorem e_s_FracPow (R : Run) (n : Nat) (u0 : Bool) (u1 : List Int) (u2 : List Int) (u3 : Int) : c_s_FracPow ((C B).step R n) u0 u1 u2 u3 = p_s_FracPow R n u0 u1 u2 u3 := by kernel_rfl
theorem e_s_FracAbs (R : Run) (n : Nat) (u0 : Bool) (u1 : List Int) (u2 : List Int) : c_s_FracAbs ((C B).step R n) u0 u1 u2 = p_s_FracAbs R n u0 u1 u2 := by kernel_rfl
theorem e_i_SpanNeg (R : Run) (n : Nat) (u0 : Int) (u1 : Bool) (u2 : Int) (u3 : Int) : c_i_SpanNeg ((C B).step R n) u0 u1 u2 u3 = p_i_SpanNeg R n u0 u1 u2 u3 := by kernel_rfl
theorem e_i_SpanHull (R : Run) (n : Nat) (u0 : Int) (u1 : Bool) (u2 : Int) (u3 : Int) (u4 : Bool) (u5 : Int) (u6 : Int) : c_i_SpanHull ((C B).step R n) u0 u1 u2 u3 u4 u5 u6 = p_i_SpanHull R n u0 u1 u2 u3 u4 u5 u6 := by kernel_rfl
theorem e_s_BitOk (R : Run) (n : Nat) (u0 : Int) (u1 : Int) : c_s_BitOk ((C B).step R n) u0 u1 = p_s_BitOk R n u0 u1 := by kernel_rfl
theorem e_s_FracInt (R : Run) (n : Nat) (u0 : Int) : c_s_FracInt ((C B).step R n) u0 = p_s_FracInt R n u0 := by kernel_rfl
theorem e_s_SpanMul (R : Run) (n : Nat) (u0 : Int) (u1 : Bool) (u2 : Int) (u3 : Int) (u4 : Bool) (u5 : Int) (u6 : Int) : c_s_SpanMul ((C B).step R n) u0 u1 u2 u3 u4 u5 u6 = p_s_SpanMul R n u0 u1 u2 u3 u4 u5 u6 := by kernel_rfl
theorem e_s_SpanDiv (R : Run) (n : Nat) (u0 : Int) (u1 : Bool) (u2 : Int) (u3 : Int) (u4 : Bool) (u5 : Int) (u6 : Int) : c_s_SpanDiv ((C B).step R n) u0 u1 u2 u3 u4 u5 u6 = p_s_SpanDiv R n u0 u1 u2 u3 u4 u5 u6 := by kernel_rfl
theorem e_s_SpanPow (R : Run) (n : Nat) (u0 : Int) (u1 : Bool) (u2 : Int) (u3 : Int) (u4 : Int) : c_s_SpanPow ((C B).step R n) u0 u1 u2 u3 u4 = p_s_SpanPow R n u0 u1 u2 u3 u4 := by kernel_rfl
theorem e_i_BackTop (R : Run) (n : Nat) (u0 : Int) (u1 : Bool) (u2 : Int) (u3 : Int) (u4 : Bool) (u5 : Int) (u6 : Int) (u7 : Bool) (u8 : Int) (u9 : Int) : c_i_BackTop ((C B).step R n) u0 u1 u2 u3 u4 u5 u6 u7 u8 u9 = p_i_BackTop R n u0 u1 u2 u3 u4 u5 u6 u7 u8 u9 := by kernel_rfl
theorem e_i_BackBottom (R : Run) (n : Nat) (u0 : Int) (u1 : Bool) (u2 : Int) (u3 : Int) (u4 : Bool) (u5 : Int) (u6 : Int) (u7 : Bool) (u8 : Int) (u9 : Int) : c_i_BackBottom ((C B).step R n) u0 u1 u2 u3 u4 u5 u6 u7 u8 u9 = p_i_BackBottom R n u0 u1 u2 u3 u4 u5 u6 u7 u8 u9 := by kernel_rfl
theorem e_i_BackPow (R : Run) (n : Nat) (u0 : Int) (u1 : Bool) (u2 : Int) (u3 : Int) (u4 : Int) (u5 : Bool) (u6 : Int) (u7 : Int) : c_i_BackPow ((C B).step R n) u0 u1 u2 u3 u4 u5 u6 u7 = p_i_BackPow R n u0 u1 u2 u3 u4 u5 u6 u7 := by kernel_rfl
theorem e_i_BackRoot (R : Run) (n : Nat) (u0 : Int) (u1 : Bool) (u2 : Int) (u3 : Int) (u4 : Bool) (u5 : Int) (u6 : Int) : c_i_BackRoot ((C B).step R n) u0 u1 u2 u3 u4 u5 u6 = p_i_BackRoot R n u0 u1 u2 u3 u4 u5 u6 := by kernel_rfl
theorem e_i_BackAbs (R : Run) (n : Nat) (u0 : Int) (u1 : Bool) (u2 : Int) (u3 : Int) (u4 : Bool) (u5 : Int) (u6 : Int) : c_i_BackAbs ((C B).step R n) u0 u1 u2 u3 u4 u5 u6 = p_i_BackAbs R n u0 u1 u2 u3 u4 u5 u6 := by kernel_rfl
theorem e_s_FracRoot (R : Run) (n : Nat) (u0 : Bool) (u1 : List Int) (u2 : List Int) : c_s_FracRoot ((C B).step R n) u0 u1 u2 = p_s_FracRoot R n u0 u1 u2 := by kernel_rfl
theorem e_i_BackMin (R : Run) (n : Nat) (u0 : Int) (u1 : Bool) (u2 : Int) (u3 : Int) (u4 : Bool) (u5 : Int) (u6 : Int) (u7 : Bool) (u8 : Int) (u9 : Int) : c_i_BackMin ((C B).step R n) u0 u1 u2 u3 u4 u5 u6 u7 u8 u9 = p_i_BackMin R n u0 u1 u2 u3 u4 u5 u6 u7 u8 u9 := by kernel_rfl
theorem e_i_BackMax (R : Run) (n : Nat) (u0 : Int) (u1 : Bool) (u2 : Int) (u3 : Int) (u4 : Bool) (u5 : Int) (u6 : Int) (u7 : Bool) (u8 : Int) (u9 : Int) : c_i_BackMax ((C B).step R n) u0 u1 u2 u3 u4 u5 u6 u7 u8 u9 = p_i_BackMax R n u0 u1 u2 u3 u4 u5 u6 u7 u8 u9 := by kernel_rfl
theorem e_s_l31Open (R : Run) (n : Nat) (u0 : List Int) : c_s_l31Open ((C B).step R n) u0 = p_s_l31Open R n u0 := by kernel_rfl
theorem e_s_l31Rd_real (R : Run) (n : Nat) (u0 : List Int) (u1 : Int) : c_s_l31Rd_real ((C B).step R n) u0 u1 = p_s_l31Rd_real R n u0 u1 := by kernel_rfl
theorem e_s_l31Rd_fine (R : Run) (n : Nat) (u0 : List Int) (u1 : Int) (u2 : Int) : c_s_l31Rd_fine ((C B).step R n) u0 u1 u2 = p_s_l31Rd_fine R n u0 u1 u2 := by kernel_rfl
theorem e_s_l31Rd_inside (R : Run) (n : Nat) (u0 : List Int) (u1 : Int) (u2 : Int) (u3 : Bool) (u4 : Int) (u5 : Int) : c_s_l31Rd_inside ((C B).step R n) u0 u1 u2 u3 u4 u5 = p_s_l31Rd_inside R n u0 u1 u2 u3 u4 u5 := by kernel_rfl
theorem e_s_BitPartOf (R : Run) (n : Nat) (u0 : Int) (u1 : Int) : c_s_BitPartOf ((C B).step R n) u0 u1 = p_s_BitPartOf R n u0 u1 := by kernel_rfl
theorem e_s_l8Of (R : Run) (n : Nat) (u0 : Int) (u1 : Int) : c_s_l8Of ((C B).step R n) u0 u1 = p_s_l8Of R n u0 u1 := by kernel_rfl
theorem e_s_l6Make (R : Run) (n : Nat) (u0 : Bool) (u1 : List Int) (u2 : List Int) : c_s_l6Make ((C B).step R n) u0 u1 u2 = p_s_l6Make R n u0 u1 u2 := by kernel_rfl
theorem e_i_full (R : Run) (n : Nat) (u0 : Int) (u1 : List ((Bool × (Int × (Int × Unit))))) : c_i_full ((C B).step R n) u0 u1 = p_i_full R n u0 u1 := by kernel_rfl
theorem e_i_limitOf (R : Run) (n : Nat) (u0 : Int) (u1 : Int) : c_i_limitOf ((C B).step R n) u0 u1 = p_i_limitOf R n u0 u1 := by kernel_rfl
theorem e_i_limit_floats (R : Run) (n : Nat) (u0 : Int) (u1 : Bool) (u2 : List Int) (u3 : List Int) (u4 : Int) : c_i_limit_floats ((C B).step R n) u0 u1 u2 u3 u4 = p_i_limit_floats R n u0 u1 u2 u3 u4 := by kernel_rfl
theorem e_i_some (R : Run) (n : Nat) (u0 : Int) (u1 : Int) : c_i_some ((C B).step R n) u0 u1 = p_i_some R n u0 u1 := by kernel_rfl
theorem e_s_FracOk (R : Run) (n : Nat) (u0 : Bool) (u1 : List Int) (u2 : List Int) : c_s_FracOk ((C B).step R n) u0 u1 u2 = p_s_FracOk R n u0 u1 u2 := by kernel_rfl
theorem e_s_l6Sum (R : Run) (n : Nat) (u0 : Bool) (u1 : List Int) (u2 : List Int) (u3 : Bool) (u4 : List Int) (u5 : List Int) : c_s_l6Sum ((C B).step R n) u0 u1 u2 u3 u4 u5 = p_s_l6Sum R n u0 u1 u2 u3 u4 u5 := by kernel_rfl
theorem e_s_l6Neg (R : Run) (n : Nat) (u0 : Bool) (u1 : List Int) (u2 : List Int) : c_s_l6Neg ((C B).step R n) u0 u1 u2 = p_s_l6Neg R n u0 u1 u2 := by kernel_rfl
theorem e_i_limit_times (R : Run) (n : Nat) (u0 : Int) (u1 : Bool) (u2 : List Int) (u3 : List Int) (u4 : Int) (u5 : Bool) (u6 : List Int) (u7 : List Int) : c_i_limit_times ((C B).step R n) u0 u1 u2 u3 u4 u5 u6 u7 = p_i_limit_times R n u0 u1 u2 u3 u4 u5 u6 u7 := by kernel_rfl
theorem e_s_l5Mul (R : Run) (n : Nat) (u0 : List Int) (u1 : List Int) : c_s_l5Mul ((C B).step R n) u0 u1 = p_s_l5Mul R n u0 u1 := by kernel_rfl
theorem e_i_divAbove (R : Run) (n : Nat) (u0 : Int) (u1 : Bool) (u2 : Int) (u3 : Int) (u4 : Bool) (u5 : Int) (u6 : Int) : c_i_divAbove ((C B).step R n) u0 u1 u2 u3 u4 u5 u6 = p_i_divAbove R n u0 u1 u2 u3 u4 u5 u6 := by kernel_rfl
theorem e_s_l9Both (R : Run) (n : Nat) (u0 : Int) (u1 : Bool) (u2 : Int) (u3 : Int) (u4 : Bool) (u5 : Int) (u6 : Int) : c_s_l9Both ((C B).step R n) u0 u1 u2 u3 u4 u5 u6 = p_s_l9Both R n u0 u1 u2 u3 u4 u5 u6 := by kernel_rfl
theorem e_s_l9Part (R : Run) (n : Nat) (u0 : Int) (u1 : Bool) (u2 : Int) (u3 : Int) (u4 : Bool) (u5 : Int) (u6 : Int) : c_s_l9Part ((C B).step R n) u0 u1 u2 u3 u4 u5 u6 = p_s_l9Part R n u0 u1 u2 u3 u4 u5 u6 := by kernel_rfl
theorem e_s_SpanNeg (R : Run) (n : Nat) (u0 : Int) (u1 : Bool) (u2 : Int) (u3 : Int) : c_s_SpanNeg ((C B).step R n) u0 u1 u2 u3 = p_s_SpanNeg R n u0 u1 u2 u3 := by kernel_rfl
theorem e_s_SpanMeet (R : Run) (n : Nat) (u0 : Int) (u1 : Bool) (u2 : Int) (u3 : Int) (u4 : Bool) (u5 : Int) (u6 : Int) : c_s_SpanMeet ((C B).step R n) u0 u1 u2 u3 u4 u5 u6 = p_s_SpanMeet R n u0 u1 u2 u3 u4 u5 u6 := by kernel_rfl
theorem e_s_SpanOk (R : Run) (n : Nat) (u0 : Int) (u1 : Bool) (u2 : Int) (u3 : Int) : c_s_SpanOk ((C B).step R n) u0 u1 u2 u3 = p_s_SpanOk R n u0 u1 u2 u3 := by kernel_rfl
theorem e_s_l9Of (R : Run) (n : Nat) (u0 : Int) (u1 : Int) : c_s_l9Of ((C B).step R n) u0 u1 = p_s_l9Of R n u0 u1 := by kernel_rfl
theorem e_s_l3Min (R : Run) (n : Nat) (u0 : Int) (u1 : Int) : c_s_l3Min ((C B).step R n) u0 u1 = p_s_l3Min R n u0 u1 := by kernel_rfl
theorem e_s_l3Max (R : Run) (n : Nat) (u0 : Int) (u1 : Int) : c_s_l3Max ((C B).step R n) u0 u1 = p_s_l3Max R n u0 u1 := by kernel_rfl
theorem e_s_SpanHas (R : Run) (n : Nat) (u0 : Int) (u1 : Bool) (u2 : Int) (u3 : Int) (u4 : Bool) (u5 : List Int) (u6 : List Int) : c_s_SpanHas ((C B).step R n) u0 u1 u2 u3 u4 u5 u6 = p_s_SpanHas R n u0 u1 u2 u3 u4 u5 u6 := by kernel_rfl
theorem e_i_Span_zero (R : Run) (n : Nat) (u0 : Bool) (u1 : Int) (u2 : Int) : c_i_Span_zero ((C B).step R n) u0 u1 u2 = p_i_Span_zero R n u0 u1 u2 := by kernel_rfl
theorem e_i_backParts (R : Run) (n : Nat) (u0 : Int) (u1 : Bool) (u2 : Int) (u3 : Int) (u4 : Bool) (u5 : Int) (u6 : Int) (u7 : Bool) (u8 : Int) (u9 : Int) : c_i_backParts ((C B).step R n) u0 u1 u2 u3 u4 u5 u6 u7 u8 u9 = p_i_backParts R n u0 u1 u2 u3 u4 u5 u6 u7 u8 u9 := by kernel_rfl
theorem e_s_BitTop (R : Run) (n : Nat) (u0 : Int) : c_s_BitTop ((C B).step R n) u0 = p_s_BitTop R n u0 := by kernel_rfl
theorem e_i_BitOk (R : Run) (n : Nat) (u0 : Int) (u1 : Int) : c_i_BitOk ((C B).step R n) u0 u1 = p_i_BitOk R n u0 u1 := by kernel_rfl
theorem e_s_l31Rd_within (R : Run) (n : Nat) (u0 : List Int) (u1 : Int) (u2 : Int) (u3 : Int) (u4 : Int) : c_s_l31Rd_within ((C B).step R n) u0 u1 u2 u3 u4 = p_s_l31Rd_within R n u0 u1 u2 u3 u4 := by kernel_rfl
theorem e_s_l9Pair (R : Run) (n : Nat) (u0 : Bool) (u1 : Int) (u2 : Int) : c_s_l9Pair ((C B).step R n) u0 u1 u2 = p_s_l9Pair R n u0 u1 u2 := by kernel_rfl
theorem e_s_PairOk (R : Run) (n : Nat) (u0 : Int) (u1 : Int) (u2 : Int) : c_s_PairOk ((C B).step R n) u0 u1 u2 = p_s_PairOk R n u0 u1 u2 := by kernel_rfl
theorem e_s_PairIs (R : Run) (n : Nat) (u0 : Int) (u1 : Int) (u2 : Int) (u3 : Int) : c_s_PairIs ((C B).step R n) u0 u1 u2 u3 = p_s_PairIs R n u0 u1 u2 u3 := by kernel_rfl
theorem e_i_in (R : Run) (n : Nat) (u0 : Int) (u1 : Int) (u2 : Int) : c_i_in ((C B).step R n) u0 u1 u2 = p_i_in R n u0 u1 u2 := by kernel_rfl
theorem e_i_power (R : Run) (n : Nat) (u0 : Int) (u1 : Int) (u2 : Int) : c_i_power ((C B).step R n) u0 u1 u2 = p_i_power R n u0 u1 u2 := by kernel_rfl
theorem e_i_SpanMeet (R : Run) (n : Nat) (u0 : Int) (u1 : Bool) (u2 : Int) (u3 : Int) (u4 : Bool) (u5 : Int) (u6 : Int) : c_i_SpanMeet ((C B).step R n) u0 u1 u2 u3 u4 u5 u6 = p_i_SpanMeet R n u0 u1 u2 u3 u4 u5 u6 := by kernel_rfl
theorem e_i_from (R : Run) (n : Nat) (u0 : Int) (u1 : Int) : c_i_from ((C B).step R n) u0 u1 = p_i_from R n u0 u1 := by kernel_rfl
theorem e_i_rootDown (R : Run) (n : Nat) (u0 : Int) (u1 : Int) (u2 : Int) : c_i_rootDown ((C B).step R n) u0 u1 u2 = p_i_rootDown R n u0 u1 u2 := by kernel_rfl
theorem e_i_rootUp (R : Run) (n : Nat) (u0 : Int) (u1 : Int) (u2 : Int) : c_i_rootUp ((C B).step R n) u0 u1 u2 = p_i_rootUp R n u0 u1 u2 := by kernel_rfl
theorem e_i_size (R : Run) (n : Nat) (u0 : Int) : c_i_size ((C B).step R n) u0 = p_i_size R n u0 := by kernel_rfl
theorem e_s_NatPow (R : Run) (n : Nat) (u0 : List Int) (u1 : Int) : c_s_NatPow ((C B).step R n) u0 u1 = p_s_NatPow R n u0 u1 := by kernel_rfl
theorem e_s_l5Trim (R : Run) (n : Nat) (u0 : List Int) : c_s_l5Trim ((C B).step R n) u0 = p_s_l5Trim R n u0 := by kernel_rfl
theorem e_i_SpanOk (R : Run) (n : Nat) (u0 : Int) (u1 : Bool) (u2 : Int) (u3 : Int) : c_i_SpanOk ((C B).step R n) u0 u1 u2 u3 = p_i_SpanOk R n u0 u1 u2 u3 := by kernel_rfl
theorem e_s_l31Rd_ord (R : Run) (n : Nat) (u0 : List Int) (u1 : Int) (u2 : Int) : c_s_l31Rd_ord ((C B).step R n) u0 u1 u2 = p_s_l31Rd_ord R n u0 u1 u2 := by kernel_rfl
theorem e_s_l31Rd_pick (R : Run) (n : Nat) (u0 : List Int) (u1 : Int) (u2 : Int) : c_s_l31Rd_pick ((C B).step R n) u0 u1 u2 = p_s_l31Rd_pick R n u0 u1 u2 := by kernel_rfl
theorem e_s_l1Width (R : Run) (n : Nat) (u0 : Int) : c_s_l1Width ((C B).step R n) u0 = p_s_l1Width R n u0 := by kernel_rfl
theorem e_s_l31Rd_nice (R : Run) (n : Nat) (u0 : List Int) (u1 : Int) (u2 : Int) : c_s_l31Rd_nice ((C B).step R n) u0 u1 u2 = p_s_l31Rd_nice R n u0 u1 u2 := by kernel_rfl
theorem e_s_NatOf (R : Run) (n : Nat) (u0 : Int) : c_s_NatOf ((C B).step R n) u0 = p_s_NatOf R n u0 := by kernel_rfl
theorem e_s_l9Mul (R : Run) (n : Nat) (u0 : Int) (u1 : Int) (u2 : Int) (u3 : Bool) : c_s_l9Mul ((C B).step R n) u0 u1 u2 u3 = p_s_l9Mul R n u0 u1 u2 u3 := by kernel_rfl
theorem e_s_l9One (R : Run) (n : Nat) (u0 : Int) : c_s_l9One ((C B).step R n) u0 = p_s_l9One R n u0 := by kernel_rfl
theorem e_s_SpanAbs (R : Run) (n : Nat) (u0 : Int) (u1 : Bool) (u2 : Int) (u3 : Int) : c_s_SpanAbs ((C B).step R n) u0 u1 u2 u3 = p_s_SpanAbs R n u0 u1 u2 u3 := by kernel_rfl
theorem e_s_l9Pow (R : Run) (n : Nat) (u0 : Int) (u1 : Int) (u2 : Int) (u3 : Bool) : c_s_l9Pow ((C B).step R n) u0 u1 u2 u3 = p_s_l9Pow R n u0 u1 u2 u3 := by kernel_rfl
theorem e_i_Span_nought (R : Run) (n : Nat) (u0 : Bool) (u1 : Int) (u2 : Int) : c_i_Span_nought ((C B).step R n) u0 u1 u2 = p_i_Span_nought R n u0 u1 u2 := by kernel_rfl
theorem e_i_SpanHas (R : Run) (n : Nat) (u0 : Int) (u1 : Bool) (u2 : Int) (u3 : Int) (u4 : Bool) (u5 : List Int) (u6 : List Int) : c_i_SpanHas ((C B).step R n) u0 u1 u2 u3 u4 u5 u6 = p_i_SpanHas R n u0 u1 u2 u3 u4 u5 u6 := by kernel_rfl
theorem e_i_whole (R : Run) (n : Nat) (u0 : Bool) (u1 : List Int) : c_i_whole ((C B).step R n) u0 u1 = p_i_whole R n u0 u1 := by kernel_rfl
theorem e_i_either (R : Run) (n : Nat) (u0 : Int) (u1 : Bool) (u2 : Int) (u3 : Int) (u4 : Bool) (u5 : Int) (u6 : Int) : c_i_either ((C B).step R n) u0 u1 u2 u3 u4 u5 u6 = p_i_either R n u0 u1 u2 u3 u4 u5 u6 := by kernel_rfl
theorem e_s_NatRoot (R : Run) (n : Nat) (u0 : List Int) : c_s_NatRoot ((C B).step R n) u0 = p_s_NatRoot R n u0 := by kernel_rfl
theorem e_s_l31Rd_bound (R : Run) (n : Nat) (u0 : List Int) (u1 : Int) (u2 : Int) : c_s_l31Rd_bound ((C B).step R n) u0 u1 u2 = p_s_l31Rd_bound R n u0 u1 u2 := by kernel_rfl
theorem e_s_BitGap (R : Run) (n : Nat) (u0 : Int) (u1 : Int) : c_s_BitGap ((C B).step R n) u0 u1 = p_s_BitGap R n u0 u1 := by kernel_rfl
theorem e_s_FracOf (R : Run) (n : Nat) (u0 : Bool) (u1 : List Int) (u2 : List Int) : c_s_FracOf ((C B).step R n) u0 u1 u2 = p_s_FracOf R n u0 u1 u2 := by kernel_rfl
theorem e_s_l1Least (R : Run) (n : Nat) (u0 : Int) : c_s_l1Least ((C B).step R n) u0 = p_s_l1Least R n u0 := by kernel_rfl
theorem e_s_l1Frac (R : Run) (n : Nat) (u0 : Int) : c_s_l1Frac ((C B).step R n) u0 = p_s_l1Frac R n u0 := by kernel_rfl
theorem e_s_l5Pow2 (R : Run) (n : Nat) (u0 : Int) : c_s_l5Pow2 ((C B).step R n) u0 = p_s_l5Pow2 R n u0 := by kernel_rfl
theorem e_s_l5Gcd (R : Run) (n : Nat) (u0 : List Int) (u1 : List Int) : c_s_l5Gcd ((C B).step R n) u0 u1 = p_s_l5Gcd R n u0 u1 := by kernel_rfl
theorem e_s_l5Div (R : Run) (n : Nat) (u0 : List Int) (u1 : List Int) : c_s_l5Div ((C B).step R n) u0 u1 = p_s_l5Div R n u0 u1 := by kernel_rfl
theorem e_i_BitTop (R : Run) (n : Nat) (u0 : Int) : c_i_BitTop ((C B).step R n) u0 = p_i_BitTop R n u0 := by kernel_rfl
theorem e_i_value (R : Run) (n : Nat) (u0 : Int) (u1 : Int) : c_i_value ((C B).step R n) u0 u1 = p_i_value R n u0 u1 := by kernel_rfl
theorem e_i_natMul (R : Run) (n : Nat) (u0 : List Int) (u1 : List Int) : c_i_natMul ((C B).step R n) u0 u1 = p_i_natMul R n u0 u1 := by kernel_rfl
theorem e_i_lowest (R : Run) (n : Nat) (u0 : Bool) (u1 : List Int) (u2 : List Int) : c_i_lowest ((C B).step R n) u0 u1 u2 = p_i_lowest R n u0 u1 u2 := by kernel_rfl
theorem e_i_natCmp (R : Run) (n : Nat) (u0 : List Int) (u1 : List Int) : c_i_natCmp ((C B).step R n) u0 u1 = p_i_natCmp R n u0 u1 := by kernel_rfl
theorem e_i_around (R : Run) (n : Nat) (u0 : Int) (u1 : Bool) (u2 : List Int) (u3 : List Int) : c_i_around ((C B).step R n) u0 u1 u2 u3 = p_i_around R n u0 u1 u2 u3 := by kernel_rfl
theorem e_s_NatOk (R : Run) (n : Nat) (u0 : List Int) : c_s_NatOk ((C B).step R n) u0 = p_s_NatOk R n u0 := by kernel_rfl
theorem e_s_l6One (R : Run) (n : Nat) (u0 : List Int) : c_s_l6One ((C B).step R n) u0 = p_s_l6One R n u0 := by kernel_rfl
theorem e_s_l5Add (R : Run) (n : Nat) (u0 : List Int) (u1 : List Int) : c_s_l5Add ((C B).step R n) u0 u1 = p_s_l5Add R n u0 u1 := by kernel_rfl
theorem e_s_l5Cmp (R : Run) (n : Nat) (u0 : List Int) (u1 : List Int) : c_s_l5Cmp ((C B).step R n) u0 u1 = p_s_l5Cmp R n u0 u1 := by kernel_rfl
theorem e_s_l5Sub (R : Run) (n : Nat) (u0 : List Int) (u1 : List Int) : c_s_l5Sub ((C B).step R n) u0 u1 = p_s_l5Sub R n u0 u1 := by kernel_rfl
theorem e_s_l8Round (R : Run) (n : Nat) (u0 : Int) (u1 : Bool) (u2 : List Int) (u3 : List Int) (u4 : Bool) : c_s_l8Round ((C B).step R n) u0 u1 u2 u3 u4 = p_s_l8Round R n u0 u1 u2 u3 u4 := by kernel_rfl
theorem e_s_l8Frac (R : Run) (n : Nat) (u0 : Bool) (u1 : List Int) (u2 : List Int) : c_s_l8Frac ((C B).step R n) u0 u1 u2 = p_s_l8Frac R n u0 u1 u2 := by kernel_rfl
theorem e_i_limit_sign (R : Run) (n : Nat) (u0 : Int) (u1 : Bool) (u2 : List Int) (u3 : List Int) : c_i_limit_sign ((C B).step R n) u0 u1 u2 u3 = p_i_limit_sign R n u0 u1 u2 u3 := by kernel_rfl
theorem e_i_Frac_mul (R : Run) (n : Nat) (u0 : Bool) (u1 : List Int) (u2 : List Int) (u3 : Bool) (u4 : List Int) (u5 : List Int) : c_i_Frac_mul ((C B).step R n) u0 u1 u2 u3 u4 u5 = p_i_Frac_mul R n u0 u1 u2 u3 u4 u5 := by kernel_rfl
theorem e_i_divAbove_1 (R : Run) (n : Nat) (u0 : Int) (u1 : Bool) (u2 : List Int) (u3 : List Int) (u4 : Bool) (u5 : Int) (u6 : Int) (u7 : Int) : c_i_divAbove_1 ((C B).step R n) u0 u1 u2 u3 u4 u5 u6 u7 = p_i_divAbove_1 R n u0 u1 u2 u3 u4 u5 u6 u7 := by kernel_rfl
theorem e_i_limit_by (R : Run) (n : Nat) (u0 : Int) (u1 : Bool) (u2 : List Int) (u3 : List Int) (u4 : Int) (u5 : Bool) (u6 : List Int) (u7 : List Int) : c_i_limit_by ((C B).step R n) u0 u1 u2 u3 u4 u5 u6 u7 = p_i_limit_by R n u0 u1 u2 u3 u4 u5 u6 u7 := by kernel_rfl
theorem e_s_l9Quot (R : Run) (n : Nat) (u0 : Int) (u1 : Int) (u2 : Int) (u3 : Bool) : c_s_l9Quot ((C B).step R n) u0 u1 u2 u3 = p_s_l9Quot R n u0 u1 u2 u3 := by kernel_rfl
theorem e_s_PairMeet (R : Run) (n : Nat) (u0 : Int) (u1 : Int) (u2 : Int) (u3 : Int) (u4 : Int) : c_s_PairMeet ((C B).step R n) u0 u1 u2 u3 u4 = p_s_PairMeet R n u0 u1 u2 u3 u4 := by kernel_rfl
theorem e_s_PairHas (R : Run) (n : Nat) (u0 : Int) (u1 : Int) (u2 : Int) (u3 : Bool) (u4 : List Int) (u5 : List Int) : c_s_PairHas ((C B).step R n) u0 u1 u2 u3 u4 u5 = p_s_PairHas R n u0 u1 u2 u3 u4 u5 := by kernel_rfl
theorem e_i_formatOf (R : Run) (n : Nat) (u0 : Int) : c_i_formatOf ((C B).step R n) u0 = p_i_formatOf R n u0 := by kernel_rfl
theorem e_s_l31Rd_pair (R : Run) (n : Nat) (u0 : List Int) (u1 : Int) (u2 : Int) : c_s_l31Rd_pair ((C B).step R n) u0 u1 u2 = p_s_l31Rd_pair R n u0 u1 u2 := by kernel_rfl
theorem e_s_l31Rd_big (R : Run) (n : Nat) (u0 : List Int) (u1 : Int) : c_s_l31Rd_big ((C B).step R n) u0 u1 = p_s_l31Rd_big R n u0 u1 := by kernel_rfl
theorem e_i_Frac_pow (R : Run) (n : Nat) (u0 : Bool) (u1 : List Int) (u2 : List Int) (u3 : Int) : c_i_Frac_pow ((C B).step R n) u0 u1 u2 u3 = p_i_Frac_pow R n u0 u1 u2 u3 := by kernel_rfl
theorem e_i_root (R : Run) (n : Nat) (u0 : Int) (u1 : Int) (u2 : Int) : c_i_root ((C B).step R n) u0 u1 u2 = p_i_root R n u0 u1 u2 := by kernel_rfl
theorem e_i_PairOk (R : Run) (n : Nat) (u0 : Int) (u1 : Int) (u2 : Int) : c_i_PairOk ((C B).step R n) u0 u1 u2 = p_i_PairOk R n u0 u1 u2 := by kernel_rfl
theorem e_s_l5Times (R : Run) (n : Nat) (u0 : List Int) (u1 : Int) : c_s_l5Times ((C B).step R n) u0 u1 = p_s_l5Times R n u0 u1 := by kernel_rfl
theorem e_s_l9Infinite (R : Run) (n : Nat) (u0 : Int) (u1 : Int) : c_s_l9Infinite ((C B).step R n) u0 u1 = p_s_l9Infinite R n u0 u1 := by kernel_rfl
theorem e_s_l9Power (R : Run) (n : Nat) (u0 : Bool) (u1 : List Int) (u2 : List Int) (u3 : Int) : c_s_l9Power ((C B).step R n) u0 u1 u2 u3 = p_s_l9Power R n u0 u1 u2 u3 := by kernel_rfl
theorem e_i_PairHas (R : Run) (n : Nat) (u0 : Int) (u1 : Int) (u2 : Int) (u3 : Bool) (u4 : List Int) (u5 : List Int) : c_i_PairHas ((C B).step R n) u0 u1 u2 u3 u4 u5 = p_i_PairHas R n u0 u1 u2 u3 u4 u5 := by kernel_rfl
theorem e_s_l5Root (R : Run) (n : Nat) (u0 : List Int) : c_s_l5Root ((C B).step R n) u0 = p_s_l5Root R n u0 := by kernel_rfl
theorem e_s_l5Shl (R : Run) (n : Nat) (u0 : List Int) (u1 : Int) : c_s_l5Shl ((C B).step R n) u0 u1 = p_s_l5Shl R n u0 u1 := by kernel_rfl
theorem e_s_l5DivSmall (R : Run) (n : Nat) (u0 : List Int) (u1 : Int) : c_s_l5DivSmall ((C B).step R n) u0 u1 = p_s_l5DivSmall R n u0 u1 := by kernel_rfl
theorem e_s_l5Top (R : Run) (n : Nat) (u0 : List Int) (u1 : Int) : c_s_l5Top ((C B).step R n) u0 u1 = p_s_l5Top R n u0 u1 := by kernel_rfl
theorem e_s_l5At (R : Run) (n : Nat) (u0 : List Int) (u1 : Int) : c_s_l5At ((C B).step R n) u0 u1 = p_s_l5At R n u0 u1 := by kernel_rfl
theorem e_i_BitPartOf (R : Run) (n : Nat) (u0 : Int) (u1 : Int) : c_i_BitPartOf ((C B).step R n) u0 u1 = p_i_BitPartOf R n u0 u1 := by kernel_rfl
theorem e_i_natOf (R : Run) (n : Nat) (u0 : Int) : c_i_natOf ((C B).step R n) u0 = p_i_natOf R n u0 := by kernel_rfl
theorem e_i_natShift (R : Run) (n : Nat) (u0 : List Int) (u1 : Int) : c_i_natShift ((C B).step R n) u0 u1 = p_i_natShift R n u0 u1 := by kernel_rfl
theorem e_i_trim (R : Run) (n : Nat) (u0 : List Int) : c_i_trim ((C B).step R n) u0 = p_i_trim R n u0 := by kernel_rfl
theorem e_i_natGcd (R : Run) (n : Nat) (u0 : List Int) (u1 : List Int) : c_i_natGcd ((C B).step R n) u0 u1 = p_i_natGcd R n u0 u1 := by kernel_rfl
theorem e_i_natDiv (R : Run) (n : Nat) (u0 : List Int) (u1 : List Int) : c_i_natDiv ((C B).step R n) u0 u1 = p_i_natDiv R n u0 u1 := by kernel_rfl
theorem e_i_truncated (R : Run) (n : Nat) (u0 : Int) (u1 : Bool) (u2 : List Int) (u3 : List Int) : c_i_truncated ((C B).step R n) u0 u1 u2 u3 = p_i_truncated R n u0 u1 u2 u3 := by kernel_rfl
theorem e_s_l8Size (R : Run) (n : Nat) (u0 : Int) (u1 : Bool) (u2 : List Int) (u3 : List Int) : c_s_l8Size ((C B).step R n) u0 u1 u2 u3 = p_s_l8Size R n u0 u1 u2 u3 := by kernel_rfl
theorem e_i_Frac_sign (R : Run) (n : Nat) (u0 : Bool) (u1 : List Int) (u2 : List Int) : c_i_Frac_sign ((C B).step R n) u0 u1 u2 = p_i_Frac_sign R n u0 u1 u2 := by kernel_rfl
theorem e_i_Frac_div (R : Run) (n : Nat) (u0 : Bool) (u1 : List Int) (u2 : List Int) (u3 : Bool) (u4 : List Int) (u5 : List Int) : c_i_Frac_div ((C B).step R n) u0 u1 u2 u3 u4 u5 = p_i_Frac_div R n u0 u1 u2 u3 u4 u5 := by kernel_rfl
theorem e_s_l8Cmp (R : Run) (n : Nat) (u0 : Bool) (u1 : List Int) (u2 : List Int) (u3 : Bool) (u4 : List Int) (u5 : List Int) : c_s_l8Cmp ((C B).step R n) u0 u1 u2 u3 u4 u5 = p_s_l8Cmp R n u0 u1 u2 u3 u4 u5 := by kernel_rfl
theorem e_i_natPow (R : Run) (n : Nat) (u0 : List Int) (u1 : Int) : c_i_natPow ((C B).step R n) u0 u1 = p_i_natPow R n u0 u1 := by kernel_rfl
theorem e_i_powerAbove (R : Run) (n : Nat) (u0 : Int) (u1 : Int) (u2 : Int) (u3 : Bool) (u4 : List Int) (u5 : List Int) : c_i_powerAbove ((C B).step R n) u0 u1 u2 u3 u4 u5 = p_i_powerAbove R n u0 u1 u2 u3 u4 u5 := by kernel_rfl
theorem e_i_Frac_cmp (R : Run) (n : Nat) (u0 : Bool) (u1 : List Int) (u2 : List Int) (u3 : Bool) (u4 : List Int) (u5 : List Int) : c_i_Frac_cmp ((C B).step R n) u0 u1 u2 u3 u4 u5 = p_i_Frac_cmp R n u0 u1 u2 u3 u4 u5 := by kernel_rfl
theorem e_i_FracOk (R : Run) (n : Nat) (u0 : Bool) (u1 : List Int) (u2 : List Int) : c_i_FracOk ((C B).step R n) u0 u1 u2 = p_i_FracOk R n u0 u1 u2 := by kernel_rfl
theorem e_s_l5Bits (R : Run) (n : Nat) (u0 : List Int) : c_s_l5Bits ((C B).step R n) u0 = p_s_l5Bits R n u0 := by kernel_rfl
theorem e_math_bits_Len (R : Run) (n : Nat) (u0 : Int) : c_math_bits_Len ((C B).step R n) u0 = p_math_bits_Len R n u0 := by kernel_rfl
theorem e_i_natBits (R : Run) (n : Nat) (u0 : List Int) : c_i_natBits ((C B).step R n) u0 = p_i_natBits R n u0 := by kernel_rfl
theorem e_i_BitMake (R : Run) (n : Nat) (u0 : Int) (u1 : Bool) (u2 : Int) (u3 : Int) : c_i_BitMake ((C B).step R n) u0 u1 u2 u3 = p_i_BitMake R n u0 u1 u2 u3 := by kernel_rfl
theorem e_s_l8Scaled (R : Run) (n : Nat) (u0 : Bool) (u1 : List Int) (u2 : List Int) (u3 : Int) : c_s_l8Scaled ((C B).step R n) u0 u1 u2 u3 = p_s_l8Scaled R n u0 u1 u2 u3 := by kernel_rfl
theorem e_s_NatSmall (R : Run) (n : Nat) (u0 : List Int) : c_s_NatSmall ((C B).step R n) u0 = p_s_NatSmall R n u0 := by kernel_rfl
theorem e_i_nats (R : Run) (n : Nat) (u0 : List (List Int)) : c_i_nats ((C B).step R n) u0 = p_i_nats R n u0 := by kernel_rfl
theorem e_math_bits_Len64 (R : Run) (n : Nat) (u0 : Int) : c_math_bits_Len64 ((C B).step R n) u0 = p_math_bits_Len64 R n u0 := by kernel_rfl
theorem e_slices_ContainsFunc_int_int_i_nats_1 (R : Run) (n : Nat) (u0 : List (List Int)) : c_slices_ContainsFunc_int_int_i_nats_1 ((C B).step R n) u0 = p_slices_ContainsFunc_int_int_i_nats_1 R n u0 := by kernel_rfl
theorem e_i_nats_1 (R : Run) (n : Nat) (u0 : List Int) : c_i_nats_1 ((C B).step R n) u0 = p_i_nats_1 R n u0 := by kernel_rfl
theorem e_i_NatOk (R : Run) (n : Nat) (u0 : List Int) : c_i_NatOk ((C B).step R n) u0 = p_i_NatOk R n u0 := by kernel_rfl
theorem e_slices_IndexFunc_int_int_i_nats_1 (R : Run) (n : Nat) (u0 : List (List Int)) : c_slices_IndexFunc_int_int_i_nats_1 ((C B).step R n) u0 = p_slices_IndexFunc_int_int_i_nats_1 R n u0 := by kernel_rfl
theorem e_slices_ContainsFunc_int_int'_i_NatOk_1 (R : Run) (n : Nat) (u0 : List Int) : c_slices_ContainsFunc_int_int'_i_NatOk_1 ((C B).step R n) u0 = p_slices_ContainsFunc_int_int'_i_NatOk_1 R n u0 := by kernel_rfl
theorem e_i_NatOk_1 (R : Run) (n : Nat) (u0 : Int) : c_i_NatOk_1 ((C B).step R n) u0 = p_i_NatOk_1 R n u0 := by kernel_rfl
theorem e_slices_IndexFunc_int_int'_i_NatOk_1 (R : Run) (n : Nat) (u0 : List Int) : c_slices_IndexFunc_int_int'_i_NatOk_1 ((C B).step R n) u0 = p_slices_IndexFunc_int_int'_i_NatOk_1 R n u0 := by kernel_rfl
end Go.Px.Seat
