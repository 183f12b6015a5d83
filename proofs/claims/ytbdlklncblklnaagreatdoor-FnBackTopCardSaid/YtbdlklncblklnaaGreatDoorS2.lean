/- Own texts, part S2: PxFns. -/
import Derived.Test.YtbdlklncblklnaaGreatDoorA5
import Derived.Test.YtbdlklncblklnaaGreatDoorS1
set_option linter.unusedVariables false

namespace Go.Px.Seat
open Go
def c_w_FnBackTop (R : Run) (u0 : List Int) (u1 : List Int) : Option (Bool × Unit) := R 11 [] sg_w_FnBackTop (u0, (u1, ()))
def c_s_Fine (R : Run) (u0 : List Int) : Option (Int × (Bool × (Int × (Int × (Bool × (List Int × (List Int × Unit))))))) := R 12 [] sg_s_Fine (u0, ())
def c_s_FineOf (R : Run) (u0 : Int) (u1 : List Int) : Option (Bool × (Int × (Int × (Bool × (List Int × (List Int × Unit)))))) := R 13 [] sg_s_FineOf (u0, (u1, ()))
def c_s_FloatFrac (R : Run) (u0 : Int) (u1 : Int) : Option (Bool × (List Int × (List Int × (Bool × Unit)))) := R 14 [] sg_s_FloatFrac (u0, (u1, ()))
def c_s_FracAdd (R : Run) (u0 : Bool) (u1 : List Int) (u2 : List Int) (u3 : Bool) (u4 : List Int) (u5 : List Int) : Option (Bool × (List Int × (List Int × (Bool × Unit)))) := R 16 [] sg_s_FracAdd (u0, (u1, (u2, (u3, (u4, (u5, ()))))))
def c_s_FracSub (R : Run) (u0 : Bool) (u1 : List Int) (u2 : List Int) (u3 : Bool) (u4 : List Int) (u5 : List Int) : Option (Bool × (List Int × (List Int × (Bool × Unit)))) := R 19 [] sg_s_FracSub (u0, (u1, (u2, (u3, (u4, (u5, ()))))))
def c_i_SpanMul (R : Run) (u0 : Int) (u1 : Bool) (u2 : Int) (u3 : Int) (u4 : Bool) (u5 : Int) (u6 : Int) : Option (Bool × (Int × (Int × Unit))) := R 20 [] sg_i_SpanMul (u0, (u1, (u2, (u3, (u4, (u5, (u6, ())))))))
def c_s_FracMul (R : Run) (u0 : Bool) (u1 : List Int) (u2 : List Int) (u3 : Bool) (u4 : List Int) (u5 : List Int) : Option (Bool × (List Int × (List Int × (Bool × Unit)))) := R 21 [] sg_s_FracMul (u0, (u1, (u2, (u3, (u4, (u5, ()))))))
def c_s_FracCmp (R : Run) (u0 : Bool) (u1 : List Int) (u2 : List Int) (u3 : Bool) (u4 : List Int) (u5 : List Int) : Option (Int × Unit) := R 22 [] sg_s_FracCmp (u0, (u1, (u2, (u3, (u4, (u5, ()))))))
def c_i_SpanDivTwo (R : Run) (u0 : Int) (u1 : Bool) (u2 : Int) (u3 : Int) (u4 : Bool) (u5 : Int) (u6 : Int) : Option (Bool × (Int × (Int × (Bool × (Int × (Int × Unit)))))) := R 23 [] sg_i_SpanDivTwo (u0, (u1, (u2, (u3, (u4, (u5, (u6, ())))))))
def c_s_SpanDivTwo (R : Run) (u0 : Int) (u1 : Bool) (u2 : Int) (u3 : Int) (u4 : Bool) (u5 : Int) (u6 : Int) : Option (Bool × (Int × (Int × (Bool × (Int × (Int × Unit)))))) := R 24 [] sg_s_SpanDivTwo (u0, (u1, (u2, (u3, (u4, (u5, (u6, ())))))))
def c_s_SpanHull (R : Run) (u0 : Int) (u1 : Bool) (u2 : Int) (u3 : Int) (u4 : Bool) (u5 : Int) (u6 : Int) : Option (Bool × (Int × (Int × Unit))) := R 26 [] sg_s_SpanHull (u0, (u1, (u2, (u3, (u4, (u5, (u6, ())))))))
def c_w_psIn (R : Run) (u0 : Int) (u1 : Bool) (u2 : Int) (u3 : Int) (u4 : Bool) (u5 : List Int) (u6 : List Int) : Option (Bool × Unit) := R 28 [] sg_w_psIn (u0, (u1, (u2, (u3, (u4, (u5, (u6, ())))))))
def c_w_psTurn (R : Run) (u0 : List Int) : Option (List Int × Unit) := R 29 [] sg_w_psTurn (u0, ())
def c_i_BackMul (R : Run) (u0 : Int) (u1 : Bool) (u2 : Int) (u3 : Int) (u4 : Bool) (u5 : Int) (u6 : Int) (u7 : Bool) (u8 : Int) (u9 : Int) : Option (Bool × (Int × (Int × Unit))) := R 32 [] sg_i_BackMul (u0, (u1, (u2, (u3, (u4, (u5, (u6, (u7, (u8, (u9, ()))))))))))
def c_w_psIs (R : Run) (u0 : Bool) (u1 : Int) (u2 : Int) (u3 : Bool) (u4 : Int) (u5 : Int) : Option (Bool × Unit) := R 33 [] sg_w_psIs (u0, (u1, (u2, (u3, (u4, (u5, ()))))))
def c_s_Within (R : Run) (u0 : Int) (u1 : Bool) (u2 : Int) (u3 : Int) (u4 : List Int) : Option (Bool × (Int × (Int × Unit))) := R 36 [] sg_s_Within (u0, (u1, (u2, (u3, (u4, ())))))
def c_i_SpanPow (R : Run) (u0 : Int) (u1 : Bool) (u2 : Int) (u3 : Int) (u4 : Int) : Option (Bool × (Int × (Int × Unit))) := R 37 [] sg_i_SpanPow (u0, (u1, (u2, (u3, (u4, ())))))
def c_i_SpanAbs (R : Run) (u0 : Int) (u1 : Bool) (u2 : Int) (u3 : Int) : Option (Bool × (Int × (Int × Unit))) := R 39 [] sg_i_SpanAbs (u0, (u1, (u2, (u3, ()))))
def c_s_FracDiv (R : Run) (u0 : Bool) (u1 : List Int) (u2 : List Int) (u3 : Bool) (u4 : List Int) (u5 : List Int) : Option (Bool × (List Int × (List Int × (Bool × Unit)))) := R 44 [] sg_s_FracDiv (u0, (u1, (u2, (u3, (u4, (u5, ()))))))
def c_s_FracPow (R : Run) (u0 : Bool) (u1 : List Int) (u2 : List Int) (u3 : Int) : Option (Bool × (List Int × (List Int × (Bool × Unit)))) := R 45 [] sg_s_FracPow (u0, (u1, (u2, (u3, ()))))
def c_s_FracAbs (R : Run) (u0 : Bool) (u1 : List Int) (u2 : List Int) : Option (Bool × (List Int × (List Int × (Bool × Unit)))) := R 46 [] sg_s_FracAbs (u0, (u1, (u2, ())))
def c_i_SpanNeg (R : Run) (u0 : Int) (u1 : Bool) (u2 : Int) (u3 : Int) : Option (Bool × (Int × (Int × Unit))) := R 48 [] sg_i_SpanNeg (u0, (u1, (u2, (u3, ()))))
def c_i_SpanHull (R : Run) (u0 : Int) (u1 : Bool) (u2 : Int) (u3 : Int) (u4 : Bool) (u5 : Int) (u6 : Int) : Option (Bool × (Int × (Int × Unit))) := R 49 [] sg_i_SpanHull (u0, (u1, (u2, (u3, (u4, (u5, (u6, ())))))))
def c_s_BitOk (R : Run) (u0 : Int) (u1 : Int) : Option (Bool × Unit) := R 51 [] sg_s_BitOk (u0, (u1, ()))
def c_s_FracInt (R : Run) (u0 : Int) : Option (Bool × (List Int × (List Int × Unit))) := R 53 [] sg_s_FracInt (u0, ())
def c_s_SpanMul (R : Run) (u0 : Int) (u1 : Bool) (u2 : Int) (u3 : Int) (u4 : Bool) (u5 : Int) (u6 : Int) : Option (Bool × (Int × (Int × Unit))) := R 54 [] sg_s_SpanMul (u0, (u1, (u2, (u3, (u4, (u5, (u6, ())))))))
def c_s_SpanDiv (R : Run) (u0 : Int) (u1 : Bool) (u2 : Int) (u3 : Int) (u4 : Bool) (u5 : Int) (u6 : Int) : Option (Bool × (Int × (Int × Unit))) := R 55 [] sg_s_SpanDiv (u0, (u1, (u2, (u3, (u4, (u5, (u6, ())))))))
def c_s_SpanPow (R : Run) (u0 : Int) (u1 : Bool) (u2 : Int) (u3 : Int) (u4 : Int) : Option (Bool × (Int × (Int × Unit))) := R 56 [] sg_s_SpanPow (u0, (u1, (u2, (u3, (u4, ())))))
def c_i_BackTop (R : Run) (u0 : Int) (u1 : Bool) (u2 : Int) (u3 : Int) (u4 : Bool) (u5 : Int) (u6 : Int) (u7 : Bool) (u8 : Int) (u9 : Int) : Option (Bool × (Int × (Int × Unit))) := R 57 [] sg_i_BackTop (u0, (u1, (u2, (u3, (u4, (u5, (u6, (u7, (u8, (u9, ()))))))))))
def c_i_BackBottom (R : Run) (u0 : Int) (u1 : Bool) (u2 : Int) (u3 : Int) (u4 : Bool) (u5 : Int) (u6 : Int) (u7 : Bool) (u8 : Int) (u9 : Int) : Option (Bool × (Int × (Int × Unit))) := R 58 [] sg_i_BackBottom (u0, (u1, (u2, (u3, (u4, (u5, (u6, (u7, (u8, (u9, ()))))))))))
def c_i_BackPow (R : Run) (u0 : Int) (u1 : Bool) (u2 : Int) (u3 : Int) (u4 : Int) (u5 : Bool) (u6 : Int) (u7 : Int) : Option (Bool × (Int × (Int × Unit))) := R 59 [] sg_i_BackPow (u0, (u1, (u2, (u3, (u4, (u5, (u6, (u7, ()))))))))
def c_i_BackRoot (R : Run) (u0 : Int) (u1 : Bool) (u2 : Int) (u3 : Int) (u4 : Bool) (u5 : Int) (u6 : Int) : Option (Bool × (Int × (Int × Unit))) := R 60 [] sg_i_BackRoot (u0, (u1, (u2, (u3, (u4, (u5, (u6, ())))))))
def c_i_BackAbs (R : Run) (u0 : Int) (u1 : Bool) (u2 : Int) (u3 : Int) (u4 : Bool) (u5 : Int) (u6 : Int) : Option (Bool × (Int × (Int × Unit))) := R 61 [] sg_i_BackAbs (u0, (u1, (u2, (u3, (u4, (u5, (u6, ())))))))
def c_s_FracRoot (R : Run) (u0 : Bool) (u1 : List Int) (u2 : List Int) : Option (Bool × (List Int × (List Int × (Bool × Unit)))) := R 62 [] sg_s_FracRoot (u0, (u1, (u2, ())))
def c_i_BackMin (R : Run) (u0 : Int) (u1 : Bool) (u2 : Int) (u3 : Int) (u4 : Bool) (u5 : Int) (u6 : Int) (u7 : Bool) (u8 : Int) (u9 : Int) : Option (Bool × (Int × (Int × Unit))) := R 63 [] sg_i_BackMin (u0, (u1, (u2, (u3, (u4, (u5, (u6, (u7, (u8, (u9, ()))))))))))
def c_i_BackMax (R : Run) (u0 : Int) (u1 : Bool) (u2 : Int) (u3 : Int) (u4 : Bool) (u5 : Int) (u6 : Int) (u7 : Bool) (u8 : Int) (u9 : Int) : Option (Bool × (Int × (Int × Unit))) := R 64 [] sg_i_BackMax (u0, (u1, (u2, (u3, (u4, (u5, (u6, (u7, (u8, (u9, ()))))))))))
def c_s_l31Open (R : Run) (u0 : List Int) : Option (List Int × (Int × Unit)) := R 65 [] sg_s_l31Open (u0, ())
def c_s_l31Rd_real (R : Run) (u0 : List Int) (u1 : Int) : Option (Int × (List Int × (Int × Unit))) := R 66 [] sg_s_l31Rd_real (u0, (u1, ()))
def c_s_l31Rd_fine (R : Run) (u0 : List Int) (u1 : Int) (u2 : Int) : Option (Bool × (Int × (Int × (List Int × (Int × Unit))))) := R 67 [] sg_s_l31Rd_fine (u0, (u1, (u2, ())))
def c_s_l31Rd_inside (R : Run) (u0 : List Int) (u1 : Int) (u2 : Int) (u3 : Bool) (u4 : Int) (u5 : Int) : Option (Bool × (List Int × (List Int × (List Int × (Int × Unit))))) := R 68 [] sg_s_l31Rd_inside (u0, (u1, (u2, (u3, (u4, (u5, ()))))))
def c_s_BitPartOf (R : Run) (u0 : Int) (u1 : Int) : Option (Bool × (Int × (Int × (Bool × Unit)))) := R 69 [] sg_s_BitPartOf (u0, (u1, ()))
def c_s_l8Of (R : Run) (u0 : Int) (u1 : Int) : Option (Bool × (List Int × (List Int × Unit))) := R 70 [] sg_s_l8Of (u0, (u1, ()))
def c_s_l6Make (R : Run) (u0 : Bool) (u1 : List Int) (u2 : List Int) : Option (Bool × (List Int × (List Int × (Bool × Unit)))) := R 71 [] sg_s_l6Make (u0, (u1, (u2, ())))
def c_i_full (R : Run) (u0 : Int) (u1 : List ((Bool × (Int × (Int × Unit))))) : Option (Bool × Unit) := R 72 [] sg_i_full (u0, (u1, ()))
def c_i_limitOf (R : Run) (u0 : Int) (u1 : Int) : Option (Int × (Bool × (List Int × (List Int × Unit)))) := R 74 [] sg_i_limitOf (u0, (u1, ()))
def c_i_limit_floats (R : Run) (u0 : Int) (u1 : Bool) (u2 : List Int) (u3 : List Int) (u4 : Int) : Option (Int × (Int × Unit)) := R 76 [] sg_i_limit_floats (u0, (u1, (u2, (u3, (u4, ())))))
def c_i_some (R : Run) (u0 : Int) (u1 : Int) : Option (Bool × (Int × (Int × Unit))) := R 77 [] sg_i_some (u0, (u1, ()))
def c_s_FracOk (R : Run) (u0 : Bool) (u1 : List Int) (u2 : List Int) : Option (Bool × Unit) := R 78 [] sg_s_FracOk (u0, (u1, (u2, ())))
def c_s_l6Sum (R : Run) (u0 : Bool) (u1 : List Int) (u2 : List Int) (u3 : Bool) (u4 : List Int) (u5 : List Int) : Option (Bool × (List Int × (List Int × Unit))) := R 79 [] sg_s_l6Sum (u0, (u1, (u2, (u3, (u4, (u5, ()))))))
def c_s_l6Neg (R : Run) (u0 : Bool) (u1 : List Int) (u2 : List Int) : Option (Bool × (List Int × (List Int × Unit))) := R 82 [] sg_s_l6Neg (u0, (u1, (u2, ())))
def c_i_limit_times (R : Run) (u0 : Int) (u1 : Bool) (u2 : List Int) (u3 : List Int) (u4 : Int) (u5 : Bool) (u6 : List Int) (u7 : List Int) : Option (Int × (Bool × (List Int × (List Int × Unit)))) := R 83 [] sg_i_limit_times (u0, (u1, (u2, (u3, (u4, (u5, (u6, (u7, ()))))))))
def c_s_l5Mul (R : Run) (u0 : List Int) (u1 : List Int) : Option (List Int × Unit) := R 84 [] sg_s_l5Mul (u0, (u1, ()))
def c_i_divAbove (R : Run) (u0 : Int) (u1 : Bool) (u2 : Int) (u3 : Int) (u4 : Bool) (u5 : Int) (u6 : Int) : Option (Bool × (Int × (Int × Unit))) := R 85 [] sg_i_divAbove (u0, (u1, (u2, (u3, (u4, (u5, (u6, ())))))))
def c_s_l9Both (R : Run) (u0 : Int) (u1 : Bool) (u2 : Int) (u3 : Int) (u4 : Bool) (u5 : Int) (u6 : Int) : Option (Bool × Unit) := R 86 [] sg_s_l9Both (u0, (u1, (u2, (u3, (u4, (u5, (u6, ())))))))
def c_s_l9Part (R : Run) (u0 : Int) (u1 : Bool) (u2 : Int) (u3 : Int) (u4 : Bool) (u5 : Int) (u6 : Int) : Option (Bool × (Int × (Int × Unit))) := R 87 [] sg_s_l9Part (u0, (u1, (u2, (u3, (u4, (u5, (u6, ())))))))
def c_s_SpanNeg (R : Run) (u0 : Int) (u1 : Bool) (u2 : Int) (u3 : Int) : Option (Bool × (Int × (Int × Unit))) := R 88 [] sg_s_SpanNeg (u0, (u1, (u2, (u3, ()))))
def c_s_SpanMeet (R : Run) (u0 : Int) (u1 : Bool) (u2 : Int) (u3 : Int) (u4 : Bool) (u5 : Int) (u6 : Int) : Option (Bool × (Int × (Int × Unit))) := R 89 [] sg_s_SpanMeet (u0, (u1, (u2, (u3, (u4, (u5, (u6, ())))))))
def c_s_SpanOk (R : Run) (u0 : Int) (u1 : Bool) (u2 : Int) (u3 : Int) : Option (Bool × Unit) := R 90 [] sg_s_SpanOk (u0, (u1, (u2, (u3, ()))))
def c_s_l9Of (R : Run) (u0 : Int) (u1 : Int) : Option (Bool × (Int × (Int × Unit))) := R 91 [] sg_s_l9Of (u0, (u1, ()))
def c_s_l3Min (R : Run) (u0 : Int) (u1 : Int) : Option (Int × Unit) := R 92 [] sg_s_l3Min (u0, (u1, ()))
def c_s_l3Max (R : Run) (u0 : Int) (u1 : Int) : Option (Int × Unit) := R 93 [] sg_s_l3Max (u0, (u1, ()))
def c_s_SpanHas (R : Run) (u0 : Int) (u1 : Bool) (u2 : Int) (u3 : Int) (u4 : Bool) (u5 : List Int) (u6 : List Int) : Option (Bool × Unit) := R 94 [] sg_s_SpanHas (u0, (u1, (u2, (u3, (u4, (u5, (u6, ())))))))
def c_i_Span_zero (R : Run) (u0 : Bool) (u1 : Int) (u2 : Int) : Option (Bool × Unit) := R 95 [] sg_i_Span_zero (u0, (u1, (u2, ())))
def c_i_backParts (R : Run) (u0 : Int) (u1 : Bool) (u2 : Int) (u3 : Int) (u4 : Bool) (u5 : Int) (u6 : Int) (u7 : Bool) (u8 : Int) (u9 : Int) : Option (Bool × (Int × (Int × (Bool × (Int × (Int × Unit)))))) := R 96 [] sg_i_backParts (u0, (u1, (u2, (u3, (u4, (u5, (u6, (u7, (u8, (u9, ()))))))))))
def c_s_BitTop (R : Run) (u0 : Int) : Option (Int × Unit) := R 99 [] sg_s_BitTop (u0, ())
def c_i_BitOk (R : Run) (u0 : Int) (u1 : Int) : Option (Bool × Unit) := R 101 [] sg_i_BitOk (u0, (u1, ()))
def c_s_l31Rd_within (R : Run) (u0 : List Int) (u1 : Int) (u2 : Int) (u3 : Int) (u4 : Int) : Option (Int × (Int × (List Int × (Int × Unit)))) := R 103 [] sg_s_l31Rd_within (u0, (u1, (u2, (u3, (u4, ())))))
def c_s_l9Pair (R : Run) (u0 : Bool) (u1 : Int) (u2 : Int) : Option (Int × (Int × Unit)) := R 104 [] sg_s_l9Pair (u0, (u1, (u2, ())))
def c_s_PairOk (R : Run) (u0 : Int) (u1 : Int) (u2 : Int) : Option (Bool × Unit) := R 105 [] sg_s_PairOk (u0, (u1, (u2, ())))
def c_s_PairIs (R : Run) (u0 : Int) (u1 : Int) (u2 : Int) (u3 : Int) : Option (Bool × Unit) := R 106 [] sg_s_PairIs (u0, (u1, (u2, (u3, ()))))
def c_i_in (R : Run) (u0 : Int) (u1 : Int) (u2 : Int) : Option (Bool × Unit) := R 107 [] sg_i_in (u0, (u1, (u2, ())))
def c_i_power (R : Run) (u0 : Int) (u1 : Int) (u2 : Int) : Option (Int × (Int × Unit)) := R 108 [] sg_i_power (u0, (u1, (u2, ())))
def c_i_SpanMeet (R : Run) (u0 : Int) (u1 : Bool) (u2 : Int) (u3 : Int) (u4 : Bool) (u5 : Int) (u6 : Int) : Option (Bool × (Int × (Int × Unit))) := R 109 [] sg_i_SpanMeet (u0, (u1, (u2, (u3, (u4, (u5, (u6, ())))))))
def c_i_from (R : Run) (u0 : Int) (u1 : Int) : Option (Bool × (Int × (Int × Unit))) := R 110 [] sg_i_from (u0, (u1, ()))
def c_i_rootDown (R : Run) (u0 : Int) (u1 : Int) (u2 : Int) : Option (Int × Unit) := R 111 [] sg_i_rootDown (u0, (u1, (u2, ())))
def c_i_rootUp (R : Run) (u0 : Int) (u1 : Int) (u2 : Int) : Option (Int × Unit) := R 112 [] sg_i_rootUp (u0, (u1, (u2, ())))
def c_i_size (R : Run) (u0 : Int) : Option (Int × Unit) := R 113 [] sg_i_size (u0, ())
def c_s_NatPow (R : Run) (u0 : List Int) (u1 : Int) : Option (List Int × (Bool × Unit)) := R 116 [] sg_s_NatPow (u0, (u1, ()))
def c_s_l5Trim (R : Run) (u0 : List Int) : Option (List Int × Unit) := R 117 [] sg_s_l5Trim (u0, ())
def c_i_SpanOk (R : Run) (u0 : Int) (u1 : Bool) (u2 : Int) (u3 : Int) : Option (Bool × Unit) := R 118 [] sg_i_SpanOk (u0, (u1, (u2, (u3, ()))))
def c_s_l31Rd_ord (R : Run) (u0 : List Int) (u1 : Int) (u2 : Int) : Option (Int × (List Int × (Int × Unit))) := R 120 [] sg_s_l31Rd_ord (u0, (u1, (u2, ())))
def c_s_l31Rd_pick (R : Run) (u0 : List Int) (u1 : Int) (u2 : Int) : Option (Int × (List Int × (Int × Unit))) := R 121 [] sg_s_l31Rd_pick (u0, (u1, (u2, ())))
def c_s_l1Width (R : Run) (u0 : Int) : Option (Bool × Unit) := R 122 [] sg_s_l1Width (u0, ())
def c_s_l31Rd_nice (R : Run) (u0 : List Int) (u1 : Int) (u2 : Int) : Option (Int × (List Int × (Int × Unit))) := R 123 [] sg_s_l31Rd_nice (u0, (u1, (u2, ())))
def c_s_NatOf (R : Run) (u0 : Int) : Option (List Int × Unit) := R 125 [] sg_s_NatOf (u0, ())
def c_s_l9Mul (R : Run) (u0 : Int) (u1 : Int) (u2 : Int) (u3 : Bool) : Option (Int × Unit) := R 126 [] sg_s_l9Mul (u0, (u1, (u2, (u3, ()))))
def c_s_l9One (R : Run) (u0 : Int) : Option (Int × Unit) := R 127 [] sg_s_l9One (u0, ())
def c_s_SpanAbs (R : Run) (u0 : Int) (u1 : Bool) (u2 : Int) (u3 : Int) : Option (Bool × (Int × (Int × Unit))) := R 128 [] sg_s_SpanAbs (u0, (u1, (u2, (u3, ()))))
def c_s_l9Pow (R : Run) (u0 : Int) (u1 : Int) (u2 : Int) (u3 : Bool) : Option (Int × Unit) := R 129 [] sg_s_l9Pow (u0, (u1, (u2, (u3, ()))))
def c_i_Span_nought (R : Run) (u0 : Bool) (u1 : Int) (u2 : Int) : Option (Bool × Unit) := R 130 [] sg_i_Span_nought (u0, (u1, (u2, ())))
def c_i_SpanHas (R : Run) (u0 : Int) (u1 : Bool) (u2 : Int) (u3 : Int) (u4 : Bool) (u5 : List Int) (u6 : List Int) : Option (Bool × Unit) := R 131 [] sg_i_SpanHas (u0, (u1, (u2, (u3, (u4, (u5, (u6, ())))))))
def c_i_whole (R : Run) (u0 : Bool) (u1 : List Int) : Option (Bool × (List Int × (List Int × Unit))) := R 132 [] sg_i_whole (u0, (u1, ()))
def c_i_either (R : Run) (u0 : Int) (u1 : Bool) (u2 : Int) (u3 : Int) (u4 : Bool) (u5 : Int) (u6 : Int) : Option (Bool × (Int × (Int × Unit))) := R 133 [] sg_i_either (u0, (u1, (u2, (u3, (u4, (u5, (u6, ())))))))
def c_s_NatRoot (R : Run) (u0 : List Int) : Option (List Int × (Bool × (Bool × Unit))) := R 134 [] sg_s_NatRoot (u0, ())
def c_s_l31Rd_bound (R : Run) (u0 : List Int) (u1 : Int) (u2 : Int) : Option (Int × (List Int × (Int × Unit))) := R 135 [] sg_s_l31Rd_bound (u0, (u1, (u2, ())))
def c_s_BitGap (R : Run) (u0 : Int) (u1 : Int) : Option (Int × Unit) := R 136 [] sg_s_BitGap (u0, (u1, ()))
def c_s_FracOf (R : Run) (u0 : Bool) (u1 : List Int) (u2 : List Int) : Option (Bool × (List Int × (List Int × (Bool × Unit)))) := R 137 [] sg_s_FracOf (u0, (u1, (u2, ())))
def c_s_l1Least (R : Run) (u0 : Int) : Option (Int × Unit) := R 138 [] sg_s_l1Least (u0, ())
def c_s_l1Frac (R : Run) (u0 : Int) : Option (Int × Unit) := R 139 [] sg_s_l1Frac (u0, ())
def c_s_l5Pow2 (R : Run) (u0 : Int) : Option (List Int × Unit) := R 140 [] sg_s_l5Pow2 (u0, ())
def c_s_l5Gcd (R : Run) (u0 : List Int) (u1 : List Int) : Option (List Int × Unit) := R 141 [] sg_s_l5Gcd (u0, (u1, ()))
def c_s_l5Div (R : Run) (u0 : List Int) (u1 : List Int) : Option (List Int × (List Int × Unit)) := R 142 [] sg_s_l5Div (u0, (u1, ()))
def c_i_BitTop (R : Run) (u0 : Int) : Option (Int × Unit) := R 143 [] sg_i_BitTop (u0, ())
def c_i_value (R : Run) (u0 : Int) (u1 : Int) : Option (Bool × (List Int × (List Int × Unit))) := R 144 [] sg_i_value (u0, (u1, ()))
def c_i_natMul (R : Run) (u0 : List Int) (u1 : List Int) : Option (List Int × Unit) := R 145 [] sg_i_natMul (u0, (u1, ()))
def c_i_lowest (R : Run) (u0 : Bool) (u1 : List Int) (u2 : List Int) : Option (Bool × (List Int × (List Int × Unit))) := R 146 [] sg_i_lowest (u0, (u1, (u2, ())))
def c_i_natCmp (R : Run) (u0 : List Int) (u1 : List Int) : Option (Int × Unit) := R 148 [] sg_i_natCmp (u0, (u1, ()))
def c_i_around (R : Run) (u0 : Int) (u1 : Bool) (u2 : List Int) (u3 : List Int) : Option (Int × (Int × Unit)) := R 150 [] sg_i_around (u0, (u1, (u2, (u3, ()))))
def c_s_NatOk (R : Run) (u0 : List Int) : Option (Bool × Unit) := R 151 [] sg_s_NatOk (u0, ())
def c_s_l6One (R : Run) (u0 : List Int) : Option (Bool × Unit) := R 152 [] sg_s_l6One (u0, ())
def c_s_l5Add (R : Run) (u0 : List Int) (u1 : List Int) : Option (List Int × Unit) := R 153 [] sg_s_l5Add (u0, (u1, ()))
def c_s_l5Cmp (R : Run) (u0 : List Int) (u1 : List Int) : Option (Int × Unit) := R 154 [] sg_s_l5Cmp (u0, (u1, ()))
def c_s_l5Sub (R : Run) (u0 : List Int) (u1 : List Int) : Option (List Int × Unit) := R 155 [] sg_s_l5Sub (u0, (u1, ()))
def c_s_l8Round (R : Run) (u0 : Int) (u1 : Bool) (u2 : List Int) (u3 : List Int) (u4 : Bool) : Option (Int × Unit) := R 156 [] sg_s_l8Round (u0, (u1, (u2, (u3, (u4, ())))))
def c_s_l8Frac (R : Run) (u0 : Bool) (u1 : List Int) (u2 : List Int) : Option (Bool × (List Int × (List Int × Unit))) := R 157 [] sg_s_l8Frac (u0, (u1, (u2, ())))
def c_i_limit_sign (R : Run) (u0 : Int) (u1 : Bool) (u2 : List Int) (u3 : List Int) : Option (Int × Unit) := R 158 [] sg_i_limit_sign (u0, (u1, (u2, (u3, ()))))
def c_i_Frac_mul (R : Run) (u0 : Bool) (u1 : List Int) (u2 : List Int) (u3 : Bool) (u4 : List Int) (u5 : List Int) : Option (Bool × (List Int × (List Int × Unit))) := R 159 [] sg_i_Frac_mul (u0, (u1, (u2, (u3, (u4, (u5, ()))))))
def c_i_divAbove_1 (R : Run) (u0 : Int) (u1 : Bool) (u2 : List Int) (u3 : List Int) (u4 : Bool) (u5 : Int) (u6 : Int) (u7 : Int) : Option (Int × (Bool × (List Int × (List Int × (Bool × (Int × (Int × (Int × Unit)))))))) := R 160 [] sg_i_divAbove_1 (u0, (u1, (u2, (u3, (u4, (u5, (u6, (u7, ()))))))))
def c_i_limit_by (R : Run) (u0 : Int) (u1 : Bool) (u2 : List Int) (u3 : List Int) (u4 : Int) (u5 : Bool) (u6 : List Int) (u7 : List Int) : Option (Int × (Bool × (List Int × (List Int × Unit)))) := R 161 [] sg_i_limit_by (u0, (u1, (u2, (u3, (u4, (u5, (u6, (u7, ()))))))))
def c_s_l9Quot (R : Run) (u0 : Int) (u1 : Int) (u2 : Int) (u3 : Bool) : Option (Int × Unit) := R 162 [] sg_s_l9Quot (u0, (u1, (u2, (u3, ()))))
def c_s_PairMeet (R : Run) (u0 : Int) (u1 : Int) (u2 : Int) (u3 : Int) (u4 : Int) : Option (Int × (Int × (Bool × Unit))) := R 163 [] sg_s_PairMeet (u0, (u1, (u2, (u3, (u4, ())))))
def c_s_PairHas (R : Run) (u0 : Int) (u1 : Int) (u2 : Int) (u3 : Bool) (u4 : List Int) (u5 : List Int) : Option (Bool × Unit) := R 164 [] sg_s_PairHas (u0, (u1, (u2, (u3, (u4, (u5, ()))))))
def c_i_formatOf (R : Run) (u0 : Int) : Option (Int × (Int × (Int × (Int × (Bool × Unit))))) := R 169 [] sg_i_formatOf (u0, ())
def c_s_l31Rd_pair (R : Run) (u0 : List Int) (u1 : Int) (u2 : Int) : Option (Int × (Int × (List Int × (Int × Unit)))) := R 171 [] sg_s_l31Rd_pair (u0, (u1, (u2, ())))
def c_s_l31Rd_big (R : Run) (u0 : List Int) (u1 : Int) : Option (Int × (List Int × (Int × Unit))) := R 172 [] sg_s_l31Rd_big (u0, (u1, ()))
def c_i_Frac_pow (R : Run) (u0 : Bool) (u1 : List Int) (u2 : List Int) (u3 : Int) : Option (Bool × (List Int × (List Int × Unit))) := R 173 [] sg_i_Frac_pow (u0, (u1, (u2, (u3, ()))))
def c_i_root (R : Run) (u0 : Int) (u1 : Int) (u2 : Int) : Option (Int × (Bool × Unit)) := R 174 [] sg_i_root (u0, (u1, (u2, ())))
def c_i_PairOk (R : Run) (u0 : Int) (u1 : Int) (u2 : Int) : Option (Bool × Unit) := R 178 [] sg_i_PairOk (u0, (u1, (u2, ())))
def c_s_l5Times (R : Run) (u0 : List Int) (u1 : Int) : Option (List Int × Unit) := R 180 [] sg_s_l5Times (u0, (u1, ()))
def c_s_l9Infinite (R : Run) (u0 : Int) (u1 : Int) : Option (Bool × Unit) := R 182 [] sg_s_l9Infinite (u0, (u1, ()))
def c_s_l9Power (R : Run) (u0 : Bool) (u1 : List Int) (u2 : List Int) (u3 : Int) : Option (Bool × (List Int × (List Int × Unit))) := R 183 [] sg_s_l9Power (u0, (u1, (u2, (u3, ()))))
def c_i_PairHas (R : Run) (u0 : Int) (u1 : Int) (u2 : Int) (u3 : Bool) (u4 : List Int) (u5 : List Int) : Option (Bool × Unit) := R 184 [] sg_i_PairHas (u0, (u1, (u2, (u3, (u4, (u5, ()))))))
def c_s_l5Root (R : Run) (u0 : List Int) : Option (List Int × Unit) := R 185 [] sg_s_l5Root (u0, ())
def c_s_l5Shl (R : Run) (u0 : List Int) (u1 : Int) : Option (List Int × Unit) := R 186 [] sg_s_l5Shl (u0, (u1, ()))
def c_s_l5DivSmall (R : Run) (u0 : List Int) (u1 : Int) : Option (List Int × (Int × Unit)) := R 187 [] sg_s_l5DivSmall (u0, (u1, ()))
def c_s_l5Top (R : Run) (u0 : List Int) (u1 : Int) : Option (List Int × Unit) := R 188 [] sg_s_l5Top (u0, (u1, ()))
def c_s_l5At (R : Run) (u0 : List Int) (u1 : Int) : Option (Int × Unit) := R 189 [] sg_s_l5At (u0, (u1, ()))
def c_i_BitPartOf (R : Run) (u0 : Int) (u1 : Int) : Option (Bool × (Int × (Int × (Bool × Unit)))) := R 190 [] sg_i_BitPartOf (u0, (u1, ()))
def c_i_natOf (R : Run) (u0 : Int) : Option (List Int × Unit) := R 191 [] sg_i_natOf (u0, ())
def c_i_natShift (R : Run) (u0 : List Int) (u1 : Int) : Option (List Int × Unit) := R 192 [] sg_i_natShift (u0, (u1, ()))
def c_i_trim (R : Run) (u0 : List Int) : Option (List Int × Unit) := R 193 [] sg_i_trim (u0, ())
def c_i_natGcd (R : Run) (u0 : List Int) (u1 : List Int) : Option (List Int × Unit) := R 194 [] sg_i_natGcd (u0, (u1, ()))
def c_i_natDiv (R : Run) (u0 : List Int) (u1 : List Int) : Option (List Int × (List Int × Unit)) := R 195 [] sg_i_natDiv (u0, (u1, ()))
def c_slices_Clone_int_int (R : Run) (u0 : List Int) : Option (List Int × Unit) := R 196 [] sg_slices_Clone_int_int (u0, ())
def c_i_truncated (R : Run) (u0 : Int) (u1 : Bool) (u2 : List Int) (u3 : List Int) : Option (Int × (Bool × Unit)) := R 197 [] sg_i_truncated (u0, (u1, (u2, (u3, ()))))
def c_s_l8Size (R : Run) (u0 : Int) (u1 : Bool) (u2 : List Int) (u3 : List Int) : Option (Int × (Bool × Unit)) := R 198 [] sg_s_l8Size (u0, (u1, (u2, (u3, ()))))
def c_i_Frac_sign (R : Run) (u0 : Bool) (u1 : List Int) (u2 : List Int) : Option (Int × Unit) := R 199 [] sg_i_Frac_sign (u0, (u1, (u2, ())))
def c_i_Frac_div (R : Run) (u0 : Bool) (u1 : List Int) (u2 : List Int) (u3 : Bool) (u4 : List Int) (u5 : List Int) : Option (Bool × (List Int × (List Int × Unit))) := R 200 [] sg_i_Frac_div (u0, (u1, (u2, (u3, (u4, (u5, ()))))))
def c_s_l8Cmp (R : Run) (u0 : Bool) (u1 : List Int) (u2 : List Int) (u3 : Bool) (u4 : List Int) (u5 : List Int) : Option (Int × Unit) := R 201 [] sg_s_l8Cmp (u0, (u1, (u2, (u3, (u4, (u5, ()))))))
def c_i_natPow (R : Run) (u0 : List Int) (u1 : Int) : Option (List Int × Unit) := R 207 [] sg_i_natPow (u0, (u1, ()))
def c_i_powerAbove (R : Run) (u0 : Int) (u1 : Int) (u2 : Int) (u3 : Bool) (u4 : List Int) (u5 : List Int) : Option (Bool × Unit) := R 208 [] sg_i_powerAbove (u0, (u1, (u2, (u3, (u4, (u5, ()))))))
def c_i_Frac_cmp (R : Run) (u0 : Bool) (u1 : List Int) (u2 : List Int) (u3 : Bool) (u4 : List Int) (u5 : List Int) : Option (Int × Unit) := R 209 [] sg_i_Frac_cmp (u0, (u1, (u2, (u3, (u4, (u5, ()))))))
def c_i_FracOk (R : Run) (u0 : Bool) (u1 : List Int) (u2 : List Int) : Option (Bool × Unit) := R 212 [] sg_i_FracOk (u0, (u1, (u2, ())))
def c_s_l5Bits (R : Run) (u0 : List Int) : Option (Int × Unit) := R 213 [] sg_s_l5Bits (u0, ())
def c_math_bits_Len (R : Run) (u0 : Int) : Option (Int × Unit) := R 214 [] sg_math_bits_Len (u0, ())
def c_i_natBits (R : Run) (u0 : List Int) : Option (Int × Unit) := R 215 [] sg_i_natBits (u0, ())
def c_i_BitMake (R : Run) (u0 : Int) (u1 : Bool) (u2 : Int) (u3 : Int) : Option (Int × (Bool × Unit)) := R 216 [] sg_i_BitMake (u0, (u1, (u2, (u3, ()))))
def c_s_l8Scaled (R : Run) (u0 : Bool) (u1 : List Int) (u2 : List Int) (u3 : Int) : Option (List Int × (Bool × Unit)) := R 217 [] sg_s_l8Scaled (u0, (u1, (u2, (u3, ()))))
def c_s_NatSmall (R : Run) (u0 : List Int) : Option (Int × (Bool × Unit)) := R 218 [] sg_s_NatSmall (u0, ())
def c_i_nats (R : Run) (u0 : List (List Int)) : Option (Bool × Unit) := R 226 [] sg_i_nats (u0, ())
def c_math_bits_Len64 (R : Run) (u0 : Int) : Option (Int × Unit) := R 228 [] sg_math_bits_Len64 (u0, ())
def c_math_bits_TrailingZeros64 (R : Run) (u0 : Int) : Option (Int × Unit) := R 229 [] sg_math_bits_TrailingZeros64 (u0, ())
def c_slices_ContainsFunc_int_int_i_nats_1 (R : Run) (u0 : List (List Int)) : Option (Bool × Unit) := R 240 [241] sg_slices_ContainsFunc_int_int_i_nats_1 (u0, ())
def c_i_nats_1 (R : Run) (u0 : List Int) : Option (Bool × Unit) := R 241 [] sg_i_nats_1 (u0, ())
def c_i_NatOk (R : Run) (u0 : List Int) : Option (Bool × Unit) := R 242 [] sg_i_NatOk (u0, ())
def c_slices_IndexFunc_int_int_i_nats_1 (R : Run) (u0 : List (List Int)) : Option (Int × Unit) := R 255 [241] sg_slices_IndexFunc_int_int_i_nats_1 (u0, ())
def c_slices_ContainsFunc_int_int'_i_NatOk_1 (R : Run) (u0 : List Int) : Option (Bool × Unit) := R 256 [257] sg_slices_ContainsFunc_int_int'_i_NatOk_1 (u0, ())
def c_i_NatOk_1 (R : Run) (u0 : Int) : Option (Bool × Unit) := R 257 [] sg_i_NatOk_1 (u0, ())
def c_slices_IndexFunc_int_int'_i_NatOk_1 (R : Run) (u0 : List Int) : Option (Int × Unit) := R 269 [257] sg_slices_IndexFunc_int_int'_i_NatOk_1 (u0, ())

def p_w_FnBackTop (R : Run) (n : Nat) (u0 : List Int) (u1 : List Int) : Option (Bool × Unit) :=
  jb (P := (((Bool × (List Int × (List Int × (Bool × Unit))))) × Unit)) (
      bif (ilt 1048576 (len u0)) then
        some (.inr ((true, (u1, (u0, (false, ())))), ()))
      else
      some (.inr (((ilt 1048576 (len u1)), (u1, (u0, (false, ())))), ()))) fun ((t43, (more1, (code0, (t4, _)))), _) =>
  bif t43 then
    some (true, ())
  else
  (c_w_psTurn R more1).bind fun (r29_1, _) =>
  (c_s_Fine R code0).bind fun (r12_1, (r12b, (r12c, (r12d, (r12e, (r12f, (x, _))))))) =>
  (c_s_FineOf R r12_1 more1).bind fun (r13_1, (r13b, (r13c, (r13d, (r13e, (r13f, _)))))) =>
  (c_s_FineOf R r12_1 r29_1).bind fun (r13_2_1, (r13_2b, (r13_2c, (r13_2d, (r13_2e, (r13_2f, _)))))) =>
  jb (P := (((Int × (Unit × (Unit × (Unit × (Unit × (Unit × (List Int × (Bool × Unit))))))))) × (((Bool × (Int × (Int × Unit)))) × (((Bool × (Int × (Int × Unit)))) × (((Bool × (Int × (Int × Unit)))) × (((Bool × (List Int × (List Int × Unit)))) × (((Bool × (List Int × (List Int × Unit)))) × Unit))))))) (
      bif (ilt (irem .i64 (len r29_1) 7) 3) then
        jb (P := (((Int × (Int × (Unit × (List Int × (Unit × (Unit × (List Int × (Unit × (Unit × (Unit × (Bool × Unit)))))))))))) × (((Bool × (Int × (Int × Unit)))) × (((Bool × (Int × (Int × Unit)))) × (((Bool × (Int × (Int × Unit)))) × (((Bool × (Int × (Int × Unit)))) × (((Bool × (List Int × (List Int × Unit)))) × (((Bool × (List Int × (List Int × Unit)))) × Unit)))))))) (
            bif ((irem .i64 (len r29_1) 7) == 0) then
              (c_s_Within R r12_1 r12b r12c r12d r29_1).bind fun (r36_1, (r36b, (r36c, _))) =>
              (c_s_Within R r12_1 r13_1 r13b r13c r29_1).bind fun (r36_2_1, (r36_2b, (r36_2c, _))) =>
              (c_s_SpanMul R r12_1 r36_1 r36b r36c r36_2_1 r36_2b r36_2c).bind fun (r54_1, (r54b, (r54c, _))) =>
              some (.inr (((irem .i64 (len r29_1) 7), (r12_1, ((), (r29_1, ((), ((), (more1, ((), ((), ((), (t4, ()))))))))))), ((r12b, (r12c, (r12d, ()))), ((r13_1, (r13b, (r13c, ()))), ((r54_1, (r54b, (r54c, ()))), ((r13_2_1, (r13_2b, (r13_2c, ()))), ((r12e, (r12f, (x, ()))), ((r13d, (r13e, (r13f, ()))), ()))))))))
            else
            some (.inr (((irem .i64 (len r29_1) 7), (r12_1, ((), (r29_1, ((), ((), (more1, ((), ((), ((), (t4, ()))))))))))), ((r12b, (r12c, (r12d, ()))), ((r13_1, (r13b, (r13c, ()))), ((false, (0, (0, ()))), ((r13_2_1, (r13_2b, (r13_2c, ()))), ((r12e, (r12f, (x, ()))), ((r13d, (r13e, (r13f, ()))), ()))))))))) fun ((k13, (width6, (_, (third5, (_, (_, (more1_1, (_, (_, (_, (t4_1, _))))))))))), ((o0a, (o0b, (o0c, _))), ((o1a, (o1b, (o1c, _))), ((o2a, (o2b, (o2c, _))), ((o3a, (o3b, (o3c, _))), ((o4a, (o4b, (o4c, _))), ((o5a, (o5b, (o5c, _))), _))))))) =>
        jb (P := (((Int × (Int × (Unit × (List Int × (List Int × (Unit × (Unit × (Unit × (Unit × (Unit × (Bool × Unit)))))))))))) × (((Bool × (Int × (Int × Unit)))) × (((Bool × (Int × (Int × Unit)))) × (((Bool × (Int × (Int × Unit)))) × (((Bool × (Int × (Int × Unit)))) × (((Bool × (List Int × (List Int × Unit)))) × (((Bool × (List Int × (List Int × Unit)))) × Unit)))))))) (
            bif (k13 == 1) then
              (c_s_Within R width6 o0a o0b o0c third5).bind fun (r36_3_1, (r36_3b, (r36_3c, _))) =>
              (c_s_Within R width6 o1a o1b o1c third5).bind fun (r36_4_1, (r36_4b, (r36_4c, _))) =>
              (c_s_SpanDiv R width6 r36_3_1 r36_3b r36_3c r36_4_1 r36_4b r36_4c).bind fun (r55_1, (r55b, (r55c, _))) =>
              some (.inr ((k13, (width6, ((), (third5, (more1_1, ((), ((), ((), ((), ((), (t4_1, ()))))))))))), ((o0a, (o0b, (o0c, ()))), ((r55_1, (r55b, (r55c, ()))), ((o3a, (o3b, (o3c, ()))), ((o1a, (o1b, (o1c, ()))), ((o4a, (o4b, (o4c, ()))), ((o5a, (o5b, (o5c, ()))), ()))))))))
            else
            some (.inr ((k13, (width6, ((), (third5, (more1_1, ((), ((), ((), ((), ((), (t4_1, ()))))))))))), ((o0a, (o0b, (o0c, ()))), ((o2a, (o2b, (o2c, ()))), ((o3a, (o3b, (o3c, ()))), ((o1a, (o1b, (o1c, ()))), ((o4a, (o4b, (o4c, ()))), ((o5a, (o5b, (o5c, ()))), ()))))))))) fun ((k13_1, (width6_1, (_, (third5_1, (more1_2, (_, (_, (_, (_, (_, (t4_2, _))))))))))), ((o0a_1, (o0b_1, (o0c_1, _))), ((o1a_1, (o1b_1, (o1c_1, _))), ((o2a_1, (o2b_1, (o2c_1, _))), ((o3a_1, (o3b_1, (o3c_1, _))), ((o4a_1, (o4b_1, (o4c_1, _))), ((o5a_1, (o5b_1, (o5c_1, _))), _))))))) =>
        jb (P := (((Unit × (Unit × (Int × (Unit × (Unit × (Unit × (Unit × (List Int × (Bool × Unit)))))))))) × (((Bool × (Int × (Int × Unit)))) × (((Bool × (Int × (Int × Unit)))) × (((Bool × (Int × (Int × Unit)))) × (((Bool × (Int × (Int × Unit)))) × (((Bool × (List Int × (List Int × Unit)))) × (((Bool × (List Int × (List Int × Unit)))) × Unit)))))))) (
            bif (k13_1 == 2) then
              (c_s_Within R width6_1 o0a_1 o0b_1 o0c_1 third5_1).bind fun (r36_5_1, (r36_5b, (r36_5c, _))) =>
              (c_s_SpanPow R width6_1 r36_5_1 r36_5b r36_5c (iadd .i64 1 (irem .i64 (len more1_2) 4))).bind fun (r56_1, (r56b, (r56c, _))) =>
              some (.inr (((), ((), (width6_1, ((), ((), ((), ((), (more1_2, (t4_2, ()))))))))), ((r56_1, (r56b, (r56c, ()))), ((o2a_1, (o2b_1, (o2c_1, ()))), ((o3a_1, (o3b_1, (o3c_1, ()))), ((o0a_1, (o0b_1, (o0c_1, ()))), ((o4a_1, (o4b_1, (o4c_1, ()))), ((o5a_1, (o5b_1, (o5c_1, ()))), ()))))))))
            else
            some (.inr (((), ((), (width6_1, ((), ((), ((), ((), (more1_2, (t4_2, ()))))))))), ((o1a_1, (o1b_1, (o1c_1, ()))), ((o2a_1, (o2b_1, (o2c_1, ()))), ((o3a_1, (o3b_1, (o3c_1, ()))), ((o0a_1, (o0b_1, (o0c_1, ()))), ((o4a_1, (o4b_1, (o4c_1, ()))), ((o5a_1, (o5b_1, (o5c_1, ()))), ()))))))))) fun ((_, (_, (width6_2, (_, (_, (_, (_, (more1_3, (t4_3, _))))))))), ((o0a_2, (o0b_2, (o0c_2, _))), ((o1a_2, (o1b_2, (o1c_2, _))), ((o2a_2, (o2b_2, (o2c_2, _))), ((o3a_2, (o3b_2, (o3c_2, _))), ((o4a_2, (o4b_2, (o4c_2, _))), ((o5a_2, (o5b_2, (o5c_2, _))), _))))))) =>
        bif o0a_2 then
          some (.inr ((width6_2, ((), ((), ((), ((), ((), (more1_3, (t4_3, ())))))))), ((o0a_2, (o0b_2, (o0c_2, ()))), ((o2a_2, (o2b_2, (o2c_2, ()))), ((o3a_2, (o3b_2, (o3c_2, ()))), ((o4a_2, (o4b_2, (o4c_2, ()))), ((o5a_2, (o5b_2, (o5c_2, ()))), ())))))))
        else
        some (.inr ((width6_2, ((), ((), ((), ((), ((), (more1_3, (t4_3, ())))))))), ((o1a_2, (o1b_2, (o1c_2, ()))), ((o2a_2, (o2b_2, (o2c_2, ()))), ((o3a_2, (o3b_2, (o3c_2, ()))), ((o4a_2, (o4b_2, (o4c_2, ()))), ((o5a_2, (o5b_2, (o5c_2, ()))), ())))))))
      else
      some (.inr ((r12_1, ((), ((), ((), ((), ((), (more1, (t4, ())))))))), ((r13_2_1, (r13_2b, (r13_2c, ()))), ((r13_1, (r13b, (r13c, ()))), ((r12b, (r12c, (r12d, ()))), ((r12e, (r12f, (x, ()))), ((r13d, (r13e, (r13f, ()))), ())))))))) fun ((width6_3, (_, (_, (_, (_, (_, (more1_4, (t4_4, _)))))))), ((o0a_3, (o0b_3, (o0c_3, _))), ((o1a_3, (o1b_3, (o1c_3, _))), ((o2a_3, (o2b_3, (o2c_3, _))), ((o3a_3, (o3b_3, (o3c_3, _))), ((o4a_3, (o4b_3, (o4c_3, _))), _)))))) =>
  (c_i_BackMul R width6_3 o0a_3 o0b_3 o0c_3 o1a_3 o1b_3 o1c_3 o2a_3 o2b_3 o2c_3).bind fun (r32_1, (r32b, (r32c, _))) =>
  (c_w_psIs R r32_1 r32b r32c o2a_3 o2b_3 o2c_3).bind fun (r33_1, _) =>
  bif (!r33_1) then
    some (false, ())
  else
  (c_s_FracMul R o3a_3 o3b_3 o3c_3 o4a_3 o4b_3 o4c_3).bind fun (r21_1, (r21b, (r21c, (r21d, _)))) =>
  jb (P := (((Bool × (Int × (Unit × (Unit × (Unit × (Unit × (Unit × (List Int × (Bool × Unit)))))))))) × (((Bool × (Int × (Int × Unit)))) × (((Bool × (Int × (Int × Unit)))) × (((Bool × (Int × (Int × Unit)))) × (((Bool × (List Int × (List Int × Unit)))) × (((Bool × (List Int × (List Int × Unit)))) × Unit))))))) (
      bif r21d then
        (c_w_psIn R width6_3 o0a_3 o0b_3 o0c_3 r21_1 r21b r21c).bind fun (r28_1, _) =>
        bif r28_1 then
          (c_w_psIn R width6_3 r32_1 r32b r32c o3a_3 o3b_3 o3c_3).bind fun (r28_2_1, _) =>
          some (.inr (((!r28_2_1), (width6_3, ((), ((), ((), ((), ((), (more1_4, (t4_4, ()))))))))), ((o0a_3, (o0b_3, (o0c_3, ()))), ((o1a_3, (o1b_3, (o1c_3, ()))), ((o2a_3, (o2b_3, (o2c_3, ()))), ((o3a_3, (o3b_3, (o3c_3, ()))), ((o4a_3, (o4b_3, (o4c_3, ()))), ())))))))
        else
        some (.inr ((false, (width6_3, ((), ((), ((), ((), ((), (more1_4, (t4_4, ()))))))))), ((o0a_3, (o0b_3, (o0c_3, ()))), ((o1a_3, (o1b_3, (o1c_3, ()))), ((o2a_3, (o2b_3, (o2c_3, ()))), ((o3a_3, (o3b_3, (o3c_3, ()))), ((o4a_3, (o4b_3, (o4c_3, ()))), ())))))))
      else
      some (.inr ((false, (width6_3, ((), ((), ((), ((), ((), (more1_4, (t4_4, ()))))))))), ((o0a_3, (o0b_3, (o0c_3, ()))), ((o1a_3, (o1b_3, (o1c_3, ()))), ((o2a_3, (o2b_3, (o2c_3, ()))), ((o3a_3, (o3b_3, (o3c_3, ()))), ((o4a_3, (o4b_3, (o4c_3, ()))), ())))))))) fun ((t137, (width6_4, (_, (_, (_, (_, (_, (more1_5, (t4_5, _))))))))), ((o0a_4, (o0b_4, (o0c_4, _))), ((o1a_4, (o1b_4, (o1c_4, _))), ((o2a_4, (o2b_4, (o2c_4, _))), ((o3a_4, (o3b_4, (o3c_4, _))), ((o4a_4, (o4b_4, (o4c_4, _))), _)))))) =>
  bif t137 then
    some (false, ())
  else
  (c_i_BackTop R width6_4 o0a_4 o0b_4 o0c_4 o1a_4 o1b_4 o1c_4 o2a_4 o2b_4 o2c_4).bind fun (r57_1, (r57b, (r57c, _))) =>
  (c_i_BackBottom R width6_4 o0a_4 o0b_4 o0c_4 o2a_4 o2b_4 o2c_4 o1a_4 o1b_4 o1c_4).bind fun (r58_1, (r58b, (r58c, _))) =>
  jb (P := (((Bool × (Unit × (Unit × (Int × (Unit × (Unit × (Unit × (List Int × (Unit × (Unit × (Bool × Unit)))))))))))) × (((Bool × (List Int × (List Int × Unit)))) × (((Bool × (List Int × (List Int × Unit)))) × (((Bool × (Int × (Int × Unit)))) × (((Bool × (Int × (Int × Unit)))) × (((Bool × (Int × (Int × Unit)))) × (((Bool × (Int × (Int × Unit)))) × (((Bool × (Int × (Int × Unit)))) × Unit))))))))) (
      (c_w_psIs R r57_1 r57b r57c o2a_4 o2b_4 o2c_4).bind fun (r33_2_1, _) =>
      bif (!r33_2_1) then
        some (.inr ((true, ((), ((), (width6_4, ((), ((), ((), (more1_5, ((), ((), (t4_5, ()))))))))))), ((o3a_4, (o3b_4, (o3c_4, ()))), ((o4a_4, (o4b_4, (o4c_4, ()))), ((o0a_4, (o0b_4, (o0c_4, ()))), ((r57_1, (r57b, (r57c, ()))), ((r58_1, (r58b, (r58c, ()))), ((o2a_4, (o2b_4, (o2c_4, ()))), ((o1a_4, (o1b_4, (o1c_4, ()))), ())))))))))
      else
      (c_w_psIs R r58_1 r58b r58c o1a_4 o1b_4 o1c_4).bind fun (r33_3_1, _) =>
      some (.inr (((!r33_3_1), ((), ((), (width6_4, ((), ((), ((), (more1_5, ((), ((), (t4_5, ()))))))))))), ((o3a_4, (o3b_4, (o3c_4, ()))), ((o4a_4, (o4b_4, (o4c_4, ()))), ((o0a_4, (o0b_4, (o0c_4, ()))), ((r57_1, (r57b, (r57c, ()))), ((r58_1, (r58b, (r58c, ()))), ((o2a_4, (o2b_4, (o2c_4, ()))), ((o1a_4, (o1b_4, (o1c_4, ()))), ())))))))))) fun ((t157, (_, (_, (width6_5, (_, (_, (_, (more1_6, (_, (_, (t4_6, _))))))))))), ((o0a_5, (o0b_5, (o0c_5, _))), ((o1a_5, (o1b_5, (o1c_5, _))), ((o2a_5, (o2b_5, (o2c_5, _))), ((o3a_5, (o3b_5, (o3c_5, _))), ((o4a_5, (o4b_5, (o4c_5, _))), ((o5a_3, (o5b_3, (o5c_3, _))), ((o6a, (o6b, (o6c, _))), _)))))))) =>
  bif t157 then
    some (false, ())
  else
  (c_s_FracDiv R o0a_5 o0b_5 o0c_5 o1a_5 o1b_5 o1c_5).bind fun (r44_1, (r44b, (r44c, (r44d, _)))) =>
  jb (P := (((Bool × (List Int × (Int × (Unit × (Unit × (Unit × (Unit × (Unit × (Bool × Unit)))))))))) × (((Bool × (Int × (Int × Unit)))) × (((Bool × (Int × (Int × Unit)))) × (((Bool × (List Int × (List Int × Unit)))) × (((Bool × (List Int × (List Int × Unit)))) × (((Bool × (Int × (Int × Unit)))) × Unit))))))) (
      bif r44d then
        (c_w_psIn R width6_5 o2a_5 o2b_5 o2c_5 r44_1 r44b r44c).bind fun (r28_3_1, _) =>
        bif r28_3_1 then
          (c_w_psIn R width6_5 o3a_5 o3b_5 o3c_5 o0a_5 o0b_5 o0c_5).bind fun (r28_4_1, _) =>
          bif (!r28_4_1) then
            some (.inr ((true, (more1_6, (width6_5, ((), ((), ((), ((), ((), (t4_6, ()))))))))), ((o2a_5, (o2b_5, (o2c_5, ()))), ((o5a_3, (o5b_3, (o5c_3, ()))), ((o0a_5, (o0b_5, (o0c_5, ()))), ((o1a_5, (o1b_5, (o1c_5, ()))), ((o6a, (o6b, (o6c, ()))), ())))))))
          else
          (c_w_psIn R width6_5 o4a_5 o4b_5 o4c_5 o1a_5 o1b_5 o1c_5).bind fun (r28_5_1, _) =>
          some (.inr (((!r28_5_1), (more1_6, (width6_5, ((), ((), ((), ((), ((), (t4_6, ()))))))))), ((o2a_5, (o2b_5, (o2c_5, ()))), ((o5a_3, (o5b_3, (o5c_3, ()))), ((o0a_5, (o0b_5, (o0c_5, ()))), ((o1a_5, (o1b_5, (o1c_5, ()))), ((o6a, (o6b, (o6c, ()))), ())))))))
        else
        some (.inr ((false, (more1_6, (width6_5, ((), ((), ((), ((), ((), (t4_6, ()))))))))), ((o2a_5, (o2b_5, (o2c_5, ()))), ((o5a_3, (o5b_3, (o5c_3, ()))), ((o0a_5, (o0b_5, (o0c_5, ()))), ((o1a_5, (o1b_5, (o1c_5, ()))), ((o6a, (o6b, (o6c, ()))), ())))))))
      else
      some (.inr ((false, (more1_6, (width6_5, ((), ((), ((), ((), ((), (t4_6, ()))))))))), ((o2a_5, (o2b_5, (o2c_5, ()))), ((o5a_3, (o5b_3, (o5c_3, ()))), ((o0a_5, (o0b_5, (o0c_5, ()))), ((o1a_5, (o1b_5, (o1c_5, ()))), ((o6a, (o6b, (o6c, ()))), ())))))))) fun ((t184, (more1_7, (width6_6, (_, (_, (_, (_, (_, (t4_7, _))))))))), ((o0a_6, (o0b_6, (o0c_6, _))), ((o1a_6, (o1b_6, (o1c_6, _))), ((o2a_6, (o2b_6, (o2c_6, _))), ((o3a_6, (o3b_6, (o3c_6, _))), ((o4a_6, (o4b_6, (o4c_6, _))), _)))))) =>
  bif t184 then
    some (false, ())
  else
  (c_i_BackPow R width6_6 o0a_6 o0b_6 o0c_6 (irem .i64 (len more1_7) 5) o1a_6 o1b_6 o1c_6).bind fun (r59_1, (r59b, (r59c, _))) =>
  (c_w_psIs R r59_1 r59b r59c o1a_6 o1b_6 o1c_6).bind fun (r33_4_1, _) =>
  bif (!r33_4_1) then
    some (false, ())
  else
  (c_s_FracPow R o2a_6 o2b_6 o2c_6 (irem .i64 (len more1_7) 5)).bind fun (r45_1, (r45b, (r45c, (r45d, _)))) =>
  jb (P := (((Bool × (Int × (Unit × (Unit × (Unit × (Unit × (Unit × (Bool × Unit))))))))) × (((Bool × (Int × (Int × Unit)))) × (((Bool × (Int × (Int × Unit)))) × (((Bool × (List Int × (List Int × Unit)))) × (((Bool × (List Int × (List Int × Unit)))) × (((Bool × (Int × (Int × Unit)))) × Unit))))))) (
      bif r45d then
        (c_w_psIn R width6_6 o0a_6 o0b_6 o0c_6 r45_1 r45b r45c).bind fun (r28_6_1, _) =>
        bif r28_6_1 then
          (c_w_psIn R width6_6 r59_1 r59b r59c o2a_6 o2b_6 o2c_6).bind fun (r28_7_1, _) =>
          some (.inr (((!r28_7_1), (width6_6, ((), ((), ((), ((), ((), (t4_7, ())))))))), ((o0a_6, (o0b_6, (o0c_6, ()))), ((o1a_6, (o1b_6, (o1c_6, ()))), ((o2a_6, (o2b_6, (o2c_6, ()))), ((o3a_6, (o3b_6, (o3c_6, ()))), ((o4a_6, (o4b_6, (o4c_6, ()))), ())))))))
        else
        some (.inr ((false, (width6_6, ((), ((), ((), ((), ((), (t4_7, ())))))))), ((o0a_6, (o0b_6, (o0c_6, ()))), ((o1a_6, (o1b_6, (o1c_6, ()))), ((o2a_6, (o2b_6, (o2c_6, ()))), ((o3a_6, (o3b_6, (o3c_6, ()))), ((o4a_6, (o4b_6, (o4c_6, ()))), ())))))))
      else
      some (.inr ((false, (width6_6, ((), ((), ((), ((), ((), (t4_7, ())))))))), ((o0a_6, (o0b_6, (o0c_6, ()))), ((o1a_6, (o1b_6, (o1c_6, ()))), ((o2a_6, (o2b_6, (o2c_6, ()))), ((o3a_6, (o3b_6, (o3c_6, ()))), ((o4a_6, (o4b_6, (o4c_6, ()))), ())))))))) fun ((t216, (width6_7, (_, (_, (_, (_, (_, (t4_8, _)))))))), ((o0a_7, (o0b_7, (o0c_7, _))), ((o1a_7, (o1b_7, (o1c_7, _))), ((o2a_7, (o2b_7, (o2c_7, _))), ((o3a_7, (o3b_7, (o3c_7, _))), ((o4a_7, (o4b_7, (o4c_7, _))), _)))))) =>
  bif t216 then
    some (false, ())
  else
  (c_i_BackRoot R width6_7 o0a_7 o0b_7 o0c_7 o1a_7 o1b_7 o1c_7).bind fun (r60_1, (r60b, (r60c, _))) =>
  (c_i_BackAbs R width6_7 o0a_7 o0b_7 o0c_7 o1a_7 o1b_7 o1c_7).bind fun (r61_1, (r61b, (r61c, _))) =>
  jb (P := (((Bool × (Unit × (Int × (Unit × (Unit × (Unit × (Unit × (Unit × (Unit × (Bool × Unit))))))))))) × (((Bool × (List Int × (List Int × Unit)))) × (((Bool × (Int × (Int × Unit)))) × (((Bool × (Int × (Int × Unit)))) × (((Bool × (Int × (Int × Unit)))) × (((Bool × (List Int × (List Int × Unit)))) × (((Bool × (Int × (Int × Unit)))) × (((Bool × (Int × (Int × Unit)))) × Unit))))))))) (
      (c_w_psIs R r60_1 r60b r60c o1a_7 o1b_7 o1c_7).bind fun (r33_5_1, _) =>
      bif (!r33_5_1) then
        some (.inr ((true, ((), (width6_7, ((), ((), ((), ((), ((), ((), (t4_8, ())))))))))), ((o2a_7, (o2b_7, (o2c_7, ()))), ((o0a_7, (o0b_7, (o0c_7, ()))), ((r60_1, (r60b, (r60c, ()))), ((r61_1, (r61b, (r61c, ()))), ((o3a_7, (o3b_7, (o3c_7, ()))), ((o4a_7, (o4b_7, (o4c_7, ()))), ((o1a_7, (o1b_7, (o1c_7, ()))), ())))))))))
      else
      (c_w_psIs R r61_1 r61b r61c o1a_7 o1b_7 o1c_7).bind fun (r33_6_1, _) =>
      some (.inr (((!r33_6_1), ((), (width6_7, ((), ((), ((), ((), ((), ((), (t4_8, ())))))))))), ((o2a_7, (o2b_7, (o2c_7, ()))), ((o0a_7, (o0b_7, (o0c_7, ()))), ((r60_1, (r60b, (r60c, ()))), ((r61_1, (r61b, (r61c, ()))), ((o3a_7, (o3b_7, (o3c_7, ()))), ((o4a_7, (o4b_7, (o4c_7, ()))), ((o1a_7, (o1b_7, (o1c_7, ()))), ())))))))))) fun ((t234, (_, (width6_8, (_, (_, (_, (_, (_, (_, (t4_9, _)))))))))), ((o0a_8, (o0b_8, (o0c_8, _))), ((o1a_8, (o1b_8, (o1c_8, _))), ((o2a_8, (o2b_8, (o2c_8, _))), ((o3a_8, (o3b_8, (o3c_8, _))), ((o4a_8, (o4b_8, (o4c_8, _))), ((o5a_4, (o5b_4, (o5c_4, _))), ((o6a_1, (o6b_1, (o6c_1, _))), _)))))))) =>
  bif t234 then
    some (false, ())
  else
  (c_s_FracRoot R o0a_8 o0b_8 o0c_8).bind fun (r62_1, (r62b, (r62c, (r62d, _)))) =>
  jb (P := (((Bool × (Unit × (Int × (Unit × (Unit × (Unit × (Unit × (Unit × (Bool × Unit)))))))))) × (((Bool × (List Int × (List Int × Unit)))) × (((Bool × (Int × (Int × Unit)))) × (((Bool × (Int × (Int × Unit)))) × (((Bool × (List Int × (List Int × Unit)))) × (((Bool × (Int × (Int × Unit)))) × (((Bool × (Int × (Int × Unit)))) × Unit)))))))) (
      bif r62d then
        (c_w_psIn R width6_8 o1a_8 o1b_8 o1c_8 r62_1 r62b r62c).bind fun (r28_8_1, _) =>
        bif r28_8_1 then
          (c_w_psIn R width6_8 o2a_8 o2b_8 o2c_8 o0a_8 o0b_8 o0c_8).bind fun (r28_9_1, _) =>
          some (.inr (((!r28_9_1), ((), (width6_8, ((), ((), ((), ((), ((), (t4_9, ()))))))))), ((o0a_8, (o0b_8, (o0c_8, ()))), ((o1a_8, (o1b_8, (o1c_8, ()))), ((o3a_8, (o3b_8, (o3c_8, ()))), ((o4a_8, (o4b_8, (o4c_8, ()))), ((o5a_4, (o5b_4, (o5c_4, ()))), ((o6a_1, (o6b_1, (o6c_1, ()))), ()))))))))
        else
        some (.inr ((false, ((), (width6_8, ((), ((), ((), ((), ((), (t4_9, ()))))))))), ((o0a_8, (o0b_8, (o0c_8, ()))), ((o1a_8, (o1b_8, (o1c_8, ()))), ((o3a_8, (o3b_8, (o3c_8, ()))), ((o4a_8, (o4b_8, (o4c_8, ()))), ((o5a_4, (o5b_4, (o5c_4, ()))), ((o6a_1, (o6b_1, (o6c_1, ()))), ()))))))))
      else
      some (.inr ((false, ((), (width6_8, ((), ((), ((), ((), ((), (t4_9, ()))))))))), ((o0a_8, (o0b_8, (o0c_8, ()))), ((o1a_8, (o1b_8, (o1c_8, ()))), ((o3a_8, (o3b_8, (o3c_8, ()))), ((o4a_8, (o4b_8, (o4c_8, ()))), ((o5a_4, (o5b_4, (o5c_4, ()))), ((o6a_1, (o6b_1, (o6c_1, ()))), ()))))))))) fun ((t253, (_, (width6_9, (_, (_, (_, (_, (_, (t4_10, _))))))))), ((o0a_9, (o0b_9, (o0c_9, _))), ((o1a_9, (o1b_9, (o1c_9, _))), ((o2a_9, (o2b_9, (o2c_9, _))), ((o3a_9, (o3b_9, (o3c_9, _))), ((o4a_9, (o4b_9, (o4c_9, _))), ((o5a_5, (o5b_5, (o5c_5, _))), _))))))) =>
  bif t253 then
    some (false, ())
  else
  (c_s_FracAbs R o0a_9 o0b_9 o0c_9).bind fun (r46_1, (r46b, (r46c, (r46d, _)))) =>
  jb (P := (((Bool × (Unit × (Unit × (Int × (Unit × (Unit × (Unit × (Bool × Unit))))))))) × (((Bool × (List Int × (List Int × Unit)))) × (((Bool × (List Int × (List Int × Unit)))) × (((Bool × (Int × (Int × Unit)))) × (((Bool × (Int × (Int × Unit)))) × (((Bool × (Int × (Int × Unit)))) × Unit))))))) (
      bif r46d then
        (c_w_psIn R width6_9 o1a_9 o1b_9 o1c_9 r46_1 r46b r46c).bind fun (r28_10_1, _) =>
        bif r28_10_1 then
          (c_w_psIn R width6_9 o2a_9 o2b_9 o2c_9 o0a_9 o0b_9 o0c_9).bind fun (r28_11_1, _) =>
          some (.inr (((!r28_11_1), ((), ((), (width6_9, ((), ((), ((), (t4_10, ())))))))), ((o0a_9, (o0b_9, (o0c_9, ()))), ((o3a_9, (o3b_9, (o3c_9, ()))), ((o1a_9, (o1b_9, (o1c_9, ()))), ((o4a_9, (o4b_9, (o4c_9, ()))), ((o5a_5, (o5b_5, (o5c_5, ()))), ())))))))
        else
        some (.inr ((false, ((), ((), (width6_9, ((), ((), ((), (t4_10, ())))))))), ((o0a_9, (o0b_9, (o0c_9, ()))), ((o3a_9, (o3b_9, (o3c_9, ()))), ((o1a_9, (o1b_9, (o1c_9, ()))), ((o4a_9, (o4b_9, (o4c_9, ()))), ((o5a_5, (o5b_5, (o5c_5, ()))), ())))))))
      else
      some (.inr ((false, ((), ((), (width6_9, ((), ((), ((), (t4_10, ())))))))), ((o0a_9, (o0b_9, (o0c_9, ()))), ((o3a_9, (o3b_9, (o3c_9, ()))), ((o1a_9, (o1b_9, (o1c_9, ()))), ((o4a_9, (o4b_9, (o4c_9, ()))), ((o5a_5, (o5b_5, (o5c_5, ()))), ())))))))) fun ((t272, (_, (_, (width6_10, (_, (_, (_, (t4_11, _)))))))), ((o0a_10, (o0b_10, (o0c_10, _))), ((o1a_10, (o1b_10, (o1c_10, _))), ((o2a_10, (o2b_10, (o2c_10, _))), ((o3a_10, (o3b_10, (o3c_10, _))), ((o4a_10, (o4b_10, (o4c_10, _))), _)))))) =>
  bif t272 then
    some (false, ())
  else
  jb (P := (((Int × (Unit × (Unit × (Unit × (Unit × (Unit × (Unit × (Bool × Unit))))))))) × (((Bool × (Int × (Int × Unit)))) × (((Bool × (Int × (Int × Unit)))) × (((Bool × (Int × (Int × Unit)))) × (((Bool × (List Int × (List Int × Unit)))) × (((Bool × (List Int × (List Int × Unit)))) × (((Bool × (List Int × (List Int × Unit)))) × Unit)))))))) (
      (c_s_FracCmp R o0a_10 o0b_10 o0c_10 o1a_10 o1b_10 o1c_10).bind fun (r22_1, _) =>
      bif (r22_1 == 1) then
        some (.inr ((width6_10, ((), ((), ((), ((), ((), ((), (t4_11, ())))))))), ((o2a_10, (o2b_10, (o2c_10, ()))), ((o3a_10, (o3b_10, (o3c_10, ()))), ((o4a_10, (o4b_10, (o4c_10, ()))), ((o1a_10, (o1b_10, (o1c_10, ()))), ((o0a_10, (o0b_10, (o0c_10, ()))), ((o0a_10, (o0b_10, (o0c_10, ()))), ()))))))))
      else
      some (.inr ((width6_10, ((), ((), ((), ((), ((), ((), (t4_11, ())))))))), ((o2a_10, (o2b_10, (o2c_10, ()))), ((o3a_10, (o3b_10, (o3c_10, ()))), ((o4a_10, (o4b_10, (o4c_10, ()))), ((o0a_10, (o0b_10, (o0c_10, ()))), ((o0a_10, (o0b_10, (o0c_10, ()))), ((o1a_10, (o1b_10, (o1c_10, ()))), ()))))))))) fun ((width6_11, (_, (_, (_, (_, (_, (_, (t4_12, _)))))))), ((o0a_11, (o0b_11, (o0c_11, _))), ((o1a_11, (o1b_11, (o1c_11, _))), ((o2a_11, (o2b_11, (o2c_11, _))), ((o3a_11, (o3b_11, (o3c_11, _))), ((o4a_11, (o4b_11, (o4c_11, _))), ((o5a_6, (o5b_6, (o5c_6, _))), _))))))) =>
  (c_i_BackMin R width6_11 o0a_11 o0b_11 o0c_11 o1a_11 o1b_11 o1c_11 o2a_11 o2b_11 o2c_11).bind fun (r63_1, (r63b, (r63c, _))) =>
  (c_i_BackMax R width6_11 o0a_11 o0b_11 o0c_11 o1a_11 o1b_11 o1c_11 o2a_11 o2b_11 o2c_11).bind fun (r64_1, (r64b, (r64c, _))) =>
  jb (P := (((Bool × (Int × (Unit × (Unit × (Unit × (Unit × (Unit × (Unit × (Bool × Unit)))))))))) × (((Bool × (Int × (Int × Unit)))) × (((Bool × (List Int × (List Int × Unit)))) × (((Bool × (Int × (Int × Unit)))) × (((Bool × (List Int × (List Int × Unit)))) × (((Bool × (List Int × (List Int × Unit)))) × (((Bool × (Int × (Int × Unit)))) × Unit)))))))) (
      (c_w_psIs R r63_1 r63b r63c o2a_11 o2b_11 o2c_11).bind fun (r33_7_1, _) =>
      bif (!r33_7_1) then
        some (.inr ((true, (width6_11, ((), ((), ((), ((), ((), ((), (t4_12, ()))))))))), ((o0a_11, (o0b_11, (o0c_11, ()))), ((o3a_11, (o3b_11, (o3c_11, ()))), ((r63_1, (r63b, (r63c, ()))), ((o4a_11, (o4b_11, (o4c_11, ()))), ((o5a_6, (o5b_6, (o5c_6, ()))), ((r64_1, (r64b, (r64c, ()))), ()))))))))
      else
      (c_w_psIs R r64_1 r64b r64c o2a_11 o2b_11 o2c_11).bind fun (r33_8_1, _) =>
      some (.inr (((!r33_8_1), (width6_11, ((), ((), ((), ((), ((), ((), (t4_12, ()))))))))), ((o0a_11, (o0b_11, (o0c_11, ()))), ((o3a_11, (o3b_11, (o3c_11, ()))), ((r63_1, (r63b, (r63c, ()))), ((o4a_11, (o4b_11, (o4c_11, ()))), ((o5a_6, (o5b_6, (o5c_6, ()))), ((r64_1, (r64b, (r64c, ()))), ()))))))))) fun ((t300, (width6_12, (_, (_, (_, (_, (_, (_, (t4_13, _))))))))), ((o0a_12, (o0b_12, (o0c_12, _))), ((o1a_12, (o1b_12, (o1c_12, _))), ((o2a_12, (o2b_12, (o2c_12, _))), ((o3a_12, (o3b_12, (o3c_12, _))), ((o4a_12, (o4b_12, (o4c_12, _))), ((o5a_7, (o5b_7, (o5c_7, _))), _))))))) =>
  bif t300 then
    some (false, ())
  else
  jb (P := (((Bool × Unit)) × Unit)) (
      (c_w_psIn R width6_12 o0a_12 o0b_12 o0c_12 o1a_12 o1b_12 o1c_12).bind fun (r28_12_1, _) =>
      bif (!r28_12_1) then
        (c_w_psIn R width6_12 o0a_12 o0b_12 o0c_12 o4a_12 o4b_12 o4c_12).bind fun (r28_13_1, _) =>
        bif (!r28_13_1) then
          some (.inr ((true, ()), ()))
        else
        (c_w_psIn R width6_12 o5a_7 o5b_7 o5c_7 o3a_12 o3b_12 o3c_12).bind fun (r28_14_1, _) =>
        some (.inr ((r28_14_1, ()), ()))
      else
      (c_w_psIn R width6_12 o2a_12 o2b_12 o2c_12 o3a_12 o3b_12 o3c_12).bind fun (r28_15_1, _) =>
      bif r28_15_1 then
        (c_w_psIn R width6_12 o0a_12 o0b_12 o0c_12 o4a_12 o4b_12 o4c_12).bind fun (r28_16_1, _) =>
        bif (!r28_16_1) then
          some (.inr ((true, ()), ()))
        else
        (c_w_psIn R width6_12 o5a_7 o5b_7 o5c_7 o3a_12 o3b_12 o3c_12).bind fun (r28_17_1, _) =>
        some (.inr ((r28_17_1, ()), ()))
      else
      some (.inr ((false, ()), ()))) fun ((t4_14, _), _) =>
  some (t4_14, ())
def p_s_Fine (R : Run) (n : Nat) (u0 : List Int) : Option (Int × (Bool × (Int × (Int × (Bool × (List Int × (List Int × Unit))))))) :=
  (c_s_l31Open R u0).bind fun (r13_1, (r13b, _)) =>
  (c_s_l31Rd_real R r13_1 r13b).bind fun (r14_1, (r14b, (r14c, _))) =>
  (c_s_l31Rd_fine R r14b r14c r14_1).bind fun (r15_1, (r15b, (r15c, (r15d, (r15e, _))))) =>
  (c_s_l31Rd_inside R r15d r15e r14_1 r15_1 r15b r15c).bind fun (r16_1, (r16b, (r16c, (r16d, (r16e, _))))) =>
  some (r14_1, (r15_1, (r15b, (r15c, (r16_1, (r16b, (r16c, ())))))))
def p_s_FineOf (R : Run) (n : Nat) (u0 : Int) (u1 : List Int) : Option (Bool × (Int × (Int × (Bool × (List Int × (List Int × Unit)))))) :=
  (c_s_l31Open R u1).bind fun (r13_1, (r13b, _)) =>
  (c_s_l31Rd_fine R r13_1 r13b u0).bind fun (r15_1, (r15b, (r15c, (r15d, (r15e, _))))) =>
  (c_s_l31Rd_inside R r15d r15e u0 r15_1 r15b r15c).bind fun (r16_1, (r16b, (r16c, (r16d, (r16e, _))))) =>
  some (r15_1, (r15b, (r15c, (r16_1, (r16b, (r16c, ()))))))
def p_s_FloatFrac (R : Run) (n : Nat) (u0 : Int) (u1 : Int) : Option (Bool × (List Int × (List Int × (Bool × Unit)))) :=
  (c_s_BitPartOf R u0 u1).bind fun (r64_1, (r64b, (r64c, (r64d, _)))) =>
  bif (!r64d) then
    some (false, ([], ([], (false, ()))))
  else
  (c_s_l8Of R u0 u1).bind fun (r65_1, (r65b, (r65c, _))) =>
  (c_s_l6Make R r65_1 r65b r65c).bind fun (r66_1, (r66b, (r66c, (r66d, _)))) =>
  some (r66_1, (r66b, (r66c, (r66d, ()))))
def p_s_FracAdd (R : Run) (n : Nat) (u0 : Bool) (u1 : List Int) (u2 : List Int) (u3 : Bool) (u4 : List Int) (u5 : List Int) : Option (Bool × (List Int × (List Int × (Bool × Unit)))) :=
  jb (P := (((Bool × (Unit × (Unit × (Unit × (Bool × Unit)))))) × (((Bool × (Unit × (Unit × Unit)))) × (((Bool × (List Int × (List Int × Unit)))) × (((Bool × (List Int × (List Int × Unit)))) × Unit))))) (
      (c_s_FracOk R u0 u1 u2).bind fun (r56_1, _) =>
      bif (!r56_1) then
        some (.inr ((true, ((), ((), ((), (false, ()))))), ((false, ((), ((), ()))), ((u0, (u1, (u2, ()))), ((u3, (u4, (u5, ()))), ())))))
      else
      (c_s_FracOk R u3 u4 u5).bind fun (r56_2_1, _) =>
      some (.inr (((!r56_2_1), ((), ((), ((), (false, ()))))), ((false, ((), ((), ()))), ((u0, (u1, (u2, ()))), ((u3, (u4, (u5, ()))), ())))))) fun ((t16, (_, (_, (_, (t5, _))))), ((o0, (_, (_, _))), ((o1a, (o1b, (o1c, _))), ((o2a, (o2b, (o2c, _))), _)))) =>
  bif t16 then
    some (false, ([], ([], (false, ()))))
  else
  (c_s_l6Sum R o1a o1b o1c o2a o2b o2c).bind fun (r57_1, (r57b, (r57c, _))) =>
  (c_s_l6Make R r57_1 r57b r57c).bind fun (r66_1, (r66b, (r66c, (r66d, _)))) =>
  some (r66_1, (r66b, (r66c, (r66d, ()))))
def p_s_FracSub (R : Run) (n : Nat) (u0 : Bool) (u1 : List Int) (u2 : List Int) (u3 : Bool) (u4 : List Int) (u5 : List Int) : Option (Bool × (List Int × (List Int × (Bool × Unit)))) :=
  jb (P := (((Bool × (Unit × (Unit × (Unit × (Bool × Unit)))))) × (((Bool × (Unit × (Unit × Unit)))) × (((Bool × (List Int × (List Int × Unit)))) × (((Bool × (List Int × (List Int × Unit)))) × Unit))))) (
      (c_s_FracOk R u0 u1 u2).bind fun (r56_1, _) =>
      bif (!r56_1) then
        some (.inr ((true, ((), ((), ((), (false, ()))))), ((false, ((), ((), ()))), ((u0, (u1, (u2, ()))), ((u3, (u4, (u5, ()))), ())))))
      else
      (c_s_FracOk R u3 u4 u5).bind fun (r56_2_1, _) =>
      some (.inr (((!r56_2_1), ((), ((), ((), (false, ()))))), ((false, ((), ((), ()))), ((u0, (u1, (u2, ()))), ((u3, (u4, (u5, ()))), ())))))) fun ((t13, (_, (_, (_, (t5, _))))), ((o0, (_, (_, _))), ((o1a, (o1b, (o1c, _))), ((o2a, (o2b, (o2c, _))), _)))) =>
  bif t13 then
    some (false, ([], ([], (false, ()))))
  else
  (c_s_l6Neg R o2a o2b o2c).bind fun (r58_1, (r58b, (r58c, _))) =>
  (c_s_FracAdd R o1a o1b o1c r58_1 r58b r58c).bind fun (r45_1, (r45b, (r45c, (r45d, _)))) =>
  some (r45_1, (r45b, (r45c, (r45d, ()))))
def p_i_SpanMul (R : Run) (n : Nat) (u0 : Int) (u1 : Bool) (u2 : Int) (u3 : Int) (u4 : Bool) (u5 : Int) (u6 : Int) : Option (Bool × (Int × (Int × Unit))) :=
  (c_i_full R u0 [(u1, (u2, (u3, ()))), (u4, (u5, (u6, ())))]).bind fun (r72_1, _) =>
  bif (!r72_1) then
    some (false, (0, (0, ())))
  else
  iter (P := (((Int × (Int × (Unit × (Unit × (Int × (Unit × (Unit × Unit)))))))) × (List Int × (((Bool × (Int × (Int × Unit)))) × (((Bool × (Int × (Int × Unit)))) × (((Bool × (Int × (Int × Unit)))) × Unit)))))) (fun rec ((t28, (t27, (_, (_, (width0, (_, (_, _))))))), (o0, ((o1a, (o1b, (o1c, _))), ((o2a, (o2b, (o2c, _))), ((o3a, (o3b, (o3c, _))), _))))) =>
      bif (ilt t28 t27) then
        ok (inB t28 (len o0)) <|
        iter (P := (((Int × (Int × (Unit × (Int × (Int × (Unit × (Int × (Int × (Unit × (Unit × (Unit × Unit)))))))))))) × (List Int × (((Bool × (Int × (Int × Unit)))) × (List Int × (((Bool × (Int × (Int × Unit)))) × (((Bool × (Int × (Int × Unit)))) × Unit))))))) (fun rec_1 ((t38, (t37, (_, (width0_1, (x9, (_, (t28_1, (t27_1, (_, (_, (_, _))))))))))), (o0_1, ((o1a_1, (o1b_1, (o1c_1, _))), (o2, ((o3a_1, (o3b_1, (o3c_1, _))), ((o4a, (o4b, (o4c, _))), _)))))) =>
            bif (ilt t38 t37) then
              ok (inB t38 (len o0_1)) <|
              (c_i_limitOf R width0_1 x9).bind fun (r74_1, (r74b, (r74c, (r74d, _)))) =>
              (c_i_limitOf R width0_1 (List.getD o0_1 (Int.toNat t38) 0)).bind fun (r74_2_1, (r74_2b, (r74_2c, (r74_2d, _)))) =>
              (c_i_limit_times R r74_1 r74b r74c r74d r74_2_1 r74_2b r74_2c r74_2d).bind fun (r83_1, (r83b, (r83c, (r83d, _)))) =>
              (c_i_limit_floats R r83_1 r83b r83c r83d width0_1).bind fun (r76_1, (r76b, _)) =>
              jb (P := (((Unit × (Int × (Int × (Int × (Int × (Unit × (Int × (Int × (Int × (Int × (Unit × (Unit × (Unit × Unit)))))))))))))) × (((Bool × (Int × (Int × Unit)))) × (List Int × (List Int × (((Bool × (Int × (Int × Unit)))) × (((Bool × (Int × (Int × Unit)))) × Unit))))))) (
                  bif (!o1a_1) then
                    (c_i_some R r76_1 r76b).bind fun (r77_1, (r77b, (r77c, _))) =>
                    some (.inr (((), (r76_1, (r76b, (t38, (t37, ((), (width0_1, (x9, (t28_1, (t27_1, ((), ((), ((), ()))))))))))))), ((r77_1, (r77b, (r77c, ()))), (o0_1, (o2, ((o3a_1, (o3b_1, (o3c_1, ()))), ((o4a, (o4b, (o4c, ()))), ())))))))
                  else
                  some (.inr (((), (r76_1, (r76b, (t38, (t37, ((), (width0_1, (x9, (t28_1, (t27_1, ((), ((), ((), ()))))))))))))), ((o1a_1, (o1b_1, (o1c_1, ()))), (o0_1, (o2, ((o3a_1, (o3b_1, (o3c_1, ()))), ((o4a, (o4b, (o4c, ()))), ())))))))) fun ((_, (lo12, (hi13, (t38_1, (t37_1, (_, (width0_2, (x9_1, (t28_2, (t27_2, (_, (_, (_, _))))))))))))), ((o0a, (o0b, (o0c, _))), (o1, (o2_1, ((o3a_2, (o3b_2, (o3c_2, _))), ((o4a_1, (o4b_1, (o4c_1, _))), _)))))) =>
              (c_i_some R (imin o0b lo12) (imax o0c hi13)).bind fun (r77_2_1, (r77_2b, (r77_2c, _))) =>
              rec_1 (((iadd .i64 t38_1 1), (t37_1, ((), (width0_2, (x9_1, ((), (t28_2, (t27_2, ((), ((), ((), ()))))))))))), (o1, ((r77_2_1, (r77_2b, (r77_2c, ()))), (o2_1, ((o3a_2, (o3b_2, (o3c_2, ()))), ((o4a_1, (o4b_1, (o4c_1, ()))), ()))))))
            else
            rec (((iadd .i64 t28_1 1), (t27_1, ((), ((), (width0_1, ((), ((), ()))))))), (o2, ((o3a_1, (o3b_1, (o3c_1, ()))), ((o1a_1, (o1b_1, (o1c_1, ()))), ((o4a, (o4b, (o4c, ()))), ())))))) n ((0, ((len [o1b, o1c]), ((), (width0, ((List.getD o0 (Int.toNat t28) 0), ((), (t28, (t27, ((), ((), ((), ()))))))))))), ([o1b, o1c], ((o2a, (o2b, (o2c, ()))), (o0, ((o1a, (o1b, (o1c, ()))), ((o3a, (o3b, (o3c, ()))), ()))))))
      else
      some (o2a, (o2b, (o2c, ())))) n ((0, ((len [u2, u3]), ((), ((), (u0, ((), ((), ()))))))), ([u2, u3], ((u4, (u5, (u6, ()))), ((false, (0, (0, ()))), ((false, (0, (0, ()))), ())))))
def p_s_FracMul (R : Run) (n : Nat) (u0 : Bool) (u1 : List Int) (u2 : List Int) (u3 : Bool) (u4 : List Int) (u5 : List Int) : Option (Bool × (List Int × (List Int × (Bool × Unit)))) :=
  jb (P := (((Bool × (Unit × (Unit × (Unit × (Bool × Unit)))))) × (((Bool × (Unit × (Unit × Unit)))) × (((Bool × (List Int × (List Int × Unit)))) × (((Bool × (List Int × (List Int × Unit)))) × Unit))))) (
      (c_s_FracOk R u0 u1 u2).bind fun (r56_1, _) =>
      bif (!r56_1) then
        some (.inr ((true, ((), ((), ((), (false, ()))))), ((false, ((), ((), ()))), ((u0, (u1, (u2, ()))), ((u3, (u4, (u5, ()))), ())))))
      else
      (c_s_FracOk R u3 u4 u5).bind fun (r56_2_1, _) =>
      some (.inr (((!r56_2_1), ((), ((), ((), (false, ()))))), ((false, ((), ((), ()))), ((u0, (u1, (u2, ()))), ((u3, (u4, (u5, ()))), ())))))) fun ((t13, (_, (_, (_, (t5, _))))), ((o0, (_, (_, _))), ((o1a, (o1b, (o1c, _))), ((o2a, (o2b, (o2c, _))), _)))) =>
  bif t13 then
    some (false, ([], ([], (false, ()))))
  else
  (c_s_l5Mul R o1b o2b).bind fun (r69_1, _) =>
  (c_s_l5Mul R o1c o2c).bind fun (r69_2_1, _) =>
  (c_s_l6Make R (!(beqB o1a o2a)) r69_1 r69_2_1).bind fun (r66_1, (r66b, (r66c, (r66d, _)))) =>
  some (r66_1, (r66b, (r66c, (r66d, ()))))
def p_s_FracCmp (R : Run) (n : Nat) (u0 : Bool) (u1 : List Int) (u2 : List Int) (u3 : Bool) (u4 : List Int) (u5 : List Int) : Option (Int × Unit) :=
  jb (P := (((Bool × (Unit × (Unit × (Int × Unit))))) × (((Bool × (List Int × (List Int × Unit)))) × (((Bool × (List Int × (List Int × Unit)))) × Unit)))) (
      (c_s_FracOk R u0 u1 u2).bind fun (r56_1, _) =>
      bif (!r56_1) then
        some (.inr ((true, ((), ((), (0, ())))), ((u0, (u1, (u2, ()))), ((u3, (u4, (u5, ()))), ()))))
      else
      (c_s_FracOk R u3 u4 u5).bind fun (r56_2_1, _) =>
      some (.inr (((!r56_2_1), ((), ((), (0, ())))), ((u0, (u1, (u2, ()))), ((u3, (u4, (u5, ()))), ()))))) fun ((t15, (_, (_, (t4, _)))), ((o0a, (o0b, (o0c, _))), ((o1a, (o1b, (o1c, _))), _))) =>
  bif t15 then
    some (2, ())
  else
  (c_s_l6Neg R o1a o1b o1c).bind fun (r58_1, (r58b, (r58c, _))) =>
  (c_s_l6Sum R o0a o0b o0c r58_1 r58b r58c).bind fun (r57_1, (r57b, (r57c, _))) =>
  bif ((len r57b) == 0) then
    some (0, ())
  else
  bif r57_1 then
    some ((-1), ())
  else
  some (1, ())
def p_i_SpanDivTwo (R : Run) (n : Nat) (u0 : Int) (u1 : Bool) (u2 : Int) (u3 : Int) (u4 : Bool) (u5 : Int) (u6 : Int) : Option (Bool × (Int × (Int × (Bool × (Int × (Int × Unit)))))) :=
  (c_i_full R u0 [(u1, (u2, (u3, ()))), (u4, (u5, (u6, ())))]).bind fun (r72_1, _) =>
  bif (!r72_1) then
    some (false, (0, (0, (false, (0, (0, ()))))))
  else
  (c_i_divAbove R u0 u1 u2 u3 u4 u5 u6).bind fun (r85_1, (r85b, (r85c, _))) =>
  (c_i_SpanNeg R u0 u1 u2 u3).bind fun (r48_1, (r48b, (r48c, _))) =>
  (c_i_SpanNeg R u0 u4 u5 u6).bind fun (r48_2_1, (r48_2b, (r48_2c, _))) =>
  (c_i_divAbove R u0 r48_1 r48b r48c r48_2_1 r48_2b r48_2c).bind fun (r85_2_1, (r85_2b, (r85_2c, _))) =>
  jb (P := (((Bool × (Unit × (Unit × (Unit × (Unit × (Int × Unit))))))) × (((Bool × (Int × (Int × Unit)))) × (((Bool × (Int × (Int × Unit)))) × (((Bool × (Int × (Int × Unit)))) × (((Bool × (Int × (Int × Unit)))) × Unit)))))) (
      bif r85_1 then
        bif r85_2_1 then
          some (.inr (((ilt r85c r85_2b), ((), ((), ((), ((), (u0, ())))))), ((r85_1, (r85b, (r85c, ()))), ((r85_2_1, (r85_2b, (r85_2c, ()))), ((false, (0, (0, ()))), ((false, (0, (0, ()))), ()))))))
        else
        some (.inr ((false, ((), ((), ((), ((), (u0, ())))))), ((r85_1, (r85b, (r85c, ()))), ((r85_2_1, (r85_2b, (r85_2c, ()))), ((false, (0, (0, ()))), ((false, (0, (0, ()))), ()))))))
      else
      some (.inr ((false, ((), ((), ((), ((), (u0, ())))))), ((r85_1, (r85b, (r85c, ()))), ((r85_2_1, (r85_2b, (r85_2c, ()))), ((false, (0, (0, ()))), ((false, (0, (0, ()))), ()))))))) fun ((t30, (_, (_, (_, (_, (width0, _)))))), ((o0a, (o0b, (o0c, _))), ((o1a, (o1b, (o1c, _))), ((o2a, (o2b, (o2c, _))), ((o3a, (o3b, (o3c, _))), _))))) =>
  bif t30 then
    some (o0a, (o0b, (o0c, (o1a, (o1b, (o1c, ()))))))
  else
  jb (P := (((Bool × (Unit × (Unit × (Unit × (Unit × (Int × Unit))))))) × (((Bool × (Int × (Int × Unit)))) × (((Bool × (Int × (Int × Unit)))) × (((Bool × (Int × (Int × Unit)))) × (((Bool × (Int × (Int × Unit)))) × Unit)))))) (
      bif o0a then
        bif o1a then
          some (.inr (((ilt o1c o0b), ((), ((), ((), ((), (width0, ())))))), ((o1a, (o1b, (o1c, ()))), ((o0a, (o0b, (o0c, ()))), ((o2a, (o2b, (o2c, ()))), ((o3a, (o3b, (o3c, ()))), ()))))))
        else
        some (.inr ((false, ((), ((), ((), ((), (width0, ())))))), ((o1a, (o1b, (o1c, ()))), ((o0a, (o0b, (o0c, ()))), ((o2a, (o2b, (o2c, ()))), ((o3a, (o3b, (o3c, ()))), ()))))))
      else
      some (.inr ((false, ((), ((), ((), ((), (width0, ())))))), ((o1a, (o1b, (o1c, ()))), ((o0a, (o0b, (o0c, ()))), ((o2a, (o2b, (o2c, ()))), ((o3a, (o3b, (o3c, ()))), ()))))))) fun ((t46, (_, (_, (_, (_, (width0_1, _)))))), ((o0a_1, (o0b_1, (o0c_1, _))), ((o1a_1, (o1b_1, (o1c_1, _))), ((o2a_1, (o2b_1, (o2c_1, _))), ((o3a_1, (o3b_1, (o3c_1, _))), _))))) =>
  bif t46 then
    some (o0a_1, (o0b_1, (o0c_1, (o1a_1, (o1b_1, (o1c_1, ()))))))
  else
  (c_i_SpanHull R width0_1 o1a_1 o1b_1 o1c_1 o0a_1 o0b_1 o0c_1).bind fun (r49_1, (r49b, (r49c, _))) =>
  some (r49_1, (r49b, (r49c, (false, (0, (0, ()))))))
def p_s_SpanDivTwo (R : Run) (n : Nat) (u0 : Int) (u1 : Bool) (u2 : Int) (u3 : Int) (u4 : Bool) (u5 : Int) (u6 : Int) : Option (Bool × (Int × (Int × (Bool × (Int × (Int × Unit)))))) :=
  (c_s_l9Both R u0 u1 u2 u3 u4 u5 u6).bind fun (r86_1, _) =>
  bif (!r86_1) then
    some (false, (0, (0, (false, (0, (0, ()))))))
  else
  (c_s_l9Part R u0 u1 u2 u3 u4 u5 u6).bind fun (r87_1, (r87b, (r87c, _))) =>
  (c_s_SpanNeg R u0 u4 u5 u6).bind fun (r88_1, (r88b, (r88c, _))) =>
  (c_s_l9Part R u0 u1 u2 u3 r88_1 r88b r88c).bind fun (r87_2_1, (r87_2b, (r87_2c, _))) =>
  (c_s_SpanNeg R u0 r87_2_1 r87_2b r87_2c).bind fun (r88_2_1, (r88_2b, (r88_2c, _))) =>
  bif (!r87_1) then
    some (r88_2_1, (r88_2b, (r88_2c, (false, (0, (0, ()))))))
  else
  bif (!r88_2_1) then
    some (r87_1, (r87b, (r87c, (false, (0, (0, ()))))))
  else
  jb (P := (((Bool × (Int × (Unit × (Unit × (Unit × (Unit × Unit))))))) × (((Bool × (Int × (Int × Unit)))) × (((Bool × (Int × (Int × Unit)))) × (((Bool × (Int × (Int × Unit)))) × (((Bool × (Int × (Int × Unit)))) × Unit)))))) (
      (c_s_l9Both R u0 r87_1 r87b r87c r88_2_1 r88_2b r88_2c).bind fun (r86_2_1, _) =>
      bif r86_2_1 then
        (c_s_SpanMeet R u0 r87_1 r87b r87c r88_2_1 r88_2b r88_2c).bind fun (r89_1, (r89b, (r89c, _))) =>
        some (.inr ((r89_1, (u0, ((), ((), ((), ((), ())))))), ((r87_1, (r87b, (r87c, ()))), ((r88_2_1, (r88_2b, (r88_2c, ()))), ((false, (0, (0, ()))), ((false, (0, (0, ()))), ()))))))
      else
      some (.inr ((false, (u0, ((), ((), ((), ((), ())))))), ((r87_1, (r87b, (r87c, ()))), ((r88_2_1, (r88_2b, (r88_2c, ()))), ((false, (0, (0, ()))), ((false, (0, (0, ()))), ()))))))) fun ((t49, (width0, (_, (_, (_, (_, _)))))), ((o0a, (o0b, (o0c, _))), ((o1a, (o1b, (o1c, _))), ((o2a, (o2b, (o2c, _))), ((o3a, (o3b, (o3c, _))), _))))) =>
  bif t49 then
    (c_s_SpanHull R width0 o0a o0b o0c o1a o1b o1c).bind fun (r26_1, (r26b, (r26c, _))) =>
    some (r26_1, (r26b, (r26c, (false, (0, (0, ()))))))
  else
  bif (ilt o0b o1b) then
    some (o0a, (o0b, (o0c, (o1a, (o1b, (o1c, ()))))))
  else
  some (o1a, (o1b, (o1c, (o0a, (o0b, (o0c, ()))))))
def p_s_SpanHull (R : Run) (n : Nat) (u0 : Int) (u1 : Bool) (u2 : Int) (u3 : Int) (u4 : Bool) (u5 : Int) (u6 : Int) : Option (Bool × (Int × (Int × Unit))) :=
  jb (P := (((Bool × (Unit × (Unit × (Unit × Unit))))) × (((Bool × (Int × (Int × Unit)))) × (((Bool × (Int × (Int × Unit)))) × (((Bool × (Int × (Int × Unit)))) × Unit))))) (
      (c_s_SpanOk R u0 u1 u2 u3).bind fun (r90_1, _) =>
      bif (!r90_1) then
        some (.inr ((true, ((), ((), ((), ())))), ((false, (0, (0, ()))), ((u1, (u2, (u3, ()))), ((u4, (u5, (u6, ()))), ())))))
      else
      (c_s_SpanOk R u0 u4 u5 u6).bind fun (r90_2_1, _) =>
      some (.inr (((!r90_2_1), ((), ((), ((), ())))), ((false, (0, (0, ()))), ((u1, (u2, (u3, ()))), ((u4, (u5, (u6, ()))), ())))))) fun ((t16, (_, (_, (_, _)))), ((o0a, (o0b, (o0c, _))), ((o1a, (o1b, (o1c, _))), ((o2a, (o2b, (o2c, _))), _)))) =>
  bif t16 then
    some (false, (0, (0, ())))
  else
  bif (!o1a) then
    some (o2a, (o2b, (o2c, ())))
  else
  bif (!o2a) then
    some (o1a, (o1b, (o1c, ())))
  else
  (c_s_l3Min R o1b o2b).bind fun (r92_1, _) =>
  (c_s_l3Max R o1c o2c).bind fun (r93_1, _) =>
  (c_s_l9Of R r92_1 r93_1).bind fun (r91_1, (r91b, (r91c, _))) =>
  some (r91_1, (r91b, (r91c, ())))
def p_w_psIn (R : Run) (n : Nat) (u0 : Int) (u1 : Bool) (u2 : Int) (u3 : Int) (u4 : Bool) (u5 : List Int) (u6 : List Int) : Option (Bool × Unit) :=
  (c_s_SpanHas R u0 u1 u2 u3 u4 u5 u6).bind fun (r30_1, _) =>
  some (r30_1, ())
def p_w_psTurn (R : Run) (n : Nat) (u0 : List Int) : Option (List Int × Unit) :=
  iter (P := (((Int × (Unit × (List Int × (Unit × Unit))))) × (List Int × Unit))) (fun rec ((i4, (_, (b0, (_, _)))), (o0, _)) =>
      jb (P := (((Bool × (Unit × (List Int × (Int × (Unit × Unit)))))) × (List Int × Unit))) (
          bif (ile 0 i4) then
            some (.inr (((ilt (len o0) 2000), ((), (b0, (i4, ((), ()))))), (o0, ())))
          else
          some (.inr ((false, ((), (b0, (i4, ((), ()))))), (o0, ())))) fun ((t14, (_, (b0_1, (i4_1, (_, _))))), (o0_1, _)) =>
      bif t14 then
        ok (inB i4_1 (len b0_1)) <|
        ok (aok (o0_1 ++ [(List.getD b0_1 (Int.toNat i4_1) 0)]) 1) <|
        rec (((isub .i64 i4_1 1), ((), (b0_1, ((), ())))), ((o0_1 ++ [(List.getD b0_1 (Int.toNat i4_1) 0)]), ()))
      else
      some (o0_1, ())) n (((isub .i64 (len u0) 1), ((), (u0, ((), ())))), ([], ()))
def p_i_BackMul (R : Run) (n : Nat) (u0 : Int) (u1 : Bool) (u2 : Int) (u3 : Int) (u4 : Bool) (u5 : Int) (u6 : Int) (u7 : Bool) (u8 : Int) (u9 : Int) : Option (Bool × (Int × (Int × Unit))) :=
  (c_i_full R u0 [(u1, (u2, (u3, ()))), (u4, (u5, (u6, ()))), (u7, (u8, (u9, ())))]).bind fun (r72_1, _) =>
  bif (!r72_1) then
    some (false, (0, (0, ())))
  else
  jb (P := (((Bool × (Unit × (Unit × (Int × (Unit × (Unit × Unit))))))) × (((Bool × (Int × (Int × Unit)))) × (((Bool × (Int × (Int × Unit)))) × (((Bool × (Int × (Int × Unit)))) × (((Bool × (Int × (Int × Unit)))) × Unit)))))) (
      (c_i_Span_zero R u1 u2 u3).bind fun (r95_1, _) =>
      bif r95_1 then
        (c_i_Span_zero R u4 u5 u6).bind fun (r95_2_1, _) =>
        some (.inr ((r95_2_1, ((), ((), (u0, ((), ((), ())))))), ((u7, (u8, (u9, ()))), ((false, (0, (0, ()))), ((u1, (u2, (u3, ()))), ((u4, (u5, (u6, ()))), ()))))))
      else
      some (.inr ((false, ((), ((), (u0, ((), ((), ())))))), ((u7, (u8, (u9, ()))), ((false, (0, (0, ()))), ((u1, (u2, (u3, ()))), ((u4, (u5, (u6, ()))), ()))))))) fun ((t20, (_, (_, (width0, (_, (_, _)))))), ((o0a, (o0b, (o0c, _))), ((o1a, (o1b, (o1c, _))), ((o2a, (o2b, (o2c, _))), ((o3a, (o3b, (o3c, _))), _))))) =>
  bif t20 then
    some (o0a, (o0b, (o0c, ())))
  else
  (c_i_backParts R width0 o2a o2b o2c o3a o3b o3c o0a o0b o0c).bind fun (r96_1, (r96b, (r96c, (r96d, (r96e, (r96f, _)))))) =>
  (c_i_SpanHull R width0 r96_1 r96b r96c r96d r96e r96f).bind fun (r49_1, (r49b, (r49c, _))) =>
  some (r49_1, (r49b, (r49c, ())))
def p_w_psIs (R : Run) (n : Nat) (u0 : Bool) (u1 : Int) (u2 : Int) (u3 : Bool) (u4 : Int) (u5 : Int) : Option (Bool × Unit) :=
  jb (P := (((Bool × Unit)) × Unit)) (
      bif (!u0) then
        some (.inr ((true, ()), ()))
      else
      bif u3 then
        bif (ile u4 u1) then
          some (.inr (((ile u2 u5), ()), ()))
        else
        some (.inr ((false, ()), ()))
      else
      some (.inr ((false, ()), ()))) fun ((t4, _), _) =>
  some (t4, ())
def p_s_Within (R : Run) (n : Nat) (u0 : Int) (u1 : Bool) (u2 : Int) (u3 : Int) (u4 : List Int) : Option (Bool × (Int × (Int × Unit))) :=
  (c_s_l31Open R u4).bind fun (r65_1, (r65b, _)) =>
  (c_s_l9Pair R u1 u2 u3).bind fun (r104_1, (r104b, _)) =>
  (c_s_l31Rd_within R r65_1 r65b u0 r104_1 r104b).bind fun (r103_1, (r103b, (r103c, (r103d, _)))) =>
  jb (P := (((Bool × (Unit × (Unit × (Unit × Unit))))) × (((Bool × (Int × (Int × Unit)))) × (((Bool × (Int × (Int × Unit)))) × (((Int × (Int × Unit))) × Unit))))) (
      (c_s_PairOk R u0 r103_1 r103b).bind fun (r105_1, _) =>
      bif (!r105_1) then
        some (.inr ((true, ((), ((), ((), ())))), ((u1, (u2, (u3, ()))), ((false, (0, (0, ()))), ((r103_1, (r103b, ())), ())))))
      else
      (c_s_l9Pair R u1 u2 u3).bind fun (r104_2_1, (r104_2b, _)) =>
      (c_s_PairIs R r103_1 r103b r104_2_1 r104_2b).bind fun (r106_1, _) =>
      some (.inr (((!r106_1), ((), ((), ((), ())))), ((u1, (u2, (u3, ()))), ((false, (0, (0, ()))), ((r103_1, (r103b, ())), ())))))) fun ((t26, (_, (_, (_, _)))), ((o0a, (o0b, (o0c, _))), ((o1a, (o1b, (o1c, _))), ((o2a, (o2b, _)), _)))) =>
  bif t26 then
    some (o0a, (o0b, (o0c, ())))
  else
  (c_s_l9Of R o2a o2b).bind fun (r91_1, (r91b, (r91c, _))) =>
  some (r91_1, (r91b, (r91c, ())))
def p_i_SpanPow (R : Run) (n : Nat) (u0 : Int) (u1 : Bool) (u2 : Int) (u3 : Int) (u4 : Int) : Option (Bool × (Int × (Int × Unit))) :=
  jb (P := (((Bool × (Unit × (Int × (Int × (Unit × Unit)))))) × (((Bool × (Int × (Int × Unit)))) × (((Bool × (Int × (Int × Unit)))) × Unit)))) (
      (c_i_full R u0 [(u1, (u2, (u3, ())))]).bind fun (r72_1, _) =>
      bif (!r72_1) then
        some (.inr ((true, ((), (u4, (u0, ((), ()))))), ((false, (0, (0, ()))), ((u1, (u2, (u3, ()))), ()))))
      else
      (c_i_in R u4 0 8).bind fun (r107_1, _) =>
      some (.inr (((!r107_1), ((), (u4, (u0, ((), ()))))), ((false, (0, (0, ()))), ((u1, (u2, (u3, ()))), ()))))) fun ((t20, (_, (n2, (width0, (_, _))))), ((o0a, (o0b, (o0c, _))), ((o1a, (o1b, (o1c, _))), _))) =>
  bif t20 then
    some (false, (0, (0, ())))
  else
  jb (P := (((Int × (Unit × (Int × (Unit × Unit))))) × (((Bool × (Int × (Int × Unit)))) × (((Bool × (Int × (Int × Unit)))) × Unit)))) (
      bif ((irem .i64 n2 2) == 0) then
        (c_i_SpanAbs R width0 o1a o1b o1c).bind fun (r39_1, (r39b, (r39c, _))) =>
        some (.inr ((width0, ((), (n2, ((), ())))), ((r39_1, (r39b, (r39c, ()))), ((o0a, (o0b, (o0c, ()))), ()))))
      else
      some (.inr ((width0, ((), (n2, ((), ())))), ((o1a, (o1b, (o1c, ()))), ((o0a, (o0b, (o0c, ()))), ()))))) fun ((width0_1, (_, (n2_1, (_, _)))), ((o0a_1, (o0b_1, (o0c_1, _))), ((o1a_1, (o1b_1, (o1c_1, _))), _))) =>
  (c_i_power R width0_1 o0b_1 n2_1).bind fun (r108_1, (r108b, _)) =>
  (c_i_power R width0_1 o0c_1 n2_1).bind fun (r108_2_1, (r108_2b, _)) =>
  (c_i_some R r108_1 r108_2b).bind fun (r77_1, (r77b, (r77c, _))) =>
  some (r77_1, (r77b, (r77c, ())))
def p_i_SpanAbs (R : Run) (n : Nat) (u0 : Int) (u1 : Bool) (u2 : Int) (u3 : Int) : Option (Bool × (Int × (Int × Unit))) :=
  (c_i_full R u0 [(u1, (u2, (u3, ())))]).bind fun (r72_1, _) =>
  bif (!r72_1) then
    some (false, (0, (0, ())))
  else
  (c_i_size R u2).bind fun (r113_1, _) =>
  (c_i_size R u3).bind fun (r113_2_1, _) =>
  (c_i_some R (imax (imax 0 u2) (ineg .i64 u3)) (imax r113_1 r113_2_1)).bind fun (r77_1, (r77b, (r77c, _))) =>
  some (r77_1, (r77b, (r77c, ())))
def p_s_FracDiv (R : Run) (n : Nat) (u0 : Bool) (u1 : List Int) (u2 : List Int) (u3 : Bool) (u4 : List Int) (u5 : List Int) : Option (Bool × (List Int × (List Int × (Bool × Unit)))) :=
  jb (P := (((Bool × (Unit × (Unit × (Unit × (Bool × Unit)))))) × (((Bool × (Unit × (Unit × Unit)))) × (((Bool × (List Int × (List Int × Unit)))) × (((Bool × (List Int × (List Int × Unit)))) × Unit))))) (
      (c_s_FracOk R u0 u1 u2).bind fun (r78_1, _) =>
      bif (!r78_1) then
        some (.inr ((true, ((), ((), ((), (false, ()))))), ((false, ((), ((), ()))), ((u0, (u1, (u2, ()))), ((u3, (u4, (u5, ()))), ())))))
      else
      (c_s_FracOk R u3 u4 u5).bind fun (r78_2_1, _) =>
      bif (!r78_2_1) then
        some (.inr ((true, ((), ((), ((), (false, ()))))), ((false, ((), ((), ()))), ((u0, (u1, (u2, ()))), ((u3, (u4, (u5, ()))), ())))))
      else
      some (.inr ((((len u4) == 0), ((), ((), ((), (false, ()))))), ((false, ((), ((), ()))), ((u0, (u1, (u2, ()))), ((u3, (u4, (u5, ()))), ())))))) fun ((t19, (_, (_, (_, (t5, _))))), ((o0, (_, (_, _))), ((o1a, (o1b, (o1c, _))), ((o2a, (o2b, (o2c, _))), _)))) =>
  bif t19 then
    some (false, ([], ([], (false, ()))))
  else
  (c_s_l5Mul R o1b o2c).bind fun (r84_1, _) =>
  (c_s_l5Mul R o1c o2b).bind fun (r84_2_1, _) =>
  (c_s_l6Make R (!(beqB o1a o2a)) r84_1 r84_2_1).bind fun (r71_1, (r71b, (r71c, (r71d, _)))) =>
  some (r71_1, (r71b, (r71c, (r71d, ()))))
def p_s_FracPow (R : Run) (n : Nat) (u0 : Bool) (u1 : List Int) (u2 : List Int) (u3 : Int) : Option (Bool × (List Int × (List Int × (Bool × Unit)))) :=
  jb (P := (((Bool × (Unit × (Unit × (Int × (Bool × Unit)))))) × (((Bool × (Unit × (Unit × Unit)))) × (((Bool × (List Int × (List Int × Unit)))) × Unit)))) (
      (c_s_FracOk R u0 u1 u2).bind fun (r78_1, _) =>
      bif (!r78_1) then
        some (.inr ((true, ((), ((), (u3, (false, ()))))), ((false, ((), ((), ()))), ((u0, (u1, (u2, ()))), ()))))
      else
      bif (ilt u3 0) then
        some (.inr ((true, ((), ((), (u3, (false, ()))))), ((false, ((), ((), ()))), ((u0, (u1, (u2, ()))), ()))))
      else
      some (.inr (((ilt 64 u3), ((), ((), (u3, (false, ()))))), ((false, ((), ((), ()))), ((u0, (u1, (u2, ()))), ()))))) fun ((t20, (_, (_, (n1, (t5, _))))), ((o0, (_, (_, _))), ((o1a, (o1b, (o1c, _))), _))) =>
  bif t20 then
    some (false, ([], ([], (false, ()))))
  else
  (c_s_NatPow R o1b n1).bind fun (r116_1, (r116b, _)) =>
  (c_s_NatPow R o1c n1).bind fun (r116_2_1, (r116_2b, _)) =>
  jb (P := (((Bool × (Unit × (Unit × (Int × (List Int × (List Int × (Bool × Unit)))))))) × (((Bool × (Unit × (Unit × Unit)))) × (((Bool × (List Int × (List Int × Unit)))) × Unit)))) (
      bif (!r116b) then
        some (.inr ((true, ((), ((), (n1, (r116_1, (r116_2_1, (t5, ()))))))), ((o0, ((), ((), ()))), ((o1a, (o1b, (o1c, ()))), ()))))
      else
      some (.inr (((!r116_2b), ((), ((), (n1, (r116_1, (r116_2_1, (t5, ()))))))), ((o0, ((), ((), ()))), ((o1a, (o1b, (o1c, ()))), ()))))) fun ((t41, (_, (_, (n1_1, (top6, (bottom8, (t5_1, _))))))), ((o0_1, (_, (_, _))), ((o1a_1, (o1b_1, (o1c_1, _))), _))) =>
  bif t41 then
    some (false, ([], ([], (false, ()))))
  else
  jb (P := (((Unit × (Bool × Unit))) × (((Bool × (List Int × (List Int × Unit)))) × Unit))) (
      bif o1a_1 then
        some (.inr (((), (true, ())), ((((irem .i64 n1_1 2) == 1), (top6, (bottom8, ()))), ())))
      else
      some (.inr (((), (true, ())), ((false, (top6, (bottom8, ()))), ())))) fun ((_, (t5_2, _)), ((o0a, (o0b, (o0c, _))), _)) =>
  some (o0a, (o0b, (o0c, (t5_2, ()))))
def p_s_FracAbs (R : Run) (n : Nat) (u0 : Bool) (u1 : List Int) (u2 : List Int) : Option (Bool × (List Int × (List Int × (Bool × Unit)))) :=
  (c_s_FracOk R u0 u1 u2).bind fun (r78_1, _) =>
  bif (!r78_1) then
    some (false, ([], ([], (false, ()))))
  else
  (c_s_l5Trim R u1).bind fun (r117_1, _) =>
  (c_s_l5Trim R u2).bind fun (r117_2_1, _) =>
  some (false, (r117_1, (r117_2_1, (true, ()))))
def p_i_SpanNeg (R : Run) (n : Nat) (u0 : Int) (u1 : Bool) (u2 : Int) (u3 : Int) : Option (Bool × (Int × (Int × Unit))) :=
  (c_i_full R u0 [(u1, (u2, (u3, ())))]).bind fun (r72_1, _) =>
  bif (!r72_1) then
    some (false, (0, (0, ())))
  else
  (c_i_some R (ineg .i64 u3) (ineg .i64 u2)).bind fun (r77_1, (r77b, (r77c, _))) =>
  some (r77_1, (r77b, (r77c, ())))
def p_i_SpanHull (R : Run) (n : Nat) (u0 : Int) (u1 : Bool) (u2 : Int) (u3 : Int) (u4 : Bool) (u5 : Int) (u6 : Int) : Option (Bool × (Int × (Int × Unit))) :=
  jb (P := (((Bool × (Unit × (Unit × (Unit × Unit))))) × (((Bool × (Int × (Int × Unit)))) × (((Bool × (Int × (Int × Unit)))) × (((Bool × (Int × (Int × Unit)))) × Unit))))) (
      (c_i_SpanOk R u0 u1 u2 u3).bind fun (r118_1, _) =>
      bif (!r118_1) then
        some (.inr ((true, ((), ((), ((), ())))), ((false, (0, (0, ()))), ((u1, (u2, (u3, ()))), ((u4, (u5, (u6, ()))), ())))))
      else
      (c_i_SpanOk R u0 u4 u5 u6).bind fun (r118_2_1, _) =>
      some (.inr (((!r118_2_1), ((), ((), ((), ())))), ((false, (0, (0, ()))), ((u1, (u2, (u3, ()))), ((u4, (u5, (u6, ()))), ())))))) fun ((t7, (_, (_, (_, _)))), ((o0a, (o0b, (o0c, _))), ((o1a, (o1b, (o1c, _))), ((o2a, (o2b, (o2c, _))), _)))) =>
  bif t7 then
    some (false, (0, (0, ())))
  else
  bif (!o1a) then
    some (o2a, (o2b, (o2c, ())))
  else
  bif (!o2a) then
    some (o1a, (o1b, (o1c, ())))
  else
  (c_i_some R (imin o1b o2b) (imax o1c o2c)).bind fun (r77_1, (r77b, (r77c, _))) =>
  some (r77_1, (r77b, (r77c, ())))
def p_s_BitOk (R : Run) (n : Nat) (u0 : Int) (u1 : Int) : Option (Bool × Unit) :=
  jb (P := (((Bool × Unit)) × Unit)) (
      (c_s_l1Width R u0).bind fun (r52_1, _) =>
      bif r52_1 then
        (c_s_BitTop R u0).bind fun (r36_1, _) =>
        bif (ile (ineg .i64 r36_1) u1) then
          (c_s_BitTop R u0).bind fun (r36_2_1, _) =>
          some (.inr (((ile u1 r36_2_1), ()), ()))
        else
        some (.inr ((false, ()), ()))
      else
      some (.inr ((false, ()), ()))) fun ((t4, _), _) =>
  some (t4, ())
def p_s_FracInt (R : Run) (n : Nat) (u0 : Int) : Option (Bool × (List Int × (List Int × Unit))) :=
  jb (P := (((Unit × (Unit × Unit))) × (((Bool × (List Int × (Unit × Unit)))) × (((Bool × (Unit × (Unit × Unit)))) × (List Int × Unit))))) (
      bif (ilt u0 0) then
        (c_s_NatOf R (ineg .u64 (IntKind.wrap .u64 u0))).bind fun (r67_1, _) =>
        some (.inr (((), ((), ())), (((ilt u0 0), (r67_1, ((), ()))), ((false, ((), ((), ()))), ([1], ())))))
      else
      (c_s_NatOf R (IntKind.wrap .u64 u0)).bind fun (r67_2_1, _) =>
      some (.inr (((), ((), ())), (((ilt u0 0), (r67_2_1, ((), ()))), ((false, ((), ((), ()))), ([1], ())))))) fun ((_, (_, _)), ((o0a, (o0b, (_, _))), ((o1, (_, (_, _))), (o2, _)))) =>
  some (o0a, (o0b, (o2, ())))
def p_s_SpanMul (R : Run) (n : Nat) (u0 : Int) (u1 : Bool) (u2 : Int) (u3 : Int) (u4 : Bool) (u5 : Int) (u6 : Int) : Option (Bool × (Int × (Int × Unit))) :=
  (c_s_l9Both R u0 u1 u2 u3 u4 u5 u6).bind fun (r86_1, _) =>
  bif (!r86_1) then
    some (false, (0, (0, ())))
  else
  (c_s_l9Mul R u0 u2 u5 false).bind fun (r126_1, _) =>
  (c_s_l9Mul R u0 u2 u6 false).bind fun (r126_2_1, _) =>
  (c_s_l3Min R r126_1 r126_2_1).bind fun (r92_1, _) =>
  (c_s_l9Mul R u0 u3 u5 false).bind fun (r126_3_1, _) =>
  (c_s_l9Mul R u0 u3 u6 false).bind fun (r126_4_1, _) =>
  (c_s_l3Min R r126_3_1 r126_4_1).bind fun (r92_2_1, _) =>
  (c_s_l3Min R r92_1 r92_2_1).bind fun (r92_3_1, _) =>
  (c_s_l9Mul R u0 u2 u5 true).bind fun (r126_5_1, _) =>
  (c_s_l9Mul R u0 u2 u6 true).bind fun (r126_6_1, _) =>
  (c_s_l3Max R r126_5_1 r126_6_1).bind fun (r93_1, _) =>
  (c_s_l9Mul R u0 u3 u5 true).bind fun (r126_7_1, _) =>
  (c_s_l9Mul R u0 u3 u6 true).bind fun (r126_8_1, _) =>
  (c_s_l3Max R r126_7_1 r126_8_1).bind fun (r93_2_1, _) =>
  (c_s_l3Max R r93_1 r93_2_1).bind fun (r93_3_1, _) =>
  (c_s_l9Of R r92_3_1 r93_3_1).bind fun (r91_1, (r91b, (r91c, _))) =>
  some (r91_1, (r91b, (r91c, ())))
def p_s_SpanDiv (R : Run) (n : Nat) (u0 : Int) (u1 : Bool) (u2 : Int) (u3 : Int) (u4 : Bool) (u5 : Int) (u6 : Int) : Option (Bool × (Int × (Int × Unit))) :=
  (c_s_SpanDivTwo R u0 u1 u2 u3 u4 u5 u6).bind fun (r24_1, (r24b, (r24c, (r24d, (r24e, (r24f, _)))))) =>
  (c_s_SpanHull R u0 r24_1 r24b r24c r24d r24e r24f).bind fun (r26_1, (r26b, (r26c, _))) =>
  some (r26_1, (r26b, (r26c, ())))
def p_s_SpanPow (R : Run) (n : Nat) (u0 : Int) (u1 : Bool) (u2 : Int) (u3 : Int) (u4 : Int) : Option (Bool × (Int × (Int × Unit))) :=
  jb (P := (((Bool × (Unit × (Int × (Int × (Unit × Unit)))))) × (((Bool × (Int × (Int × Unit)))) × (((Bool × (Int × (Int × Unit)))) × Unit)))) (
      (c_s_SpanOk R u0 u1 u2 u3).bind fun (r90_1, _) =>
      bif (!r90_1) then
        some (.inr ((true, ((), (u4, (u0, ((), ()))))), ((false, (0, (0, ()))), ((u1, (u2, (u3, ()))), ()))))
      else
      bif (!u1) then
        some (.inr ((true, ((), (u4, (u0, ((), ()))))), ((false, (0, (0, ()))), ((u1, (u2, (u3, ()))), ()))))
      else
      bif (ilt u4 0) then
        some (.inr ((true, ((), (u4, (u0, ((), ()))))), ((false, (0, (0, ()))), ((u1, (u2, (u3, ()))), ()))))
      else
      some (.inr (((ilt 8 u4), ((), (u4, (u0, ((), ()))))), ((false, (0, (0, ()))), ((u1, (u2, (u3, ()))), ()))))) fun ((t23, (_, (n2, (width0, (_, _))))), ((o0a, (o0b, (o0c, _))), ((o1a, (o1b, (o1c, _))), _))) =>
  bif t23 then
    some (false, (0, (0, ())))
  else
  bif (n2 == 0) then
    (c_s_l9One R width0).bind fun (r127_1, _) =>
    (c_s_l9One R width0).bind fun (r127_2_1, _) =>
    (c_s_l9Of R r127_1 r127_2_1).bind fun (r91_1, (r91b, (r91c, _))) =>
    some (r91_1, (r91b, (r91c, ())))
  else
  jb (P := (((Int × (Unit × (Int × (Unit × Unit))))) × (((Bool × (Int × (Int × Unit)))) × (((Bool × (Int × (Int × Unit)))) × Unit)))) (
      bif ((irem .i64 n2 2) == 0) then
        (c_s_SpanAbs R width0 o1a o1b o1c).bind fun (r128_1, (r128b, (r128c, _))) =>
        some (.inr ((width0, ((), (n2, ((), ())))), ((r128_1, (r128b, (r128c, ()))), ((o0a, (o0b, (o0c, ()))), ()))))
      else
      some (.inr ((width0, ((), (n2, ((), ())))), ((o1a, (o1b, (o1c, ()))), ((o0a, (o0b, (o0c, ()))), ()))))) fun ((width0_1, (_, (n2_1, (_, _)))), ((o0a_1, (o0b_1, (o0c_1, _))), ((o1a_1, (o1b_1, (o1c_1, _))), _))) =>
  (c_s_l9Pow R width0_1 o0b_1 n2_1 false).bind fun (r129_1, _) =>
  (c_s_l9Pow R width0_1 o0c_1 n2_1 true).bind fun (r129_2_1, _) =>
  (c_s_l9Of R r129_1 r129_2_1).bind fun (r91_2_1, (r91_2b, (r91_2c, _))) =>
  some (r91_2_1, (r91_2b, (r91_2c, ())))
def p_i_BackTop (R : Run) (n : Nat) (u0 : Int) (u1 : Bool) (u2 : Int) (u3 : Int) (u4 : Bool) (u5 : Int) (u6 : Int) (u7 : Bool) (u8 : Int) (u9 : Int) : Option (Bool × (Int × (Int × Unit))) :=
  jb (P := (((Bool × (Unit × (Int × (Unit × (Unit × (Unit × Unit))))))) × (((Bool × (Int × (Int × Unit)))) × (((Bool × (Int × (Int × Unit)))) × (((Bool × (Int × (Int × Unit)))) × (((Bool × (Int × (Int × Unit)))) × Unit)))))) (
      (c_i_full R u0 [(u1, (u2, (u3, ()))), (u4, (u5, (u6, ()))), (u7, (u8, (u9, ())))]).bind fun (r72_1, _) =>
      bif (!r72_1) then
        some (.inr ((true, ((), (u0, ((), ((), ((), ())))))), ((false, (0, (0, ()))), ((u7, (u8, (u9, ()))), ((u1, (u2, (u3, ()))), ((u4, (u5, (u6, ()))), ()))))))
      else
      (c_i_Span_nought R u4 u5 u6).bind fun (r130_1, _) =>
      some (.inr ((r130_1, ((), (u0, ((), ((), ((), ())))))), ((false, (0, (0, ()))), ((u7, (u8, (u9, ()))), ((u1, (u2, (u3, ()))), ((u4, (u5, (u6, ()))), ()))))))) fun ((t19, (_, (width0, (_, (_, (_, _)))))), ((o0a, (o0b, (o0c, _))), ((o1a, (o1b, (o1c, _))), ((o2a, (o2b, (o2c, _))), ((o3a, (o3b, (o3c, _))), _))))) =>
  bif t19 then
    some (false, (0, (0, ())))
  else
  (c_i_SpanMul R width0 o2a o2b o2c o3a o3b o3c).bind fun (r20_1, (r20b, (r20c, _))) =>
  (c_i_SpanMeet R width0 o1a o1b o1c r20_1 r20b r20c).bind fun (r109_1, (r109b, (r109c, _))) =>
  some (r109_1, (r109b, (r109c, ())))
def p_i_BackBottom (R : Run) (n : Nat) (u0 : Int) (u1 : Bool) (u2 : Int) (u3 : Int) (u4 : Bool) (u5 : Int) (u6 : Int) (u7 : Bool) (u8 : Int) (u9 : Int) : Option (Bool × (Int × (Int × Unit))) :=
  jb (P := (((Bool × (Unit × (Int × (Unit × (Unit × (Unit × Unit))))))) × (((Bool × (Int × (Int × Unit)))) × (((Bool × (Int × (Int × Unit)))) × (((Bool × (Int × (Int × Unit)))) × (((Bool × (Int × (Int × Unit)))) × Unit)))))) (
      (c_i_full R u0 [(u1, (u2, (u3, ()))), (u4, (u5, (u6, ()))), (u7, (u8, (u9, ())))]).bind fun (r72_1, _) =>
      bif (!r72_1) then
        some (.inr ((true, ((), (u0, ((), ((), ((), ())))))), ((false, (0, (0, ()))), ((u4, (u5, (u6, ()))), ((u1, (u2, (u3, ()))), ((u7, (u8, (u9, ()))), ()))))))
      else
      (c_i_Span_nought R u7 u8 u9).bind fun (r130_1, _) =>
      some (.inr ((r130_1, ((), (u0, ((), ((), ((), ())))))), ((false, (0, (0, ()))), ((u4, (u5, (u6, ()))), ((u1, (u2, (u3, ()))), ((u7, (u8, (u9, ()))), ()))))))) fun ((t19, (_, (width0, (_, (_, (_, _)))))), ((o0a, (o0b, (o0c, _))), ((o1a, (o1b, (o1c, _))), ((o2a, (o2b, (o2c, _))), ((o3a, (o3b, (o3c, _))), _))))) =>
  bif t19 then
    some (false, (0, (0, ())))
  else
  (c_i_BackMul R width0 o1a o1b o1c o2a o2b o2c o3a o3b o3c).bind fun (r32_1, (r32b, (r32c, _))) =>
  some (r32_1, (r32b, (r32c, ())))
def p_i_BackPow (R : Run) (n : Nat) (u0 : Int) (u1 : Bool) (u2 : Int) (u3 : Int) (u4 : Int) (u5 : Bool) (u6 : Int) (u7 : Int) : Option (Bool × (Int × (Int × Unit))) :=
  jb (P := (((Bool × (Unit × (Int × (Int × (Unit × (Unit × Unit))))))) × (((Bool × (Int × (Int × Unit)))) × (((Bool × (Int × (Int × Unit)))) × (((Bool × (Int × (Int × Unit)))) × Unit))))) (
      (c_i_full R u0 [(u1, (u2, (u3, ()))), (u5, (u6, (u7, ())))]).bind fun (r72_1, _) =>
      bif (!r72_1) then
        some (.inr ((true, ((), (u4, (u0, ((), ((), ())))))), ((false, (0, (0, ()))), ((u1, (u2, (u3, ()))), ((u5, (u6, (u7, ()))), ())))))
      else
      (c_i_in R u4 0 8).bind fun (r107_1, _) =>
      some (.inr (((!r107_1), ((), (u4, (u0, ((), ((), ())))))), ((false, (0, (0, ()))), ((u1, (u2, (u3, ()))), ((u5, (u6, (u7, ()))), ())))))) fun ((t9, (_, (n2, (width0, (_, (_, _)))))), ((o0a, (o0b, (o0c, _))), ((o1a, (o1b, (o1c, _))), ((o2a, (o2b, (o2c, _))), _)))) =>
  bif t9 then
    some (false, (0, (0, ())))
  else
  jb (P := (((Bool × (Unit × (Unit × (Int × (Int × (Unit × Unit))))))) × (((Bool × (Int × (Int × Unit)))) × (((Bool × (Int × (Int × Unit)))) × (((Bool × (Int × (Int × Unit)))) × Unit))))) (
      bif (n2 == 0) then
        (c_i_whole R false [1]).bind fun (r132_1, (r132b, (r132c, _))) =>
        (c_i_SpanHas R width0 o1a o1b o1c r132_1 r132b r132c).bind fun (r131_1, _) =>
        some (.inr ((r131_1, ((), ((), (n2, (width0, ((), ())))))), ((o2a, (o2b, (o2c, ()))), ((o0a, (o0b, (o0c, ()))), ((o1a, (o1b, (o1c, ()))), ())))))
      else
      some (.inr ((false, ((), ((), (n2, (width0, ((), ())))))), ((o2a, (o2b, (o2c, ()))), ((o0a, (o0b, (o0c, ()))), ((o1a, (o1b, (o1c, ()))), ())))))) fun ((t22, (_, (_, (n2_1, (width0_1, (_, _)))))), ((o0a_1, (o0b_1, (o0c_1, _))), ((o1a_1, (o1b_1, (o1c_1, _))), ((o2a_1, (o2b_1, (o2c_1, _))), _)))) =>
  bif t22 then
    some (o0a_1, (o0b_1, (o0c_1, ())))
  else
  bif (n2_1 == 0) then
    some (false, (0, (0, ())))
  else
  bif ((irem .i64 n2_1 2) == 1) then
    (c_i_rootDown R width0_1 o2b_1 n2_1).bind fun (r111_1, _) =>
    (c_i_rootUp R width0_1 o2c_1 n2_1).bind fun (r112_1, _) =>
    (c_i_some R r111_1 r112_1).bind fun (r77_1, (r77b, (r77c, _))) =>
    (c_i_SpanMeet R width0_1 o0a_1 o0b_1 o0c_1 r77_1 r77b r77c).bind fun (r109_1, (r109b, (r109c, _))) =>
    some (r109_1, (r109b, (r109c, ())))
  else
  (c_i_from R width0_1 0).bind fun (r110_1, (r110b, (r110c, _))) =>
  (c_i_SpanMeet R width0_1 o2a_1 o2b_1 o2c_1 r110_1 r110b r110c).bind fun (r109_2_1, (r109_2b, (r109_2c, _))) =>
  bif (!r109_2_1) then
    some (false, (0, (0, ())))
  else
  (c_i_rootDown R width0_1 r109_2b n2_1).bind fun (r111_2_1, _) =>
  (c_i_rootUp R width0_1 r109_2c n2_1).bind fun (r112_2_1, _) =>
  (c_i_some R r111_2_1 r112_2_1).bind fun (r77_2_1, (r77_2b, (r77_2c, _))) =>
  (c_i_either R width0_1 o0a_1 o0b_1 o0c_1 r77_2_1 r77_2b r77_2c).bind fun (r133_1, (r133b, (r133c, _))) =>
  some (r133_1, (r133b, (r133c, ())))
def p_i_BackRoot (R : Run) (n : Nat) (u0 : Int) (u1 : Bool) (u2 : Int) (u3 : Int) (u4 : Bool) (u5 : Int) (u6 : Int) : Option (Bool × (Int × (Int × Unit))) :=
  (c_i_full R u0 [(u1, (u2, (u3, ()))), (u4, (u5, (u6, ())))]).bind fun (r72_1, _) =>
  bif (!r72_1) then
    some (false, (0, (0, ())))
  else
  (c_i_from R u0 0).bind fun (r110_1, (r110b, (r110c, _))) =>
  (c_i_SpanMeet R u0 u1 u2 u3 r110_1 r110b r110c).bind fun (r109_1, (r109b, (r109c, _))) =>
  (c_i_SpanPow R u0 r109_1 r109b r109c 2).bind fun (r37_1, (r37b, (r37c, _))) =>
  (c_i_SpanMeet R u0 u4 u5 u6 r37_1 r37b r37c).bind fun (r109_2_1, (r109_2b, (r109_2c, _))) =>
  some (r109_2_1, (r109_2b, (r109_2c, ())))
def p_i_BackAbs (R : Run) (n : Nat) (u0 : Int) (u1 : Bool) (u2 : Int) (u3 : Int) (u4 : Bool) (u5 : Int) (u6 : Int) : Option (Bool × (Int × (Int × Unit))) :=
  (c_i_full R u0 [(u1, (u2, (u3, ()))), (u4, (u5, (u6, ())))]).bind fun (r72_1, _) =>
  bif (!r72_1) then
    some (false, (0, (0, ())))
  else
  (c_i_from R u0 0).bind fun (r110_1, (r110b, (r110c, _))) =>
  (c_i_SpanMeet R u0 u1 u2 u3 r110_1 r110b r110c).bind fun (r109_1, (r109b, (r109c, _))) =>
  (c_i_either R u0 u4 u5 u6 r109_1 r109b r109c).bind fun (r133_1, (r133b, (r133c, _))) =>
  some (r133_1, (r133b, (r133c, ())))
def p_s_FracRoot (R : Run) (n : Nat) (u0 : Bool) (u1 : List Int) (u2 : List Int) : Option (Bool × (List Int × (List Int × (Bool × Unit)))) :=
  jb (P := (((Bool × (Unit × (Unit × (Bool × Unit))))) × (((Bool × (Unit × (Unit × Unit)))) × (((Bool × (List Int × (List Int × Unit)))) × Unit)))) (
      (c_s_FracOk R u0 u1 u2).bind fun (r78_1, _) =>
      bif (!r78_1) then
        some (.inr ((true, ((), ((), (false, ())))), ((false, ((), ((), ()))), ((u0, (u1, (u2, ()))), ()))))
      else
      some (.inr ((u0, ((), ((), (false, ())))), ((false, ((), ((), ()))), ((u0, (u1, (u2, ()))), ()))))) fun ((t16, (_, (_, (t3, _)))), ((o0, (_, (_, _))), ((o1a, (o1b, (o1c, _))), _))) =>
  bif t16 then
    some (false, ([], ([], (false, ()))))
  else
  (c_s_NatRoot R o1b).bind fun (r134_1, (r134b, (r134c, _))) =>
  (c_s_NatRoot R o1c).bind fun (r134_2_1, (r134_2b, (r134_2c, _))) =>
  jb (P := (((Bool × (Unit × (List Int × (List Int × (Bool × Unit)))))) × (((Bool × (Unit × (Unit × Unit)))) × Unit))) (
      bif (!r134b) then
        some (.inr ((true, ((), (r134_1, (r134_2_1, (t3, ()))))), ((o0, ((), ((), ()))), ())))
      else
      some (.inr (((!r134_2b), ((), (r134_1, (r134_2_1, (t3, ()))))), ((o0, ((), ((), ()))), ())))) fun ((t37, (_, (top4, (bottom7, (t3_1, _))))), ((o0_1, (_, (_, _))), _)) =>
  bif t37 then
    some (false, ([], ([], (false, ()))))
  else
  some (false, (top4, (bottom7, (true, ()))))
def p_i_BackMin (R : Run) (n : Nat) (u0 : Int) (u1 : Bool) (u2 : Int) (u3 : Int) (u4 : Bool) (u5 : Int) (u6 : Int) (u7 : Bool) (u8 : Int) (u9 : Int) : Option (Bool × (Int × (Int × Unit))) :=
  jb (P := (((Bool × (Unit × (Unit × (Unit × (Int × (Unit × Unit))))))) × (((Bool × (Int × (Int × Unit)))) × (((Bool × (Int × (Int × Unit)))) × (((Bool × (Int × (Int × Unit)))) × (((Bool × (Int × (Int × Unit)))) × Unit)))))) (
      (c_i_full R u0 [(u1, (u2, (u3, ()))), (u4, (u5, (u6, ()))), (u7, (u8, (u9, ())))]).bind fun (r72_1, _) =>
      bif (!r72_1) then
        some (.inr ((true, ((), ((), ((), (u0, ((), ())))))), ((false, (0, (0, ()))), ((u4, (u5, (u6, ()))), ((u1, (u2, (u3, ()))), ((u7, (u8, (u9, ()))), ()))))))
      else
      some (.inr (((ilt u6 u2), ((), ((), ((), (u0, ((), ())))))), ((false, (0, (0, ()))), ((u4, (u5, (u6, ()))), ((u1, (u2, (u3, ()))), ((u7, (u8, (u9, ()))), ()))))))) fun ((t9, (_, (_, (_, (width0, (_, _)))))), ((o0a, (o0b, (o0c, _))), ((o1a, (o1b, (o1c, _))), ((o2a, (o2b, (o2c, _))), ((o3a, (o3b, (o3c, _))), _))))) =>
  bif t9 then
    some (false, (0, (0, ())))
  else
  bif (ilt o2c o1b) then
    (c_i_SpanMeet R width0 o3a o3b o3c o2a o2b o2c).bind fun (r109_1, (r109b, (r109c, _))) =>
    some (r109_1, (r109b, (r109c, ())))
  else
  (c_i_from R width0 o2b).bind fun (r110_1, (r110b, (r110c, _))) =>
  (c_i_SpanMeet R width0 o3a o3b o3c r110_1 r110b r110c).bind fun (r109_2_1, (r109_2b, (r109_2c, _))) =>
  some (r109_2_1, (r109_2b, (r109_2c, ())))
def p_i_BackMax (R : Run) (n : Nat) (u0 : Int) (u1 : Bool) (u2 : Int) (u3 : Int) (u4 : Bool) (u5 : Int) (u6 : Int) (u7 : Bool) (u8 : Int) (u9 : Int) : Option (Bool × (Int × (Int × Unit))) :=
  (c_i_SpanNeg R u0 u1 u2 u3).bind fun (r48_1, (r48b, (r48c, _))) =>
  (c_i_SpanNeg R u0 u4 u5 u6).bind fun (r48_2_1, (r48_2b, (r48_2c, _))) =>
  (c_i_SpanNeg R u0 u7 u8 u9).bind fun (r48_3_1, (r48_3b, (r48_3c, _))) =>
  (c_i_BackMin R u0 r48_1 r48b r48c r48_2_1 r48_2b r48_2c r48_3_1 r48_3b r48_3c).bind fun (r63_1, (r63b, (r63c, _))) =>
  (c_i_SpanNeg R u0 r63_1 r63b r63c).bind fun (r48_4_1, (r48_4b, (r48_4c, _))) =>
  some (r48_4_1, (r48_4b, (r48_4c, ())))
def p_s_l31Open (R : Run) (n : Nat) (u0 : List Int) : Option (List Int × (Int × Unit)) :=
  jb (P := (((List Int × (Unit × Unit))) × Unit)) (
      bif (ilt 2000 (len u0)) then
        ok (sliceOk 0 2000 (len u0)) <|
        some (.inr (((List.drop (Int.toNat 0) (List.take (Int.toNat 2000) u0)), ((), ())), ()))
      else
      some (.inr ((u0, ((), ())), ()))) fun ((code0, (_, _)), _) =>
  some (code0, (0, ()))
def p_s_l31Rd_real (R : Run) (n : Nat) (u0 : List Int) (u1 : Int) : Option (Int × (List Int × (Int × Unit))) :=
  (c_s_l31Rd_pick R u0 u1 2).bind fun (r31_1, (r31b, (r31c, _))) =>
  ok (inB r31_1 (len [32, 64])) <|
  some ((List.getD [32, 64] (Int.toNat r31_1) 0), (r31b, (r31c, ())))
def p_s_l31Rd_fine (R : Run) (n : Nat) (u0 : List Int) (u1 : Int) (u2 : Int) : Option (Bool × (Int × (Int × (List Int × (Int × Unit))))) :=
  (c_s_l31Rd_bound R u0 u1 u2).bind fun (r32_1, (r32b, (r32c, _))) =>
  (c_s_l31Rd_bound R r32b r32c u2).bind fun (r32_2_1, (r32_2b, (r32_2c, _))) =>
  jb (P := (((Int × (Int × (Int × (Unit × (Unit × Unit)))))) × (((Bool × (Int × (Int × Unit)))) × (((List Int × (Int × Unit))) × Unit)))) (
      (c_s_l31Rd_pick R r32_2b r32_2c 8).bind fun (r31_1, (r31b, (r31c, _))) =>
      bif (r31_1 == 0) then
        some (.inr ((r32_1, (r32_1, (u2, ((), ((), ()))))), ((false, (0, (0, ()))), ((r31b, (r31c, ())), ()))))
      else
      bif (r31_1 == 1) then
        (c_s_l31Rd_pick R r31b r31c 3).bind fun (r31_2_1, (r31_2b, (r31_2c, _))) =>
        some (.inr ((r32_1, ((iadd .i64 (iadd .i64 r32_1 1) r31_2_1), (u2, ((), ((), ()))))), ((false, (0, (0, ()))), ((r31_2b, (r31_2c, ())), ()))))
      else
      some (.inr ((r32_1, (r32_2_1, (u2, ((), ((), ()))))), ((false, (0, (0, ()))), ((r31b, (r31c, ())), ()))))) fun ((a5, (b6, (width1, (_, (_, _))))), ((o0a, (o0b, (o0c, _))), ((o1a, (o1b, _)), _))) =>
  jb (P := (((Int × (Int × (Int × (Unit × (Unit × Unit)))))) × (((Bool × (Int × (Int × Unit)))) × (((List Int × (Int × Unit))) × Unit)))) (
      bif (ilt b6 a5) then
        some (.inr ((width1, (b6, (a5, ((), ((), ()))))), ((o0a, (o0b, (o0c, ()))), ((o1a, (o1b, ())), ()))))
      else
      some (.inr ((width1, (a5, (b6, ((), ((), ()))))), ((o0a, (o0b, (o0c, ()))), ((o1a, (o1b, ())), ()))))) fun ((width1_1, (a5_1, (b6_1, (_, (_, _))))), ((o0a_1, (o0b_1, (o0c_1, _))), ((o1a_1, (o1b_1, _)), _))) =>
  (c_s_PairOk R width1_1 a5_1 b6_1).bind fun (r33_1, _) =>
  bif (!r33_1) then
    (c_s_l9One R width1_1).bind fun (r35_1, _) =>
    (c_s_l9Of R 0 r35_1).bind fun (r34_1, (r34b, (r34c, _))) =>
    some (r34_1, (r34b, (r34c, (o1a_1, (o1b_1, ())))))
  else
  (c_s_l9Of R a5_1 b6_1).bind fun (r34_2_1, (r34_2b, (r34_2c, _))) =>
  some (r34_2_1, (r34_2b, (r34_2c, (o1a_1, (o1b_1, ())))))
def p_s_l31Rd_inside (R : Run) (n : Nat) (u0 : List Int) (u1 : Int) (u2 : Int) (u3 : Bool) (u4 : Int) (u5 : Int) : Option (Bool × (List Int × (List Int × (List Int × (Int × Unit))))) :=
  (c_s_BitTop R u2).bind fun (r36_1, _) =>
  jb (P := (((Int × (Int × (Int × (Int × (Unit × (Unit × Unit))))))) × (((List Int × (Int × Unit))) × (((Bool × (Unit × (Unit × Unit)))) × Unit)))) (
      bif (u4 == (ineg .i64 r36_1)) then
        (c_s_l3Min R (iquo .i64 (ineg .i64 r36_1) 2) u5).bind fun (r37_1, _) =>
        bif (r37_1 == (ineg .i64 r36_1)) then
          some (.inr ((u5, (r36_1, ((iadd .i64 r37_1 1), (u2, ((), ((), ())))))), ((u0, (u1, ())), ((false, ((), ((), ()))), ()))))
        else
        some (.inr ((u5, (r36_1, (r37_1, (u2, ((), ((), ())))))), ((u0, (u1, ())), ((false, ((), ((), ()))), ()))))
      else
      some (.inr ((u5, (r36_1, (u4, (u2, ((), ((), ())))))), ((u0, (u1, ())), ((false, ((), ((), ()))), ()))))) fun ((hi8, (top9, (lo7, (width1, (_, (_, _)))))), ((o0a, (o0b, _)), ((o1, (_, (_, _))), _))) =>
  jb (P := (((Int × (Int × (Int × (Unit × (Unit × Unit)))))) × (((List Int × (Int × Unit))) × (((Bool × (Unit × (Unit × Unit)))) × Unit)))) (
      bif (hi8 == top9) then
        (c_s_l3Max R (iquo .i64 top9 2) lo7).bind fun (r38_1, _) =>
        bif (r38_1 == top9) then
          some (.inr ((width1, (lo7, ((isub .i64 r38_1 1), ((), ((), ()))))), ((o0a, (o0b, ())), ((o1, ((), ((), ()))), ()))))
        else
        some (.inr ((width1, (lo7, (r38_1, ((), ((), ()))))), ((o0a, (o0b, ())), ((o1, ((), ((), ()))), ()))))
      else
      some (.inr ((width1, (lo7, (hi8, ((), ((), ()))))), ((o0a, (o0b, ())), ((o1, ((), ((), ()))), ()))))) fun ((width1_1, (lo7_1, (hi8_1, (_, (_, _))))), ((o0a_1, (o0b_1, _)), ((o1_1, (_, (_, _))), _))) =>
  (c_s_FloatFrac R width1_1 lo7_1).bind fun (r39_1, (r39b, (r39c, (r39d, _)))) =>
  (c_s_FloatFrac R width1_1 hi8_1).bind fun (r39_2_1, (r39_2b, (r39_2c, (r39_2d, _)))) =>
  (c_s_l31Rd_pick R o0a_1 o0b_1 8).bind fun (r31_1, (r31b, (r31c, _))) =>
  bif (r31_1 == 0) then
    some (r39_1, (r39b, (r39c, (r31b, (r31c, ())))))
  else
  bif (r31_1 == 1) then
    some (r39_2_1, (r39_2b, (r39_2c, (r31b, (r31c, ())))))
  else
  jb (P := (((Bool × (Unit × (Int × (Int × (Int × (Int × (Unit × (Unit × (Unit × Unit)))))))))) × (((Bool × (Unit × (Unit × Unit)))) × (((List Int × (Int × Unit))) × (((Bool × (List Int × (List Int × Unit)))) × (((Bool × (List Int × (List Int × Unit)))) × Unit)))))) (
      bif (r31_1 == 2) then
        bif (ile lo7_1 0) then
          some (.inr (((ile 0 hi8_1), ((), (r31_1, (width1_1, (lo7_1, (hi8_1, ((), ((), ((), ()))))))))), ((o1_1, ((), ((), ()))), ((r31b, (r31c, ())), ((r39_2_1, (r39_2b, (r39_2c, ()))), ((r39_1, (r39b, (r39c, ()))), ()))))))
        else
        some (.inr ((false, ((), (r31_1, (width1_1, (lo7_1, (hi8_1, ((), ((), ((), ()))))))))), ((o1_1, ((), ((), ()))), ((r31b, (r31c, ())), ((r39_2_1, (r39_2b, (r39_2c, ()))), ((r39_1, (r39b, (r39c, ()))), ()))))))
      else
      some (.inr ((false, ((), (r31_1, (width1_1, (lo7_1, (hi8_1, ((), ((), ((), ()))))))))), ((o1_1, ((), ((), ()))), ((r31b, (r31c, ())), ((r39_2_1, (r39_2b, (r39_2c, ()))), ((r39_1, (r39b, (r39c, ()))), ()))))))) fun ((t87, (_, (k14, (width1_2, (lo7_2, (hi8_2, (_, (_, (_, _))))))))), ((o0, (_, (_, _))), ((o1a, (o1b, _)), ((o2a, (o2b, (o2c, _))), ((o3a, (o3b, (o3c, _))), _))))) =>
  bif t87 then
    (c_s_FracInt R 0).bind fun (r40_1, (r40b, (r40c, _))) =>
    some (r40_1, (r40b, (r40c, (o1a, (o1b, ())))))
  else
  jb (P := (((Unit × (Unit × (Unit × (Unit × Unit))))) × (((Bool × (List Int × (List Int × Unit)))) × (((Bool × (List Int × (List Int × Unit)))) × (((List Int × (Int × Unit))) × (((Bool × (Unit × (Unit × Unit)))) × Unit)))))) (
      bif (ilt k14 5) then
        (c_s_BitGap R lo7_2 hi8_2).bind fun (r41_1, _) =>
        (c_s_l31Rd_pick R o1a o1b 9).bind fun (r31_2_1, (r31_2b, (r31_2c, _))) =>
        ok (!((IntKind.wrap .u64 (iadd .i64 2 r31_2_1)) == 0)) <|
        (c_s_FloatFrac R width1_2 (iadd .i64 lo7_2 (IntKind.wrap .i64 (iquo .u64 r41_1 (IntKind.wrap .u64 (iadd .i64 2 r31_2_1)))))).bind fun (r39_3_1, (r39_3b, (r39_3c, (r39_3d, _)))) =>
        bif r39_3d then
          some (.inl (r39_3_1, (r39_3b, (r39_3c, (r31_2b, (r31_2c, ()))))))
        else
        some (.inr (((), ((), ((), ((), ())))), ((o2a, (o2b, (o2c, ()))), ((o3a, (o3b, (o3c, ()))), ((r31_2b, (r31_2c, ())), ((o0, ((), ((), ()))), ()))))))
      else
      some (.inr (((), ((), ((), ((), ())))), ((o2a, (o2b, (o2c, ()))), ((o3a, (o3b, (o3c, ()))), ((o1a, (o1b, ())), ((o0, ((), ((), ()))), ()))))))) fun ((_, (_, (_, (_, _)))), ((o0a_2, (o0b_2, (o0c, _))), ((o1a_1, (o1b_1, (o1c, _))), ((o2a_1, (o2b_1, _)), ((o3, (_, (_, _))), _))))) =>
  (c_s_FracSub R o0a_2 o0b_2 o0c o1a_1 o1b_1 o1c).bind fun (r42_1, (r42b, (r42c, (r42d, _)))) =>
  (c_s_l31Rd_pick R o2a_1 o2b_1 9).bind fun (r31_3_1, (r31_3b, (r31_3c, _))) =>
  (c_s_FracOf R false [(iadd .i64 1 r31_3_1)] [10]).bind fun (r43_1, (r43b, (r43c, (r43d, _)))) =>
  (c_s_FracMul R r42_1 r42b r42c r43_1 r43b r43c).bind fun (r44_1, (r44b, (r44c, (r44d, _)))) =>
  (c_s_FracAdd R o1a_1 o1b_1 o1c r44_1 r44b r44c).bind fun (r45_1, (r45b, (r45c, (r45d, _)))) =>
  jb (P := (((Bool × (Unit × (Unit × (Unit × (Unit × Unit)))))) × (((Bool × (List Int × (List Int × Unit)))) × (((Bool × (Unit × (Unit × Unit)))) × (((Bool × (List Int × (List Int × Unit)))) × (((List Int × (Int × Unit))) × Unit)))))) (
      bif r42d then
        bif r44d then
          some (.inr ((r45d, ((), ((), ((), ((), ()))))), ((r45_1, (r45b, (r45c, ()))), ((o3, ((), ((), ()))), ((o1a_1, (o1b_1, (o1c, ()))), ((r31_3b, (r31_3c, ())), ()))))))
        else
        some (.inr ((false, ((), ((), ((), ((), ()))))), ((r45_1, (r45b, (r45c, ()))), ((o3, ((), ((), ()))), ((o1a_1, (o1b_1, (o1c, ()))), ((r31_3b, (r31_3c, ())), ()))))))
      else
      some (.inr ((false, ((), ((), ((), ((), ()))))), ((r45_1, (r45b, (r45c, ()))), ((o3, ((), ((), ()))), ((o1a_1, (o1b_1, (o1c, ()))), ((r31_3b, (r31_3c, ())), ()))))))) fun ((t142, (_, (_, (_, (_, _))))), ((o0a_3, (o0b_3, (o0c_1, _))), ((o1_2, (_, (_, _))), ((o2a_2, (o2b_2, (o2c_1, _))), ((o3a_1, (o3b_1, _)), _))))) =>
  bif t142 then
    some (o0a_3, (o0b_3, (o0c_1, (o3a_1, (o3b_1, ())))))
  else
  some (o2a_2, (o2b_2, (o2c_1, (o3a_1, (o3b_1, ())))))
def p_s_BitPartOf (R : Run) (n : Nat) (u0 : Int) (u1 : Int) : Option (Bool × (Int × (Int × (Bool × Unit)))) :=
  jb (P := (((Bool × (Unit × (Int × (Int × (Bool × Unit)))))) × (((Bool × (Int × (Int × Unit)))) × Unit))) (
      (c_s_BitOk R u0 u1).bind fun (r62_1, _) =>
      bif (!r62_1) then
        some (.inr ((true, ((), (u1, (u0, (false, ()))))), ((false, (0, (0, ()))), ())))
      else
      (c_s_BitTop R u0).bind fun (r36_1, _) =>
      bif (u1 == r36_1) then
        some (.inr ((true, ((), (u1, (u0, (false, ()))))), ((false, (0, (0, ()))), ())))
      else
      (c_s_BitTop R u0).bind fun (r36_2_1, _) =>
      some (.inr (((u1 == (ineg .i64 r36_2_1)), ((), (u1, (u0, (false, ()))))), ((false, (0, (0, ()))), ())))) fun ((t26, (_, (ord1, (width0, (t5, _))))), ((o0a, (o0b, (o0c, _))), _)) =>
  bif t26 then
    some (false, (0, (0, (false, ()))))
  else
  (c_s_l1Least R width0).bind fun (r84_1, _) =>
  jb (P := (((Int × (Int × (Unit × (Unit × (Bool × Unit)))))) × (((Bool × (Int × (Int × Unit)))) × (((Bool × (Int × (Int × Unit)))) × Unit)))) (
      bif (ilt ord1 0) then
        some (.inr ((width0, ((ineg .i64 ord1), ((), ((), (t5, ()))))), (((ilt ord1 0), (0, (r84_1, ()))), ((o0a, (o0b, (o0c, ()))), ()))))
      else
      some (.inr ((width0, (ord1, ((), ((), (t5, ()))))), (((ilt ord1 0), (0, (r84_1, ()))), ((o0a, (o0b, (o0c, ()))), ()))))) fun ((width0_1, (size7, (_, (_, (t5_1, _))))), ((o0a_1, (o0b_1, (o0c_1, _))), ((o1a, (o1b, (o1c, _))), _))) =>
  (c_s_l1Frac R width0_1).bind fun (r85_1, _) =>
  ok (ile 0 (IntKind.wrap .u64 r85_1)) <|
  ok (!((ishl .i64 1 (IntKind.wrap .u64 r85_1)) == 0)) <|
  ok (!((ishl .i64 1 (IntKind.wrap .u64 r85_1)) == 0)) <|
  jb (P := (((Unit × (Unit × (Bool × Unit)))) × (((Bool × (Int × (Int × Unit)))) × (((Bool × (Int × (Int × Unit)))) × Unit)))) (
      bif (ilt 0 (iquo .i64 size7 (ishl .i64 1 (IntKind.wrap .u64 r85_1)))) then
        some (.inr (((), ((), (t5_1, ()))), ((o0a_1, ((iadd .u64 (IntKind.wrap .u64 (irem .i64 size7 (ishl .i64 1 (IntKind.wrap .u64 r85_1)))) (IntKind.wrap .u64 (ishl .i64 1 (IntKind.wrap .u64 r85_1)))), ((isub .i64 (iadd .i64 o0c_1 (iquo .i64 size7 (ishl .i64 1 (IntKind.wrap .u64 r85_1)))) 1), ()))), ((o1a, (o1b, (o1c, ()))), ()))))
      else
      some (.inr (((), ((), (t5_1, ()))), ((o0a_1, ((IntKind.wrap .u64 (irem .i64 size7 (ishl .i64 1 (IntKind.wrap .u64 r85_1)))), (o0c_1, ()))), ((o1a, (o1b, (o1c, ()))), ()))))) fun ((_, (_, (t5_2, _))), ((o0a_2, (o0b_2, (o0c_2, _))), ((o1a_1, (o1b_1, (o1c_1, _))), _))) =>
  some (o0a_2, (o0b_2, (o0c_2, (true, ()))))
def p_s_l8Of (R : Run) (n : Nat) (u0 : Int) (u1 : Int) : Option (Bool × (List Int × (List Int × Unit))) :=
  (c_s_BitPartOf R u0 u1).bind fun (r64_1, (r64b, (r64c, (r64d, _)))) =>
  (c_s_NatOf R r64b).bind fun (r67_1, _) =>
  jb (P := (((Unit × (Unit × Unit))) × (((Bool × (List Int × (List Int × Unit)))) × (((Bool × (Unit × (Unit × Unit)))) × Unit)))) (
      bif (ile 0 r64c) then
        (c_s_l5Pow2 R r64c).bind fun (r86_1, _) =>
        (c_s_l5Mul R r67_1 r86_1).bind fun (r69_1, _) =>
        some (.inr (((), ((), ())), ((r64_1, (r69_1, ([1], ()))), ((false, ((), ((), ()))), ()))))
      else
      (c_s_l5Pow2 R (ineg .i64 r64c)).bind fun (r86_2_1, _) =>
      some (.inr (((), ((), ())), ((r64_1, (r67_1, (r86_2_1, ()))), ((false, ((), ((), ()))), ()))))) fun ((_, (_, _)), ((o0a, (o0b, (o0c, _))), ((o1, (_, (_, _))), _))) =>
  some (o0a, (o0b, (o0c, ())))
def p_s_l6Make (R : Run) (n : Nat) (u0 : Bool) (u1 : List Int) (u2 : List Int) : Option (Bool × (List Int × (List Int × (Bool × Unit)))) :=
  bif ((len u1) == 0) then
    some (false, ([], ([1], (true, ()))))
  else
  (c_s_l5Gcd R u1 u2).bind fun (r75_1, _) =>
  (c_s_l5Div R u1 r75_1).bind fun (r87_1, (r87b, _)) =>
  (c_s_l5Div R u2 r75_1).bind fun (r87_2_1, (r87_2b, _)) =>
  jb (P := (((Bool × (Unit × (Bool × (List Int × (List Int × (Bool × Unit))))))) × (((Bool × (Unit × (Unit × Unit)))) × Unit))) (
      bif (ilt 256 (len r87_1)) then
        some (.inr ((true, ((), (u0, (r87_1, (r87_2_1, (false, ())))))), ((false, ((), ((), ()))), ())))
      else
      some (.inr (((ilt 256 (len r87_2_1)), ((), (u0, (r87_1, (r87_2_1, (false, ())))))), ((false, ((), ((), ()))), ())))) fun ((t40, (_, (below0, (t9, (b11, (t7, _)))))), ((o0, (_, (_, _))), _)) =>
  bif t40 then
    some (false, ([], ([], (false, ()))))
  else
  some (below0, (t9, (b11, (true, ()))))
def p_i_full (R : Run) (n : Nat) (u0 : Int) (u1 : List ((Bool × (Int × (Int × Unit))))) : Option (Bool × Unit) :=
  iter (P := (((Int × (Int × ((List ((Bool × (Int × (Int × Unit))))) × (Int × (Bool × Unit)))))) × Unit)) (fun rec ((t9, (t8, (t7, (width0, (t4, _))))), _) =>
      bif (ilt t9 t8) then
        ok (inB t9 (len t7)) <|
        jb (P := (((Bool × (Int × (Int × ((List ((Bool × (Int × (Int × Unit))))) × (Int × (Bool × Unit))))))) × Unit)) (
            bif (!(List.getD t7 (Int.toNat t9) (false, (0, (0, ())))).1) then
              some (.inr ((true, (t9, (t8, (t7, (width0, (t4, ())))))), ()))
            else
            (c_i_SpanOk R width0 (List.getD t7 (Int.toNat t9) (false, (0, (0, ())))).1 (List.getD t7 (Int.toNat t9) (false, (0, (0, ())))).2.1 (List.getD t7 (Int.toNat t9) (false, (0, (0, ())))).2.2.1).bind fun (r17_1, _) =>
            some (.inr (((!r17_1), (t9, (t8, (t7, (width0, (t4, ())))))), ()))) fun ((t21, (t9_1, (t8_1, (t7_1, (width0_1, (t4_1, _)))))), _) =>
        bif t21 then
          some (false, ())
        else
        rec (((iadd .i64 t9_1 1), (t8_1, (t7_1, (width0_1, (t4_1, ()))))), ())
      else
      some (true, ())) n ((0, ((len u1), (u1, (u0, (false, ()))))), ())
def p_i_limitOf (R : Run) (n : Nat) (u0 : Int) (u1 : Int) : Option (Int × (Bool × (List Int × (List Int × Unit)))) :=
  (c_i_BitTop R u0).bind fun (r143_1, _) =>
  bif (u1 == r143_1) then
    some (1, (false, ([], ([], ()))))
  else
  bif (u1 == (ineg .i64 r143_1)) then
    some ((-1), (false, ([], ([], ()))))
  else
  (c_i_value R u0 u1).bind fun (r144_1, (r144b, (r144c, _))) =>
  some (0, (r144_1, (r144b, (r144c, ()))))
def p_i_limit_floats (R : Run) (n : Nat) (u0 : Int) (u1 : Bool) (u2 : List Int) (u3 : List Int) (u4 : Int) : Option (Int × (Int × Unit)) :=
  bif (u0 != 0) then
    (c_i_BitTop R u4).bind fun (r143_1, _) =>
    (c_i_BitTop R u4).bind fun (r143_2_1, _) =>
    some ((imul .i64 u0 r143_1), ((imul .i64 u0 r143_2_1), ()))
  else
  (c_i_around R u4 u1 u2 u3).bind fun (r150_1, (r150b, _)) =>
  some (r150_1, (r150b, ()))
def p_i_some (R : Run) (n : Nat) (u0 : Int) (u1 : Int) : Option (Bool × (Int × (Int × Unit))) :=
  some (true, (u0, (u1, ())))
def p_s_FracOk (R : Run) (n : Nat) (u0 : Bool) (u1 : List Int) (u2 : List Int) : Option (Bool × Unit) :=
  jb (P := (((Bool × (Unit × (Bool × Unit)))) × (((Bool × (List Int × (List Int × Unit)))) × Unit))) (
      (c_s_NatOk R u1).bind fun (r68_1, _) =>
      bif (!r68_1) then
        some (.inr ((true, ((), (false, ()))), ((u0, (u1, (u2, ()))), ())))
      else
      (c_s_NatOk R u2).bind fun (r68_2_1, _) =>
      bif (!r68_2_1) then
        some (.inr ((true, ((), (false, ()))), ((u0, (u1, (u2, ()))), ())))
      else
      bif ((len u2) == 0) then
        some (.inr ((true, ((), (false, ()))), ((u0, (u1, (u2, ()))), ())))
      else
      bif ((len u1) == 0) then
        some (.inr ((u0, ((), (false, ()))), ((u0, (u1, (u2, ()))), ())))
      else
      some (.inr ((false, ((), (false, ()))), ((u0, (u1, (u2, ()))), ())))) fun ((t28, (_, (t2, _))), ((o0a, (o0b, (o0c, _))), _)) =>
  bif t28 then
    some (false, ())
  else
  (c_s_l5Gcd R o0b o0c).bind fun (r75_1, _) =>
  (c_s_l6One R r75_1).bind fun (r74_1, _) =>
  some (r74_1, ())
def p_s_l6Sum (R : Run) (n : Nat) (u0 : Bool) (u1 : List Int) (u2 : List Int) (u3 : Bool) (u4 : List Int) (u5 : List Int) : Option (Bool × (List Int × (List Int × Unit))) :=
  (c_s_l5Mul R u1 u5).bind fun (r69_1, _) =>
  (c_s_l5Mul R u4 u2).bind fun (r69_2_1, _) =>
  (c_s_l5Mul R u2 u5).bind fun (r69_3_1, _) =>
  bif (beqB u0 u3) then
    (c_s_l5Add R r69_1 r69_2_1).bind fun (r76_1, _) =>
    some (u0, (r76_1, (r69_3_1, ())))
  else
  (c_s_l5Cmp R r69_1 r69_2_1).bind fun (r77_1, _) =>
  bif (ile 0 r77_1) then
    (c_s_l5Sub R r69_1 r69_2_1).bind fun (r78_1, _) =>
    some (u0, (r78_1, (r69_3_1, ())))
  else
  (c_s_l5Sub R r69_2_1 r69_1).bind fun (r78_2_1, _) =>
  some (u3, (r78_2_1, (r69_3_1, ())))
def p_s_l6Neg (R : Run) (n : Nat) (u0 : Bool) (u1 : List Int) (u2 : List Int) : Option (Bool × (List Int × (List Int × Unit))) :=
  jb (P := (((Unit × Unit)) × (((Bool × (List Int × (List Int × Unit)))) × Unit))) (
      bif (!u0) then
        (c_s_l5Trim R u1).bind fun (r79_1, _) =>
        (c_s_l5Trim R u2).bind fun (r79_2_1, _) =>
        some (.inr (((), ()), (((ilt 0 (len u1)), (r79_1, (r79_2_1, ()))), ())))
      else
      (c_s_l5Trim R u1).bind fun (r79_3_1, _) =>
      (c_s_l5Trim R u2).bind fun (r79_4_1, _) =>
      some (.inr (((), ()), ((false, (r79_3_1, (r79_4_1, ()))), ())))) fun ((_, _), ((o0a, (o0b, (o0c, _))), _)) =>
  some (o0a, (o0b, (o0c, ())))
def p_i_limit_times (R : Run) (n : Nat) (u0 : Int) (u1 : Bool) (u2 : List Int) (u3 : List Int) (u4 : Int) (u5 : Bool) (u6 : List Int) (u7 : List Int) : Option (Int × (Bool × (List Int × (List Int × Unit)))) :=
  jb (P := (((Bool × (Unit × (Unit × (Unit × Unit))))) × (((Int × (Bool × (List Int × (List Int × Unit))))) × (((Int × (Bool × (List Int × (List Int × Unit))))) × (((Int × (Bool × (Unit × (Unit × Unit))))) × Unit))))) (
      bif (u0 != 0) then
        some (.inr ((true, ((), ((), ((), ())))), ((u0, (u1, (u2, (u3, ())))), ((u4, (u5, (u6, (u7, ())))), ((0, (false, ((), ((), ())))), ())))))
      else
      some (.inr (((u4 != 0), ((), ((), ((), ())))), ((u0, (u1, (u2, (u3, ())))), ((u4, (u5, (u6, (u7, ())))), ((0, (false, ((), ((), ())))), ())))))) fun ((t13, (_, (_, (_, _)))), ((o0a, (o0b, (o0c, (o0d, _)))), ((o1a, (o1b, (o1c, (o1d, _)))), ((o2a, (o2b, (_, (_, _)))), _)))) =>
  bif t13 then
    (c_i_limit_sign R o0a o0b o0c o0d).bind fun (r158_1, _) =>
    (c_i_limit_sign R o1a o1b o1c o1d).bind fun (r158_2_1, _) =>
    bif ((imul .i64 r158_1 r158_2_1) != 0) then
      some ((imul .i64 r158_1 r158_2_1), (false, ([], ([], ()))))
    else
    (c_i_whole R false []).bind fun (r132_1, (r132b, (r132c, _))) =>
    some (0, (r132_1, (r132b, (r132c, ()))))
  else
  (c_i_Frac_mul R o0b o0c o0d o1b o1c o1d).bind fun (r159_1, (r159b, (r159c, _))) =>
  some (0, (r159_1, (r159b, (r159c, ()))))
def p_s_l5Mul (R : Run) (n : Nat) (u0 : List Int) (u1 : List Int) : Option (List Int × Unit) :=
  ok (mkOk (iadd .i64 (len u0) (len u1)) (iadd .i64 (len u0) (len u1)) 8) <|
  iter (P := (((Int × (List Int × (List Int × (Unit × (Unit × Unit)))))) × (List Int × Unit))) (fun rec ((i6, (a0, (b1, (_, (_, _))))), (o0, _)) =>
      bif (ilt i6 (len a0)) then
        iter (P := (((Int × (List Int × (Unit × (Int × (List Int × (Int × (Unit × Unit)))))))) × (List Int × Unit))) (fun rec_1 ((j8, (b1_1, (_, (i6_1, (a0_1, (carry7, (_, _))))))), (o0_1, _)) =>
            bif (ilt j8 (len b1_1)) then
              ok (inB (iadd .i64 i6_1 j8) (len o0_1)) <|
              ok (inB i6_1 (len a0_1)) <|
              ok (inB j8 (len b1_1)) <|
              ok (inB (iadd .i64 i6_1 j8) (len o0_1)) <|
              rec_1 (((iadd .i64 j8 1), (b1_1, ((), (i6_1, (a0_1, ((iquo .i64 (iadd .i64 (iadd .i64 (List.getD o0_1 (Int.toNat (iadd .i64 i6_1 j8)) 0) (imul .i64 (List.getD a0_1 (Int.toNat i6_1) 0) (List.getD b1_1 (Int.toNat j8) 0))) carry7) 65536), ((), ()))))))), ((List.set o0_1 (Int.toNat (iadd .i64 i6_1 j8)) (irem .i64 (iadd .i64 (iadd .i64 (List.getD o0_1 (Int.toNat (iadd .i64 i6_1 j8)) 0) (imul .i64 (List.getD a0_1 (Int.toNat i6_1) 0) (List.getD b1_1 (Int.toNat j8) 0))) carry7) 65536)), ()))
            else
            ok (inB (iadd .i64 i6_1 (len b1_1)) (len o0_1)) <|
            rec (((iadd .i64 i6_1 1), (a0_1, (b1_1, ((), ((), ()))))), ((List.set o0_1 (Int.toNat (iadd .i64 i6_1 (len b1_1))) carry7), ()))) n ((0, (b1, ((), (i6, (a0, (0, ((), ()))))))), (o0, ()))
      else
      (c_s_l5Trim R o0).bind fun (r79_1, _) =>
      some (r79_1, ())) n ((0, (u0, (u1, ((), ((), ()))))), ((List.replicate (Int.toNat (iadd .i64 (len u0) (len u1))) 0), ()))
def p_i_divAbove (R : Run) (n : Nat) (u0 : Int) (u1 : Bool) (u2 : Int) (u3 : Int) (u4 : Bool) (u5 : Int) (u6 : Int) : Option (Bool × (Int × (Int × Unit))) :=
  bif (ile u6 0) then
    some (false, (0, (0, ())))
  else
  (c_i_limitOf R u0 u6).bind fun (r74_1, (r74b, (r74c, (r74d, _)))) =>
  (c_i_limitOf R u0 u2).bind fun (r74_2_1, (r74_2b, (r74_2c, (r74_2d, _)))) =>
  (c_i_limitOf R u0 u3).bind fun (r74_3_1, (r74_3b, (r74_3c, (r74_3d, _)))) =>
  (c_i_divAbove_1 R r74_2_1 r74_2b r74_2c r74_2d u4 u5 u6 u0).bind fun (r160_1, (r160b, (r160c, (r160d, (r160e, (r160f, (x, (x_1, _)))))))) =>
  ok (((beqB u4 r160e) && ((u5 == r160f) && ((u6 == x) && true))) && (((u0 == x_1) && true) && true)) <|
  (c_i_divAbove_1 R r74_3_1 r74_3b r74_3c r74_3d u4 u5 u6 u0).bind fun (r160_2_1, (r160_2b, (r160_2c, (r160_2d, (r160_2e, (r160_2f, (x_2, (x_3, _)))))))) =>
  ok (((beqB u4 r160_2e) && ((u5 == r160_2f) && ((u6 == x_2) && true))) && (((u0 == x_3) && true) && true)) <|
  jb (P := (((Unit × (Unit × (Unit × (Unit × (Unit × (Unit × Unit))))))) × (((Int × (Bool × (List Int × (List Int × Unit))))) × (((Int × (Bool × (List Int × (List Int × Unit))))) × (((Int × (Bool × (List Int × (List Int × Unit))))) × (((Int × (Bool × (List Int × (List Int × Unit))))) × (((Int × Unit)) × (((Bool × (Int × (Int × Unit)))) × Unit)))))))) (
      (c_i_limit_sign R r74_2_1 r74_2b r74_2c r74_2d).bind fun (r158_1, _) =>
      bif (ile 0 r158_1) then
        (c_i_limit_by R r74_2_1 r74_2b r74_2c r74_2d r74_1 r74b r74c r74d).bind fun (r161_1, (r161b, (r161c, (r161d, _)))) =>
        some (.inr (((), ((), ((), ((), ((), ((), ())))))), ((r74_3_1, (r74_3b, (r74_3c, (r74_3d, ())))), ((r74_1, (r74b, (r74c, (r74d, ())))), ((r160_2_1, (r160_2b, (r160_2c, (r160_2d, ())))), ((r161_1, (r161b, (r161c, (r161d, ())))), ((u0, ()), ((false, (0, (0, ()))), ()))))))))
      else
      some (.inr (((), ((), ((), ((), ((), ((), ())))))), ((r74_3_1, (r74_3b, (r74_3c, (r74_3d, ())))), ((r74_1, (r74b, (r74c, (r74d, ())))), ((r160_2_1, (r160_2b, (r160_2c, (r160_2d, ())))), ((r160_1, (r160b, (r160c, (r160d, ())))), ((u0, ()), ((false, (0, (0, ()))), ()))))))))) fun ((_, (_, (_, (_, (_, (_, _)))))), ((o0a, (o0b, (o0c, (o0d, _)))), ((o1a, (o1b, (o1c, (o1d, _)))), ((o2a, (o2b, (o2c, (o2d, _)))), ((o3a, (o3b, (o3c, (o3d, _)))), ((o4, _), ((o5a, (o5b, (o5c, _))), _))))))) =>
  jb (P := (((Unit × (Unit × (Unit × (Unit × Unit))))) × (((Int × (Bool × (List Int × (List Int × Unit))))) × (((Int × Unit)) × (((Int × (Bool × (List Int × (List Int × Unit))))) × (((Bool × (Int × (Int × Unit)))) × Unit)))))) (
      (c_i_limit_sign R o0a o0b o0c o0d).bind fun (r158_2_1, _) =>
      bif (ilt r158_2_1 0) then
        (c_i_limit_by R o0a o0b o0c o0d o1a o1b o1c o1d).bind fun (r161_2_1, (r161_2b, (r161_2c, (r161_2d, _)))) =>
        some (.inr (((), ((), ((), ((), ())))), ((o3a, (o3b, (o3c, (o3d, ())))), ((o4, ()), ((r161_2_1, (r161_2b, (r161_2c, (r161_2d, ())))), ((o5a, (o5b, (o5c, ()))), ()))))))
      else
      some (.inr (((), ((), ((), ((), ())))), ((o3a, (o3b, (o3c, (o3d, ())))), ((o4, ()), ((o2a, (o2b, (o2c, (o2d, ())))), ((o5a, (o5b, (o5c, ()))), ()))))))) fun ((_, (_, (_, (_, _)))), ((o0a_1, (o0b_1, (o0c_1, (o0d_1, _)))), ((o1, _), ((o2a_1, (o2b_1, (o2c_1, (o2d_1, _)))), ((o3a_1, (o3b_1, (o3c_1, _))), _))))) =>
  (c_i_limit_floats R o0a_1 o0b_1 o0c_1 o0d_1 o1).bind fun (r76_1, (r76b, _)) =>
  (c_i_limit_floats R o2a_1 o2b_1 o2c_1 o2d_1 o1).bind fun (r76_2_1, (r76_2b, _)) =>
  (c_i_some R r76_1 r76_2b).bind fun (r77_1, (r77b, (r77c, _))) =>
  some (r77_1, (r77b, (r77c, ())))
def p_s_l9Both (R : Run) (n : Nat) (u0 : Int) (u1 : Bool) (u2 : Int) (u3 : Int) (u4 : Bool) (u5 : Int) (u6 : Int) : Option (Bool × Unit) :=
  jb (P := (((Bool × Unit)) × Unit)) (
      (c_s_SpanOk R u0 u1 u2 u3).bind fun (r22_1, _) =>
      bif r22_1 then
        (c_s_SpanOk R u0 u4 u5 u6).bind fun (r22_2_1, _) =>
        bif r22_2_1 then
          bif u1 then
            some (.inr ((u4, ()), ()))
          else
          some (.inr ((false, ()), ()))
        else
        some (.inr ((false, ()), ()))
      else
      some (.inr ((false, ()), ()))) fun ((t6, _), _) =>
  some (t6, ())
def p_s_l9Part (R : Run) (n : Nat) (u0 : Int) (u1 : Bool) (u2 : Int) (u3 : Int) (u4 : Bool) (u5 : Int) (u6 : Int) : Option (Bool × (Int × (Int × Unit))) :=
  bif (ile u6 0) then
    some (false, (0, (0, ())))
  else
  (c_s_l3Max R u5 0).bind fun (r93_1, _) =>
  (c_s_BitTop R u0).bind fun (r99_1, _) =>
  jb (P := (((Int × (Unit × (Unit × (Int × (Int × (Unit × Unit))))))) × (((Bool × (Int × (Int × Unit)))) × (((Bool × (Int × (Int × Unit)))) × (((Bool × (Int × (Int × Unit)))) × Unit))))) (
      bif (ile 0 u2) then
        (c_s_l9Quot R u0 u2 u6 false).bind fun (r162_1, _) =>
        some (.inr ((u0, ((), ((), (r93_1, (r162_1, ((), ())))))), ((u1, (u2, (u3, ()))), ((u4, (u5, (u6, ()))), ((false, (0, (0, ()))), ())))))
      else
      bif (ilt 0 r93_1) then
        (c_s_l9Quot R u0 u2 r93_1 false).bind fun (r162_2_1, _) =>
        some (.inr ((u0, ((), ((), (r93_1, (r162_2_1, ((), ())))))), ((u1, (u2, (u3, ()))), ((u4, (u5, (u6, ()))), ((false, (0, (0, ()))), ())))))
      else
      some (.inr ((u0, ((), ((), (r93_1, ((ineg .i64 r99_1), ((), ())))))), ((u1, (u2, (u3, ()))), ((u4, (u5, (u6, ()))), ((false, (0, (0, ()))), ())))))) fun ((width0, (_, (_, (least7, (lo8, (_, _)))))), ((o0a, (o0b, (o0c, _))), ((o1a, (o1b, (o1c, _))), ((o2a, (o2b, (o2c, _))), _)))) =>
  (c_s_BitTop R width0).bind fun (r99_2_1, _) =>
  jb (P := (((Int × (Int × (Unit × Unit)))) × (((Bool × (Int × (Int × Unit)))) × Unit))) (
      bif (ile o0c 0) then
        (c_s_l9Quot R width0 o0c o1c true).bind fun (r162_3_1, _) =>
        some (.inr ((lo8, (r162_3_1, ((), ()))), ((o2a, (o2b, (o2c, ()))), ())))
      else
      bif (ilt 0 least7) then
        (c_s_l9Quot R width0 o0c least7 true).bind fun (r162_4_1, _) =>
        some (.inr ((lo8, (r162_4_1, ((), ()))), ((o2a, (o2b, (o2c, ()))), ())))
      else
      some (.inr ((lo8, (r99_2_1, ((), ()))), ((o2a, (o2b, (o2c, ()))), ())))) fun ((lo8_1, (hi9, (_, _))), ((o0a_1, (o0b_1, (o0c_1, _))), _)) =>
  (c_s_l9Of R lo8_1 hi9).bind fun (r91_1, (r91b, (r91c, _))) =>
  some (r91_1, (r91b, (r91c, ())))
def p_s_SpanNeg (R : Run) (n : Nat) (u0 : Int) (u1 : Bool) (u2 : Int) (u3 : Int) : Option (Bool × (Int × (Int × Unit))) :=
  jb (P := (((Bool × (Unit × (Unit × Unit)))) × (((Bool × (Int × (Int × Unit)))) × (((Bool × (Int × (Int × Unit)))) × Unit)))) (
      (c_s_SpanOk R u0 u1 u2 u3).bind fun (r90_1, _) =>
      bif (!r90_1) then
        some (.inr ((true, ((), ((), ()))), ((false, (0, (0, ()))), ((u1, (u2, (u3, ()))), ()))))
      else
      some (.inr (((!u1), ((), ((), ()))), ((false, (0, (0, ()))), ((u1, (u2, (u3, ()))), ()))))) fun ((t13, (_, (_, _))), ((o0a, (o0b, (o0c, _))), ((o1a, (o1b, (o1c, _))), _))) =>
  bif t13 then
    some (false, (0, (0, ())))
  else
  (c_s_l9Of R (ineg .i64 o1c) (ineg .i64 o1b)).bind fun (r91_1, (r91b, (r91c, _))) =>
  some (r91_1, (r91b, (r91c, ())))
def p_s_SpanMeet (R : Run) (n : Nat) (u0 : Int) (u1 : Bool) (u2 : Int) (u3 : Int) (u4 : Bool) (u5 : Int) (u6 : Int) : Option (Bool × (Int × (Int × Unit))) :=
  (c_s_l9Both R u0 u1 u2 u3 u4 u5 u6).bind fun (r54_1, _) =>
  bif (!r54_1) then
    some (false, (0, (0, ())))
  else
  (c_s_l9Pair R u1 u2 u3).bind fun (r53_1, (r53b, _)) =>
  (c_s_l9Pair R u4 u5 u6).bind fun (r53_2_1, (r53_2b, _)) =>
  (c_s_PairMeet R u0 r53_1 r53b r53_2_1 r53_2b).bind fun (r55_1, (r55b, (r55c, _))) =>
  bif (!r55c) then
    some (false, (0, (0, ())))
  else
  (c_s_l9Of R r55_1 r55b).bind fun (r34_1, (r34b, (r34c, _))) =>
  some (r34_1, (r34b, (r34c, ())))
def p_s_SpanOk (R : Run) (n : Nat) (u0 : Int) (u1 : Bool) (u2 : Int) (u3 : Int) : Option (Bool × Unit) :=
  bif (!u1) then
    jb (P := (((Int × (Unit × (Bool × Unit)))) × (((Bool × (Int × (Int × Unit)))) × Unit))) (
        (c_s_l1Width R u0).bind fun (r52_1, _) =>
        bif r52_1 then
          bif (u2 == 0) then
            some (.inr ((u0, ((), ((u3 == 0), ()))), ((u1, (u2, (u3, ()))), ())))
          else
          some (.inr ((u0, ((), (false, ()))), ((u1, (u2, (u3, ()))), ())))
        else
        some (.inr ((u0, ((), (false, ()))), ((u1, (u2, (u3, ()))), ())))) fun ((width0, (_, (t4, _))), ((o0a, (o0b, (o0c, _))), _)) =>
    some (t4, ())
  else
  (c_s_l9Pair R u1 u2 u3).bind fun (r53_1, (r53b, _)) =>
  (c_s_PairOk R u0 r53_1 r53b).bind fun (r33_1, _) =>
  some (r33_1, ())
def p_s_l9Of (R : Run) (n : Nat) (u0 : Int) (u1 : Int) : Option (Bool × (Int × (Int × Unit))) :=
  some (true, (u0, (u1, ())))
def p_s_l3Min (R : Run) (n : Nat) (u0 : Int) (u1 : Int) : Option (Int × Unit) :=
  bif (ilt u0 u1) then
    some (u0, ())
  else
  some (u1, ())
def p_s_l3Max (R : Run) (n : Nat) (u0 : Int) (u1 : Int) : Option (Int × Unit) :=
  bif (ilt u1 u0) then
    some (u0, ())
  else
  some (u1, ())
def p_s_SpanHas (R : Run) (n : Nat) (u0 : Int) (u1 : Bool) (u2 : Int) (u3 : Int) (u4 : Bool) (u5 : List Int) (u6 : List Int) : Option (Bool × Unit) :=
  jb (P := (((Bool × Unit)) × Unit)) (
      bif u1 then
        (c_s_l9Pair R u1 u2 u3).bind fun (r53_1, (r53b, _)) =>
        (c_s_PairHas R u0 r53_1 r53b u4 u5 u6).bind fun (r59_1, _) =>
        some (.inr ((r59_1, ()), ()))
      else
      some (.inr ((false, ()), ()))) fun ((t6, _), _) =>
  some (t6, ())
def p_i_Span_zero (R : Run) (n : Nat) (u0 : Bool) (u1 : Int) (u2 : Int) : Option (Bool × Unit) :=
  jb (P := (((Bool × Unit)) × Unit)) (
      bif (ile u1 0) then
        some (.inr (((ile 0 u2), ()), ()))
      else
      some (.inr ((false, ()), ()))) fun ((t2, _), _) =>
  some (t2, ())
def p_i_backParts (R : Run) (n : Nat) (u0 : Int) (u1 : Bool) (u2 : Int) (u3 : Int) (u4 : Bool) (u5 : Int) (u6 : Int) (u7 : Bool) (u8 : Int) (u9 : Int) : Option (Bool × (Int × (Int × (Bool × (Int × (Int × Unit)))))) :=
  (c_i_SpanDivTwo R u0 u1 u2 u3 u4 u5 u6).bind fun (r23_1, (r23b, (r23c, (r23d, (r23e, (r23f, _)))))) =>
  (c_i_SpanMeet R u0 u7 u8 u9 r23_1 r23b r23c).bind fun (r109_1, (r109b, (r109c, _))) =>
  (c_i_SpanMeet R u0 u7 u8 u9 r23d r23e r23f).bind fun (r109_2_1, (r109_2b, (r109_2c, _))) =>
  some (r109_1, (r109b, (r109c, (r109_2_1, (r109_2b, (r109_2c, ()))))))
def p_s_BitTop (R : Run) (n : Nat) (u0 : Int) : Option (Int × Unit) :=
  bif (u0 == 32) then
    some (2139095040, ())
  else
  bif (u0 == 64) then
    some (9218868437227405312, ())
  else
  some (0, ())
def p_i_BitOk (R : Run) (n : Nat) (u0 : Int) (u1 : Int) : Option (Bool × Unit) :=
  (c_i_formatOf R u0).bind fun (r46_1, (r46b, (r46c, (r46d, (r46e, _))))) =>
  jb (P := (((Bool × Unit)) × Unit)) (
      bif r46e then
        (c_i_in R u1 (ineg .i64 r46d) r46d).bind fun (r18_1, _) =>
        some (.inr ((r18_1, ()), ()))
      else
      some (.inr ((false, ()), ()))) fun ((t4, _), _) =>
  some (t4, ())
def p_s_l31Rd_within (R : Run) (n : Nat) (u0 : List Int) (u1 : Int) (u2 : Int) (u3 : Int) (u4 : Int) : Option (Int × (Int × (List Int × (Int × Unit)))) :=
  (c_s_BitGap R u3 u4).bind fun (r136_1, _) =>
  jb (P := (((Bool × (Unit × (Int × (Unit × (Int × (Unit × Unit))))))) × (((List Int × (Int × Unit))) × (((Int × (Int × Unit))) × (((Int × (Int × Unit))) × Unit))))) (
      bif (r136_1 == 0) then
        some (.inr ((true, ((), (u2, ((), (r136_1, ((), ())))))), ((u0, (u1, ())), ((0, (0, ())), ((u3, (u4, ())), ())))))
      else
      (c_s_l31Rd_pick R u0 u1 16).bind fun (r121_1, (r121b, (r121c, _))) =>
      some (.inr (((r121_1 == 0), ((), (u2, ((), (r136_1, ((), ())))))), ((r121b, (r121c, ())), ((0, (0, ())), ((u3, (u4, ())), ())))))) fun ((t21, (_, (width1, (_, (g7, (_, _)))))), ((o0a, (o0b, _)), ((o1a, (o1b, _)), ((o2a, (o2b, _)), _)))) =>
  bif t21 then
    (c_s_l31Rd_pair R o0a o0b width1).bind fun (r171_1, (r171b, (r171c, (r171d, _)))) =>
    some (r171_1, (r171b, (r171c, (r171d, ()))))
  else
  (c_s_l31Rd_big R o0a o0b).bind fun (r172_1, (r172b, (r172c, _))) =>
  ok (!((iadd .u64 g7 1) == 0)) <|
  (c_s_l31Rd_big R r172b r172c).bind fun (r172_2_1, (r172_2b, (r172_2c, _))) =>
  ok (!((iadd .u64 g7 1) == 0)) <|
  jb (P := (((Int × (Int × (Unit × (Unit × (Unit × Unit)))))) × (((List Int × (Int × Unit))) × (((Int × (Int × Unit))) × (((Int × (Int × Unit))) × Unit))))) (
      (c_s_l31Rd_pick R r172_2b r172_2c 5).bind fun (r121_2_1, (r121_2b, (r121_2c, _))) =>
      bif (r121_2_1 == 0) then
        (c_s_l31Rd_pick R r121_2b r121_2c 3).bind fun (r121_3_1, (r121_3b, (r121_3c, _))) =>
        ok (!((iadd .u64 g7 1) == 0)) <|
        some (.inr (((irem .u64 (IntKind.wrap .u64 r121_3_1) (iadd .u64 g7 1)), ((irem .u64 r172_2_1 (iadd .u64 g7 1)), ((), ((), ((), ()))))), ((r121_3b, (r121_3c, ())), ((o2a, (o2b, ())), ((o1a, (o1b, ())), ())))))
      else
      bif (r121_2_1 == 1) then
        (c_s_l31Rd_pick R r121_2b r121_2c 3).bind fun (r121_4_1, (r121_4b, (r121_4c, _))) =>
        ok (!((iadd .u64 g7 1) == 0)) <|
        some (.inr (((irem .u64 r172_1 (iadd .u64 g7 1)), ((isub .u64 g7 (irem .u64 (IntKind.wrap .u64 r121_4_1) (iadd .u64 g7 1))), ((), ((), ((), ()))))), ((r121_4b, (r121_4c, ())), ((o2a, (o2b, ())), ((o1a, (o1b, ())), ())))))
      else
      bif (r121_2_1 == 2) then
        some (.inr (((irem .u64 r172_1 (iadd .u64 g7 1)), ((iadd .u64 (irem .u64 r172_1 (iadd .u64 g7 1)) 1), ((), ((), ((), ()))))), ((r121_2b, (r121_2c, ())), ((o2a, (o2b, ())), ((o1a, (o1b, ())), ())))))
      else
      some (.inr (((irem .u64 r172_1 (iadd .u64 g7 1)), ((irem .u64 r172_2_1 (iadd .u64 g7 1)), ((), ((), ((), ()))))), ((r121_2b, (r121_2c, ())), ((o2a, (o2b, ())), ((o1a, (o1b, ())), ())))))) fun ((a8, (b9, (_, (_, (_, _))))), ((o0a_1, (o0b_1, _)), ((o1a_1, (o1b_1, _)), ((o2a_1, (o2b_1, _)), _)))) =>
  jb (P := (((Unit × (Int × (Int × (Unit × (Unit × Unit)))))) × (((Int × (Int × Unit))) × (((Int × (Int × Unit))) × (((List Int × (Int × Unit))) × Unit))))) (
      jb (P := (((Bool × (Int × (Int × (Unit × (Unit × (Unit × Unit))))))) × (((Int × (Int × Unit))) × (((Int × (Int × Unit))) × (((List Int × (Int × Unit))) × Unit))))) (
          bif (ilt b9 a8) then
            (c_s_l31Rd_pick R o0a_1 o0b_1 12).bind fun (r121_5_1, (r121_5b, (r121_5c, _))) =>
            some (.inr (((ilt 0 r121_5_1), (b9, (a8, ((), ((), ((), ())))))), ((o1a_1, (o1b_1, ())), ((o2a_1, (o2b_1, ())), ((r121_5b, (r121_5c, ())), ())))))
          else
          some (.inr ((false, (b9, (a8, ((), ((), ((), ())))))), ((o1a_1, (o1b_1, ())), ((o2a_1, (o2b_1, ())), ((o0a_1, (o0b_1, ())), ())))))) fun ((t66, (b9_1, (a8_1, (_, (_, (_, _)))))), ((o0a_2, (o0b_2, _)), ((o1a_2, (o1b_2, _)), ((o2a_2, (o2b_2, _)), _)))) =>
      bif t66 then
        some (.inr (((), (b9_1, (a8_1, ((), ((), ()))))), ((o0a_2, (o0b_2, ())), ((o1a_2, (o1b_2, ())), ((o2a_2, (o2b_2, ())), ())))))
      else
      some (.inr (((), (a8_1, (b9_1, ((), ((), ()))))), ((o0a_2, (o0b_2, ())), ((o1a_2, (o1b_2, ())), ((o2a_2, (o2b_2, ())), ())))))) fun ((_, (a8_2, (b9_2, (_, (_, _))))), ((o0a_3, (o0b_3, _)), ((o1a_3, (o1b_3, _)), ((o2a_3, (o2b_3, _)), _)))) =>
  some ((IntKind.wrap .i64 (iadd .u64 (IntKind.wrap .u64 o0a_3) a8_2)), ((IntKind.wrap .i64 (iadd .u64 (IntKind.wrap .u64 o0a_3) b9_2)), (o2a_3, (o2b_3, ()))))
def p_s_l9Pair (R : Run) (n : Nat) (u0 : Bool) (u1 : Int) (u2 : Int) : Option (Int × (Int × Unit)) :=
  some (u1, (u2, ()))
def p_s_PairOk (R : Run) (n : Nat) (u0 : Int) (u1 : Int) (u2 : Int) : Option (Bool × Unit) :=
  (c_s_BitTop R u0).bind fun (r36_1, _) =>
  jb (P := (((Bool × Unit)) × Unit)) (
      (c_s_BitOk R u0 u1).bind fun (r62_1, _) =>
      bif r62_1 then
        (c_s_BitOk R u0 u2).bind fun (r62_2_1, _) =>
        bif r62_2_1 then
          bif (ile u1 u2) then
            bif (ilt u1 r36_1) then
              some (.inr (((ilt (ineg .i64 r36_1) u2), ()), ()))
            else
            some (.inr ((false, ()), ()))
          else
          some (.inr ((false, ()), ()))
        else
        some (.inr ((false, ()), ()))
      else
      some (.inr ((false, ()), ()))) fun ((t4, _), _) =>
  some (t4, ())
def p_s_PairIs (R : Run) (n : Nat) (u0 : Int) (u1 : Int) (u2 : Int) (u3 : Int) : Option (Bool × Unit) :=
  jb (P := (((Bool × Unit)) × Unit)) (
      bif (ile u2 u0) then
        some (.inr (((ile u1 u3), ()), ()))
      else
      some (.inr ((false, ()), ()))) fun ((t4, _), _) =>
  some (t4, ())
def p_i_in (R : Run) (n : Nat) (u0 : Int) (u1 : Int) (u2 : Int) : Option (Bool × Unit) :=
  jb (P := (((Bool × Unit)) × Unit)) (
      bif (ile u1 u0) then
        some (.inr (((ile u0 u2), ()), ()))
      else
      some (.inr ((false, ()), ()))) fun ((t6, _), _) =>
  some (t6, ())
def p_i_power (R : Run) (n : Nat) (u0 : Int) (u1 : Int) (u2 : Int) : Option (Int × (Int × Unit)) :=
  (c_i_limitOf R u0 u1).bind fun (r74_1, (r74b, (r74c, (r74d, _)))) =>
  jb (P := (((Unit × (Int × (Int × (Int × Unit))))) × (((Int × (Bool × (List Int × (List Int × Unit))))) × Unit))) (
      bif (u2 == 0) then
        (c_i_whole R false [1]).bind fun (r132_1, (r132b, (r132c, _))) =>
        (c_i_around R u0 r132_1 r132b r132c).bind fun (r150_1, (r150b, _)) =>
        some (.inl (r150_1, (r150b, ())))
      else
      jb (P := (((Bool × (Unit × (Int × (Int × (Int × (Int × Unit))))))) × (((Int × (Bool × (List Int × (List Int × Unit))))) × Unit))) (
          bif (ilt r74_1 0) then
            some (.inr ((((irem .i64 u2 2) == 0), ((), (u2, (u0, (0, (0, ())))))), ((r74_1, (r74b, (r74c, (r74d, ())))), ())))
          else
          some (.inr ((false, ((), (u2, (u0, (0, (0, ())))))), ((r74_1, (r74b, (r74c, (r74d, ())))), ())))) fun ((t21, (_, (n2, (width0, (t6, (t7, _)))))), ((o0a, (o0b, (o0c, (o0d, _)))), _)) =>
      bif t21 then
        some (.inr (((), (width0, (t6, (t7, ())))), ((1, (o0b, (o0c, (o0d, ())))), ())))
      else
      bif (o0a == 0) then
        (c_i_Frac_pow R o0b o0c o0d n2).bind fun (r173_1, (r173b, (r173c, _))) =>
        some (.inr (((), (width0, (t6, (t7, ())))), ((o0a, (r173_1, (r173b, (r173c, ())))), ())))
      else
      some (.inr (((), (width0, (t6, (t7, ())))), ((o0a, (o0b, (o0c, (o0d, ())))), ())))) fun ((_, (width0_1, (t6_1, (t7_1, _)))), ((o0a_1, (o0b_1, (o0c_1, (o0d_1, _)))), _)) =>
  (c_i_limit_floats R o0a_1 o0b_1 o0c_1 o0d_1 width0_1).bind fun (r76_1, (r76b, _)) =>
  some (r76_1, (r76b, ()))
def p_i_SpanMeet (R : Run) (n : Nat) (u0 : Int) (u1 : Bool) (u2 : Int) (u3 : Int) (u4 : Bool) (u5 : Int) (u6 : Int) : Option (Bool × (Int × (Int × Unit))) :=
  (c_i_full R u0 [(u1, (u2, (u3, ()))), (u4, (u5, (u6, ())))]).bind fun (r26_1, _) =>
  bif (!r26_1) then
    some (false, (0, (0, ())))
  else
  (c_i_some R (imax u2 u5) (imin u3 u6)).bind fun (r27_1, (r27b, (r27c, _))) =>
  (c_i_SpanOk R u0 r27_1 r27b r27c).bind fun (r17_1, _) =>
  bif (!r17_1) then
    some (false, (0, (0, ())))
  else
  some (r27_1, (r27b, (r27c, ())))
def p_i_from (R : Run) (n : Nat) (u0 : Int) (u1 : Int) : Option (Bool × (Int × (Int × Unit))) :=
  (c_i_BitTop R u0).bind fun (r28_1, _) =>
  (c_i_some R u1 r28_1).bind fun (r27_1, (r27b, (r27c, _))) =>
  some (r27_1, (r27b, (r27c, ())))
def p_i_rootDown (R : Run) (n : Nat) (u0 : Int) (u1 : Int) (u2 : Int) : Option (Int × Unit) :=
  bif (ilt u1 0) then
    (c_i_rootUp R u0 (ineg .i64 u1) u2).bind fun (r112_1, _) =>
    some ((ineg .i64 r112_1), ())
  else
  (c_i_BitTop R u0).bind fun (r143_1, _) =>
  bif (u1 == r143_1) then
    some (u1, ())
  else
  (c_i_root R u0 u1 u2).bind fun (r174_1, (r174b, _)) =>
  some (r174_1, ())
def p_i_rootUp (R : Run) (n : Nat) (u0 : Int) (u1 : Int) (u2 : Int) : Option (Int × Unit) :=
  bif (ilt u1 0) then
    (c_i_rootDown R u0 (ineg .i64 u1) u2).bind fun (r111_1, _) =>
    some ((ineg .i64 r111_1), ())
  else
  (c_i_BitTop R u0).bind fun (r143_1, _) =>
  bif (u1 == r143_1) then
    some (u1, ())
  else
  (c_i_root R u0 u1 u2).bind fun (r174_1, (r174b, _)) =>
  jb (P := (((Int × (Int × Unit))) × Unit)) (
      bif (!r174b) then
        some (.inr (((iadd .i64 r174_1 1), (0, ())), ()))
      else
      some (.inr ((r174_1, (0, ())), ()))) fun ((r7, (t6, _)), _) =>
  some (r7, ())
def p_i_size (R : Run) (n : Nat) (u0 : Int) : Option (Int × Unit) :=
  some ((imax u0 (ineg .i64 u0)), ())
def p_s_NatPow (R : Run) (n : Nat) (u0 : List Int) (u1 : Int) : Option (List Int × (Bool × Unit)) :=
  jb (P := (((Bool × (Int × (List Int × (Unit × (Bool × Unit)))))) × Unit)) (
      (c_s_NatOk R u0).bind fun (r151_1, _) =>
      bif (!r151_1) then
        some (.inr ((true, (u1, (u0, ((), (false, ()))))), ()))
      else
      bif (ilt u1 0) then
        some (.inr ((true, (u1, (u0, ((), (false, ()))))), ()))
      else
      some (.inr (((ilt 64 u1), (u1, (u0, ((), (false, ()))))), ()))) fun ((t18, (n1, (a0, (_, (t5, _))))), _) =>
  bif t18 then
    some ([], (false, ()))
  else
  iter (P := (((Int × (Int × (List Int × (List Int × (Unit × (Bool × Unit))))))) × Unit)) (fun rec ((i7, (n1_1, (out6, (a0_1, (_, (t5_1, _)))))), _) =>
      bif (ilt i7 n1_1) then
        (c_s_l5Mul R out6 a0_1).bind fun (r84_1, _) =>
        bif (ilt 256 (len r84_1)) then
          some ([], (false, ()))
        else
        rec (((iadd .i64 i7 1), (n1_1, (r84_1, (a0_1, ((), (t5_1, ())))))), ())
      else
      some (out6, (true, ()))) n ((0, (n1, ([1], (a0, ((), (t5, ())))))), ())
def p_s_l5Trim (R : Run) (n : Nat) (u0 : List Int) : Option (List Int × Unit) :=
  iter (P := (((Int × (List Int × (Unit × Unit)))) × Unit)) (fun rec ((n3, (a0, (_, _))), _) =>
      jb (P := (((Bool × (Int × (List Int × (Unit × Unit))))) × Unit)) (
          bif (ilt 0 n3) then
            ok (inB (isub .i64 n3 1) (len a0)) <|
            some (.inr ((((List.getD a0 (Int.toNat (isub .i64 n3 1)) 0) == 0), (n3, (a0, ((), ())))), ()))
          else
          some (.inr ((false, (n3, (a0, ((), ())))), ()))) fun ((t17, (n3_1, (a0_1, (_, _)))), _) =>
      bif t17 then
        rec (((isub .i64 n3_1 1), (a0_1, ((), ()))), ())
      else
      iter (P := (((Int × (Int × (Unit × (List Int × (Unit × Unit)))))) × (List Int × Unit))) (fun rec_1 ((i5, (n3_2, (_, (a0_2, (_, _))))), (o0, _)) =>
          bif (ilt i5 n3_2) then
            ok (inB i5 (len a0_2)) <|
            ok (aok (o0 ++ [(List.getD a0_2 (Int.toNat i5) 0)]) 8) <|
            rec_1 (((iadd .i64 i5 1), (n3_2, ((), (a0_2, ((), ()))))), ((o0 ++ [(List.getD a0_2 (Int.toNat i5) 0)]), ()))
          else
          some (o0, ())) n ((0, (n3_1, ((), (a0_1, ((), ()))))), ([], ()))) n (((len u0), (u0, ((), ()))), ())
def p_i_SpanOk (R : Run) (n : Nat) (u0 : Int) (u1 : Bool) (u2 : Int) (u3 : Int) : Option (Bool × Unit) :=
  (c_i_formatOf R u0).bind fun (r46_1, (r46b, (r46c, (r46d, (r46e, _))))) =>
  jb (P := (((Bool × Unit)) × Unit)) (
      bif r46e then
        bif u1 then
          (c_i_PairOk R u0 u2 u3).bind fun (r47_1, _) =>
          bif r47_1 then
            some (.inr ((true, ()), ()))
          else
          some (.inr ((((beqB u1 false) && ((u2 == 0) && ((u3 == 0) && true))), ()), ()))
        else
        some (.inr ((((beqB u1 false) && ((u2 == 0) && ((u3 == 0) && true))), ()), ()))
      else
      some (.inr ((false, ()), ()))) fun ((t4, _), _) =>
  some (t4, ())
def p_s_l31Rd_ord (R : Run) (n : Nat) (u0 : List Int) (u1 : Int) (u2 : Int) : Option (Int × (List Int × (Int × Unit))) :=
  (c_s_BitTop R u2).bind fun (r36_1, _) =>
  jb (P := (((Unit × (Int × (Int × (Int × Unit))))) × (((List Int × (Int × Unit))) × Unit))) (
      (c_s_l31Rd_pick R u0 u1 10).bind fun (r31_1, (r31b, (r31c, _))) =>
      bif (r31_1 == 0) then
        (c_s_l31Rd_pick R r31b r31c 6).bind fun (r31_2_1, (r31_2b, (r31_2c, _))) =>
        some (.inr (((), (r36_1, (r31_2_1, (0, ())))), ((r31_2b, (r31_2c, ())), ())))
      else
      bif (r31_1 == 1) then
        (c_s_l31Rd_pick R r31b r31c 6).bind fun (r31_3_1, (r31_3b, (r31_3c, _))) =>
        some (.inr (((), (r36_1, ((isub .i64 r36_1 r31_3_1), (0, ())))), ((r31_3b, (r31_3c, ())), ())))
      else
      jb (P := (((Bool × (Unit × (Int × (Int × (Int × (Int × (Int × Unit)))))))) × (((List Int × (Int × Unit))) × Unit))) (
          bif (r31_1 == 2) then
            some (.inr ((true, ((), (u2, (r31_1, (r36_1, (0, (0, ()))))))), ((r31b, (r31c, ())), ())))
          else
          some (.inr (((r31_1 == 3), ((), (u2, (r31_1, (r36_1, (0, (0, ()))))))), ((r31b, (r31c, ())), ())))) fun ((t31, (_, (width1, (t10, (top5, (n6, (t4, _))))))), ((o0a, (o0b, _)), _)) =>
      bif t31 then
        (c_s_l31Rd_pick R o0a o0b 2048).bind fun (r31_4_1, (r31_4b, (r31_4c, _))) =>
        (c_s_l31Rd_pick R r31_4b r31_4c 4).bind fun (r31_5_1, (r31_5b, (r31_5c, _))) =>
        bif (width1 == 32) then
          (c_s_l31Rd_pick R r31_5b r31_5c 256).bind fun (r31_6_1, (r31_6b, (r31_6c, _))) =>
          (c_s_l31Rd_pick R r31_6b r31_6c 4).bind fun (r31_7_1, (r31_7b, (r31_7c, _))) =>
          some (.inr (((), (top5, ((isub .i64 (iadd .i64 (ishl .i64 r31_6_1 23) r31_7_1) 1), (t4, ())))), ((r31_7b, (r31_7c, ())), ())))
        else
        some (.inr (((), (top5, ((isub .i64 (iadd .i64 (ishl .i64 r31_4_1 52) r31_5_1) 1), (t4, ())))), ((r31_5b, (r31_5c, ())), ())))
      else
      bif (t10 == 4) then
        (c_s_l31Rd_pick R o0a o0b 1048576).bind fun (r31_8_1, (r31_8b, (r31_8c, _))) =>
        some (.inr (((), (top5, (r31_8_1, (t4, ())))), ((r31_8b, (r31_8c, ())), ())))
      else
      (c_s_l31Rd_big R o0a o0b).bind fun (r82_1, (r82b, (r82c, _))) =>
      bif (ilt 0 top5) then
        ok (!((iadd .i64 top5 1) == 0)) <|
        some (.inr (((), (top5, ((irem .i64 (IntKind.wrap .i64 (ishr .u64 r82_1 1)) (iadd .i64 top5 1)), (t4, ())))), ((r82b, (r82c, ())), ())))
      else
      some (.inr (((), (top5, ((IntKind.wrap .i64 (ishr .u64 r82_1 1)), (t4, ())))), ((r82b, (r82c, ())), ())))) fun ((_, (top5_1, (n6_1, (t4_1, _)))), ((o0a_1, (o0b_1, _)), _)) =>
  jb (P := (((Unit × (Int × (Int × Unit)))) × (((List Int × (Int × Unit))) × Unit))) (
      (c_s_l31Rd_pick R o0a_1 o0b_1 40).bind fun (r31_9_1, (r31_9b, (r31_9c, _))) =>
      bif (r31_9_1 == 0) then
        (c_s_l31Rd_pick R r31_9b r31_9c 3).bind fun (r31_10_1, (r31_10b, (r31_10c, _))) =>
        some (.inr (((), ((iadd .i64 (iadd .i64 top5_1 1) r31_10_1), (t4_1, ()))), ((r31_10b, (r31_10c, ())), ())))
      else
      bif (ilt top5_1 n6_1) then
        some (.inr (((), (top5_1, (t4_1, ()))), ((r31_9b, (r31_9c, ())), ())))
      else
      some (.inr (((), (n6_1, (t4_1, ()))), ((r31_9b, (r31_9c, ())), ())))) fun ((_, (n6_2, (t4_2, _))), ((o0a_2, (o0b_2, _)), _)) =>
  (c_s_l31Rd_pick R o0a_2 o0b_2 2).bind fun (r31_11_1, (r31_11b, (r31_11c, _))) =>
  bif (r31_11_1 == 0) then
    some ((ineg .i64 n6_2), (r31_11b, (r31_11c, ())))
  else
  some (n6_2, (r31_11b, (r31_11c, ())))
def p_s_l31Rd_pick (R : Run) (n : Nat) (u0 : List Int) (u1 : Int) (u2 : Int) : Option (Int × (List Int × (Int × Unit))) :=
  jb (P := (((Bool × (Unit × (Int × (Int × Unit))))) × (((List Int × (Int × Unit))) × Unit))) (
      bif (ilt u2 1) then
        some (.inr ((true, ((), (u2, (0, ())))), ((u0, ((iadd .i64 u1 1), ())), ())))
      else
      some (.inr ((((len u0) == 0), ((), (u2, (0, ())))), ((u0, ((iadd .i64 u1 1), ())), ())))) fun ((t24, (_, (n1, (t4, _)))), ((o0a, (o0b, _)), _)) =>
  bif t24 then
    some (0, (o0a, (o0b, ())))
  else
  bif (ilt (isub .i64 o0b 1) (len o0a)) then
    ok (inB (isub .i64 o0b 1) (len o0a)) <|
    ok (!(n1 == 0)) <|
    some ((irem .i64 (IntKind.wrap .i64 (List.getD o0a (Int.toNat (isub .i64 o0b 1)) 0)) n1), (o0a, (o0b, ())))
  else
  ok (!((len o0a) == 0)) <|
  ok (inB (irem .i64 (isub .i64 o0b 1) (len o0a)) (len o0a)) <|
  ok (!((len o0a) == 0)) <|
  ok (inB (irem .i64 (iadd .i64 (imul .i64 (isub .i64 o0b 1) 7) 3) (len o0a)) (len o0a)) <|
  ok (!((len o0a) == 0)) <|
  ok (!(n1 == 0)) <|
  some ((irem .i64 (ixor .i64 (iadd .i64 (iadd .i64 (iadd .i64 (imul .i64 (IntKind.wrap .i64 (List.getD o0a (Int.toNat (irem .i64 (isub .i64 o0b 1) (len o0a))) 0)) 131) (imul .i64 (IntKind.wrap .i64 (List.getD o0a (Int.toNat (irem .i64 (iadd .i64 (imul .i64 (isub .i64 o0b 1) 7) 3) (len o0a))) 0)) 1117)) (imul .i64 (isub .i64 o0b 1) 29)) (imul .i64 (iquo .i64 (isub .i64 o0b 1) (len o0a)) 53)) (iquo .i64 (iadd .i64 (iadd .i64 (iadd .i64 (imul .i64 (IntKind.wrap .i64 (List.getD o0a (Int.toNat (irem .i64 (isub .i64 o0b 1) (len o0a))) 0)) 131) (imul .i64 (IntKind.wrap .i64 (List.getD o0a (Int.toNat (irem .i64 (iadd .i64 (imul .i64 (isub .i64 o0b 1) 7) 3) (len o0a))) 0)) 1117)) (imul .i64 (isub .i64 o0b 1) 29)) (imul .i64 (iquo .i64 (isub .i64 o0b 1) (len o0a)) 53)) 64)) n1), (o0a, (o0b, ())))
def p_s_l1Width (R : Run) (n : Nat) (u0 : Int) : Option (Bool × Unit) :=
  jb (P := (((Bool × Unit)) × Unit)) (
      bif (u0 == 32) then
        some (.inr ((true, ()), ()))
      else
      some (.inr (((u0 == 64), ()), ()))) fun ((t2, _), _) =>
  some (t2, ())
def p_s_l31Rd_nice (R : Run) (n : Nat) (u0 : List Int) (u1 : Int) (u2 : Int) : Option (Int × (List Int × (Int × Unit))) :=
  (c_s_l31Rd_pick R u0 u1 9).bind fun (r31_1, (r31b, (r31c, _))) =>
  (c_s_l3Max R (isub .i64 r31_1 3) (ineg .i64 (isub .i64 r31_1 3))).bind fun (r38_1, _) =>
  (c_s_NatOf R (IntKind.wrap .u64 r38_1)).bind fun (r67_1, _) =>
  (c_s_l31Rd_pick R r31b r31c 6).bind fun (r31_2_1, (r31_2b, (r31_2c, _))) =>
  ok (inB r31_2_1 (len [1, 1, 2, 4, 3, 10])) <|
  (c_s_FracOf R (ilt (isub .i64 r31_1 3) 0) r67_1 [(List.getD [1, 1, 2, 4, 3, 10] (Int.toNat r31_2_1) 0)]).bind fun (r43_1, (r43b, (r43c, (r43d, _)))) =>
  (c_s_l31Rd_pick R r31_2b r31_2c 2).bind fun (r31_3_1, (r31_3b, (r31_3c, _))) =>
  bif (r31_3_1 == 0) then
    (c_s_l8Frac R r43_1 r43b r43c).bind fun (r81_1, (r81b, (r81c, _))) =>
    (c_s_l8Round R u2 r81_1 r81b r81c true).bind fun (r63_1, _) =>
    some (r63_1, (r31_3b, (r31_3c, ())))
  else
  (c_s_l8Frac R r43_1 r43b r43c).bind fun (r81_2_1, (r81_2b, (r81_2c, _))) =>
  (c_s_l8Round R u2 r81_2_1 r81_2b r81_2c false).bind fun (r63_2_1, _) =>
  some (r63_2_1, (r31_3b, (r31_3c, ())))
def p_s_NatOf (R : Run) (n : Nat) (u0 : Int) : Option (List Int × Unit) :=
  iter (P := (((Int × (Unit × (Unit × Unit)))) × (List Int × Unit))) (fun rec ((n0, (_, (_, _))), (o0, _)) =>
      bif (ilt 0 n0) then
        ok (aok (o0 ++ [(IntKind.wrap .i64 (irem .u64 n0 65536))]) 8) <|
        rec (((iquo .u64 n0 65536), ((), ((), ()))), ((o0 ++ [(IntKind.wrap .i64 (irem .u64 n0 65536))]), ()))
      else
      some (o0, ())) n ((u0, ((), ((), ()))), ([], ()))
def p_s_l9Mul (R : Run) (n : Nat) (u0 : Int) (u1 : Int) (u2 : Int) (u3 : Bool) : Option (Int × Unit) :=
  jb (P := (((Bool × (Int × (Int × (Int × (Bool × (Int × Unit))))))) × Unit)) (
      bif (u1 == 0) then
        some (.inr ((true, (u1, (u2, (u0, (u3, (0, ())))))), ()))
      else
      some (.inr (((u2 == 0), (u1, (u2, (u0, (u3, (0, ())))))), ()))) fun ((t17, (a1, (b2, (width0, (up3, (t8, _)))))), _) =>
  bif t17 then
    some (0, ())
  else
  jb (P := (((Bool × (Bool × (Int × (Int × (Int × (Bool × (Int × Unit)))))))) × Unit)) (
      (c_s_l9Infinite R width0 a1).bind fun (r182_1, _) =>
      bif r182_1 then
        some (.inr ((true, ((!(beqB (ilt a1 0) (ilt b2 0))), (width0, (a1, (b2, (up3, (t8, ()))))))), ()))
      else
      (c_s_l9Infinite R width0 b2).bind fun (r182_2_1, _) =>
      some (.inr ((r182_2_1, ((!(beqB (ilt a1 0) (ilt b2 0))), (width0, (a1, (b2, (up3, (t8, ()))))))), ()))) fun ((t30, (below9, (width0_1, (a1_1, (b2_1, (up3_1, (t8_1, _))))))), _) =>
  bif t30 then
    bif below9 then
      (c_s_BitTop R width0_1).bind fun (r99_1, _) =>
      some ((ineg .i64 r99_1), ())
    else
    (c_s_BitTop R width0_1).bind fun (r99_2_1, _) =>
    some (r99_2_1, ())
  else
  (c_s_l8Of R width0_1 a1_1).bind fun (r70_1, (r70b, (r70c, _))) =>
  (c_s_l8Of R width0_1 b2_1).bind fun (r70_2_1, (r70_2b, (r70_2c, _))) =>
  (c_s_l5Mul R r70b r70_2b).bind fun (r84_1, _) =>
  (c_s_l5Mul R r70c r70_2c).bind fun (r84_2_1, _) =>
  (c_s_l8Round R width0_1 below9 r84_1 r84_2_1 up3_1).bind fun (r156_1, _) =>
  some (r156_1, ())
def p_s_l9One (R : Run) (n : Nat) (u0 : Int) : Option (Int × Unit) :=
  (c_s_l8Round R u0 false [1] [1] false).bind fun (r63_1, _) =>
  some (r63_1, ())
def p_s_SpanAbs (R : Run) (n : Nat) (u0 : Int) (u1 : Bool) (u2 : Int) (u3 : Int) : Option (Bool × (Int × (Int × Unit))) :=
  jb (P := (((Bool × (Int × (Unit × (Unit × Unit))))) × (((Bool × (Int × (Int × Unit)))) × (((Bool × (Int × (Int × Unit)))) × Unit)))) (
      (c_s_SpanOk R u0 u1 u2 u3).bind fun (r90_1, _) =>
      bif (!r90_1) then
        some (.inr ((true, (u0, ((), ((), ())))), ((u1, (u2, (u3, ()))), ((false, (0, (0, ()))), ()))))
      else
      bif (!u1) then
        some (.inr ((true, (u0, ((), ((), ())))), ((u1, (u2, (u3, ()))), ((false, (0, (0, ()))), ()))))
      else
      some (.inr (((ile 0 u2), (u0, ((), ((), ())))), ((u1, (u2, (u3, ()))), ((false, (0, (0, ()))), ()))))) fun ((t18, (width0, (_, (_, _)))), ((o0a, (o0b, (o0c, _))), ((o1a, (o1b, (o1c, _))), _))) =>
  bif t18 then
    (c_s_SpanOk R width0 o0a o0b o0c).bind fun (r90_2_1, _) =>
    bif (!r90_2_1) then
      some (false, (0, (0, ())))
    else
    some (o0a, (o0b, (o0c, ())))
  else
  bif (ile o0c 0) then
    (c_s_l9Of R (ineg .i64 o0c) (ineg .i64 o0b)).bind fun (r91_1, (r91b, (r91c, _))) =>
    some (r91_1, (r91b, (r91c, ())))
  else
  (c_s_l3Max R (ineg .i64 o0b) o0c).bind fun (r93_1, _) =>
  (c_s_l9Of R 0 r93_1).bind fun (r91_2_1, (r91_2b, (r91_2c, _))) =>
  some (r91_2_1, (r91_2b, (r91_2c, ())))
def p_s_l9Pow (R : Run) (n : Nat) (u0 : Int) (u1 : Int) (u2 : Int) (u3 : Bool) : Option (Int × Unit) :=
  (c_s_l9Infinite R u0 u1).bind fun (r182_1, _) =>
  bif r182_1 then
    bif ((irem .i64 u2 2) == 0) then
      (c_s_BitTop R u0).bind fun (r99_1, _) =>
      some (r99_1, ())
    else
    some (u1, ())
  else
  (c_s_l8Of R u0 u1).bind fun (r70_1, (r70b, (r70c, _))) =>
  (c_s_l9Power R r70_1 r70b r70c u2).bind fun (r183_1, (r183b, (r183c, _))) =>
  (c_s_l8Round R u0 r183_1 r183b r183c u3).bind fun (r156_1, _) =>
  some (r156_1, ())
def p_i_Span_nought (R : Run) (n : Nat) (u0 : Bool) (u1 : Int) (u2 : Int) : Option (Bool × Unit) :=
  jb (P := (((Bool × Unit)) × Unit)) (
      bif (u1 == 0) then
        some (.inr (((u2 == 0), ()), ()))
      else
      some (.inr ((false, ()), ()))) fun ((t2, _), _) =>
  some (t2, ())
def p_i_SpanHas (R : Run) (n : Nat) (u0 : Int) (u1 : Bool) (u2 : Int) (u3 : Int) (u4 : Bool) (u5 : List Int) (u6 : List Int) : Option (Bool × Unit) :=
  jb (P := (((Bool × Unit)) × Unit)) (
      bif u1 then
        (c_i_PairHas R u0 u2 u3 u4 u5 u6).bind fun (r184_1, _) =>
        some (.inr ((r184_1, ()), ()))
      else
      some (.inr ((false, ()), ()))) fun ((t6, _), _) =>
  some (t6, ())
def p_i_whole (R : Run) (n : Nat) (u0 : Bool) (u1 : List Int) : Option (Bool × (List Int × (List Int × Unit))) :=
  jb (P := (((Unit × Unit)) × (((Bool × (List Int × (Unit × Unit)))) × (List Int × Unit)))) (
      bif u0 then
        some (.inr (((), ()), (((ilt 0 (len u1)), (u1, ((), ()))), ([1], ()))))
      else
      some (.inr (((), ()), ((false, (u1, ((), ()))), ([1], ()))))) fun ((_, _), ((o0a, (o0b, (_, _))), (o1, _))) =>
  some (o0a, (o0b, (o1, ())))
def p_i_either (R : Run) (n : Nat) (u0 : Int) (u1 : Bool) (u2 : Int) (u3 : Int) (u4 : Bool) (u5 : Int) (u6 : Int) : Option (Bool × (Int × (Int × Unit))) :=
  (c_i_SpanMeet R u0 u1 u2 u3 u4 u5 u6).bind fun (r109_1, (r109b, (r109c, _))) =>
  (c_i_SpanNeg R u0 u4 u5 u6).bind fun (r48_1, (r48b, (r48c, _))) =>
  (c_i_SpanMeet R u0 u1 u2 u3 r48_1 r48b r48c).bind fun (r109_2_1, (r109_2b, (r109_2c, _))) =>
  (c_i_SpanHull R u0 r109_1 r109b r109c r109_2_1 r109_2b r109_2c).bind fun (r49_1, (r49b, (r49c, _))) =>
  some (r49_1, (r49b, (r49c, ())))
def p_s_NatRoot (R : Run) (n : Nat) (u0 : List Int) : Option (List Int × (Bool × (Bool × Unit))) :=
  (c_s_NatOk R u0).bind fun (r151_1, _) =>
  bif (!r151_1) then
    some ([], (false, (false, ())))
  else
  (c_s_l5Root R u0).bind fun (r185_1, _) =>
  (c_s_l5Mul R r185_1 r185_1).bind fun (r84_1, _) =>
  (c_s_l5Cmp R r84_1 u0).bind fun (r154_1, _) =>
  some (r185_1, ((r154_1 == 0), (true, ())))
def p_s_l31Rd_bound (R : Run) (n : Nat) (u0 : List Int) (u1 : Int) (u2 : Int) : Option (Int × (List Int × (Int × Unit))) :=
  (c_s_l31Rd_pick R u0 u1 5).bind fun (r31_1, (r31b, (r31c, _))) =>
  bif (ilt 1 r31_1) then
    (c_s_l31Rd_nice R r31b r31c u2).bind fun (r60_1, (r60b, (r60c, _))) =>
    some (r60_1, (r60b, (r60c, ())))
  else
  (c_s_l31Rd_pick R r31b r31c 4).bind fun (r31_2_1, (r31_2b, (r31_2c, _))) =>
  bif (r31_2_1 == 0) then
    (c_s_BitTop R u2).bind fun (r36_1, _) =>
    (c_s_BitTop R u2).bind fun (r36_2_1, _) =>
    (c_s_l31Rd_pick R r31_2b r31_2c 3).bind fun (r31_3_1, (r31_3b, (r31_3c, _))) =>
    ok (inB r31_3_1 (len [r36_1, (ineg .i64 r36_2_1), 0])) <|
    some ((List.getD [r36_1, (ineg .i64 r36_2_1), 0] (Int.toNat r31_3_1) 0), (r31_3b, (r31_3c, ())))
  else
  (c_s_l31Rd_ord R r31_2b r31_2c u2).bind fun (r61_1, (r61b, (r61c, _))) =>
  some (r61_1, (r61b, (r61c, ())))
def p_s_BitGap (R : Run) (n : Nat) (u0 : Int) (u1 : Int) : Option (Int × Unit) :=
  bif (ilt u1 u0) then
    some (0, ())
  else
  some ((isub .u64 (IntKind.wrap .u64 u1) (IntKind.wrap .u64 u0)), ())
def p_s_FracOf (R : Run) (n : Nat) (u0 : Bool) (u1 : List Int) (u2 : List Int) : Option (Bool × (List Int × (List Int × (Bool × Unit)))) :=
  jb (P := (((Bool × (Unit × (Bool × (List Int × (List Int × (Bool × Unit))))))) × (((Bool × (Unit × (Unit × Unit)))) × Unit))) (
      (c_s_NatOk R u1).bind fun (r68_1, _) =>
      bif (!r68_1) then
        some (.inr ((true, ((), (u0, (u1, (u2, (false, ())))))), ((false, ((), ((), ()))), ())))
      else
      (c_s_NatOk R u2).bind fun (r68_2_1, _) =>
      bif (!r68_2_1) then
        some (.inr ((true, ((), (u0, (u1, (u2, (false, ())))))), ((false, ((), ((), ()))), ())))
      else
      some (.inr ((((len u2) == 0), ((), (u0, (u1, (u2, (false, ())))))), ((false, ((), ((), ()))), ())))) fun ((t20, (_, (below0, (top1, (bottom2, (t7, _)))))), ((o0, (_, (_, _))), _)) =>
  bif t20 then
    some (false, ([], ([], (false, ()))))
  else
  (c_s_l6Make R below0 top1 bottom2).bind fun (r66_1, (r66b, (r66c, (r66d, _)))) =>
  some (r66_1, (r66b, (r66c, (r66d, ()))))
def p_s_l1Least (R : Run) (n : Nat) (u0 : Int) : Option (Int × Unit) :=
  bif (u0 == 32) then
    some ((-149), ())
  else
  some ((-1074), ())
def p_s_l1Frac (R : Run) (n : Nat) (u0 : Int) : Option (Int × Unit) :=
  bif (u0 == 32) then
    some (23, ())
  else
  some (52, ())
def p_s_l5Pow2 (R : Run) (n : Nat) (u0 : Int) : Option (List Int × Unit) :=
  ok (ile 0 (IntKind.wrap .u64 (irem .i64 u0 16))) <|
  (c_s_l5Shl R [(ishl .i64 1 (IntKind.wrap .u64 (irem .i64 u0 16)))] (iquo .i64 u0 16)).bind fun (r96_1, _) =>
  some (r96_1, ())
def p_s_l5Gcd (R : Run) (n : Nat) (u0 : List Int) (u1 : List Int) : Option (List Int × Unit) :=
  (c_s_l5Trim R u0).bind fun (r79_1, _) =>
  (c_s_l5Trim R u1).bind fun (r79_2_1, _) =>
  iter (P := (((List Int × (List Int × (Unit × Unit)))) × Unit)) (fun rec ((y6, (x5, (_, _))), _) =>
      bif (ilt 0 (len y6)) then
        (c_s_l5Div R x5 y6).bind fun (r87_1, (r87b, _)) =>
        rec ((r87b, (y6, ((), ()))), ())
      else
      some (x5, ())) n ((r79_2_1, (r79_1, ((), ()))), ())
def p_s_l5Div (R : Run) (n : Nat) (u0 : List Int) (u1 : List Int) : Option (List Int × (List Int × Unit)) :=
  (c_s_l5Cmp R u0 u1).bind fun (r77_1, _) =>
  bif (ilt r77_1 0) then
    (c_s_l5Trim R u0).bind fun (r79_1, _) =>
    some ([], (r79_1, ()))
  else
  bif ((len u1) == 1) then
    ok (inB 0 (len u1)) <|
    (c_s_l5DivSmall R u0 (List.getD u1 (Int.toNat 0) 0)).bind fun (r97_1, (r97b, _)) =>
    (c_s_NatOf R (IntKind.wrap .u64 r97b)).bind fun (r67_1, _) =>
    some (r97_1, (r67_1, ()))
  else
  ok (inB (isub .i64 (len u1) 1) (len u1)) <|
  ok (!((iadd .i64 (List.getD u1 (Int.toNat (isub .i64 (len u1) 1)) 0) 1) == 0)) <|
  (c_s_l5Times R u0 (iquo .i64 65536 (iadd .i64 (List.getD u1 (Int.toNat (isub .i64 (len u1) 1)) 0) 1))).bind fun (r98_1, _) =>
  (c_s_l5Times R u1 (iquo .i64 65536 (iadd .i64 (List.getD u1 (Int.toNat (isub .i64 (len u1) 1)) 0) 1))).bind fun (r98_2_1, _) =>
  ok (mkOk (iadd .i64 (isub .i64 (len r98_1) (len r98_2_1)) 1) (iadd .i64 (isub .i64 (len r98_1) (len r98_2_1)) 1) 8) <|
  (c_s_l5Top R r98_1 (iadd .i64 (isub .i64 (len r98_1) (len r98_2_1)) 1)).bind fun (r99_1, _) =>
  iter (P := (((Int × (List Int × (List Int × (Int × (List Int × (Unit × (Int × (Unit × (Unit × Unit)))))))))) × (List Int × Unit))) (fun rec ((i14, (rest13, (x9, (n11, (y10, (_, (up8, (_, (_, _))))))))), (o0, _)) =>
      bif (ile 0 i14) then
        (c_s_l5Shl R rest13 1).bind fun (r96_1, _) =>
        ok (inB i14 (len x9)) <|
        (c_s_NatOf R (IntKind.wrap .u64 (List.getD x9 (Int.toNat i14) 0))).bind fun (r67_2_1, _) =>
        (c_s_l5Add R r96_1 r67_2_1).bind fun (r76_1, _) =>
        (c_s_l5Trim R r76_1).bind fun (r79_2_1, _) =>
        (c_s_l5At R r79_2_1 n11).bind fun (r92_1, _) =>
        (c_s_l5At R r79_2_1 (isub .i64 n11 1)).bind fun (r92_2_1, _) =>
        ok (inB (isub .i64 n11 1) (len y10)) <|
        ok (!((List.getD y10 (Int.toNat (isub .i64 n11 1)) 0) == 0)) <|
        jb (P := (((List Int × (Int × (List Int × (Unit × (Int × (List Int × (Int × (Int × (Unit × (Unit × Unit))))))))))) × (List Int × Unit))) (
            bif (ile 65536 (iquo .i64 (iadd .i64 (imul .i64 r92_1 65536) r92_2_1) (List.getD y10 (Int.toNat (isub .i64 n11 1)) 0))) then
              some (.inr ((y10, (65535, (r79_2_1, ((), (i14, (x9, (n11, (up8, ((), ((), ())))))))))), (o0, ())))
            else
            some (.inr ((y10, ((iquo .i64 (iadd .i64 (imul .i64 r92_1 65536) r92_2_1) (List.getD y10 (Int.toNat (isub .i64 n11 1)) 0)), (r79_2_1, ((), (i14, (x9, (n11, (up8, ((), ((), ())))))))))), (o0, ())))) fun ((y10_1, (guess15, (rest13_1, (_, (i14_1, (x9_1, (n11_1, (up8_1, (_, (_, _)))))))))), (o0_1, _)) =>
        (c_s_l5Times R y10_1 guess15).bind fun (r98_3_1, _) =>
        iter (P := (((List Int × (List Int × (List Int × (Int × (Unit × (Int × (List Int × (Int × (Int × (Unit × (Unit × Unit)))))))))))) × (List Int × Unit))) (fun rec_1 ((p16, (rest13_2, (y10_2, (guess15_1, (_, (i14_2, (x9_2, (n11_2, (up8_2, (_, (_, _))))))))))), (o0_2, _)) =>
            (c_s_l5Cmp R p16 rest13_2).bind fun (r77_2_1, _) =>
            bif (ilt 0 r77_2_1) then
              (c_s_l5Sub R p16 y10_2).bind fun (r78_1, _) =>
              rec_1 ((r78_1, (rest13_2, (y10_2, ((isub .i64 guess15_1 1), ((), (i14_2, (x9_2, (n11_2, (up8_2, ((), ((), ()))))))))))), (o0_2, ()))
            else
            ok (inB i14_2 (len o0_2)) <|
            (c_s_l5Sub R rest13_2 p16).bind fun (r78_2_1, _) =>
            rec (((isub .i64 i14_2 1), (r78_2_1, (x9_2, (n11_2, (y10_2, ((), (up8_2, ((), ((), ()))))))))), ((List.set o0_2 (Int.toNat i14_2) guess15_1), ()))) n ((r98_3_1, (rest13_1, (y10_1, (guess15, ((), (i14_1, (x9_1, (n11_1, (up8_1, ((), ((), ()))))))))))), (o0_1, ()))
      else
      (c_s_l5DivSmall R rest13 up8).bind fun (r97_2_1, (r97_2b, _)) =>
      (c_s_l5Trim R o0).bind fun (r79_3_1, _) =>
      some (r79_3_1, (r97_2_1, ()))) n (((isub .i64 (len r98_1) (len r98_2_1)), (r99_1, (r98_1, ((len r98_2_1), (r98_2_1, ((), ((iquo .i64 65536 (iadd .i64 (List.getD u1 (Int.toNat (isub .i64 (len u1) 1)) 0) 1)), ((), ((), ()))))))))), ((List.replicate (Int.toNat (iadd .i64 (isub .i64 (len r98_1) (len r98_2_1)) 1)) 0), ()))
def p_i_BitTop (R : Run) (n : Nat) (u0 : Int) : Option (Int × Unit) :=
  (c_i_formatOf R u0).bind fun (r46_1, (r46b, (r46c, (r46d, (r46e, _))))) =>
  some (r46d, ())
def p_i_value (R : Run) (n : Nat) (u0 : Int) (u1 : Int) : Option (Bool × (List Int × (List Int × Unit))) :=
  (c_i_BitPartOf R u0 u1).bind fun (r190_1, (r190b, (r190c, (r190d, _)))) =>
  (c_i_natOf R r190b).bind fun (r191_1, _) =>
  bif (ile 0 r190c) then
    (c_i_natShift R r191_1 r190c).bind fun (r192_1, _) =>
    (c_i_whole R r190_1 r192_1).bind fun (r132_1, (r132b, (r132c, _))) =>
    some (r132_1, (r132b, (r132c, ())))
  else
  (c_i_natShift R [1] (ineg .i64 r190c)).bind fun (r192_2_1, _) =>
  (c_i_lowest R r190_1 r191_1 r192_2_1).bind fun (r146_1, (r146b, (r146c, _))) =>
  some (r146_1, (r146b, (r146c, ())))
def p_i_natMul (R : Run) (n : Nat) (u0 : List Int) (u1 : List Int) : Option (List Int × Unit) :=
  ok (mkOk (iadd .i64 (iadd .i64 (len u0) (len u1)) 1) (iadd .i64 (iadd .i64 (len u0) (len u1)) 1) 8) <|
  iter (P := (((Int × (Int × (List Int × (List Int × (Unit × (Unit × Unit))))))) × (List Int × Unit))) (fun rec ((t21, (t20, (t19, (b1, (_, (_, _)))))), (o0, _)) =>
      bif (ilt t21 t20) then
        ok (inB t21 (len t19)) <|
        iter (P := (((Int × (Int × (List Int × (Unit × (Int × (Int × (Int × (List Int × (Int × (Int × (List Int × (Unit × Unit))))))))))))) × (List Int × Unit))) (fun rec_1 ((t28, (t27, (t26, (_, (i6, (x7, (carry8, (b1_1, (t21_1, (t20_1, (t19_1, (_, _)))))))))))), (o0_1, _)) =>
            bif (ilt t28 t27) then
              ok (inB t28 (len t26)) <|
              ok (inB (iadd .i64 i6 t28) (len o0_1)) <|
              ok (inB (iadd .i64 i6 t28) (len o0_1)) <|
              rec_1 (((iadd .i64 t28 1), (t27, (t26, ((), (i6, (x7, ((ishr .i64 (iadd .i64 (iadd .i64 (List.getD o0_1 (Int.toNat (iadd .i64 i6 t28)) 0) (imul .i64 x7 (List.getD t26 (Int.toNat t28) 0))) carry8) 16), (b1_1, (t21_1, (t20_1, (t19_1, ((), ())))))))))))), ((List.set o0_1 (Int.toNat (iadd .i64 i6 t28)) (iand .i64 (iadd .i64 (iadd .i64 (List.getD o0_1 (Int.toNat (iadd .i64 i6 t28)) 0) (imul .i64 x7 (List.getD t26 (Int.toNat t28) 0))) carry8) 65535)), ()))
            else
            ok (inB (iadd .i64 i6 (len b1_1)) (len o0_1)) <|
            ok (inB (iadd .i64 i6 (len b1_1)) (len o0_1)) <|
            rec (((iadd .i64 t21_1 1), (t20_1, (t19_1, (b1_1, ((), ((), ())))))), ((List.set o0_1 (Int.toNat (iadd .i64 i6 (len b1_1))) (iadd .i64 (List.getD o0_1 (Int.toNat (iadd .i64 i6 (len b1_1))) 0) carry8)), ()))) n ((0, ((len b1), (b1, ((), (t21, ((List.getD t19 (Int.toNat t21) 0), (0, (b1, (t21, (t20, (t19, ((), ())))))))))))), (o0, ()))
      else
      (c_i_trim R o0).bind fun (r73_1, _) =>
      some (r73_1, ())) n ((0, ((len u0), (u0, (u1, ((), ((), ())))))), ((List.replicate (Int.toNat (iadd .i64 (iadd .i64 (len u0) (len u1)) 1)) 0), ()))
def p_i_lowest (R : Run) (n : Nat) (u0 : Bool) (u1 : List Int) (u2 : List Int) : Option (Bool × (List Int × (List Int × Unit))) :=
  (c_i_natGcd R u1 u2).bind fun (r194_1, _) =>
  jb (P := (((Bool × (List Int × (List Int × (Unit × Unit))))) × (((Bool × (Unit × (Unit × Unit)))) × Unit))) (
      (c_i_natCmp R r194_1 [1]).bind fun (r148_1, _) =>
      bif (r148_1 != 0) then
        (c_i_natDiv R u1 r194_1).bind fun (r195_1, (r195b, _)) =>
        (c_i_natDiv R u2 r194_1).bind fun (r195_2_1, (r195_2b, _)) =>
        some (.inr ((u0, (r195_1, (r195_2_1, ((), ())))), ((false, ((), ((), ()))), ())))
      else
      some (.inr ((u0, (u1, (u2, ((), ())))), ((false, ((), ((), ()))), ())))) fun ((below0, (top1, (bottom2, (_, _)))), ((o0, (_, (_, _))), _)) =>
  jb (P := (((Unit × Unit)) × (((Bool × (List Int × (List Int × Unit)))) × Unit))) (
      bif below0 then
        some (.inr (((), ()), (((ilt 0 (len top1)), (top1, (bottom2, ()))), ())))
      else
      some (.inr (((), ()), ((false, (top1, (bottom2, ()))), ())))) fun ((_, _), ((o0a, (o0b, (o0c, _))), _)) =>
  some (o0a, (o0b, (o0c, ())))
def p_i_natCmp (R : Run) (n : Nat) (u0 : List Int) (u1 : List Int) : Option (Int × Unit) :=
  bif ((len u0) != (len u1)) then
    some ((imax (-1) (imin 1 (isub .i64 (len u0) (len u1)))), ())
  else
  iter (P := (((Int × (List Int × (List Int × (Int × Unit))))) × Unit)) (fun rec ((i5, (a0, (b1, (t4, _)))), _) =>
      bif (ile 0 i5) then
        ok (inB i5 (len a0)) <|
        ok (inB i5 (len b1)) <|
        bif ((List.getD a0 (Int.toNat i5) 0) != (List.getD b1 (Int.toNat i5) 0)) then
          ok (inB i5 (len a0)) <|
          ok (inB i5 (len b1)) <|
          some ((imax (-1) (imin 1 (isub .i64 (List.getD a0 (Int.toNat i5) 0) (List.getD b1 (Int.toNat i5) 0)))), ())
        else
        rec (((isub .i64 i5 1), (a0, (b1, (t4, ())))), ())
      else
      some (0, ())) n (((isub .i64 (len u0) 1), (u0, (u1, (0, ())))), ())
def p_i_around (R : Run) (n : Nat) (u0 : Int) (u1 : Bool) (u2 : List Int) (u3 : List Int) : Option (Int × (Int × Unit)) :=
  (c_i_truncated R u0 u1 u2 u3).bind fun (r197_1, (r197b, _)) =>
  jb (P := (((Unit × (Int × (Int × (Int × (Int × Unit)))))) × (((Bool × (List Int × (List Int × Unit)))) × Unit))) (
      bif (!r197b) then
        some (.inr (((), ((iadd .i64 r197_1 1), (r197_1, (0, (0, ()))))), ((u1, (u2, (u3, ()))), ())))
      else
      some (.inr (((), (r197_1, (r197_1, (0, (0, ()))))), ((u1, (u2, (u3, ()))), ())))) fun ((_, (next8, (ord6, (t4, (t5, _))))), ((o0a, (o0b, (o0c, _))), _)) =>
  bif o0a then
    some ((ineg .i64 next8), ((ineg .i64 ord6), ()))
  else
  some (ord6, (next8, ()))
def p_s_NatOk (R : Run) (n : Nat) (u0 : List Int) : Option (Bool × Unit) :=
  bif (ilt 256 (len u0)) then
    some (false, ())
  else
  iter (P := (((Int × (List Int × (Bool × Unit)))) × Unit)) (fun rec ((i3, (a0, (t2, _))), _) =>
      bif (ilt i3 (len a0)) then
        jb (P := (((Bool × (Int × (List Int × (Bool × Unit))))) × Unit)) (
            ok (inB i3 (len a0)) <|
            bif (ilt (List.getD a0 (Int.toNat i3) 0) 0) then
              some (.inr ((true, (i3, (a0, (t2, ())))), ()))
            else
            ok (inB i3 (len a0)) <|
            some (.inr (((ile 65536 (List.getD a0 (Int.toNat i3) 0)), (i3, (a0, (t2, ())))), ()))) fun ((t24, (i3_1, (a0_1, (t2_1, _)))), _) =>
        bif t24 then
          some (false, ())
        else
        rec (((iadd .i64 i3_1 1), (a0_1, (t2_1, ()))), ())
      else
      jb (P := (((Bool × Unit)) × Unit)) (
          bif ((len a0) == 0) then
            some (.inr ((true, ()), ()))
          else
          ok (inB (isub .i64 (len a0) 1) (len a0)) <|
          some (.inr ((((List.getD a0 (Int.toNat (isub .i64 (len a0) 1)) 0) != 0), ()), ()))) fun ((t2_2, _), _) =>
      some (t2_2, ())) n ((0, (u0, (false, ()))), ())
def p_s_l6One (R : Run) (n : Nat) (u0 : List Int) : Option (Bool × Unit) :=
  jb (P := (((Bool × Unit)) × Unit)) (
      bif ((len u0) == 1) then
        ok (inB 0 (len u0)) <|
        some (.inr ((((List.getD u0 (Int.toNat 0) 0) == 1), ()), ()))
      else
      some (.inr ((false, ()), ()))) fun ((t2, _), _) =>
  some (t2, ())
def p_s_l5Add (R : Run) (n : Nat) (u0 : List Int) (u1 : List Int) : Option (List Int × Unit) :=
  jb (P := (((Int × (List Int × (List Int × (Unit × Unit))))) × Unit)) (
      bif (ilt (len u0) (len u1)) then
        some (.inr (((len u1), (u0, (u1, ((), ())))), ()))
      else
      some (.inr (((len u0), (u0, (u1, ((), ())))), ()))) fun ((n5, (a0, (b1, (_, _)))), _) =>
  iter (P := (((Int × (Int × (List Int × (List Int × (Int × (Unit × (Unit × Unit)))))))) × (List Int × Unit))) (fun rec ((i8, (n5_1, (a0_1, (b1_1, (carry7, (_, (_, _))))))), (o0, _)) =>
      bif (ilt i8 n5_1) then
        (c_s_l5At R a0_1 i8).bind fun (r92_1, _) =>
        (c_s_l5At R b1_1 i8).bind fun (r92_2_1, _) =>
        ok (aok (o0 ++ [(irem .i64 (iadd .i64 (iadd .i64 r92_1 r92_2_1) carry7) 65536)]) 8) <|
        rec (((iadd .i64 i8 1), (n5_1, (a0_1, (b1_1, ((iquo .i64 (iadd .i64 (iadd .i64 r92_1 r92_2_1) carry7) 65536), ((), ((), ()))))))), ((o0 ++ [(irem .i64 (iadd .i64 (iadd .i64 r92_1 r92_2_1) carry7) 65536)]), ()))
      else
      jb (P := (((Unit × (Unit × Unit))) × (List Int × Unit))) (
          bif (ilt 0 carry7) then
            ok (aok (o0 ++ [carry7]) 8) <|
            some (.inr (((), ((), ())), ((o0 ++ [carry7]), ())))
          else
          some (.inr (((), ((), ())), (o0, ())))) fun ((_, (_, _)), (o0_1, _)) =>
      some (o0_1, ())) n ((0, (n5, (a0, (b1, (0, ((), ((), ()))))))), ([], ()))
def p_s_l5Cmp (R : Run) (n : Nat) (u0 : List Int) (u1 : List Int) : Option (Int × Unit) :=
  bif (ilt (len u0) (len u1)) then
    some ((-1), ())
  else
  bif (ilt (len u1) (len u0)) then
    some (1, ())
  else
  iter (P := (((Int × (List Int × (List Int × (Int × Unit))))) × Unit)) (fun rec ((i5, (a0, (b1, (t4, _)))), _) =>
      bif (ile 0 i5) then
        ok (inB i5 (len a0)) <|
        ok (inB i5 (len b1)) <|
        bif (ilt (List.getD a0 (Int.toNat i5) 0) (List.getD b1 (Int.toNat i5) 0)) then
          some ((-1), ())
        else
        ok (inB i5 (len a0)) <|
        ok (inB i5 (len b1)) <|
        bif (ilt (List.getD b1 (Int.toNat i5) 0) (List.getD a0 (Int.toNat i5) 0)) then
          some (1, ())
        else
        rec (((isub .i64 i5 1), (a0, (b1, (t4, ())))), ())
      else
      some (0, ())) n (((isub .i64 (len u0) 1), (u0, (u1, (0, ())))), ())
def p_s_l5Sub (R : Run) (n : Nat) (u0 : List Int) (u1 : List Int) : Option (List Int × Unit) :=
  iter (P := (((Int × (List Int × (List Int × (Int × (Unit × (Unit × Unit))))))) × (List Int × Unit))) (fun rec ((i7, (a0, (b1, (borrow6, (_, (_, _)))))), (o0, _)) =>
      bif (ilt i7 (len a0)) then
        ok (inB i7 (len a0)) <|
        (c_s_l5At R b1 i7).bind fun (r92_1, _) =>
        jb (P := (((Unit × (Int × (Int × (List Int × (List Int × (Int × (Unit × Unit)))))))) × (List Int × Unit))) (
            bif (ilt (isub .i64 (isub .i64 (List.getD a0 (Int.toNat i7) 0) r92_1) borrow6) 0) then
              some (.inr (((), ((iadd .i64 (isub .i64 (isub .i64 (List.getD a0 (Int.toNat i7) 0) r92_1) borrow6) 65536), (i7, (a0, (b1, (1, ((), ()))))))), (o0, ())))
            else
            some (.inr (((), ((isub .i64 (isub .i64 (List.getD a0 (Int.toNat i7) 0) r92_1) borrow6), (i7, (a0, (b1, (0, ((), ()))))))), (o0, ())))) fun ((_, (s8, (i7_1, (a0_1, (b1_1, (borrow6_1, (_, _))))))), (o0_1, _)) =>
        ok (aok (o0_1 ++ [s8]) 8) <|
        rec (((iadd .i64 i7_1 1), (a0_1, (b1_1, (borrow6_1, ((), ((), ())))))), ((o0_1 ++ [s8]), ()))
      else
      (c_s_l5Trim R o0).bind fun (r79_1, _) =>
      some (r79_1, ())) n ((0, (u0, (u1, (0, ((), ((), ())))))), ([], ()))
def p_s_l8Round (R : Run) (n : Nat) (u0 : Int) (u1 : Bool) (u2 : List Int) (u3 : List Int) (u4 : Bool) : Option (Int × Unit) :=
  (c_s_l8Size R u0 u1 u2 u3).bind fun (r83_1, (r83b, _)) =>
  bif u1 then
    jb (P := (((Int × (Bool × (Bool × (Int × Unit))))) × Unit)) (
        jb (P := (((Bool × (Int × (Bool × (Bool × (Int × Unit)))))) × Unit)) (
            bif r83b then
              some (.inr (((!u4), (r83_1, (r83b, (u4, (0, ()))))), ()))
            else
            some (.inr ((false, (r83_1, (r83b, (u4, (0, ()))))), ()))) fun ((t21, (n7, (rest8, (up2, (t6, _))))), _) =>
        bif t21 then
          some (.inr (((iadd .i64 n7 1), (rest8, (up2, (t6, ())))), ()))
        else
        some (.inr ((n7, (rest8, (up2, (t6, ())))), ()))) fun ((n7_1, (rest8_1, (up2_1, (t6_1, _)))), _) =>
    some ((ineg .i64 n7_1), ())
  else
  jb (P := (((Int × (Int × Unit))) × Unit)) (
      jb (P := (((Bool × (Int × (Int × Unit)))) × Unit)) (
          bif r83b then
            some (.inr ((u4, (r83_1, (0, ()))), ()))
          else
          some (.inr ((false, (r83_1, (0, ()))), ()))) fun ((t29, (n7_2, (t6_2, _))), _) =>
      bif t29 then
        some (.inr (((iadd .i64 n7_2 1), (t6_2, ())), ()))
      else
      some (.inr ((n7_2, (t6_2, ())), ()))) fun ((n7_3, (t6_3, _)), _) =>
  some (n7_3, ())
def p_s_l8Frac (R : Run) (n : Nat) (u0 : Bool) (u1 : List Int) (u2 : List Int) : Option (Bool × (List Int × (List Int × Unit))) :=
  some (u0, (u1, (u2, ())))
def p_i_limit_sign (R : Run) (n : Nat) (u0 : Int) (u1 : Bool) (u2 : List Int) (u3 : List Int) : Option (Int × Unit) :=
  bif (u0 != 0) then
    some (u0, ())
  else
  (c_i_Frac_sign R u1 u2 u3).bind fun (r199_1, _) =>
  some (r199_1, ())
def p_i_Frac_mul (R : Run) (n : Nat) (u0 : Bool) (u1 : List Int) (u2 : List Int) (u3 : Bool) (u4 : List Int) (u5 : List Int) : Option (Bool × (List Int × (List Int × Unit))) :=
  (c_i_natMul R u1 u4).bind fun (r145_1, _) =>
  (c_i_natMul R u2 u5).bind fun (r145_2_1, _) =>
  (c_i_lowest R (!(beqB u0 u3)) r145_1 r145_2_1).bind fun (r146_1, (r146b, (r146c, _))) =>
  some (r146_1, (r146b, (r146c, ())))
def p_i_divAbove_1 (R : Run) (n : Nat) (u0 : Int) (u1 : Bool) (u2 : List Int) (u3 : List Int) (u4 : Bool) (u5 : Int) (u6 : Int) (u7 : Int) : Option (Int × (Bool × (List Int × (List Int × (Bool × (Int × (Int × (Int × Unit)))))))) :=
  bif (ilt 0 u5) then
    (c_i_limitOf R u7 u5).bind fun (r74_1, (r74b, (r74c, (r74d, _)))) =>
    (c_i_limit_by R u0 u1 u2 u3 r74_1 r74b r74c r74d).bind fun (r161_1, (r161b, (r161c, (r161d, _)))) =>
    some (r161_1, (r161b, (r161c, (r161d, (u4, (u5, (u6, (u7, ()))))))))
  else
  (c_i_limit_sign R u0 u1 u2 u3).bind fun (r158_1, _) =>
  bif (r158_1 == 0) then
    some (u0, (u1, (u2, (u3, (u4, (u5, (u6, (u7, ()))))))))
  else
  (c_i_limit_sign R u0 u1 u2 u3).bind fun (r158_2_1, _) =>
  some (r158_2_1, (false, ([], ([], (u4, (u5, (u6, (u7, ()))))))))
def p_i_limit_by (R : Run) (n : Nat) (u0 : Int) (u1 : Bool) (u2 : List Int) (u3 : List Int) (u4 : Int) (u5 : Bool) (u6 : List Int) (u7 : List Int) : Option (Int × (Bool × (List Int × (List Int × Unit)))) :=
  bif (u4 != 0) then
    (c_i_whole R false []).bind fun (r132_1, (r132b, (r132c, _))) =>
    some (0, (r132_1, (r132b, (r132c, ()))))
  else
  bif (u0 != 0) then
    some (u0, (u1, (u2, (u3, ()))))
  else
  (c_i_Frac_div R u1 u2 u3 u5 u6 u7).bind fun (r200_1, (r200b, (r200c, _))) =>
  some (0, (r200_1, (r200b, (r200c, ()))))
def p_s_l9Quot (R : Run) (n : Nat) (u0 : Int) (u1 : Int) (u2 : Int) (u3 : Bool) : Option (Int × Unit) :=
  jb (P := (((Bool × (Int × (Int × (Int × (Bool × (Int × Unit))))))) × Unit)) (
      bif (u1 == 0) then
        some (.inr ((true, (u0, (u1, (u2, (u3, (0, ())))))), ()))
      else
      (c_s_l9Infinite R u0 u2).bind fun (r182_1, _) =>
      some (.inr ((r182_1, (u0, (u1, (u2, (u3, (0, ())))))), ()))) fun ((t17, (width0, (a1, (b2, (up3, (t8, _)))))), _) =>
  bif t17 then
    some (0, ())
  else
  (c_s_l9Infinite R width0 a1).bind fun (r182_2_1, _) =>
  bif r182_2_1 then
    some (a1, ())
  else
  (c_s_l8Of R width0 a1).bind fun (r70_1, (r70b, (r70c, _))) =>
  (c_s_l8Of R width0 b2).bind fun (r70_2_1, (r70_2b, (r70_2c, _))) =>
  (c_s_l5Mul R r70b r70_2c).bind fun (r84_1, _) =>
  (c_s_l5Mul R r70c r70_2b).bind fun (r84_2_1, _) =>
  (c_s_l8Round R width0 r70_1 r84_1 r84_2_1 up3).bind fun (r156_1, _) =>
  some (r156_1, ())
def p_s_PairMeet (R : Run) (n : Nat) (u0 : Int) (u1 : Int) (u2 : Int) (u3 : Int) (u4 : Int) : Option (Int × (Int × (Bool × Unit))) :=
  (c_s_l3Max R u1 u3).bind fun (r38_1, _) =>
  (c_s_l3Min R u2 u4).bind fun (r37_1, _) =>
  jb (P := (((Bool × (Unit × (Unit × (Bool × Unit))))) × (((Int × (Int × Unit))) × (((Int × (Int × Unit))) × Unit)))) (
      (c_s_PairOk R u0 u1 u2).bind fun (r33_1, _) =>
      bif (!r33_1) then
        some (.inr ((true, ((), ((), (false, ())))), ((0, (0, ())), ((r38_1, (r37_1, ())), ()))))
      else
      (c_s_PairOk R u0 u3 u4).bind fun (r33_2_1, _) =>
      bif (!r33_2_1) then
        some (.inr ((true, ((), ((), (false, ())))), ((0, (0, ())), ((r38_1, (r37_1, ())), ()))))
      else
      some (.inr (((ilt r37_1 r38_1), ((), ((), (false, ())))), ((0, (0, ())), ((r38_1, (r37_1, ())), ()))))) fun ((t36, (_, (_, (t7, _)))), ((o0a, (o0b, _)), ((o1a, (o1b, _)), _))) =>
  bif t36 then
    some (0, (0, (false, ())))
  else
  some (o1a, (o1b, (true, ())))
def p_s_PairHas (R : Run) (n : Nat) (u0 : Int) (u1 : Int) (u2 : Int) (u3 : Bool) (u4 : List Int) (u5 : List Int) : Option (Bool × Unit) :=
  jb (P := (((Bool × (Int × (Unit × (Unit × (Bool × Unit)))))) × (((Int × (Int × Unit))) × (((Bool × (List Int × (List Int × Unit)))) × Unit)))) (
      (c_s_PairOk R u0 u1 u2).bind fun (r33_1, _) =>
      bif (!r33_1) then
        some (.inr ((true, (u0, ((), ((), (false, ()))))), ((u1, (u2, ())), ((u3, (u4, (u5, ()))), ()))))
      else
      (c_s_FracOk R u3 u4 u5).bind fun (r56_1, _) =>
      some (.inr (((!r56_1), (u0, ((), ((), (false, ()))))), ((u1, (u2, ())), ((u3, (u4, (u5, ()))), ()))))) fun ((t16, (width0, (_, (_, (t6, _))))), ((o0a, (o0b, _)), ((o1a, (o1b, (o1c, _))), _))) =>
  bif t16 then
    some (false, ())
  else
  (c_s_BitTop R width0).bind fun (r36_1, _) =>
  jb (P := (((Bool × Unit)) × Unit)) (
      bif (o0a == (ineg .i64 r36_1)) then
        bif (o0b == r36_1) then
          some (.inr ((true, ()), ()))
        else
        (c_s_l8Frac R o1a o1b o1c).bind fun (r81_1, (r81b, (r81c, _))) =>
        (c_s_l8Of R width0 o0b).bind fun (r65_1, (r65b, (r65c, _))) =>
        (c_s_l8Cmp R r81_1 r81b r81c r65_1 r65b r65c).bind fun (r80_1, _) =>
        some (.inr (((ile r80_1 0), ()), ()))
      else
      (c_s_l8Of R width0 o0a).bind fun (r65_2_1, (r65_2b, (r65_2c, _))) =>
      (c_s_l8Frac R o1a o1b o1c).bind fun (r81_2_1, (r81_2b, (r81_2c, _))) =>
      (c_s_l8Cmp R r65_2_1 r65_2b r65_2c r81_2_1 r81_2b r81_2c).bind fun (r80_2_1, _) =>
      bif (ile r80_2_1 0) then
        bif (o0b == r36_1) then
          some (.inr ((true, ()), ()))
        else
        (c_s_l8Frac R o1a o1b o1c).bind fun (r81_3_1, (r81_3b, (r81_3c, _))) =>
        (c_s_l8Of R width0 o0b).bind fun (r65_3_1, (r65_3b, (r65_3c, _))) =>
        (c_s_l8Cmp R r81_3_1 r81_3b r81_3c r65_3_1 r65_3b r65_3c).bind fun (r80_3_1, _) =>
        some (.inr (((ile r80_3_1 0), ()), ()))
      else
      some (.inr ((false, ()), ()))) fun ((t6_1, _), _) =>
  some (t6_1, ())
def p_i_formatOf (R : Run) (n : Nat) (u0 : Int) : Option (Int × (Int × (Int × (Int × (Bool × Unit))))) :=
  bif (u0 == 32) then
    some (23, ((-149), (127, (2139095040, (true, ())))))
  else
  bif (u0 == 64) then
    some (52, ((-1074), (1023, (9218868437227405312, (true, ())))))
  else
  some (0, (0, (0, (0, (false, ())))))
def p_s_l31Rd_pair (R : Run) (n : Nat) (u0 : List Int) (u1 : Int) (u2 : Int) : Option (Int × (Int × (List Int × (Int × Unit)))) :=
  (c_s_l31Rd_ord R u0 u1 u2).bind fun (r120_1, (r120b, (r120c, _))) =>
  (c_s_l31Rd_ord R r120b r120c u2).bind fun (r120_2_1, (r120_2b, (r120_2c, _))) =>
  jb (P := (((Int × (Int × (Unit × (Unit × Unit))))) × (((List Int × (Int × Unit))) × (((Int × (Int × Unit))) × Unit)))) (
      (c_s_l31Rd_pick R r120_2b r120_2c 6).bind fun (r121_1, (r121b, (r121c, _))) =>
      bif (r121_1 == 0) then
        some (.inr ((r120_1, (r120_1, ((), ((), ())))), ((r121b, (r121c, ())), ((0, (0, ())), ()))))
      else
      bif (r121_1 == 1) then
        (c_s_l31Rd_pick R r121b r121c 4).bind fun (r121_2_1, (r121_2b, (r121_2c, _))) =>
        some (.inr ((r120_1, ((iadd .i64 (iadd .i64 r120_1 1) r121_2_1), ((), ((), ())))), ((r121_2b, (r121_2c, ())), ((0, (0, ())), ()))))
      else
      bif (r121_1 == 2) then
        (c_s_l31Rd_pick R r121b r121c 1000).bind fun (r121_3_1, (r121_3b, (r121_3c, _))) =>
        some (.inr ((r120_1, ((iadd .i64 r120_1 r121_3_1), ((), ((), ())))), ((r121_3b, (r121_3c, ())), ((0, (0, ())), ()))))
      else
      some (.inr ((r120_1, (r120_2_1, ((), ((), ())))), ((r121b, (r121c, ())), ((0, (0, ())), ()))))) fun ((a5, (b6, (_, (_, _)))), ((o0a, (o0b, _)), ((o1a, (o1b, _)), _))) =>
  jb (P := (((Int × (Int × (Unit × (Unit × Unit))))) × (((Int × (Int × Unit))) × (((List Int × (Int × Unit))) × Unit)))) (
      jb (P := (((Bool × (Int × (Int × (Unit × (Unit × Unit)))))) × (((Int × (Int × Unit))) × (((List Int × (Int × Unit))) × Unit)))) (
          bif (ilt b6 a5) then
            (c_s_l31Rd_pick R o0a o0b 24).bind fun (r121_4_1, (r121_4b, (r121_4c, _))) =>
            some (.inr (((ilt 0 r121_4_1), (b6, (a5, ((), ((), ()))))), ((o1a, (o1b, ())), ((r121_4b, (r121_4c, ())), ()))))
          else
          some (.inr ((false, (b6, (a5, ((), ((), ()))))), ((o1a, (o1b, ())), ((o0a, (o0b, ())), ()))))) fun ((t38, (b6_1, (a5_1, (_, (_, _))))), ((o0a_1, (o0b_1, _)), ((o1a_1, (o1b_1, _)), _))) =>
      bif t38 then
        some (.inr ((b6_1, (a5_1, ((), ((), ())))), ((o0a_1, (o0b_1, ())), ((o1a_1, (o1b_1, ())), ()))))
      else
      some (.inr ((a5_1, (b6_1, ((), ((), ())))), ((o0a_1, (o0b_1, ())), ((o1a_1, (o1b_1, ())), ()))))) fun ((a5_2, (b6_2, (_, (_, _)))), ((o0a_2, (o0b_2, _)), ((o1a_2, (o1b_2, _)), _))) =>
  some (a5_2, (b6_2, (o1a_2, (o1b_2, ()))))
def p_s_l31Rd_big (R : Run) (n : Nat) (u0 : List Int) (u1 : Int) : Option (Int × (List Int × (Int × Unit))) :=
  iter (P := (((Int × (Int × (Unit × (Int × Unit))))) × (((List Int × (Int × Unit))) × Unit))) (fun rec ((i4, (n3, (_, (t2, _)))), ((o0a, (o0b, _)), _)) =>
      bif (ilt i4 8) then
        (c_s_l31Rd_pick R o0a o0b 256).bind fun (r31_1, (r31b, (r31c, _))) =>
        rec (((iadd .i64 i4 1), ((iadd .u64 (imul .u64 n3 256) (IntKind.wrap .u64 r31_1)), ((), (t2, ())))), ((r31b, (r31c, ())), ()))
      else
      some (n3, (o0a, (o0b, ())))) n ((0, (0, ((), (0, ())))), ((u0, (u1, ())), ()))
def p_i_Frac_pow (R : Run) (n : Nat) (u0 : Bool) (u1 : List Int) (u2 : List Int) (u3 : Int) : Option (Bool × (List Int × (List Int × Unit))) :=
  jb (P := (((Unit × Unit)) × (((Bool × (List Int × (List Int × Unit)))) × Unit))) (
      bif u0 then
        (c_i_natPow R u1 u3).bind fun (r207_1, _) =>
        (c_i_natPow R u2 u3).bind fun (r207_2_1, _) =>
        some (.inr (((), ()), ((((irem .i64 u3 2) == 1), (r207_1, (r207_2_1, ()))), ())))
      else
      (c_i_natPow R u1 u3).bind fun (r207_3_1, _) =>
      (c_i_natPow R u2 u3).bind fun (r207_4_1, _) =>
      some (.inr (((), ()), ((false, (r207_3_1, (r207_4_1, ()))), ())))) fun ((_, _), ((o0a, (o0b, (o0c, _))), _)) =>
  some (o0a, (o0b, (o0c, ())))
def p_i_root (R : Run) (n : Nat) (u0 : Int) (u1 : Int) (u2 : Int) : Option (Int × (Bool × Unit)) :=
  (c_i_value R u0 u1).bind fun (r144_1, (r144b, (r144c, _))) =>
  (c_i_BitTop R u0).bind fun (r143_1, _) =>
  iter (P := (((Int × (Int × (Int × (Int × (Unit × (Int × (Bool × Unit)))))))) × (((Bool × (List Int × (List Int × Unit)))) × Unit))) (fun rec ((lo9, (hi10, (width0, (n2, (_, (t6, (t7, _))))))), ((o0a, (o0b, (o0c, _))), _)) =>
      bif (ilt lo9 hi10) then
        (c_i_powerAbove R width0 (iadd .i64 lo9 (iquo .i64 (iadd .i64 (isub .i64 hi10 lo9) 1) 2)) n2 o0a o0b o0c).bind fun (r208_1, _) =>
        bif r208_1 then
          rec ((lo9, ((isub .i64 (iadd .i64 lo9 (iquo .i64 (iadd .i64 (isub .i64 hi10 lo9) 1) 2)) 1), (width0, (n2, ((), (t6, (t7, ()))))))), ((o0a, (o0b, (o0c, ()))), ()))
        else
        rec (((iadd .i64 lo9 (iquo .i64 (iadd .i64 (isub .i64 hi10 lo9) 1) 2)), (hi10, (width0, (n2, ((), (t6, (t7, ()))))))), ((o0a, (o0b, (o0c, ()))), ()))
      else
      (c_i_value R width0 lo9).bind fun (r144_2_1, (r144_2b, (r144_2c, _))) =>
      (c_i_Frac_pow R r144_2_1 r144_2b r144_2c n2).bind fun (r173_1, (r173b, (r173c, _))) =>
      (c_i_Frac_cmp R r173_1 r173b r173c o0a o0b o0c).bind fun (r209_1, _) =>
      some (lo9, ((r209_1 == 0), ()))) n ((0, ((isub .i64 r143_1 1), (u0, (u2, ((), (0, (false, ()))))))), ((r144_1, (r144b, (r144c, ()))), ()))
def p_i_PairOk (R : Run) (n : Nat) (u0 : Int) (u1 : Int) (u2 : Int) : Option (Bool × Unit) :=
  (c_i_BitTop R u0).bind fun (r28_1, _) =>
  jb (P := (((Bool × Unit)) × Unit)) (
      (c_i_BitOk R u0 u1).bind fun (r70_1, _) =>
      bif r70_1 then
        (c_i_BitOk R u0 u2).bind fun (r70_2_1, _) =>
        bif r70_2_1 then
          bif (ile u1 u2) then
            bif (u1 != r28_1) then
              some (.inr (((u2 != (ineg .i64 r28_1)), ()), ()))
            else
            some (.inr ((false, ()), ()))
          else
          some (.inr ((false, ()), ()))
        else
        some (.inr ((false, ()), ()))
      else
      some (.inr ((false, ()), ()))) fun ((t4, _), _) =>
  some (t4, ())
def p_s_l5Times (R : Run) (n : Nat) (u0 : List Int) (u1 : Int) : Option (List Int × Unit) :=
  bif (u1 == 0) then
    some ([], ())
  else
  (c_s_l5Mul R u0 [u1]).bind fun (r69_1, _) =>
  some (r69_1, ())
def p_s_l9Infinite (R : Run) (n : Nat) (u0 : Int) (u1 : Int) : Option (Bool × Unit) :=
  jb (P := (((Bool × Unit)) × Unit)) (
      (c_s_BitTop R u0).bind fun (r99_1, _) =>
      bif (u1 == r99_1) then
        some (.inr ((true, ()), ()))
      else
      (c_s_BitTop R u0).bind fun (r99_2_1, _) =>
      some (.inr (((u1 == (ineg .i64 r99_2_1)), ()), ()))) fun ((t4, _), _) =>
  some (t4, ())
def p_s_l9Power (R : Run) (n : Nat) (u0 : Bool) (u1 : List Int) (u2 : List Int) (u3 : Int) : Option (Bool × (List Int × (List Int × Unit))) :=
  iter (P := (((Int × (Int × (Unit × (Unit × (Unit × Unit)))))) × (((Bool × (List Int × (List Int × Unit)))) × (((Bool × (List Int × (List Int × Unit)))) × (((Bool × (Unit × (Unit × Unit)))) × Unit))))) (fun rec ((i6, (n1, (_, (_, (_, _))))), ((o0a, (o0b, (o0c, _))), ((o1a, (o1b, (o1c, _))), ((o2, (_, (_, _))), _)))) =>
      bif (ilt i6 n1) then
        (c_s_l5Mul R o0b o1b).bind fun (r84_1, _) =>
        (c_s_l5Mul R o0c o1c).bind fun (r84_2_1, _) =>
        rec (((iadd .i64 i6 1), (n1, ((), ((), ((), ()))))), (((!(beqB o0a o1a)), (r84_1, (r84_2_1, ()))), ((o1a, (o1b, (o1c, ()))), ((o2, ((), ((), ()))), ()))))
      else
      some (o0a, (o0b, (o0c, ())))) n ((1, (u3, ((), ((), ((), ()))))), ((u0, (u1, (u2, ()))), ((u0, (u1, (u2, ()))), ((false, ((), ((), ()))), ()))))
def p_i_PairHas (R : Run) (n : Nat) (u0 : Int) (u1 : Int) (u2 : Int) (u3 : Bool) (u4 : List Int) (u5 : List Int) : Option (Bool × Unit) :=
  (c_i_BitTop R u0).bind fun (r143_1, _) =>
  jb (P := (((Bool × Unit)) × Unit)) (
      (c_i_PairOk R u0 u1 u2).bind fun (r178_1, _) =>
      bif r178_1 then
        (c_i_FracOk R u3 u4 u5).bind fun (r212_1, _) =>
        bif r212_1 then
          bif (u1 == (ineg .i64 r143_1)) then
            bif (u2 == r143_1) then
              some (.inr ((true, ()), ()))
            else
            (c_i_value R u0 u2).bind fun (r144_1, (r144b, (r144c, _))) =>
            (c_i_Frac_cmp R u3 u4 u5 r144_1 r144b r144c).bind fun (r209_1, _) =>
            some (.inr (((ile r209_1 0), ()), ()))
          else
          (c_i_value R u0 u1).bind fun (r144_2_1, (r144_2b, (r144_2c, _))) =>
          (c_i_Frac_cmp R r144_2_1 r144_2b r144_2c u3 u4 u5).bind fun (r209_2_1, _) =>
          bif (ile r209_2_1 0) then
            bif (u2 == r143_1) then
              some (.inr ((true, ()), ()))
            else
            (c_i_value R u0 u2).bind fun (r144_3_1, (r144_3b, (r144_3c, _))) =>
            (c_i_Frac_cmp R u3 u4 u5 r144_3_1 r144_3b r144_3c).bind fun (r209_3_1, _) =>
            some (.inr (((ile r209_3_1 0), ()), ()))
          else
          some (.inr ((false, ()), ()))
        else
        some (.inr ((false, ()), ()))
      else
      some (.inr ((false, ()), ()))) fun ((t6, _), _) =>
  some (t6, ())
def p_s_l5Root (R : Run) (n : Nat) (u0 : List Int) : Option (List Int × Unit) :=
  (c_s_l5Bits R u0).bind fun (r213_1, _) =>
  iter (P := (((Int × (List Int × (List Int × (Unit × Unit))))) × Unit)) (fun rec ((k4, (root3, (a0, (_, _)))), _) =>
      bif (ile 0 k4) then
        jb (P := (((Int × (List Int × (List Int × (Unit × Unit))))) × Unit)) (
            (c_s_l5Pow2 R k4).bind fun (r140_1, _) =>
            (c_s_l5Add R root3 r140_1).bind fun (r153_1, _) =>
            (c_s_l5Mul R r153_1 r153_1).bind fun (r84_1, _) =>
            (c_s_l5Cmp R r84_1 a0).bind fun (r154_1, _) =>
            bif (ile r154_1 0) then
              some (.inr ((k4, (r153_1, (a0, ((), ())))), ()))
            else
            some (.inr ((k4, (root3, (a0, ((), ())))), ()))) fun ((k4_1, (root3_1, (a0_1, (_, _)))), _) =>
        rec (((isub .i64 k4_1 1), (root3_1, (a0_1, ((), ())))), ())
      else
      some (root3, ())) n (((iquo .i64 (iadd .i64 r213_1 1) 2), ([], (u0, ((), ())))), ())
def p_s_l5Shl (R : Run) (n : Nat) (u0 : List Int) (u1 : Int) : Option (List Int × Unit) :=
  bif ((len u0) == 0) then
    some ([], ())
  else
  ok (mkOk u1 u1 8) <|
  iter (P := (((Int × (List Int × (Unit × (Unit × Unit))))) × (List Int × Unit))) (fun rec ((i6, (a0, (_, (_, _)))), (o0, _)) =>
      bif (ilt i6 (len a0)) then
        ok (inB i6 (len a0)) <|
        ok (aok (o0 ++ [(List.getD a0 (Int.toNat i6) 0)]) 8) <|
        rec (((iadd .i64 i6 1), (a0, ((), ((), ())))), ((o0 ++ [(List.getD a0 (Int.toNat i6) 0)]), ()))
      else
      some (o0, ())) n ((0, (u0, ((), ((), ())))), ((List.replicate (Int.toNat u1) 0), ()))
def p_s_l5DivSmall (R : Run) (n : Nat) (u0 : List Int) (u1 : Int) : Option (List Int × (Int × Unit)) :=
  ok (mkOk (len u0) (len u0) 8) <|
  iter (P := (((Int × (Int × (List Int × (Unit × (Int × (Unit × (Int × Unit)))))))) × (List Int × Unit))) (fun rec ((i8, (rest7, (a0, (_, (d1, (_, (t5, _))))))), (o0, _)) =>
      bif (ile 0 i8) then
        ok (inB i8 (len a0)) <|
        ok (!(d1 == 0)) <|
        ok (inB i8 (len o0)) <|
        ok (!(d1 == 0)) <|
        rec (((isub .i64 i8 1), ((irem .i64 (iadd .i64 (imul .i64 rest7 65536) (List.getD a0 (Int.toNat i8) 0)) d1), (a0, ((), (d1, ((), (t5, ()))))))), ((List.set o0 (Int.toNat i8) (iquo .i64 (iadd .i64 (imul .i64 rest7 65536) (List.getD a0 (Int.toNat i8) 0)) d1)), ()))
      else
      (c_s_l5Trim R o0).bind fun (r79_1, _) =>
      some (r79_1, (rest7, ()))) n (((isub .i64 (len u0) 1), (0, (u0, ((), (u1, ((), (0, ()))))))), ((List.replicate (Int.toNat (len u0)) 0), ()))
def p_s_l5Top (R : Run) (n : Nat) (u0 : List Int) (u1 : Int) : Option (List Int × Unit) :=
  iter (P := (((Int × (List Int × (Unit × (Unit × Unit))))) × (List Int × Unit))) (fun rec ((i6, (a0, (_, (_, _)))), (o0, _)) =>
      bif (ilt i6 (len a0)) then
        ok (inB i6 (len a0)) <|
        ok (aok (o0 ++ [(List.getD a0 (Int.toNat i6) 0)]) 8) <|
        rec (((iadd .i64 i6 1), (a0, ((), ((), ())))), ((o0 ++ [(List.getD a0 (Int.toNat i6) 0)]), ()))
      else
      some (o0, ())) n ((u1, (u0, ((), ((), ())))), ([], ()))
def p_s_l5At (R : Run) (n : Nat) (u0 : List Int) (u1 : Int) : Option (Int × Unit) :=
  bif (ilt u1 (len u0)) then
    ok (inB u1 (len u0)) <|
    some ((List.getD u0 (Int.toNat u1) 0), ())
  else
  some (0, ())
def p_i_BitPartOf (R : Run) (n : Nat) (u0 : Int) (u1 : Int) : Option (Bool × (Int × (Int × (Bool × Unit)))) :=
  (c_i_formatOf R u0).bind fun (r169_1, (r169b, (r169c, (r169d, (r169e, _))))) =>
  jb (P := (((Bool × (Unit × (Int × (Unit × (Bool × Unit)))))) × (((Bool × (Int × (Int × Unit)))) × (((Int × (Int × (Int × (Int × Unit))))) × Unit)))) (
      (c_i_BitOk R u0 u1).bind fun (r101_1, _) =>
      bif (!r101_1) then
        some (.inr ((true, ((), (u1, ((), (false, ()))))), ((false, (0, (0, ()))), ((r169_1, (r169b, (r169c, (r169d, ())))), ()))))
      else
      (c_i_size R u1).bind fun (r113_1, _) =>
      some (.inr (((r113_1 == r169d), ((), (u1, ((), (false, ()))))), ((false, (0, (0, ()))), ((r169_1, (r169b, (r169c, (r169d, ())))), ()))))) fun ((t25, (_, (ord1, (_, (t5, _))))), ((o0a, (o0b, (o0c, _))), ((o1a, (o1b, (o1c, (o1d, _)))), _))) =>
  bif t25 then
    some (false, (0, (0, (false, ()))))
  else
  (c_i_size R ord1).bind fun (r113_2_1, _) =>
  ok (ile 0 o1a) <|
  (c_i_size R ord1).bind fun (r113_3_1, _) =>
  ok (ile 0 o1a) <|
  bif ((ishr .i64 r113_3_1 o1a) == 0) then
    some ((ilt ord1 0), ((IntKind.wrap .u64 (iand .i64 r113_2_1 (isub .i64 (ishl .i64 1 o1a) 1))), (o1b, (true, ()))))
  else
  ok (ile 0 o1a) <|
  some ((ilt ord1 0), ((IntKind.wrap .u64 (ior .i64 (iand .i64 r113_2_1 (isub .i64 (ishl .i64 1 o1a) 1)) (ishl .i64 1 o1a))), ((isub .i64 (iadd .i64 o1b (ishr .i64 r113_3_1 o1a)) 1), (true, ()))))
def p_i_natOf (R : Run) (n : Nat) (u0 : Int) : Option (List Int × Unit) :=
  iter (P := (((Int × (Unit × (Unit × Unit)))) × (List Int × Unit))) (fun rec ((n0, (_, (_, _))), (o0, _)) =>
      bif (ilt 0 n0) then
        ok (aok (o0 ++ [(IntKind.wrap .i64 (iand .u64 n0 65535))]) 8) <|
        rec (((ishr .u64 n0 16), ((), ((), ()))), ((o0 ++ [(IntKind.wrap .i64 (iand .u64 n0 65535))]), ()))
      else
      some (o0, ())) n ((u0, ((), ((), ()))), ([], ()))
def p_i_natShift (R : Run) (n : Nat) (u0 : List Int) (u1 : Int) : Option (List Int × Unit) :=
  bif (ilt u1 0) then
    bif (ile (len u0) (iquo .i64 (ineg .i64 u1) 16)) then
      some ([], ())
    else
    ok (sliceOk (iquo .i64 (ineg .i64 u1) 16) (len u0) (len u0)) <|
    (c_slices_Clone_int_int R (List.drop (Int.toNat (iquo .i64 (ineg .i64 u1) 16)) (List.take (Int.toNat (len u0)) u0))).bind fun (r105_1, _) =>
    iter (P := (((Int × (Int × (Unit × (Int × (Int × (List Int × (Int × (Unit × Unit))))))))) × (List Int × Unit))) (fun rec ((t31, (t30, (_, (rest6, (drop5, (a0, (k1, (_, _)))))))), (o0, _)) =>
        bif (ilt t31 t30) then
          jb (P := (((Int × (Int × (Unit × (Int × (Int × (List Int × (Int × (Unit × Unit))))))))) × (List Int × Unit))) (
              ok (inB t31 (len o0)) <|
              ok (ile 0 rest6) <|
              ok (inB t31 (len o0)) <|
              bif (ilt (iadd .i64 (iadd .i64 drop5 t31) 1) (len a0)) then
                ok (inB t31 (len (List.set o0 (Int.toNat t31) (ishr .i64 (List.getD o0 (Int.toNat t31) 0) rest6)))) <|
                ok (inB (iadd .i64 (iadd .i64 drop5 t31) 1) (len a0)) <|
                ok (ile 0 (isub .i64 16 rest6)) <|
                ok (inB t31 (len (List.set o0 (Int.toNat t31) (ishr .i64 (List.getD o0 (Int.toNat t31) 0) rest6)))) <|
                some (.inr ((t31, (t30, ((), (rest6, (drop5, (a0, (k1, ((), ())))))))), ((List.set (List.set o0 (Int.toNat t31) (ishr .i64 (List.getD o0 (Int.toNat t31) 0) rest6)) (Int.toNat t31) (ior .i64 (List.getD (List.set o0 (Int.toNat t31) (ishr .i64 (List.getD o0 (Int.toNat t31) 0) rest6)) (Int.toNat t31) 0) (iand .i64 (ishl .i64 (List.getD a0 (Int.toNat (iadd .i64 (iadd .i64 drop5 t31) 1)) 0) (isub .i64 16 rest6)) 65535))), ())))
              else
              some (.inr ((t31, (t30, ((), (rest6, (drop5, (a0, (k1, ((), ())))))))), ((List.set o0 (Int.toNat t31) (ishr .i64 (List.getD o0 (Int.toNat t31) 0) rest6)), ())))) fun ((t31_1, (t30_1, (_, (rest6_1, (drop5_1, (a0_1, (k1_1, (_, _)))))))), (o0_1, _)) =>
          rec (((iadd .i64 t31_1 1), (t30_1, ((), (rest6_1, (drop5_1, (a0_1, (k1_1, ((), ())))))))), (o0_1, ()))
        else
        (c_i_trim R o0).bind fun (r73_1, _) =>
        some (r73_1, ())) n ((0, ((len r105_1), ((), ((irem .i64 (ineg .i64 u1) 16), ((iquo .i64 (ineg .i64 u1) 16), (u0, (u1, ((), ())))))))), (r105_1, ()))
  else
  ok (mkOk (iadd .i64 (iadd .i64 (iquo .i64 u1 16) (len u0)) 1) (iadd .i64 (iadd .i64 (iquo .i64 u1 16) (len u0)) 1) 8) <|
  iter (P := (((Int × (Int × (List Int × (Int × (Unit × (Unit × Unit))))))) × (List Int × Unit))) (fun rec_1 ((t77, (t76, (t75, (k1_2, (_, (_, _)))))), (o0_2, _)) =>
      bif (ilt t77 t76) then
        ok (inB t77 (len t75)) <|
        ok (ile 0 (irem .i64 k1_2 16)) <|
        ok (inB (iadd .i64 (iquo .i64 k1_2 16) t77) (len o0_2)) <|
        ok (inB (iadd .i64 (iquo .i64 k1_2 16) t77) (len o0_2)) <|
        ok (inB (iadd .i64 (iadd .i64 (iquo .i64 k1_2 16) t77) 1) (len (List.set o0_2 (Int.toNat (iadd .i64 (iquo .i64 k1_2 16) t77)) (ior .i64 (List.getD o0_2 (Int.toNat (iadd .i64 (iquo .i64 k1_2 16) t77)) 0) (iand .i64 (ishl .i64 (List.getD t75 (Int.toNat t77) 0) (irem .i64 k1_2 16)) 65535))))) <|
        rec_1 (((iadd .i64 t77 1), (t76, (t75, (k1_2, ((), ((), ())))))), ((List.set (List.set o0_2 (Int.toNat (iadd .i64 (iquo .i64 k1_2 16) t77)) (ior .i64 (List.getD o0_2 (Int.toNat (iadd .i64 (iquo .i64 k1_2 16) t77)) 0) (iand .i64 (ishl .i64 (List.getD t75 (Int.toNat t77) 0) (irem .i64 k1_2 16)) 65535))) (Int.toNat (iadd .i64 (iadd .i64 (iquo .i64 k1_2 16) t77) 1)) (ishr .i64 (ishl .i64 (List.getD t75 (Int.toNat t77) 0) (irem .i64 k1_2 16)) 16)), ()))
      else
      (c_i_trim R o0_2).bind fun (r73_2_1, _) =>
      some (r73_2_1, ())) n ((0, ((len u0), (u0, (u1, ((), ((), ())))))), ((List.replicate (Int.toNat (iadd .i64 (iadd .i64 (iquo .i64 u1 16) (len u0)) 1)) 0), ()))
def p_i_trim (R : Run) (n : Nat) (u0 : List Int) : Option (List Int × Unit) :=
  iter (P := (((List Int × (Unit × Unit))) × Unit)) (fun rec ((a0, (_, _)), _) =>
      jb (P := (((Bool × (List Int × (Unit × Unit)))) × Unit)) (
          bif (ilt 0 (len a0)) then
            ok (inB (isub .i64 (len a0) 1) (len a0)) <|
            some (.inr ((((List.getD a0 (Int.toNat (isub .i64 (len a0) 1)) 0) == 0), (a0, ((), ()))), ()))
          else
          some (.inr ((false, (a0, ((), ()))), ()))) fun ((t14, (a0_1, (_, _))), _) =>
      bif t14 then
        ok (sliceOk 0 (isub .i64 (len a0_1) 1) (len a0_1)) <|
        rec (((List.drop (Int.toNat 0) (List.take (Int.toNat (isub .i64 (len a0_1) 1)) a0_1)), ((), ())), ())
      else
      some (a0_1, ())) n ((u0, ((), ())), ())
def p_i_natGcd (R : Run) (n : Nat) (u0 : List Int) (u1 : List Int) : Option (List Int × Unit) :=
  iter (P := (((List Int × (List Int × (Unit × Unit)))) × Unit)) (fun rec ((b1, (a0, (_, _))), _) =>
      bif (ilt 0 (len b1)) then
        (c_i_natDiv R a0 b1).bind fun (r91_1, (r91b, _)) =>
        rec ((r91b, (b1, ((), ()))), ())
      else
      some (a0, ())) n ((u1, (u0, ((), ()))), ())
def p_i_natDiv (R : Run) (n : Nat) (u0 : List Int) (u1 : List Int) : Option (List Int × (List Int × Unit)) :=
  (c_i_natCmp R u0 u1).bind fun (r50_1, _) =>
  bif (ilt r50_1 0) then
    some ([], (u0, ()))
  else
  bif ((len u1) == 1) then
    ok (mkOk (len u0) (len u0) 8) <|
    iter (P := (((Int × (Int × (List Int × (Unit × (List Int × (Unit × (Unit × Unit)))))))) × (List Int × Unit))) (fun rec ((i8, (rest7, (a0, (_, (b1, (_, (_, _))))))), (o0, _)) =>
        bif (ile 0 i8) then
          ok (inB i8 (len a0)) <|
          ok (inB 0 (len b1)) <|
          ok (!((List.getD b1 (Int.toNat 0) 0) == 0)) <|
          ok (inB 0 (len b1)) <|
          ok (!((List.getD b1 (Int.toNat 0) 0) == 0)) <|
          ok (inB i8 (len o0)) <|
          rec (((isub .i64 i8 1), ((irem .i64 (ior .i64 (ishl .i64 rest7 16) (List.getD a0 (Int.toNat i8) 0)) (List.getD b1 (Int.toNat 0) 0)), (a0, ((), (b1, ((), ((), ()))))))), ((List.set o0 (Int.toNat i8) (iquo .i64 (ior .i64 (ishl .i64 rest7 16) (List.getD a0 (Int.toNat i8) 0)) (List.getD b1 (Int.toNat 0) 0))), ()))
        else
        (c_i_trim R o0).bind fun (r73_1, _) =>
        (c_i_trim R [rest7]).bind fun (r73_2_1, _) =>
        some (r73_1, (r73_2_1, ()))) n (((isub .i64 (len u0) 1), (0, (u0, ((), (u1, ((), ((), ()))))))), ((List.replicate (Int.toNat (len u0)) 0), ()))
  else
  ok (inB (isub .i64 (len u1) 1) (len u1)) <|
  (c_math_bits_Len R (IntKind.wrap .u64 (List.getD u1 (Int.toNat (isub .i64 (len u1) 1)) 0))).bind fun (r103_1, _) =>
  (c_i_natShift R u1 (isub .i64 16 r103_1)).bind fun (r104_1, _) =>
  (c_i_natShift R u0 (isub .i64 16 r103_1)).bind fun (r104_2_1, _) =>
  (c_slices_Clone_int_int R r104_2_1).bind fun (r105_1, _) =>
  ok (aok (r105_1 ++ [0]) 8) <|
  iter (P := (((Unit × (List Int × (Int × (List Int × (Int × (Unit × (Unit × Unit)))))))) × (List Int × Unit))) (fun rec_1 ((_, (a0_1, (n13, (v11, (by10, (_, (_, _))))))), (o0_1, _)) =>
      bif (ilt (len o0_1) (iadd .i64 (len a0_1) 1)) then
        ok (aok (o0_1 ++ [0]) 8) <|
        rec_1 (((), (a0_1, (n13, (v11, (by10, ((), ((), ()))))))), ((o0_1 ++ [0]), ()))
      else
      ok (mkOk (isub .i64 (len o0_1) n13) (isub .i64 (len o0_1) n13) 8) <|
      iter (P := (((Int × (Unit × (Int × (List Int × (Unit × (Int × (Unit × (Unit × Unit))))))))) × (List Int × (List Int × Unit)))) (fun rec_2 ((j15, (_, (n13_1, (v11_1, (_, (by10_1, (_, (_, _)))))))), (o0_2, (o1, _))) =>
          bif (ile 0 j15) then
            ok (inB (iadd .i64 j15 n13_1) (len o0_2)) <|
            ok (inB (isub .i64 (iadd .i64 j15 n13_1) 1) (len o0_2)) <|
            ok (inB (isub .i64 n13_1 1) (len v11_1)) <|
            ok (!((List.getD v11_1 (Int.toNat (isub .i64 n13_1 1)) 0) == 0)) <|
            ok (inB (isub .i64 n13_1 1) (len v11_1)) <|
            ok (!((List.getD v11_1 (Int.toNat (isub .i64 n13_1 1)) 0) == 0)) <|
            jb (P := (((List Int × (Unit × (Int × (Int × (Int × (Unit × (Int × (Unit × (Unit × Unit)))))))))) × (List Int × (List Int × Unit)))) (
                iter (P := (((Int × (List Int × (Int × (Int × (Unit × (Int × (Unit × (Int × (Unit × (Unit × Unit))))))))))) × (List Int × (List Int × Unit)))) (fun rec_3 ((q17, (v11_2, (n13_2, (r18, (_, (j15_1, (_, (by10_2, (_, (_, _)))))))))), (o0_3, (o1_1, _))) =>
                    jb (P := (((Bool × (Int × (Int × (List Int × (Int × (Unit × (Int × (Unit × (Int × (Unit × (Unit × Unit)))))))))))) × (List Int × (List Int × Unit)))) (
                        bif (ile 65536 q17) then
                          some (.inr ((true, (q17, (r18, (v11_2, (n13_2, ((), (j15_1, ((), (by10_2, ((), ((), ()))))))))))), (o0_3, (o1_1, ()))))
                        else
                        ok (inB (isub .i64 n13_2 2) (len v11_2)) <|
                        ok (inB (isub .i64 (iadd .i64 j15_1 n13_2) 2) (len o0_3)) <|
                        some (.inr (((ilt (ior .i64 (ishl .i64 r18 16) (List.getD o0_3 (Int.toNat (isub .i64 (iadd .i64 j15_1 n13_2) 2)) 0)) (imul .i64 q17 (List.getD v11_2 (Int.toNat (isub .i64 n13_2 2)) 0))), (q17, (r18, (v11_2, (n13_2, ((), (j15_1, ((), (by10_2, ((), ((), ()))))))))))), (o0_3, (o1_1, ()))))) fun ((t163, (q17_1, (r18_1, (v11_3, (n13_3, (_, (j15_2, (_, (by10_3, (_, (_, _))))))))))), (o0_4, (o1_2, _))) =>
                    bif t163 then
                      ok (inB (isub .i64 n13_3 1) (len v11_3)) <|
                      bif (ile 65536 (iadd .i64 r18_1 (List.getD v11_3 (Int.toNat (isub .i64 n13_3 1)) 0))) then
                        some (.inr ((v11_3, ((), (j15_2, ((isub .i64 q17_1 1), (n13_3, ((), (by10_3, ((), ((), ()))))))))), (o0_4, (o1_2, ()))))
                      else
                      rec_3 (((isub .i64 q17_1 1), (v11_3, (n13_3, ((iadd .i64 r18_1 (List.getD v11_3 (Int.toNat (isub .i64 n13_3 1)) 0)), ((), (j15_2, ((), (by10_3, ((), ((), ())))))))))), (o0_4, (o1_2, ())))
                    else
                    some (.inr ((v11_3, ((), (j15_2, (q17_1, (n13_3, ((), (by10_3, ((), ((), ()))))))))), (o0_4, (o1_2, ()))))) n (((iquo .i64 (ior .i64 (ishl .i64 (List.getD o0_2 (Int.toNat (iadd .i64 j15 n13_1)) 0) 16) (List.getD o0_2 (Int.toNat (isub .i64 (iadd .i64 j15 n13_1) 1)) 0)) (List.getD v11_1 (Int.toNat (isub .i64 n13_1 1)) 0)), (v11_1, (n13_1, ((irem .i64 (ior .i64 (ishl .i64 (List.getD o0_2 (Int.toNat (iadd .i64 j15 n13_1)) 0) 16) (List.getD o0_2 (Int.toNat (isub .i64 (iadd .i64 j15 n13_1) 1)) 0)) (List.getD v11_1 (Int.toNat (isub .i64 n13_1 1)) 0)), ((), (j15, ((), (by10_1, ((), ((), ())))))))))), (o0_2, (o1, ())))) fun ((v11_4, (_, (j15_3, (q17_2, (n13_4, (_, (by10_4, (_, (_, _))))))))), (o0_5, (o1_3, _))) =>
            iter (P := (((Int × (Int × (List Int × (Unit × (Int × (Int × (Int × (Int × (List Int × (Unit × (Int × (Unit × (Unit × Unit)))))))))))))) × (List Int × (List Int × Unit)))) (fun rec_4 ((t177, (t176, (t175, (_, (j15_4, (borrow19, (q17_3, (n13_5, (v11_5, (_, (by10_5, (_, (_, _))))))))))))), (o0_6, (o1_4, _))) =>
                bif (ilt t177 t176) then
                  ok (inB t177 (len t175)) <|
                  ok (inB (iadd .i64 j15_4 t177) (len o0_6)) <|
                  jb (P := (((Unit × (Int × (Int × (Int × (Int × (Int × (List Int × (Int × (Int × (Int × (List Int × (Unit × (Int × (Unit × (Unit × Unit)))))))))))))))) × (List Int × (List Int × Unit)))) (
                      bif (ilt (isub .i64 (isub .i64 (List.getD o0_6 (Int.toNat (iadd .i64 j15_4 t177)) 0) borrow19) (imul .i64 q17_3 (List.getD t175 (Int.toNat t177) 0))) 0) then
                        some (.inr (((), (j15_4, (t177, ((iadd .i64 (isub .i64 (isub .i64 (List.getD o0_6 (Int.toNat (iadd .i64 j15_4 t177)) 0) borrow19) (imul .i64 q17_3 (List.getD t175 (Int.toNat t177) 0))) (imul .i64 (iquo .i64 (isub .i64 (iadd .i64 (ineg .i64 (isub .i64 (isub .i64 (List.getD o0_6 (Int.toNat (iadd .i64 j15_4 t177)) 0) borrow19) (imul .i64 q17_3 (List.getD t175 (Int.toNat t177) 0)))) 65536) 1) 65536) 65536)), (t177, (t176, (t175, ((iquo .i64 (isub .i64 (iadd .i64 (ineg .i64 (isub .i64 (isub .i64 (List.getD o0_6 (Int.toNat (iadd .i64 j15_4 t177)) 0) borrow19) (imul .i64 q17_3 (List.getD t175 (Int.toNat t177) 0)))) 65536) 1) 65536), (q17_3, (n13_5, (v11_5, ((), (by10_5, ((), ((), ()))))))))))))))), (o0_6, (o1_4, ()))))
                      else
                      some (.inr (((), (j15_4, (t177, ((isub .i64 (isub .i64 (List.getD o0_6 (Int.toNat (iadd .i64 j15_4 t177)) 0) borrow19) (imul .i64 q17_3 (List.getD t175 (Int.toNat t177) 0))), (t177, (t176, (t175, (0, (q17_3, (n13_5, (v11_5, ((), (by10_5, ((), ((), ()))))))))))))))), (o0_6, (o1_4, ()))))) fun ((_, (j15_5, (i20, (x22, (t177_1, (t176_1, (t175_1, (borrow19_1, (q17_4, (n13_6, (v11_6, (_, (by10_6, (_, (_, _))))))))))))))), (o0_7, (o1_5, _))) =>
                  ok (inB (iadd .i64 j15_5 i20) (len o0_7)) <|
                  rec_4 (((iadd .i64 t177_1 1), (t176_1, (t175_1, ((), (j15_5, (borrow19_1, (q17_4, (n13_6, (v11_6, ((), (by10_6, ((), ((), ()))))))))))))), ((List.set o0_7 (Int.toNat (iadd .i64 j15_5 i20)) x22), (o1_5, ())))
                else
                ok (inB (iadd .i64 j15_4 n13_5) (len o0_6)) <|
                ok (inB (iadd .i64 j15_4 n13_5) (len o0_6)) <|
                jb (P := (((Unit × (Int × (Int × (Unit × (Int × (List Int × (Int × (Unit × (Unit × Unit)))))))))) × (List Int × (List Int × Unit)))) (
                    ok (inB (iadd .i64 j15_4 n13_5) (len (List.set o0_6 (Int.toNat (iadd .i64 j15_4 n13_5)) (isub .i64 (List.getD o0_6 (Int.toNat (iadd .i64 j15_4 n13_5)) 0) borrow19)))) <|
                    bif (ilt (List.getD (List.set o0_6 (Int.toNat (iadd .i64 j15_4 n13_5)) (isub .i64 (List.getD o0_6 (Int.toNat (iadd .i64 j15_4 n13_5)) 0) borrow19)) (Int.toNat (iadd .i64 j15_4 n13_5)) 0) 0) then
                      iter (P := (((Int × (Int × (List Int × (Unit × (Int × (Int × (Int × (Unit × (Int × (List Int × (Int × (Unit × (Unit × Unit)))))))))))))) × (List Int × (List Int × Unit)))) (fun rec_5 ((t232, (t231, (t230, (_, (j15_6, (carry23, (n13_7, (_, (q17_5, (v11_7, (by10_7, (_, (_, _))))))))))))), (o0_8, (o1_6, _))) =>
                          bif (ilt t232 t231) then
                            ok (inB t232 (len t230)) <|
                            ok (inB (iadd .i64 j15_6 t232) (len o0_8)) <|
                            ok (inB (iadd .i64 j15_6 t232) (len o0_8)) <|
                            rec_5 (((iadd .i64 t232 1), (t231, (t230, ((), (j15_6, ((ishr .i64 (iadd .i64 (iadd .i64 (List.getD o0_8 (Int.toNat (iadd .i64 j15_6 t232)) 0) (List.getD t230 (Int.toNat t232) 0)) carry23) 16), (n13_7, ((), (q17_5, (v11_7, (by10_7, ((), ((), ()))))))))))))), ((List.set o0_8 (Int.toNat (iadd .i64 j15_6 t232)) (iand .i64 (iadd .i64 (iadd .i64 (List.getD o0_8 (Int.toNat (iadd .i64 j15_6 t232)) 0) (List.getD t230 (Int.toNat t232) 0)) carry23) 65535)), (o1_6, ())))
                          else
                          ok (inB (iadd .i64 j15_6 n13_7) (len o0_8)) <|
                          ok (inB (iadd .i64 j15_6 n13_7) (len o0_8)) <|
                          some (.inr (((), (j15_6, (q17_5, ((), (n13_7, (v11_7, (by10_7, ((), ((), ()))))))))), (o1_6, ((List.set o0_8 (Int.toNat (iadd .i64 j15_6 n13_7)) (iadd .i64 (List.getD o0_8 (Int.toNat (iadd .i64 j15_6 n13_7)) 0) carry23)), ()))))) n ((0, ((len v11_5), (v11_5, ((), (j15_4, (0, (n13_5, ((), ((isub .i64 q17_3 1), (v11_5, (by10_5, ((), ((), ()))))))))))))), ((List.set o0_6 (Int.toNat (iadd .i64 j15_4 n13_5)) (isub .i64 (List.getD o0_6 (Int.toNat (iadd .i64 j15_4 n13_5)) 0) borrow19)), (o1_4, ())))
                    else
                    some (.inr (((), (j15_4, (q17_3, ((), (n13_5, (v11_5, (by10_5, ((), ((), ()))))))))), (o1_4, ((List.set o0_6 (Int.toNat (iadd .i64 j15_4 n13_5)) (isub .i64 (List.getD o0_6 (Int.toNat (iadd .i64 j15_4 n13_5)) 0) borrow19)), ()))))) fun ((_, (j15_7, (q17_6, (_, (n13_8, (v11_8, (by10_8, (_, (_, _))))))))), (o0_9, (o1_7, _))) =>
                ok (inB j15_7 (len o0_9)) <|
                rec_2 (((isub .i64 j15_7 1), ((), (n13_8, (v11_8, ((), (by10_8, ((), ((), ())))))))), (o1_7, ((List.set o0_9 (Int.toNat j15_7) q17_6), ())))) n ((0, ((len v11_4), (v11_4, ((), (j15_3, (0, (q17_2, (n13_4, (v11_4, ((), (by10_4, ((), ((), ()))))))))))))), (o0_5, (o1_3, ())))
          else
          (c_i_trim R o1).bind fun (r73_3_1, _) =>
          (c_i_trim R o0_2).bind fun (r73_4_1, _) =>
          (c_i_natShift R r73_4_1 (ineg .i64 by10_1)).bind fun (r104_3_1, _) =>
          some (r73_3_1, (r104_3_1, ()))) n (((isub .i64 (isub .i64 (len o0_1) n13) 1), ((), (n13, (v11, ((), (by10, ((), ((), ())))))))), (o0_1, ((List.replicate (Int.toNat (isub .i64 (len o0_1) n13)) 0), ())))) n (((), (u0, ((len r104_1), (r104_1, ((isub .i64 16 r103_1), ((), ((), ()))))))), ((r105_1 ++ [0]), ()))
def p_i_truncated (R : Run) (n : Nat) (u0 : Int) (u1 : Bool) (u2 : List Int) (u3 : List Int) : Option (Int × (Bool × Unit)) :=
  (c_i_formatOf R u0).bind fun (r169_1, (r169b, (r169c, (r169d, (r169e, _))))) =>
  bif ((len u2) == 0) then
    some (0, (true, ()))
  else
  (c_i_natBits R u2).bind fun (r215_1, _) =>
  (c_i_natBits R u3).bind fun (r215_2_1, _) =>
  jb (P := (((List Int × (List Int × (Int × (Int × (Int × (Unit × (Int × (Bool × Unit))))))))) × (((Int × (Int × (Int × (Int × Unit))))) × Unit))) (
      bif (ilt (imax r169b (isub .i64 (isub .i64 r215_1 r215_2_1) (iadd .i64 r169_1 1))) 0) then
        (c_i_natShift R u2 (ineg .i64 (imax r169b (isub .i64 (isub .i64 r215_1 r215_2_1) (iadd .i64 r169_1 1))))).bind fun (r192_1, _) =>
        some (.inr ((r192_1, (u3, ((iadd .i64 r169_1 1), ((imax r169b (isub .i64 (isub .i64 r215_1 r215_2_1) (iadd .i64 r169_1 1))), (u0, ((), (0, (false, ())))))))), ((r169_1, (r169b, (r169c, (r169d, ())))), ())))
      else
      (c_i_natShift R u3 (imax r169b (isub .i64 (isub .i64 r215_1 r215_2_1) (iadd .i64 r169_1 1)))).bind fun (r192_2_1, _) =>
      some (.inr ((u2, (r192_2_1, ((iadd .i64 r169_1 1), ((imax r169b (isub .i64 (isub .i64 r215_1 r215_2_1) (iadd .i64 r169_1 1))), (u0, ((), (0, (false, ())))))))), ((r169_1, (r169b, (r169c, (r169d, ())))), ())))) fun ((top10, (bottom11, (digits8, (power9, (width0, (_, (t4, (t5, _)))))))), ((o0a, (o0b, (o0c, (o0d, _)))), _)) =>
  (c_i_natDiv R top10 bottom11).bind fun (r195_1, (r195b, _)) =>
  jb (P := (((List Int × (Int × (Int × (Unit × (Bool × (Int × (Bool × Unit)))))))) × (((Int × (Int × (Int × (Int × Unit))))) × Unit))) (
      (c_i_natBits R r195_1).bind fun (r215_3_1, _) =>
      bif (ilt digits8 r215_3_1) then
        jb (P := (((List Int × (Int × (Int × (Unit × (Bool × (Int × (Bool × Unit)))))))) × (((Int × (Int × (Int × (Int × Unit))))) × Unit))) (
            bif ((len r195b) == 0) then
              ok (inB 0 (len r195_1)) <|
              some (.inr ((r195_1, (power9, (width0, ((), (((iand .i64 (List.getD r195_1 (Int.toNat 0) 0) 1) == 0), (t4, (t5, ()))))))), ((o0a, (o0b, (o0c, (o0d, ())))), ())))
            else
            some (.inr ((r195_1, (power9, (width0, ((), (false, (t4, (t5, ()))))))), ((o0a, (o0b, (o0c, (o0d, ())))), ())))) fun ((q12, (power9_1, (width0_1, (_, (exact14, (t4_1, (t5_1, _))))))), ((o0a_1, (o0b_1, (o0c_1, (o0d_1, _)))), _)) =>
        (c_i_natShift R q12 (-1)).bind fun (r192_3_1, _) =>
        some (.inr ((r192_3_1, (width0_1, ((iadd .i64 power9_1 1), ((), (exact14, (t4_1, (t5_1, ()))))))), ((o0a_1, (o0b_1, (o0c_1, (o0d_1, ())))), ())))
      else
      some (.inr ((r195_1, (width0, (power9, ((), (((len r195b) == 0), (t4, (t5, ()))))))), ((o0a, (o0b, (o0c, (o0d, ())))), ())))) fun ((q12_1, (width0_2, (power9_2, (_, (exact14_1, (t4_2, (t5_2, _))))))), ((o0a_2, (o0b_2, (o0c_2, (o0d_2, _)))), _)) =>
  iter (P := (((Int × (Int × (List Int × (Int × (Int × (Int × (Unit × (Bool × (Int × (Bool × Unit))))))))))) × (((Int × (Int × (Int × (Int × Unit))))) × Unit))) (fun rec ((t84, (t83, (t82, (n15, (width0_3, (power9_3, (_, (exact14_2, (t4_3, (t5_3, _)))))))))), ((o0a_3, (o0b_3, (o0c_3, (o0d_3, _)))), _)) =>
      bif (ilt t84 t83) then
        ok (inB t84 (len t82)) <|
        ok (ile 0 (imul .i64 16 t84)) <|
        rec (((iadd .i64 t84 1), (t83, (t82, ((ior .u64 n15 (ishl .u64 (IntKind.wrap .u64 (List.getD t82 (Int.toNat t84) 0)) (imul .i64 16 t84))), (width0_3, (power9_3, ((), (exact14_2, (t4_3, (t5_3, ())))))))))), ((o0a_3, (o0b_3, (o0c_3, (o0d_3, ())))), ()))
      else
      (c_i_BitMake R width0_3 false n15 power9_3).bind fun (r216_1, (r216b, _)) =>
      bif (!r216b) then
        some ((isub .i64 o0d_3 1), (false, ()))
      else
      some (r216_1, (exact14_2, ()))) n ((0, ((len q12_1), (q12_1, (0, (width0_2, (power9_2, ((), (exact14_1, (t4_2, (t5_2, ())))))))))), ((o0a_2, (o0b_2, (o0c_2, (o0d_2, ())))), ()))
def p_s_l8Size (R : Run) (n : Nat) (u0 : Int) (u1 : Bool) (u2 : List Int) (u3 : List Int) : Option (Int × (Bool × Unit)) :=
  bif ((len u2) == 0) then
    some (0, (false, ()))
  else
  (c_s_l1Frac R u0).bind fun (r85_1, _) =>
  (c_s_l5Bits R u2).bind fun (r93_1, _) =>
  (c_s_l5Bits R u3).bind fun (r93_2_1, _) =>
  jb (P := (((Unit × (Int × (Int × (Int × (Int × (Bool × Unit))))))) × (((Bool × (List Int × (List Int × Unit)))) × Unit))) (
      (c_s_l1Least R u0).bind fun (r84_1, _) =>
      bif (ilt (ineg .i64 r84_1) (iadd .i64 (isub .i64 (iadd .i64 r85_1 1) r93_1) r93_2_1)) then
        (c_s_l1Least R u0).bind fun (r84_2_1, _) =>
        some (.inr (((), ((ineg .i64 r84_2_1), (r85_1, (u0, (0, (false, ())))))), ((u1, (u2, (u3, ()))), ())))
      else
      some (.inr (((), ((iadd .i64 (isub .i64 (iadd .i64 r85_1 1) r93_1) r93_2_1), (r85_1, (u0, (0, (false, ())))))), ((u1, (u2, (u3, ()))), ())))) fun ((_, (s7, (frac6, (width0, (t4, (t5, _)))))), ((o0a, (o0b, (o0c, _))), _)) =>
  (c_s_l8Scaled R o0a o0b o0c s7).bind fun (r94_1, (r94b, _)) =>
  iter (P := (((List Int × (Int × (Int × (Unit × (Bool × (Int × (Int × (Bool × Unit))))))))) × (((Bool × (List Int × (List Int × Unit)))) × Unit))) (fun rec ((q8, (frac6_1, (s7_1, (_, (rest9, (width0_1, (t4_1, (t5_1, _)))))))), ((o0a_1, (o0b_1, (o0c_1, _))), _)) =>
      (c_s_l5Bits R q8).bind fun (r93_3_1, _) =>
      bif (ilt (iadd .i64 frac6_1 1) r93_3_1) then
        (c_s_l8Scaled R o0a_1 o0b_1 o0c_1 (isub .i64 s7_1 1)).bind fun (r94_2_1, (r94_2b, _)) =>
        rec ((r94_2_1, (frac6_1, ((isub .i64 s7_1 1), ((), (r94_2b, (width0_1, (t4_1, (t5_1, ())))))))), ((o0a_1, (o0b_1, (o0c_1, ()))), ()))
      else
      (c_s_NatSmall R q8).bind fun (r95_1, (r95b, _)) =>
      (c_s_l5Bits R q8).bind fun (r93_4_1, _) =>
      bif (ile r93_4_1 frac6_1) then
        some ((IntKind.wrap .i64 r95_1), (rest9, ()))
      else
      (c_s_l1Least R width0_1).bind fun (r84_3_1, _) =>
      (c_s_BitTop R width0_1).bind fun (r36_1, _) =>
      ok (ile 0 (IntKind.wrap .u64 frac6_1)) <|
      bif (ilt (isub .i64 (ishr .i64 r36_1 (IntKind.wrap .u64 frac6_1)) 1) (iadd .i64 (isub .i64 (ineg .i64 s7_1) r84_3_1) 1)) then
        (c_s_BitTop R width0_1).bind fun (r36_2_1, _) =>
        some ((isub .i64 r36_2_1 1), (true, ()))
      else
      ok (ile 0 (IntKind.wrap .u64 frac6_1)) <|
      ok (ile 0 (IntKind.wrap .u64 frac6_1)) <|
      some ((isub .i64 (iadd .i64 (ishl .i64 (iadd .i64 (isub .i64 (ineg .i64 s7_1) r84_3_1) 1) (IntKind.wrap .u64 frac6_1)) (IntKind.wrap .i64 r95_1)) (ishl .i64 1 (IntKind.wrap .u64 frac6_1))), (rest9, ()))) n ((r94_1, (frac6, (s7, ((), (r94b, (width0, (t4, (t5, ())))))))), ((o0a, (o0b, (o0c, ()))), ()))
def p_i_Frac_sign (R : Run) (n : Nat) (u0 : Bool) (u1 : List Int) (u2 : List Int) : Option (Int × Unit) :=
  bif u0 then
    some ((-1), ())
  else
  bif ((len u1) == 0) then
    some (0, ())
  else
  some (1, ())
def p_i_Frac_div (R : Run) (n : Nat) (u0 : Bool) (u1 : List Int) (u2 : List Int) (u3 : Bool) (u4 : List Int) (u5 : List Int) : Option (Bool × (List Int × (List Int × Unit))) :=
  (c_i_natMul R u1 u5).bind fun (r145_1, _) =>
  (c_i_natMul R u2 u4).bind fun (r145_2_1, _) =>
  (c_i_lowest R (!(beqB u0 u3)) r145_1 r145_2_1).bind fun (r146_1, (r146b, (r146c, _))) =>
  some (r146_1, (r146b, (r146c, ())))
def p_s_l8Cmp (R : Run) (n : Nat) (u0 : Bool) (u1 : List Int) (u2 : List Int) (u3 : Bool) (u4 : List Int) (u5 : List Int) : Option (Int × Unit) :=
  (c_s_l5Mul R u1 u5).bind fun (r69_1, _) =>
  (c_s_l5Mul R u4 u2).bind fun (r69_2_1, _) =>
  jb (P := (((Bool × (Unit × (List Int × (Unit × (List Int × (Int × Unit))))))) × (((Bool × (List Int × (List Int × Unit)))) × (((Bool × (List Int × (List Int × Unit)))) × Unit)))) (
      bif ((len r69_1) == 0) then
        some (.inr ((((len r69_2_1) == 0), ((), (r69_1, ((), (r69_2_1, (0, ())))))), ((u0, (u1, (u2, ()))), ((u3, (u4, (u5, ()))), ()))))
      else
      some (.inr ((false, ((), (r69_1, ((), (r69_2_1, (0, ())))))), ((u0, (u1, (u2, ()))), ((u3, (u4, (u5, ()))), ()))))) fun ((t24, (_, (x5, (_, (y6, (t4, _)))))), ((o0a, (o0b, (o0c, _))), ((o1a, (o1b, (o1c, _))), _))) =>
  bif t24 then
    some (0, ())
  else
  jb (P := (((Bool × (Unit × (List Int × (List Int × (Int × Unit)))))) × (((Bool × (List Int × (List Int × Unit)))) × Unit))) (
      bif o0a then
        some (.inr (((ilt 0 (len x5)), ((), (y6, (x5, (t4, ()))))), ((o1a, (o1b, (o1c, ()))), ())))
      else
      some (.inr ((false, ((), (y6, (x5, (t4, ()))))), ((o1a, (o1b, (o1c, ()))), ())))) fun ((t31, (_, (y6_1, (x5_1, (t4_1, _))))), ((o0a_1, (o0b_1, (o0c_1, _))), _)) =>
  bif t31 then
    jb (P := (((Bool × (List Int × (List Int × (Unit × (Int × Unit)))))) × (((Bool × (List Int × (List Int × Unit)))) × Unit))) (
        bif o0a_1 then
          some (.inr (((ilt 0 (len y6_1)), (y6_1, (x5_1, ((), (t4_1, ()))))), ((o0a_1, (o0b_1, (o0c_1, ()))), ())))
        else
        some (.inr ((false, (y6_1, (x5_1, ((), (t4_1, ()))))), ((o0a_1, (o0b_1, (o0c_1, ()))), ())))) fun ((t38, (y6_2, (x5_2, (_, (t4_2, _))))), ((o0a_2, (o0b_2, (o0c_2, _))), _)) =>
    bif t38 then
      (c_s_l5Cmp R y6_2 x5_2).bind fun (r77_1, _) =>
      some (r77_1, ())
    else
    some ((-1), ())
  else
  jb (P := (((Bool × (List Int × (List Int × (Int × Unit))))) × Unit)) (
      bif o0a_1 then
        some (.inr (((ilt 0 (len y6_1)), (x5_1, (y6_1, (t4_1, ())))), ()))
      else
      some (.inr ((false, (x5_1, (y6_1, (t4_1, ())))), ()))) fun ((t48, (x5_3, (y6_3, (t4_3, _)))), _) =>
  bif t48 then
    some (1, ())
  else
  (c_s_l5Cmp R x5_3 y6_3).bind fun (r77_2_1, _) =>
  some (r77_2_1, ())
def p_i_natPow (R : Run) (n : Nat) (u0 : List Int) (u1 : Int) : Option (List Int × Unit) :=
  jb (P := (((List Int × (Unit × Unit))) × Unit)) (
      iter (P := (((Int × (Int × (List Int × (List Int × (Unit × Unit)))))) × Unit)) (fun rec ((t8, (t7, (out5, (a0, (_, _))))), _) =>
          bif (ilt t8 t7) then
            (c_i_natMul R out5 a0).bind fun (r145_1, _) =>
            bif (ilt 1024 (len r145_1)) then
              some (.inr ((r145_1, ((), ())), ()))
            else
            rec (((iadd .i64 t8 1), (t7, (r145_1, (a0, ((), ()))))), ())
          else
          some (.inr ((out5, ((), ())), ()))) n ((0, (u1, ([1], (u0, ((), ()))))), ())) fun ((out5_1, (_, _)), _) =>
  some (out5_1, ())
def p_i_powerAbove (R : Run) (n : Nat) (u0 : Int) (u1 : Int) (u2 : Int) (u3 : Bool) (u4 : List Int) (u5 : List Int) : Option (Bool × Unit) :=
  (c_i_BitPartOf R u0 u1).bind fun (r190_1, (r190b, (r190c, (r190d, _)))) =>
  (c_i_natOf R r190b).bind fun (r191_1, _) =>
  (c_i_natBits R r191_1).bind fun (r215_1, _) =>
  (c_i_natBits R u4).bind fun (r215_2_1, _) =>
  (c_i_natBits R u5).bind fun (r215_3_1, _) =>
  jb (P := (((Bool × (Int × (Int × (Int × (Int × (Int × (Unit × (Bool × Unit))))))))) × (((Bool × (List Int × (List Int × Unit)))) × Unit))) (
      bif ((len u4) == 0) then
        some (.inr ((true, ((imul .i64 u2 (iadd .i64 (isub .i64 r215_1 1) r190c)), (u2, ((isub .i64 r215_2_1 r215_3_1), (u0, (u1, ((), (false, ())))))))), ((u3, (u4, (u5, ()))), ())))
      else
      some (.inr (((ilt (iadd .i64 (isub .i64 r215_2_1 r215_3_1) 1) (imul .i64 u2 (iadd .i64 (isub .i64 r215_1 1) r190c))), ((imul .i64 u2 (iadd .i64 (isub .i64 r215_1 1) r190c)), (u2, ((isub .i64 r215_2_1 r215_3_1), (u0, (u1, ((), (false, ())))))))), ((u3, (u4, (u5, ()))), ())))) fun ((t38, (low12, (n2, (bits13, (width0, (ord1, (_, (t8, _)))))))), ((o0a, (o0b, (o0c, _))), _)) =>
  bif t38 then
    some (true, ())
  else
  bif (ilt (iadd .i64 low12 n2) (isub .i64 bits13 1)) then
    some (false, ())
  else
  (c_i_value R width0 ord1).bind fun (r144_1, (r144b, (r144c, _))) =>
  (c_i_Frac_pow R r144_1 r144b r144c n2).bind fun (r173_1, (r173b, (r173c, _))) =>
  (c_i_Frac_cmp R r173_1 r173b r173c o0a o0b o0c).bind fun (r209_1, _) =>
  some ((ilt 0 r209_1), ())
def p_i_Frac_cmp (R : Run) (n : Nat) (u0 : Bool) (u1 : List Int) (u2 : List Int) (u3 : Bool) (u4 : List Int) (u5 : List Int) : Option (Int × Unit) :=
  (c_i_Frac_sign R u0 u1 u2).bind fun (r49_1, _) =>
  (c_i_Frac_sign R u3 u4 u5).bind fun (r49_2_1, _) =>
  bif (r49_1 != r49_2_1) then
    (c_i_Frac_sign R u0 u1 u2).bind fun (r49_3_1, _) =>
    (c_i_Frac_sign R u3 u4 u5).bind fun (r49_4_1, _) =>
    some ((imax (-1) (imin 1 (isub .i64 r49_3_1 r49_4_1))), ())
  else
  (c_i_natMul R u1 u5).bind fun (r51_1, _) =>
  (c_i_natMul R u4 u2).bind fun (r51_2_1, _) =>
  (c_i_natCmp R r51_1 r51_2_1).bind fun (r50_1, _) =>
  bif u0 then
    some ((ineg .i64 r50_1), ())
  else
  some (r50_1, ())
def p_i_FracOk (R : Run) (n : Nat) (u0 : Bool) (u1 : List Int) (u2 : List Int) : Option (Bool × Unit) :=
  jb (P := (((Bool × Unit)) × Unit)) (
      (c_i_nats R [u1, u2]).bind fun (r71_1, _) =>
      bif r71_1 then
        bif (ilt 0 (len u2)) then
          bif (ilt 0 (len u1)) then
            (c_i_natGcd R u1 u2).bind fun (r72_1, _) =>
            (c_i_natCmp R r72_1 [1]).bind fun (r50_1, _) =>
            some (.inr (((r50_1 == 0), ()), ()))
          else
          bif (!u0) then
            (c_i_natGcd R u1 u2).bind fun (r72_2_1, _) =>
            (c_i_natCmp R r72_2_1 [1]).bind fun (r50_2_1, _) =>
            some (.inr (((r50_2_1 == 0), ()), ()))
          else
          some (.inr ((false, ()), ()))
        else
        some (.inr ((false, ()), ()))
      else
      some (.inr ((false, ()), ()))) fun ((t2, _), _) =>
  some (t2, ())
def p_s_l5Bits (R : Run) (n : Nat) (u0 : List Int) : Option (Int × Unit) :=
  bif ((len u0) == 0) then
    some (0, ())
  else
  ok (inB (isub .i64 (len u0) 1) (len u0)) <|
  iter (P := (((Int × (Int × (Int × Unit)))) × Unit)) (fun rec ((d4, (n3, (t2, _))), _) =>
      bif (ilt 0 d4) then
        rec (((iquo .i64 d4 2), ((iadd .i64 n3 1), (t2, ()))), ())
      else
      some (n3, ())) n (((List.getD u0 (Int.toNat (isub .i64 (len u0) 1)) 0), ((imul .i64 16 (isub .i64 (len u0) 1)), (0, ()))), ())
def p_math_bits_Len (R : Run) (n : Nat) (u0 : Int) : Option (Int × Unit) :=
  (c_math_bits_Len64 R u0).bind fun (r108_1, _) =>
  some (r108_1, ())
def p_i_natBits (R : Run) (n : Nat) (u0 : List Int) : Option (Int × Unit) :=
  bif ((len u0) == 0) then
    some (0, ())
  else
  ok (inB (isub .i64 (len u0) 1) (len u0)) <|
  (c_math_bits_Len R (IntKind.wrap .u64 (List.getD u0 (Int.toNat (isub .i64 (len u0) 1)) 0))).bind fun (r214_1, _) =>
  some ((iadd .i64 (imul .i64 16 (isub .i64 (len u0) 1)) r214_1), ())
def p_i_BitMake (R : Run) (n : Nat) (u0 : Int) (u1 : Bool) (u2 : Int) (u3 : Int) : Option (Int × (Bool × Unit)) :=
  (c_i_formatOf R u0).bind fun (r169_1, (r169b, (r169c, (r169d, (r169e, _))))) =>
  jb (P := (((Bool × (Unit × (Unit × (Int × (Bool × Unit)))))) × (((Bool × (Int × (Int × Unit)))) × (((Int × (Int × (Int × (Int × Unit))))) × Unit)))) (
      bif (!r169e) then
        some (.inr ((true, ((), ((), (0, (false, ()))))), ((u1, (u2, (u3, ()))), ((r169_1, (r169b, (r169c, (r169d, ())))), ()))))
      else
      (c_i_in R u3 (-2000) 2000).bind fun (r107_1, _) =>
      some (.inr (((!r107_1), ((), ((), (0, (false, ()))))), ((u1, (u2, (u3, ()))), ((r169_1, (r169b, (r169c, (r169d, ())))), ()))))) fun ((t20, (_, (_, (t4, (t5, _))))), ((o0a, (o0b, (o0c, _))), ((o1a, (o1b, (o1c, (o1d, _)))), _))) =>
  bif t20 then
    some (0, (false, ()))
  else
  bif (o0b == 0) then
    some (0, (true, ()))
  else
  (c_math_bits_TrailingZeros64 R o0b).bind fun (r229_1, _) =>
  ok (ile 0 r229_1) <|
  (c_math_bits_Len64 R (ishr .u64 o0b r229_1)).bind fun (r228_1, _) =>
  jb (P := (((Bool × (Int × (Unit × (Int × (Int × (Int × (Unit × (Int × (Bool × Unit)))))))))) × (((Int × (Int × (Int × (Int × Unit))))) × (((Bool × (Int × (Int × Unit)))) × Unit)))) (
      bif (ilt (iadd .i64 o1a 1) r228_1) then
        some (.inr ((true, ((isub .i64 (iadd .i64 (iadd .i64 o0c r229_1) r228_1) 1), ((), ((ishr .u64 o0b r229_1), (r228_1, ((iadd .i64 o0c r229_1), ((), (t4, (t5, ()))))))))), ((o1a, (o1b, (o1c, (o1d, ())))), ((o0a, (o0b, (o0c, ()))), ()))))
      else
      bif (ilt (iadd .i64 o0c r229_1) o1b) then
        some (.inr ((true, ((isub .i64 (iadd .i64 (iadd .i64 o0c r229_1) r228_1) 1), ((), ((ishr .u64 o0b r229_1), (r228_1, ((iadd .i64 o0c r229_1), ((), (t4, (t5, ()))))))))), ((o1a, (o1b, (o1c, (o1d, ())))), ((o0a, (o0b, (o0c, ()))), ()))))
      else
      some (.inr (((ilt o1c (isub .i64 (iadd .i64 (iadd .i64 o0c r229_1) r228_1) 1)), ((isub .i64 (iadd .i64 (iadd .i64 o0c r229_1) r228_1) 1), ((), ((ishr .u64 o0b r229_1), (r228_1, ((iadd .i64 o0c r229_1), ((), (t4, (t5, ()))))))))), ((o1a, (o1b, (o1c, (o1d, ())))), ((o0a, (o0b, (o0c, ()))), ()))))) fun ((t66, (exponent12, (_, (odd9, (long11, (power10, (_, (t4_1, (t5_1, _))))))))), ((o0a_1, (o0b_1, (o0c_1, (o0d, _)))), ((o1a_1, (o1b_1, (o1c_1, _))), _))) =>
  bif t66 then
    some (0, (false, ()))
  else
  jb (P := (((Unit × (Int × (Int × (Bool × Unit))))) × (((Bool × (Int × (Int × Unit)))) × Unit))) (
      bif (ile 1 (iadd .i64 exponent12 o0c_1)) then
        ok (ile 0 o0a_1) <|
        ok (ile 0 (isub .i64 (iadd .i64 o0a_1 1) long11)) <|
        ok (ile 0 o0a_1) <|
        some (.inr (((), ((ior .i64 (ishl .i64 (iadd .i64 exponent12 o0c_1) o0a_1) (iand .i64 (IntKind.wrap .i64 (ishl .u64 odd9 (isub .i64 (iadd .i64 o0a_1 1) long11))) (isub .i64 (ishl .i64 1 o0a_1) 1))), (t4_1, (t5_1, ())))), ((o1a_1, (o1b_1, (o1c_1, ()))), ())))
      else
      ok (ile 0 (isub .i64 power10 o0b_1)) <|
      some (.inr (((), ((IntKind.wrap .i64 (ishl .u64 odd9 (isub .i64 power10 o0b_1))), (t4_1, (t5_1, ())))), ((o1a_1, (o1b_1, (o1c_1, ()))), ())))) fun ((_, (ord13, (t4_2, (t5_2, _)))), ((o0a_2, (o0b_2, (o0c_2, _))), _)) =>
  jb (P := (((Int × (Int × (Bool × Unit)))) × Unit)) (
      bif o0a_2 then
        some (.inr (((ineg .i64 ord13), (t4_2, (t5_2, ()))), ()))
      else
      some (.inr ((ord13, (t4_2, (t5_2, ()))), ()))) fun ((ord13_1, (t4_3, (t5_3, _))), _) =>
  some (ord13_1, (true, ()))
def p_s_l8Scaled (R : Run) (n : Nat) (u0 : Bool) (u1 : List Int) (u2 : List Int) (u3 : Int) : Option (List Int × (Bool × Unit)) :=
  jb (P := (((List Int × (List Int × (Unit × (Bool × Unit))))) × Unit)) (
      bif (ile 0 u3) then
        (c_s_l5Pow2 R u3).bind fun (r86_1, _) =>
        (c_s_l5Mul R u1 r86_1).bind fun (r69_1, _) =>
        some (.inr ((r69_1, (u2, ((), (false, ())))), ()))
      else
      (c_s_l5Pow2 R (ineg .i64 u3)).bind fun (r86_2_1, _) =>
      (c_s_l5Mul R u2 r86_2_1).bind fun (r69_2_1, _) =>
      some (.inr ((u1, (r69_2_1, ((), (false, ())))), ()))) fun ((top6, (bottom7, (_, (t5, _)))), _) =>
  (c_s_l5Div R top6 bottom7).bind fun (r87_1, (r87b, _)) =>
  some (r87_1, ((ilt 0 (len r87b)), ()))
def p_s_NatSmall (R : Run) (n : Nat) (u0 : List Int) : Option (Int × (Bool × Unit)) :=
  jb (P := (((Bool × (List Int × (Int × (Bool × Unit))))) × Unit)) (
      (c_s_NatOk R u0).bind fun (r68_1, _) =>
      bif (!r68_1) then
        some (.inr ((true, (u0, (0, (false, ())))), ()))
      else
      some (.inr (((ilt 4 (len u0)), (u0, (0, (false, ())))), ()))) fun ((t13, (a0, (t2, (t3, _)))), _) =>
  bif t13 then
    some (0, (false, ()))
  else
  iter (P := (((Int × (Int × (List Int × (Int × (Bool × Unit)))))) × Unit)) (fun rec ((i5, (n4, (a0_1, (t2_1, (t3_1, _))))), _) =>
      bif (ile 0 i5) then
        ok (inB i5 (len a0_1)) <|
        rec (((isub .i64 i5 1), ((iadd .u64 (imul .u64 n4 65536) (IntKind.wrap .u64 (List.getD a0_1 (Int.toNat i5) 0))), (a0_1, (t2_1, (t3_1, ()))))), ())
      else
      some (n4, (true, ()))) n (((isub .i64 (len a0) 1), (0, (a0, (t2, (t3, ()))))), ())
def p_i_nats (R : Run) (n : Nat) (u0 : List (List Int)) : Option (Bool × Unit) :=
  (c_slices_ContainsFunc_int_int_i_nats_1 R u0).bind fun (r88_1, _) =>
  some ((!r88_1), ())
def p_math_bits_Len64 (R : Run) (n : Nat) (u0 : Int) : Option (Int × Unit) :=
  jb (P := (((Int × (Int × Unit))) × Unit)) (
      bif (ile 4294967296 u0) then
        some (.inr (((ishr .u64 u0 32), (32, ())), ()))
      else
      some (.inr ((u0, (0, ())), ()))) fun ((x0, (n2, _)), _) =>
  jb (P := (((Int × (Int × Unit))) × Unit)) (
      bif (ile 65536 x0) then
        some (.inr (((ishr .u64 x0 16), ((iadd .i64 n2 16), ())), ()))
      else
      some (.inr ((x0, (n2, ())), ()))) fun ((x0_1, (n2_1, _)), _) =>
  jb (P := (((Int × (Int × Unit))) × Unit)) (
      bif (ile 256 x0_1) then
        some (.inr (((iadd .i64 n2_1 8), ((ishr .u64 x0_1 8), ())), ()))
      else
      some (.inr ((n2_1, (x0_1, ())), ()))) fun ((n2_2, (x0_2, _)), _) =>
  ok (inB (IntKind.wrap .u8 x0_2) (slen (bs [0, 1, 2, 2, 3, 3, 3, 3, 4, 4, 4, 4, 4, 4, 4, 4, 5, 5, 5, 5, 5, 5, 5, 5, 5, 5, 5, 5, 5, 5, 5, 5, 6, 6, 6, 6, 6, 6, 6, 6, 6, 6, 6, 6, 6, 6, 6, 6, 6, 6, 6, 6, 6, 6, 6, 6, 6, 6, 6, 6, 6, 6, 6, 6, 7, 7, 7, 7, 7, 7, 7, 7, 7, 7, 7, 7, 7, 7, 7, 7, 7, 7, 7, 7, 7, 7, 7, 7, 7, 7, 7, 7, 7, 7, 7, 7, 7, 7, 7, 7, 7, 7, 7, 7, 7, 7, 7, 7, 7, 7, 7, 7, 7, 7, 7, 7, 7, 7, 7, 7, 7, 7, 7, 7, 7, 7, 7, 7, 8, 8, 8, 8, 8, 8, 8, 8, 8, 8, 8, 8, 8, 8, 8, 8, 8, 8, 8, 8, 8, 8, 8, 8, 8, 8, 8, 8, 8, 8, 8, 8, 8, 8, 8, 8, 8, 8, 8, 8, 8, 8, 8, 8, 8, 8, 8, 8, 8, 8, 8, 8, 8, 8, 8, 8, 8, 8, 8, 8, 8, 8, 8, 8, 8, 8, 8, 8, 8, 8, 8, 8, 8, 8, 8, 8, 8, 8, 8, 8, 8, 8, 8, 8, 8, 8, 8, 8, 8, 8, 8, 8, 8, 8, 8, 8, 8, 8, 8, 8, 8, 8, 8, 8, 8, 8, 8, 8, 8, 8, 8, 8, 8, 8, 8, 8, 8, 8, 8, 8, 8, 8, 8, 8, 8, 8, 8, 8]))) <|
  some ((iadd .i64 n2_2 (IntKind.wrap .i64 (bt (bs [0, 1, 2, 2, 3, 3, 3, 3, 4, 4, 4, 4, 4, 4, 4, 4, 5, 5, 5, 5, 5, 5, 5, 5, 5, 5, 5, 5, 5, 5, 5, 5, 6, 6, 6, 6, 6, 6, 6, 6, 6, 6, 6, 6, 6, 6, 6, 6, 6, 6, 6, 6, 6, 6, 6, 6, 6, 6, 6, 6, 6, 6, 6, 6, 7, 7, 7, 7, 7, 7, 7, 7, 7, 7, 7, 7, 7, 7, 7, 7, 7, 7, 7, 7, 7, 7, 7, 7, 7, 7, 7, 7, 7, 7, 7, 7, 7, 7, 7, 7, 7, 7, 7, 7, 7, 7, 7, 7, 7, 7, 7, 7, 7, 7, 7, 7, 7, 7, 7, 7, 7, 7, 7, 7, 7, 7, 7, 7, 8, 8, 8, 8, 8, 8, 8, 8, 8, 8, 8, 8, 8, 8, 8, 8, 8, 8, 8, 8, 8, 8, 8, 8, 8, 8, 8, 8, 8, 8, 8, 8, 8, 8, 8, 8, 8, 8, 8, 8, 8, 8, 8, 8, 8, 8, 8, 8, 8, 8, 8, 8, 8, 8, 8, 8, 8, 8, 8, 8, 8, 8, 8, 8, 8, 8, 8, 8, 8, 8, 8, 8, 8, 8, 8, 8, 8, 8, 8, 8, 8, 8, 8, 8, 8, 8, 8, 8, 8, 8, 8, 8, 8, 8, 8, 8, 8, 8, 8, 8, 8, 8, 8, 8, 8, 8, 8, 8, 8, 8, 8, 8, 8, 8, 8, 8, 8, 8, 8, 8, 8, 8, 8, 8, 8, 8, 8, 8]) (IntKind.wrap .u8 x0_2)))), ())
def p_slices_ContainsFunc_int_int_i_nats_1 (R : Run) (n : Nat) (u0 : List (List Int)) : Option (Bool × Unit) :=
  (c_slices_IndexFunc_int_int_i_nats_1 R u0).bind fun (r100_1, _) =>
  some ((ile 0 r100_1), ())
def p_i_nats_1 (R : Run) (n : Nat) (u0 : List Int) : Option (Bool × Unit) :=
  (c_i_NatOk R u0).bind fun (r90_1, _) =>
  some ((!r90_1), ())
def p_i_NatOk (R : Run) (n : Nat) (u0 : List Int) : Option (Bool × Unit) :=
  jb (P := (((Bool × Unit)) × Unit)) (
      bif (ile (len u0) 256) then
        bif ((len u0) == 0) then
          (c_slices_ContainsFunc_int_int'_i_NatOk_1 R u0).bind fun (r101_1, _) =>
          some (.inr (((!r101_1), ()), ()))
        else
        ok (inB (isub .i64 (len u0) 1) (len u0)) <|
        bif ((List.getD u0 (Int.toNat (isub .i64 (len u0) 1)) 0) != 0) then
          (c_slices_ContainsFunc_int_int'_i_NatOk_1 R u0).bind fun (r101_2_1, _) =>
          some (.inr (((!r101_2_1), ()), ()))
        else
        some (.inr ((false, ()), ()))
      else
      some (.inr ((false, ()), ()))) fun ((t2, _), _) =>
  some (t2, ())
def p_slices_IndexFunc_int_int_i_nats_1 (R : Run) (n : Nat) (u0 : List (List Int)) : Option (Int × Unit) :=
  iter (P := (((Int × (Int × (Unit × ((List (List Int)) × (Int × Unit)))))) × Unit)) (fun rec ((t8, (t7, (_, (s0, (t4, _))))), _) =>
      bif (ilt t8 t7) then
        ok (inB t8 (len s0)) <|
        (c_i_nats_1 R (List.getD s0 (Int.toNat t8) [])).bind fun (r89_1, _) =>
        bif r89_1 then
          some (t8, ())
        else
        rec (((iadd .i64 t8 1), (t7, ((), (s0, (t4, ()))))), ())
      else
      some ((-1), ())) n ((0, ((len u0), ((), (u0, (0, ()))))), ())
def p_slices_ContainsFunc_int_int'_i_NatOk_1 (R : Run) (n : Nat) (u0 : List Int) : Option (Bool × Unit) :=
  (c_slices_IndexFunc_int_int'_i_NatOk_1 R u0).bind fun (r106_1, _) =>
  some ((ile 0 r106_1), ())
def p_i_NatOk_1 (R : Run) (n : Nat) (u0 : Int) : Option (Bool × Unit) :=
  (c_i_in R u0 0 65535).bind fun (r18_1, _) =>
  some ((!r18_1), ())
def p_slices_IndexFunc_int_int'_i_NatOk_1 (R : Run) (n : Nat) (u0 : List Int) : Option (Int × Unit) :=
  iter (P := (((Int × (Int × (Unit × (List Int × (Int × Unit)))))) × Unit)) (fun rec ((t8, (t7, (_, (s0, (t4, _))))), _) =>
      bif (ilt t8 t7) then
        ok (inB t8 (len s0)) <|
        (c_i_NatOk_1 R (List.getD s0 (Int.toNat t8) 0)).bind fun (r102_1, _) =>
        bif r102_1 then
          some (t8, ())
        else
        rec (((iadd .i64 t8 1), (t7, ((), (s0, (t4, ()))))), ())
      else
      some ((-1), ())) n ((0, ((len u0), ((), (u0, (0, ()))))), ())
end Go.Px.Seat
