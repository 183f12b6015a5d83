/- Own texts, part S2: PxFns. -/
import Derived.Test.YtbdlklncblklnaaGreatDoorA5
import Derived.Test.YtbdlklncblklnaaGreatDoorS1
set_option linter.unusedVariables false

namespace Go.Px.Seat
open Go
def c_strconv_Itoa (R : Run) (u0 : Int) : Option (ByteArray × Unit) := R 206 [] sg_strconv_Itoa (u0, ())
def c_strings_Repeat (R : Run) (u0 : ByteArray) (u1 : Int) : Option (ByteArray × Unit) := R 219 [] sg_strings_Repeat (u0, (u1, ()))
def c_strings_TrimRight (R : Run) (u0 : ByteArray) (u1 : ByteArray) : Option (ByteArray × Unit) := R 205 [] sg_strings_TrimRight (u0, (u1, ()))
def c_w_FnFloatShow (R : Run) (u0 : List Int) : Option (Bool × Unit) := R 10 [] sg_w_FnFloatShow (u0, ())
def c_s_FloatFrac (R : Run) (u0 : Int) (u1 : Int) : Option (Bool × (List Int × (List Int × (Bool × Unit)))) := R 14 [] sg_s_FloatFrac (u0, (u1, ()))
def c_s_FracAdd (R : Run) (u0 : Bool) (u1 : List Int) (u2 : List Int) (u3 : Bool) (u4 : List Int) (u5 : List Int) : Option (Bool × (List Int × (List Int × (Bool × Unit)))) := R 16 [] sg_s_FracAdd (u0, (u1, (u2, (u3, (u4, (u5, ()))))))
def c_s_FracSub (R : Run) (u0 : Bool) (u1 : List Int) (u2 : List Int) (u3 : Bool) (u4 : List Int) (u5 : List Int) : Option (Bool × (List Int × (List Int × (Bool × Unit)))) := R 19 [] sg_s_FracSub (u0, (u1, (u2, (u3, (u4, (u5, ()))))))
def c_s_FracCmp (R : Run) (u0 : Bool) (u1 : List Int) (u2 : List Int) (u3 : Bool) (u4 : List Int) (u5 : List Int) : Option (Int × Unit) := R 22 [] sg_s_FracCmp (u0, (u1, (u2, (u3, (u4, (u5, ()))))))
def c_s_FracSign (R : Run) (u0 : Bool) (u1 : List Int) (u2 : List Int) : Option (Int × Unit) := R 27 [] sg_s_FracSign (u0, (u1, (u2, ())))
def c_s_FloatShow (R : Run) (u0 : Int) (u1 : Int) (u2 : Bool) : Option (ByteArray × Unit) := R 34 [] sg_s_FloatShow (u0, (u1, (u2, ())))
def c_i_FloatShow (R : Run) (u0 : Int) (u1 : Int) (u2 : Bool) : Option (ByteArray × Unit) := R 35 [] sg_i_FloatShow (u0, (u1, (u2, ())))
def c_s_FracDiv (R : Run) (u0 : Bool) (u1 : List Int) (u2 : List Int) (u3 : Bool) (u4 : List Int) (u5 : List Int) : Option (Bool × (List Int × (List Int × (Bool × Unit)))) := R 44 [] sg_s_FracDiv (u0, (u1, (u2, (u3, (u4, (u5, ()))))))
def c_s_FracAbs (R : Run) (u0 : Bool) (u1 : List Int) (u2 : List Int) : Option (Bool × (List Int × (List Int × (Bool × Unit)))) := R 46 [] sg_s_FracAbs (u0, (u1, (u2, ())))
def c_s_FracNeg (R : Run) (u0 : Bool) (u1 : List Int) (u2 : List Int) : Option (Bool × (List Int × (List Int × (Bool × Unit)))) := R 47 [] sg_s_FracNeg (u0, (u1, (u2, ())))
def c_s_DrawFloatShow (R : Run) (u0 : List Int) : Option (Int × (Int × (Bool × Unit))) := R 50 [] sg_s_DrawFloatShow (u0, ())
def c_s_BitOk (R : Run) (u0 : Int) (u1 : Int) : Option (Bool × Unit) := R 51 [] sg_s_BitOk (u0, (u1, ()))
def c_w_ppLiteral (R : Run) (u0 : ByteArray) : Option (Bool × (List Int × (List Int × (Bool × Unit)))) := R 52 [] sg_w_ppLiteral (u0, ())
def c_s_FracInt (R : Run) (u0 : Int) : Option (Bool × (List Int × (List Int × Unit))) := R 53 [] sg_s_FracInt (u0, ())
def c_s_l31Open (R : Run) (u0 : List Int) : Option (List Int × (Int × Unit)) := R 65 [] sg_s_l31Open (u0, ())
def c_s_BitPartOf (R : Run) (u0 : Int) (u1 : Int) : Option (Bool × (Int × (Int × (Bool × Unit)))) := R 69 [] sg_s_BitPartOf (u0, (u1, ()))
def c_s_l8Of (R : Run) (u0 : Int) (u1 : Int) : Option (Bool × (List Int × (List Int × Unit))) := R 70 [] sg_s_l8Of (u0, (u1, ()))
def c_s_l6Make (R : Run) (u0 : Bool) (u1 : List Int) (u2 : List Int) : Option (Bool × (List Int × (List Int × (Bool × Unit)))) := R 71 [] sg_s_l6Make (u0, (u1, (u2, ())))
def c_s_FracOk (R : Run) (u0 : Bool) (u1 : List Int) (u2 : List Int) : Option (Bool × Unit) := R 78 [] sg_s_FracOk (u0, (u1, (u2, ())))
def c_s_l6Sum (R : Run) (u0 : Bool) (u1 : List Int) (u2 : List Int) (u3 : Bool) (u4 : List Int) (u5 : List Int) : Option (Bool × (List Int × (List Int × Unit))) := R 79 [] sg_s_l6Sum (u0, (u1, (u2, (u3, (u4, (u5, ()))))))
def c_s_l6Neg (R : Run) (u0 : Bool) (u1 : List Int) (u2 : List Int) : Option (Bool × (List Int × (List Int × Unit))) := R 82 [] sg_s_l6Neg (u0, (u1, (u2, ())))
def c_s_l5Mul (R : Run) (u0 : List Int) (u1 : List Int) : Option (List Int × Unit) := R 84 [] sg_s_l5Mul (u0, (u1, ()))
def c_s_l3Max (R : Run) (u0 : Int) (u1 : Int) : Option (Int × Unit) := R 93 [] sg_s_l3Max (u0, (u1, ()))
def c_s_BitTop (R : Run) (u0 : Int) : Option (Int × Unit) := R 99 [] sg_s_BitTop (u0, ())
def c_s_l22Size (R : Run) (u0 : Bool) (u1 : List Int) (u2 : List Int) (u3 : Bool) : Option (ByteArray × Unit) := R 100 [] sg_s_l22Size (u0, (u1, (u2, (u3, ()))))
def c_i_BitOk (R : Run) (u0 : Int) (u1 : Int) : Option (Bool × Unit) := R 101 [] sg_i_BitOk (u0, (u1, ()))
def c_i_floatShow (R : Run) (u0 : Int) (u1 : Int) (u2 : Bool) : Option (ByteArray × Unit) := R 102 [] sg_i_floatShow (u0, (u1, (u2, ())))
def c_i_in (R : Run) (u0 : Int) (u1 : Int) (u2 : Int) : Option (Bool × Unit) := R 107 [] sg_i_in (u0, (u1, (u2, ())))
def c_i_size (R : Run) (u0 : Int) : Option (Int × Unit) := R 113 [] sg_i_size (u0, ())
def c_s_l5Trim (R : Run) (u0 : List Int) : Option (List Int × Unit) := R 117 [] sg_s_l5Trim (u0, ())
def c_s_l31Rd_width (R : Run) (u0 : List Int) (u1 : Int) : Option (Int × (List Int × (Int × Unit))) := R 119 [] sg_s_l31Rd_width (u0, (u1, ()))
def c_s_l31Rd_ord (R : Run) (u0 : List Int) (u1 : Int) (u2 : Int) : Option (Int × (List Int × (Int × Unit))) := R 120 [] sg_s_l31Rd_ord (u0, (u1, (u2, ())))
def c_s_l31Rd_pick (R : Run) (u0 : List Int) (u1 : Int) (u2 : Int) : Option (Int × (List Int × (Int × Unit))) := R 121 [] sg_s_l31Rd_pick (u0, (u1, (u2, ())))
def c_s_l1Width (R : Run) (u0 : Int) : Option (Bool × Unit) := R 122 [] sg_s_l1Width (u0, ())
def c_s_l31Rd_nice (R : Run) (u0 : List Int) (u1 : Int) (u2 : Int) : Option (Int × (List Int × (Int × Unit))) := R 123 [] sg_s_l31Rd_nice (u0, (u1, (u2, ())))
def c_s_DecFrac (R : Run) (u0 : ByteArray) : Option (Bool × (List Int × (List Int × (Bool × Unit)))) := R 124 [] sg_s_DecFrac (u0, ())
def c_s_NatOf (R : Run) (u0 : Int) : Option (List Int × Unit) := R 125 [] sg_s_NatOf (u0, ())
def c_i_whole (R : Run) (u0 : Bool) (u1 : List Int) : Option (Bool × (List Int × (List Int × Unit))) := R 132 [] sg_i_whole (u0, (u1, ()))
def c_s_FracOf (R : Run) (u0 : Bool) (u1 : List Int) (u2 : List Int) : Option (Bool × (List Int × (List Int × (Bool × Unit)))) := R 137 [] sg_s_FracOf (u0, (u1, (u2, ())))
def c_s_l1Least (R : Run) (u0 : Int) : Option (Int × Unit) := R 138 [] sg_s_l1Least (u0, ())
def c_s_l1Frac (R : Run) (u0 : Int) : Option (Int × Unit) := R 139 [] sg_s_l1Frac (u0, ())
def c_s_l5Pow2 (R : Run) (u0 : Int) : Option (List Int × Unit) := R 140 [] sg_s_l5Pow2 (u0, ())
def c_s_l5Gcd (R : Run) (u0 : List Int) (u1 : List Int) : Option (List Int × Unit) := R 141 [] sg_s_l5Gcd (u0, (u1, ()))
def c_s_l5Div (R : Run) (u0 : List Int) (u1 : List Int) : Option (List Int × (List Int × Unit)) := R 142 [] sg_s_l5Div (u0, (u1, ()))
def c_i_BitTop (R : Run) (u0 : Int) : Option (Int × Unit) := R 143 [] sg_i_BitTop (u0, ())
def c_i_value (R : Run) (u0 : Int) (u1 : Int) : Option (Bool × (List Int × (List Int × Unit))) := R 144 [] sg_i_value (u0, (u1, ()))
def c_i_natMul (R : Run) (u0 : List Int) (u1 : List Int) : Option (List Int × Unit) := R 145 [] sg_i_natMul (u0, (u1, ()))
def c_i_lowest (R : Run) (u0 : Bool) (u1 : List Int) (u2 : List Int) : Option (Bool × (List Int × (List Int × Unit))) := R 146 [] sg_i_lowest (u0, (u1, (u2, ())))
def c_i_natAdd (R : Run) (u0 : List Int) (u1 : List Int) : Option (List Int × Unit) := R 147 [] sg_i_natAdd (u0, (u1, ()))
def c_i_natCmp (R : Run) (u0 : List Int) (u1 : List Int) : Option (Int × Unit) := R 148 [] sg_i_natCmp (u0, (u1, ()))
def c_s_NatOk (R : Run) (u0 : List Int) : Option (Bool × Unit) := R 151 [] sg_s_NatOk (u0, ())
def c_s_l6One (R : Run) (u0 : List Int) : Option (Bool × Unit) := R 152 [] sg_s_l6One (u0, ())
def c_s_l5Add (R : Run) (u0 : List Int) (u1 : List Int) : Option (List Int × Unit) := R 153 [] sg_s_l5Add (u0, (u1, ()))
def c_s_l5Cmp (R : Run) (u0 : List Int) (u1 : List Int) : Option (Int × Unit) := R 154 [] sg_s_l5Cmp (u0, (u1, ()))
def c_s_l5Sub (R : Run) (u0 : List Int) (u1 : List Int) : Option (List Int × Unit) := R 155 [] sg_s_l5Sub (u0, (u1, ()))
def c_s_l8Round (R : Run) (u0 : Int) (u1 : Bool) (u2 : List Int) (u3 : List Int) (u4 : Bool) : Option (Int × Unit) := R 156 [] sg_s_l8Round (u0, (u1, (u2, (u3, (u4, ())))))
def c_s_l8Frac (R : Run) (u0 : Bool) (u1 : List Int) (u2 : List Int) : Option (Bool × (List Int × (List Int × Unit))) := R 157 [] sg_s_l8Frac (u0, (u1, (u2, ())))
def c_s_l22Power (R : Run) (u0 : Bool) (u1 : List Int) (u2 : List Int) : Option (Int × Unit) := R 165 [] sg_s_l22Power (u0, (u1, (u2, ())))
def c_s_l22Tens (R : Run) (u0 : Int) : Option (Bool × (List Int × (List Int × Unit))) := R 166 [] sg_s_l22Tens (u0, ())
def c_s_NatText (R : Run) (u0 : List Int) : Option (ByteArray × Unit) := R 167 [] sg_s_NatText (u0, ())
def c_s_l21Int (R : Run) (u0 : Int) : Option (ByteArray × Unit) := R 168 [] sg_s_l21Int (u0, ())
def c_i_formatOf (R : Run) (u0 : Int) : Option (Int × (Int × (Int × (Int × (Bool × Unit))))) := R 169 [] sg_i_formatOf (u0, ())
def c_i_show (R : Run) (u0 : Bool) (u1 : List Int) (u2 : List Int) (u3 : Bool) : Option (ByteArray × Unit) := R 170 [] sg_i_show (u0, (u1, (u2, (u3, ()))))
def c_s_l31Rd_big (R : Run) (u0 : List Int) (u1 : Int) : Option (Int × (List Int × (Int × Unit))) := R 172 [] sg_s_l31Rd_big (u0, (u1, ()))
def c_s_l7Parts (R : Run) (u0 : ByteArray) : Option (ByteArray × (Int × (Int × (Bool × Unit)))) := R 179 [] sg_s_l7Parts (u0, ())
def c_s_l5Times (R : Run) (u0 : List Int) (u1 : Int) : Option (List Int × Unit) := R 180 [] sg_s_l5Times (u0, (u1, ()))
def c_s_l7Tens (R : Run) (u0 : Int) : Option (List Int × Unit) := R 181 [] sg_s_l7Tens (u0, ())
def c_s_l5Shl (R : Run) (u0 : List Int) (u1 : Int) : Option (List Int × Unit) := R 186 [] sg_s_l5Shl (u0, (u1, ()))
def c_s_l5DivSmall (R : Run) (u0 : List Int) (u1 : Int) : Option (List Int × (Int × Unit)) := R 187 [] sg_s_l5DivSmall (u0, (u1, ()))
def c_s_l5Top (R : Run) (u0 : List Int) (u1 : Int) : Option (List Int × Unit) := R 188 [] sg_s_l5Top (u0, (u1, ()))
def c_s_l5At (R : Run) (u0 : List Int) (u1 : Int) : Option (Int × Unit) := R 189 [] sg_s_l5At (u0, (u1, ()))
def c_i_BitPartOf (R : Run) (u0 : Int) (u1 : Int) : Option (Bool × (Int × (Int × (Bool × Unit)))) := R 190 [] sg_i_BitPartOf (u0, (u1, ()))
def c_i_natOf (R : Run) (u0 : Int) : Option (List Int × Unit) := R 191 [] sg_i_natOf (u0, ())
def c_i_natShift (R : Run) (u0 : List Int) (u1 : Int) : Option (List Int × Unit) := R 192 [] sg_i_natShift (u0, (u1, ()))
def c_i_trim (R : Run) (u0 : List Int) : Option (List Int × Unit) := R 193 [] sg_i_trim (u0, ())
def c_i_natGcd (R : Run) (u0 : List Int) (u1 : List Int) : Option (List Int × Unit) := R 194 [] sg_i_natGcd (u0, (u1, ()))
def c_i_natDiv (R : Run) (u0 : List Int) (u1 : List Int) : Option (List Int × (List Int × Unit)) := R 195 [] sg_i_natDiv (u0, (u1, ()))
def c_slices_Clone_int_int (R : Run) (u0 : List Int) : Option (List Int × Unit) := R 196 [] sg_slices_Clone_int_int (u0, ())
def c_s_l8Size (R : Run) (u0 : Int) (u1 : Bool) (u2 : List Int) (u3 : List Int) : Option (Int × (Bool × Unit)) := R 198 [] sg_s_l8Size (u0, (u1, (u2, (u3, ()))))
def c_s_l8Cmp (R : Run) (u0 : Bool) (u1 : List Int) (u2 : List Int) (u3 : Bool) (u4 : List Int) (u5 : List Int) : Option (Int × Unit) := R 201 [] sg_s_l8Cmp (u0, (u1, (u2, (u3, (u4, (u5, ()))))))
def c_s_FracText (R : Run) (u0 : Bool) (u1 : List Int) (u2 : List Int) : Option (ByteArray × Unit) := R 202 [] sg_s_FracText (u0, (u1, (u2, ())))
def c_i_natText (R : Run) (u0 : List Int) : Option (ByteArray × Unit) := R 203 [] sg_i_natText (u0, ())
def c_i_ten (R : Run) (u0 : Int) : Option (List Int × Unit) := R 204 [] sg_i_ten (u0, ())
def c_s_l7Digits (R : Run) (u0 : ByteArray) (u1 : Int) : Option (Int × Unit) := R 211 [] sg_s_l7Digits (u0, (u1, ()))
def c_s_l5Bits (R : Run) (u0 : List Int) : Option (Int × Unit) := R 213 [] sg_s_l5Bits (u0, ())
def c_math_bits_Len (R : Run) (u0 : Int) : Option (Int × Unit) := R 214 [] sg_math_bits_Len (u0, ())
def c_s_l8Scaled (R : Run) (u0 : Bool) (u1 : List Int) (u2 : List Int) (u3 : Int) : Option (List Int × (Bool × Unit)) := R 217 [] sg_s_l8Scaled (u0, (u1, (u2, (u3, ()))))
def c_s_NatSmall (R : Run) (u0 : List Int) : Option (Int × (Bool × Unit)) := R 218 [] sg_s_NatSmall (u0, ())
def c_math_bits_Len64 (R : Run) (u0 : Int) : Option (Int × Unit) := R 228 [] sg_math_bits_Len64 (u0, ())
noncomputable def p_w_FnFloatShow (R : Run) (n : Nat) (u0 : List Int) : Option (Bool × Unit) :=
  bif (ilt 1048576 (len u0)) then
    some (true, ())
  else
  (c_s_DrawFloatShow R u0).bind fun (r50_1, (r50b, (r50c, _))) =>
  (c_i_FloatShow R r50_1 r50b false).bind fun (r35_1, _) =>
  (c_i_FloatShow R r50_1 r50b true).bind fun (r35_2_1, _) =>
  (c_s_FloatFrac R r50_1 r50b).bind fun (r14_1, (r14b, (r14c, (r14d, _)))) =>
  bif (!r14d) then
    jb (P := (((ByteArray × (ByteArray × (Unit × (Bool × Unit))))) × (((Bool × (List Int × (List Int × Unit)))) × Unit))) (
        (c_s_BitOk R r50_1 r50b).bind fun (r51_1, _) =>
        bif (beqB (seq r35_1 (bs [])) (!r51_1)) then
          some (.inr ((r35_1, (r35_2_1, ((), ((seq r35_1 r35_2_1), ())))), ((r14_1, (r14b, (r14c, ()))), ())))
        else
        some (.inr ((r35_1, (r35_2_1, ((), (false, ())))), ((r14_1, (r14b, (r14c, ()))), ())))) fun ((lo6, (hi7, (_, (t2, _)))), ((o0a, (o0b, (o0c, _))), _)) =>
    some (t2, ())
  else
  (c_w_ppLiteral R r35_1).bind fun (r52_1, (r52b, (r52c, (r52d, _)))) =>
  (c_w_ppLiteral R r35_2_1).bind fun (r52_2_1, (r52_2b, (r52_2c, (r52_2d, _)))) =>
  jb (P := (((Bool × (Unit × (Unit × (Unit × (ByteArray × (ByteArray × (Bool × Unit)))))))) × (((Bool × (List Int × (List Int × Unit)))) × (((Bool × (List Int × (List Int × Unit)))) × (((Bool × (List Int × (List Int × Unit)))) × Unit))))) (
      bif (!r52d) then
        some (.inr ((true, ((), ((), ((), (r35_1, (r35_2_1, (false, ()))))))), ((r52_2_1, (r52_2b, (r52_2c, ()))), ((r52_1, (r52b, (r52c, ()))), ((r14_1, (r14b, (r14c, ()))), ())))))
      else
      bif (!r52_2d) then
        some (.inr ((true, ((), ((), ((), (r35_1, (r35_2_1, (false, ()))))))), ((r52_2_1, (r52_2b, (r52_2c, ()))), ((r52_1, (r52b, (r52c, ()))), ((r14_1, (r14b, (r14c, ()))), ())))))
      else
      (c_s_FracCmp R r52_1 r52b r52c r14_1 r14b r14c).bind fun (r22_1, _) =>
      bif (r22_1 == 1) then
        some (.inr ((true, ((), ((), ((), (r35_1, (r35_2_1, (false, ()))))))), ((r52_2_1, (r52_2b, (r52_2c, ()))), ((r52_1, (r52b, (r52c, ()))), ((r14_1, (r14b, (r14c, ()))), ())))))
      else
      (c_s_FracCmp R r14_1 r14b r14c r52_2_1 r52_2b r52_2c).bind fun (r22_2_1, _) =>
      some (.inr (((r22_2_1 == 1), ((), ((), ((), (r35_1, (r35_2_1, (false, ()))))))), ((r52_2_1, (r52_2b, (r52_2c, ()))), ((r52_1, (r52b, (r52c, ()))), ((r14_1, (r14b, (r14c, ()))), ())))))) fun ((t82, (_, (_, (_, (lo6_1, (hi7_1, (t2_1, _))))))), ((o0a_1, (o0b_1, (o0c_1, _))), ((o1a, (o1b, (o1c, _))), ((o2a, (o2b, (o2c, _))), _)))) =>
  bif t82 then
    some (false, ())
  else
  (c_s_FracSub R o0a_1 o0b_1 o0c_1 o1a o1b o1c).bind fun (r19_1, (r19b, (r19c, (r19d, _)))) =>
  (c_s_FracAbs R o2a o2b o2c).bind fun (r46_1, (r46b, (r46c, (r46d, _)))) =>
  (c_s_FracInt R 100000000).bind fun (r53_1, (r53b, (r53c, _))) =>
  (c_s_FracDiv R r46_1 r46b r46c r53_1 r53b r53c).bind fun (r44_1, (r44b, (r44c, (r44d, _)))) =>
  jb (P := (((Bool × Unit)) × Unit)) (
      bif (!r19d) then
        some (.inr ((true, ()), ()))
      else
      bif (!r46d) then
        some (.inr ((true, ()), ()))
      else
      bif (!r44d) then
        some (.inr ((true, ()), ()))
      else
      (c_s_FracCmp R r19_1 r19b r19c r44_1 r44b r44c).bind fun (r22_3_1, _) =>
      bif (ile r22_3_1 0) then
        (c_s_FracSign R r19_1 r19b r19c).bind fun (r27_1, _) =>
        some (.inr (((beqB (r27_1 == 0) (seq lo6_1 hi7_1)), ()), ()))
      else
      some (.inr ((false, ()), ()))) fun ((t2_2, _), _) =>
  some (t2_2, ())
noncomputable def p_s_FloatFrac (R : Run) (n : Nat) (u0 : Int) (u1 : Int) : Option (Bool × (List Int × (List Int × (Bool × Unit)))) :=
  (c_s_BitPartOf R u0 u1).bind fun (r64_1, (r64b, (r64c, (r64d, _)))) =>
  bif (!r64d) then
    some (false, ([], ([], (false, ()))))
  else
  (c_s_l8Of R u0 u1).bind fun (r65_1, (r65b, (r65c, _))) =>
  (c_s_l6Make R r65_1 r65b r65c).bind fun (r66_1, (r66b, (r66c, (r66d, _)))) =>
  some (r66_1, (r66b, (r66c, (r66d, ()))))
noncomputable def p_s_FracAdd (R : Run) (n : Nat) (u0 : Bool) (u1 : List Int) (u2 : List Int) (u3 : Bool) (u4 : List Int) (u5 : List Int) : Option (Bool × (List Int × (List Int × (Bool × Unit)))) :=
  jb (P := (((Bool × (Unit × (Unit × (Unit × (Bool × Unit)))))) × (((Bool × (Unit × (Unit × Unit)))) × (((Bool × (List Int × (List Int × Unit)))) × (((Bool × (List Int × (List Int × Unit)))) × Unit))))) (
      (c_s_FracOk R u0 u1 u2).bind fun (r56_1, _) =>
      bif (!r56_1) then
        some (.inr ((true, ((), ((), ((), (false, ()))))), ((false, ((), ((), ()))), ((u0, (u1, (u2, ()))), ((u3, (u4, (u5, ()))), ())))))
      else
      (c_s_FracOk R u3 u4 u5).bind fun (r56_2_1, _) =>
      some (.inr (((!r56_2_1), ((), ((), ((), (false, ()))))), ((false, ((), ((), ()))), ((u0, (u1, (u2, ()))), ((u3, (u4, (u5, ()))), ())))))) fun ((t16, (_, (_, (_, (t5, _))))), ((o0, (_, (_, _))), ((o1a, (o1b, (o1c, _))), ((o2a, (o2b, (o2c, _))), _)))) =>
  bif t16 then
    some (false, ([], ([], (false, ()))))
  else
  (c_s_l6Sum R o1a o1b o1c o2a o2b o2c).bind fun (r57_1, (r57b, (r57c, _))) =>
  (c_s_l6Make R r57_1 r57b r57c).bind fun (r66_1, (r66b, (r66c, (r66d, _)))) =>
  some (r66_1, (r66b, (r66c, (r66d, ()))))
noncomputable def p_s_FracSub (R : Run) (n : Nat) (u0 : Bool) (u1 : List Int) (u2 : List Int) (u3 : Bool) (u4 : List Int) (u5 : List Int) : Option (Bool × (List Int × (List Int × (Bool × Unit)))) :=
  jb (P := (((Bool × (Unit × (Unit × (Unit × (Bool × Unit)))))) × (((Bool × (Unit × (Unit × Unit)))) × (((Bool × (List Int × (List Int × Unit)))) × (((Bool × (List Int × (List Int × Unit)))) × Unit))))) (
      (c_s_FracOk R u0 u1 u2).bind fun (r56_1, _) =>
      bif (!r56_1) then
        some (.inr ((true, ((), ((), ((), (false, ()))))), ((false, ((), ((), ()))), ((u0, (u1, (u2, ()))), ((u3, (u4, (u5, ()))), ())))))
      else
      (c_s_FracOk R u3 u4 u5).bind fun (r56_2_1, _) =>
      some (.inr (((!r56_2_1), ((), ((), ((), (false, ()))))), ((false, ((), ((), ()))), ((u0, (u1, (u2, ()))), ((u3, (u4, (u5, ()))), ())))))) fun ((t13, (_, (_, (_, (t5, _))))), ((o0, (_, (_, _))), ((o1a, (o1b, (o1c, _))), ((o2a, (o2b, (o2c, _))), _)))) =>
  bif t13 then
    some (false, ([], ([], (false, ()))))
  else
  (c_s_l6Neg R o2a o2b o2c).bind fun (r58_1, (r58b, (r58c, _))) =>
  (c_s_FracAdd R o1a o1b o1c r58_1 r58b r58c).bind fun (r45_1, (r45b, (r45c, (r45d, _)))) =>
  some (r45_1, (r45b, (r45c, (r45d, ()))))
noncomputable def p_s_FracCmp (R : Run) (n : Nat) (u0 : Bool) (u1 : List Int) (u2 : List Int) (u3 : Bool) (u4 : List Int) (u5 : List Int) : Option (Int × Unit) :=
  jb (P := (((Bool × (Unit × (Unit × (Int × Unit))))) × (((Bool × (List Int × (List Int × Unit)))) × (((Bool × (List Int × (List Int × Unit)))) × Unit)))) (
      (c_s_FracOk R u0 u1 u2).bind fun (r56_1, _) =>
      bif (!r56_1) then
        some (.inr ((true, ((), ((), (0, ())))), ((u0, (u1, (u2, ()))), ((u3, (u4, (u5, ()))), ()))))
      else
      (c_s_FracOk R u3 u4 u5).bind fun (r56_2_1, _) =>
      some (.inr (((!r56_2_1), ((), ((), (0, ())))), ((u0, (u1, (u2, ()))), ((u3, (u4, (u5, ()))), ()))))) fun ((t15, (_, (_, (t4, _)))), ((o0a, (o0b, (o0c, _))), ((o1a, (o1b, (o1c, _))), _))) =>
  bif t15 then
    some (2, ())
  else
  (c_s_l6Neg R o1a o1b o1c).bind fun (r58_1, (r58b, (r58c, _))) =>
  (c_s_l6Sum R o0a o0b o0c r58_1 r58b r58c).bind fun (r57_1, (r57b, (r57c, _))) =>
  bif ((len r57b) == 0) then
    some (0, ())
  else
  bif r57_1 then
    some ((-1), ())
  else
  some (1, ())
noncomputable def p_s_FracSign (R : Run) (n : Nat) (u0 : Bool) (u1 : List Int) (u2 : List Int) : Option (Int × Unit) :=
  jb (P := (((Bool × (Unit × (Int × Unit)))) × (((Bool × (List Int × (List Int × Unit)))) × Unit))) (
      (c_s_FracOk R u0 u1 u2).bind fun (r78_1, _) =>
      bif (!r78_1) then
        some (.inr ((true, ((), (0, ()))), ((u0, (u1, (u2, ()))), ())))
      else
      some (.inr ((((len u1) == 0), ((), (0, ()))), ((u0, (u1, (u2, ()))), ())))) fun ((t11, (_, (t2, _))), ((o0a, (o0b, (o0c, _))), _)) =>
  bif t11 then
    some (0, ())
  else
  bif o0a then
    some ((-1), ())
  else
  some (1, ())
noncomputable def p_s_FloatShow (R : Run) (n : Nat) (u0 : Int) (u1 : Int) (u2 : Bool) : Option (ByteArray × Unit) :=
  (c_s_BitOk R u0 u1).bind fun (r51_1, _) =>
  bif (!r51_1) then
    some ((bs []), ())
  else
  bif (u1 == 0) then
    some ((bs [48]), ())
  else
  bif (ilt u1 0) then
    (c_s_FloatShow R u0 (ineg .i64 u1) (!u2)).bind fun (r34_1, _) =>
    ok (sok (bs [45]) r34_1) <|
    some (((bs [45]) ++ r34_1), ())
  else
  (c_s_BitTop R u0).bind fun (r99_1, _) =>
  bif (u1 == r99_1) then
    some ((bs [105, 110, 102]), ())
  else
  (c_s_l8Of R u0 u1).bind fun (r70_1, (r70b, (r70c, _))) =>
  (c_s_l22Size R r70_1 r70b r70c u2).bind fun (r100_1, _) =>
  some (r100_1, ())
noncomputable def p_i_FloatShow (R : Run) (n : Nat) (u0 : Int) (u1 : Int) (u2 : Bool) : Option (ByteArray × Unit) :=
  (c_i_BitOk R u0 u1).bind fun (r101_1, _) =>
  bif (!r101_1) then
    some ((bs []), ())
  else
  (c_i_floatShow R u0 u1 u2).bind fun (r102_1, _) =>
  some (r102_1, ())
noncomputable def p_s_FracDiv (R : Run) (n : Nat) (u0 : Bool) (u1 : List Int) (u2 : List Int) (u3 : Bool) (u4 : List Int) (u5 : List Int) : Option (Bool × (List Int × (List Int × (Bool × Unit)))) :=
  jb (P := (((Bool × (Unit × (Unit × (Unit × (Bool × Unit)))))) × (((Bool × (Unit × (Unit × Unit)))) × (((Bool × (List Int × (List Int × Unit)))) × (((Bool × (List Int × (List Int × Unit)))) × Unit))))) (
      (c_s_FracOk R u0 u1 u2).bind fun (r78_1, _) =>
      bif (!r78_1) then
        some (.inr ((true, ((), ((), ((), (false, ()))))), ((false, ((), ((), ()))), ((u0, (u1, (u2, ()))), ((u3, (u4, (u5, ()))), ())))))
      else
      (c_s_FracOk R u3 u4 u5).bind fun (r78_2_1, _) =>
      bif (!r78_2_1) then
        some (.inr ((true, ((), ((), ((), (false, ()))))), ((false, ((), ((), ()))), ((u0, (u1, (u2, ()))), ((u3, (u4, (u5, ()))), ())))))
      else
      some (.inr ((((len u4) == 0), ((), ((), ((), (false, ()))))), ((false, ((), ((), ()))), ((u0, (u1, (u2, ()))), ((u3, (u4, (u5, ()))), ())))))) fun ((t19, (_, (_, (_, (t5, _))))), ((o0, (_, (_, _))), ((o1a, (o1b, (o1c, _))), ((o2a, (o2b, (o2c, _))), _)))) =>
  bif t19 then
    some (false, ([], ([], (false, ()))))
  else
  (c_s_l5Mul R o1b o2c).bind fun (r84_1, _) =>
  (c_s_l5Mul R o1c o2b).bind fun (r84_2_1, _) =>
  (c_s_l6Make R (!(beqB o1a o2a)) r84_1 r84_2_1).bind fun (r71_1, (r71b, (r71c, (r71d, _)))) =>
  some (r71_1, (r71b, (r71c, (r71d, ()))))
noncomputable def p_s_FracAbs (R : Run) (n : Nat) (u0 : Bool) (u1 : List Int) (u2 : List Int) : Option (Bool × (List Int × (List Int × (Bool × Unit)))) :=
  (c_s_FracOk R u0 u1 u2).bind fun (r78_1, _) =>
  bif (!r78_1) then
    some (false, ([], ([], (false, ()))))
  else
  (c_s_l5Trim R u1).bind fun (r117_1, _) =>
  (c_s_l5Trim R u2).bind fun (r117_2_1, _) =>
  some (false, (r117_1, (r117_2_1, (true, ()))))
noncomputable def p_s_FracNeg (R : Run) (n : Nat) (u0 : Bool) (u1 : List Int) (u2 : List Int) : Option (Bool × (List Int × (List Int × (Bool × Unit)))) :=
  (c_s_FracOk R u0 u1 u2).bind fun (r78_1, _) =>
  bif (!r78_1) then
    some (false, ([], ([], (false, ()))))
  else
  (c_s_l6Neg R u0 u1 u2).bind fun (r82_1, (r82b, (r82c, _))) =>
  some (r82_1, (r82b, (r82c, (true, ()))))
noncomputable def p_s_DrawFloatShow (R : Run) (n : Nat) (u0 : List Int) : Option (Int × (Int × (Bool × Unit))) :=
  (c_s_l31Open R u0).bind fun (r65_1, (r65b, _)) =>
  (c_s_l31Rd_width R r65_1 r65b).bind fun (r119_1, (r119b, (r119c, _))) =>
  (c_s_l31Rd_ord R r119b r119c r119_1).bind fun (r120_1, (r120b, (r120c, _))) =>
  jb (P := (((Int × (Int × (Unit × (Int × (Int × (Bool × Unit))))))) × (((List Int × (Int × Unit))) × Unit))) (
      jb (P := (((Bool × (Unit × (Int × (Int × (Int × (Int × (Bool × Unit)))))))) × (((List Int × (Int × Unit))) × Unit))) (
          (c_s_l31Rd_pick R r120b r120c 4).bind fun (r121_1, (r121b, (r121c, _))) =>
          bif (r121_1 == 0) then
            (c_s_l1Width R r119_1).bind fun (r122_1, _) =>
            some (.inr ((r122_1, ((), (r119_1, (r120_1, (0, (0, (false, ()))))))), ((r121b, (r121c, ())), ())))
          else
          some (.inr ((false, ((), (r119_1, (r120_1, (0, (0, (false, ()))))))), ((r121b, (r121c, ())), ())))) fun ((t21, (_, (width6, (n7, (t2, (t3, (t4, _))))))), ((o0a, (o0b, _)), _)) =>
      bif t21 then
        (c_s_l31Rd_nice R o0a o0b width6).bind fun (r123_1, (r123b, (r123c, _))) =>
        some (.inr ((width6, (r123_1, ((), (t2, (t3, (t4, ())))))), ((r123b, (r123c, ())), ())))
      else
      some (.inr ((width6, (n7, ((), (t2, (t3, (t4, ())))))), ((o0a, (o0b, ())), ())))) fun ((width6_1, (n7_1, (_, (t2_1, (t3_1, (t4_1, _)))))), ((o0a_1, (o0b_1, _)), _)) =>
  (c_s_l31Rd_pick R o0a_1 o0b_1 2).bind fun (r121_2_1, (r121_2b, (r121_2c, _))) =>
  some (width6_1, (n7_1, ((r121_2_1 == 0), ())))
noncomputable def p_s_BitOk (R : Run) (n : Nat) (u0 : Int) (u1 : Int) : Option (Bool × Unit) :=
  jb (P := (((Bool × Unit)) × Unit)) (
      (c_s_l1Width R u0).bind fun (r52_1, _) =>
      bif r52_1 then
        (c_s_BitTop R u0).bind fun (r36_1, _) =>
        bif (ile (ineg .i64 r36_1) u1) then
          (c_s_BitTop R u0).bind fun (r36_2_1, _) =>
          some (.inr (((ile u1 r36_2_1), ()), ()))
        else
        some (.inr ((false, ()), ()))
      else
      some (.inr ((false, ()), ()))) fun ((t4, _), _) =>
  some (t4, ())
noncomputable def p_w_ppLiteral (R : Run) (n : Nat) (u0 : ByteArray) : Option (Bool × (List Int × (List Int × (Bool × Unit)))) :=
  jb (P := (((Bool × (ByteArray × (Unit × (Bool × Unit))))) × (((Bool × (Unit × (Unit × Unit)))) × Unit))) (
      bif (ilt 0 (slen u0)) then
        ok (inB 0 (slen u0)) <|
        some (.inr ((((bt u0 0) == 45), (u0, ((), (false, ())))), ((false, ((), ((), ()))), ())))
      else
      some (.inr ((false, (u0, ((), (false, ())))), ((false, ((), ((), ()))), ())))) fun ((t15, (s0, (_, (t3, _)))), ((o0, (_, (_, _))), _)) =>
  bif t15 then
    ok (sliceOk 1 (slen s0) (slen s0)) <|
    (c_s_DecFrac R (ByteArray.extract s0 (Int.toNat 1) (Int.toNat (slen s0)))).bind fun (r124_1, (r124b, (r124c, (r124d, _)))) =>
    (c_s_FracNeg R r124_1 r124b r124c).bind fun (r47_1, (r47b, (r47c, (r47d, _)))) =>
    jb (P := (((ByteArray × (Unit × (Bool × Unit)))) × (((Bool × (List Int × (List Int × Unit)))) × Unit))) (
        bif r124d then
          some (.inr ((s0, ((), (r47d, ()))), ((r47_1, (r47b, (r47c, ()))), ())))
        else
        some (.inr ((s0, ((), (false, ()))), ((r47_1, (r47b, (r47c, ()))), ())))) fun ((s0_1, (_, (t3_1, _))), ((o0a, (o0b, (o0c, _))), _)) =>
    some (o0a, (o0b, (o0c, (t3_1, ()))))
  else
  (c_s_DecFrac R s0).bind fun (r124_2_1, (r124_2b, (r124_2c, (r124_2d, _)))) =>
  some (r124_2_1, (r124_2b, (r124_2c, (r124_2d, ()))))
noncomputable def p_s_FracInt (R : Run) (n : Nat) (u0 : Int) : Option (Bool × (List Int × (List Int × Unit))) :=
  jb (P := (((Unit × (Unit × Unit))) × (((Bool × (List Int × (Unit × Unit)))) × (((Bool × (Unit × (Unit × Unit)))) × (List Int × Unit))))) (
      bif (ilt u0 0) then
        (c_s_NatOf R (ineg .u64 (IntKind.wrap .u64 u0))).bind fun (r67_1, _) =>
        some (.inr (((), ((), ())), (((ilt u0 0), (r67_1, ((), ()))), ((false, ((), ((), ()))), ([1], ())))))
      else
      (c_s_NatOf R (IntKind.wrap .u64 u0)).bind fun (r67_2_1, _) =>
      some (.inr (((), ((), ())), (((ilt u0 0), (r67_2_1, ((), ()))), ((false, ((), ((), ()))), ([1], ())))))) fun ((_, (_, _)), ((o0a, (o0b, (_, _))), ((o1, (_, (_, _))), (o2, _)))) =>
  some (o0a, (o0b, (o2, ())))
noncomputable def p_s_l31Open (R : Run) (n : Nat) (u0 : List Int) : Option (List Int × (Int × Unit)) :=
  jb (P := (((List Int × (Unit × Unit))) × Unit)) (
      bif (ilt 2000 (len u0)) then
        ok (sliceOk 0 2000 (len u0)) <|
        some (.inr (((List.drop (Int.toNat 0) (List.take (Int.toNat 2000) u0)), ((), ())), ()))
      else
      some (.inr ((u0, ((), ())), ()))) fun ((code0, (_, _)), _) =>
  some (code0, (0, ()))
noncomputable def p_s_BitPartOf (R : Run) (n : Nat) (u0 : Int) (u1 : Int) : Option (Bool × (Int × (Int × (Bool × Unit)))) :=
  jb (P := (((Bool × (Unit × (Int × (Int × (Bool × Unit)))))) × (((Bool × (Int × (Int × Unit)))) × Unit))) (
      (c_s_BitOk R u0 u1).bind fun (r62_1, _) =>
      bif (!r62_1) then
        some (.inr ((true, ((), (u1, (u0, (false, ()))))), ((false, (0, (0, ()))), ())))
      else
      (c_s_BitTop R u0).bind fun (r36_1, _) =>
      bif (u1 == r36_1) then
        some (.inr ((true, ((), (u1, (u0, (false, ()))))), ((false, (0, (0, ()))), ())))
      else
      (c_s_BitTop R u0).bind fun (r36_2_1, _) =>
      some (.inr (((u1 == (ineg .i64 r36_2_1)), ((), (u1, (u0, (false, ()))))), ((false, (0, (0, ()))), ())))) fun ((t26, (_, (ord1, (width0, (t5, _))))), ((o0a, (o0b, (o0c, _))), _)) =>
  bif t26 then
    some (false, (0, (0, (false, ()))))
  else
  (c_s_l1Least R width0).bind fun (r84_1, _) =>
  jb (P := (((Int × (Int × (Unit × (Unit × (Bool × Unit)))))) × (((Bool × (Int × (Int × Unit)))) × (((Bool × (Int × (Int × Unit)))) × Unit)))) (
      bif (ilt ord1 0) then
        some (.inr ((width0, ((ineg .i64 ord1), ((), ((), (t5, ()))))), (((ilt ord1 0), (0, (r84_1, ()))), ((o0a, (o0b, (o0c, ()))), ()))))
      else
      some (.inr ((width0, (ord1, ((), ((), (t5, ()))))), (((ilt ord1 0), (0, (r84_1, ()))), ((o0a, (o0b, (o0c, ()))), ()))))) fun ((width0_1, (size7, (_, (_, (t5_1, _))))), ((o0a_1, (o0b_1, (o0c_1, _))), ((o1a, (o1b, (o1c, _))), _))) =>
  (c_s_l1Frac R width0_1).bind fun (r85_1, _) =>
  ok (ile 0 (IntKind.wrap .u64 r85_1)) <|
  ok (!((ishl .i64 1 (IntKind.wrap .u64 r85_1)) == 0)) <|
  ok (!((ishl .i64 1 (IntKind.wrap .u64 r85_1)) == 0)) <|
  jb (P := (((Unit × (Unit × (Bool × Unit)))) × (((Bool × (Int × (Int × Unit)))) × (((Bool × (Int × (Int × Unit)))) × Unit)))) (
      bif (ilt 0 (iquo .i64 size7 (ishl .i64 1 (IntKind.wrap .u64 r85_1)))) then
        some (.inr (((), ((), (t5_1, ()))), ((o0a_1, ((iadd .u64 (IntKind.wrap .u64 (irem .i64 size7 (ishl .i64 1 (IntKind.wrap .u64 r85_1)))) (IntKind.wrap .u64 (ishl .i64 1 (IntKind.wrap .u64 r85_1)))), ((isub .i64 (iadd .i64 o0c_1 (iquo .i64 size7 (ishl .i64 1 (IntKind.wrap .u64 r85_1)))) 1), ()))), ((o1a, (o1b, (o1c, ()))), ()))))
      else
      some (.inr (((), ((), (t5_1, ()))), ((o0a_1, ((IntKind.wrap .u64 (irem .i64 size7 (ishl .i64 1 (IntKind.wrap .u64 r85_1)))), (o0c_1, ()))), ((o1a, (o1b, (o1c, ()))), ()))))) fun ((_, (_, (t5_2, _))), ((o0a_2, (o0b_2, (o0c_2, _))), ((o1a_1, (o1b_1, (o1c_1, _))), _))) =>
  some (o0a_2, (o0b_2, (o0c_2, (true, ()))))
noncomputable def p_s_l8Of (R : Run) (n : Nat) (u0 : Int) (u1 : Int) : Option (Bool × (List Int × (List Int × Unit))) :=
  (c_s_BitPartOf R u0 u1).bind fun (r64_1, (r64b, (r64c, (r64d, _)))) =>
  (c_s_NatOf R r64b).bind fun (r67_1, _) =>
  jb (P := (((Unit × (Unit × Unit))) × (((Bool × (List Int × (List Int × Unit)))) × (((Bool × (Unit × (Unit × Unit)))) × Unit)))) (
      bif (ile 0 r64c) then
        (c_s_l5Pow2 R r64c).bind fun (r86_1, _) =>
        (c_s_l5Mul R r67_1 r86_1).bind fun (r69_1, _) =>
        some (.inr (((), ((), ())), ((r64_1, (r69_1, ([1], ()))), ((false, ((), ((), ()))), ()))))
      else
      (c_s_l5Pow2 R (ineg .i64 r64c)).bind fun (r86_2_1, _) =>
      some (.inr (((), ((), ())), ((r64_1, (r67_1, (r86_2_1, ()))), ((false, ((), ((), ()))), ()))))) fun ((_, (_, _)), ((o0a, (o0b, (o0c, _))), ((o1, (_, (_, _))), _))) =>
  some (o0a, (o0b, (o0c, ())))
noncomputable def p_s_l6Make (R : Run) (n : Nat) (u0 : Bool) (u1 : List Int) (u2 : List Int) : Option (Bool × (List Int × (List Int × (Bool × Unit)))) :=
  bif ((len u1) == 0) then
    some (false, ([], ([1], (true, ()))))
  else
  (c_s_l5Gcd R u1 u2).bind fun (r75_1, _) =>
  (c_s_l5Div R u1 r75_1).bind fun (r87_1, (r87b, _)) =>
  (c_s_l5Div R u2 r75_1).bind fun (r87_2_1, (r87_2b, _)) =>
  jb (P := (((Bool × (Unit × (Bool × (List Int × (List Int × (Bool × Unit))))))) × (((Bool × (Unit × (Unit × Unit)))) × Unit))) (
      bif (ilt 256 (len r87_1)) then
        some (.inr ((true, ((), (u0, (r87_1, (r87_2_1, (false, ())))))), ((false, ((), ((), ()))), ())))
      else
      some (.inr (((ilt 256 (len r87_2_1)), ((), (u0, (r87_1, (r87_2_1, (false, ())))))), ((false, ((), ((), ()))), ())))) fun ((t40, (_, (below0, (t9, (b11, (t7, _)))))), ((o0, (_, (_, _))), _)) =>
  bif t40 then
    some (false, ([], ([], (false, ()))))
  else
  some (below0, (t9, (b11, (true, ()))))
noncomputable def p_s_FracOk (R : Run) (n : Nat) (u0 : Bool) (u1 : List Int) (u2 : List Int) : Option (Bool × Unit) :=
  jb (P := (((Bool × (Unit × (Bool × Unit)))) × (((Bool × (List Int × (List Int × Unit)))) × Unit))) (
      (c_s_NatOk R u1).bind fun (r68_1, _) =>
      bif (!r68_1) then
        some (.inr ((true, ((), (false, ()))), ((u0, (u1, (u2, ()))), ())))
      else
      (c_s_NatOk R u2).bind fun (r68_2_1, _) =>
      bif (!r68_2_1) then
        some (.inr ((true, ((), (false, ()))), ((u0, (u1, (u2, ()))), ())))
      else
      bif ((len u2) == 0) then
        some (.inr ((true, ((), (false, ()))), ((u0, (u1, (u2, ()))), ())))
      else
      bif ((len u1) == 0) then
        some (.inr ((u0, ((), (false, ()))), ((u0, (u1, (u2, ()))), ())))
      else
      some (.inr ((false, ((), (false, ()))), ((u0, (u1, (u2, ()))), ())))) fun ((t28, (_, (t2, _))), ((o0a, (o0b, (o0c, _))), _)) =>
  bif t28 then
    some (false, ())
  else
  (c_s_l5Gcd R o0b o0c).bind fun (r75_1, _) =>
  (c_s_l6One R r75_1).bind fun (r74_1, _) =>
  some (r74_1, ())
noncomputable def p_s_l6Sum (R : Run) (n : Nat) (u0 : Bool) (u1 : List Int) (u2 : List Int) (u3 : Bool) (u4 : List Int) (u5 : List Int) : Option (Bool × (List Int × (List Int × Unit))) :=
  (c_s_l5Mul R u1 u5).bind fun (r69_1, _) =>
  (c_s_l5Mul R u4 u2).bind fun (r69_2_1, _) =>
  (c_s_l5Mul R u2 u5).bind fun (r69_3_1, _) =>
  bif (beqB u0 u3) then
    (c_s_l5Add R r69_1 r69_2_1).bind fun (r76_1, _) =>
    some (u0, (r76_1, (r69_3_1, ())))
  else
  (c_s_l5Cmp R r69_1 r69_2_1).bind fun (r77_1, _) =>
  bif (ile 0 r77_1) then
    (c_s_l5Sub R r69_1 r69_2_1).bind fun (r78_1, _) =>
    some (u0, (r78_1, (r69_3_1, ())))
  else
  (c_s_l5Sub R r69_2_1 r69_1).bind fun (r78_2_1, _) =>
  some (u3, (r78_2_1, (r69_3_1, ())))
noncomputable def p_s_l6Neg (R : Run) (n : Nat) (u0 : Bool) (u1 : List Int) (u2 : List Int) : Option (Bool × (List Int × (List Int × Unit))) :=
  jb (P := (((Unit × Unit)) × (((Bool × (List Int × (List Int × Unit)))) × Unit))) (
      bif (!u0) then
        (c_s_l5Trim R u1).bind fun (r79_1, _) =>
        (c_s_l5Trim R u2).bind fun (r79_2_1, _) =>
        some (.inr (((), ()), (((ilt 0 (len u1)), (r79_1, (r79_2_1, ()))), ())))
      else
      (c_s_l5Trim R u1).bind fun (r79_3_1, _) =>
      (c_s_l5Trim R u2).bind fun (r79_4_1, _) =>
      some (.inr (((), ()), ((false, (r79_3_1, (r79_4_1, ()))), ())))) fun ((_, _), ((o0a, (o0b, (o0c, _))), _)) =>
  some (o0a, (o0b, (o0c, ())))
noncomputable def p_s_l5Mul (R : Run) (n : Nat) (u0 : List Int) (u1 : List Int) : Option (List Int × Unit) :=
  ok (mkOk (iadd .i64 (len u0) (len u1)) (iadd .i64 (len u0) (len u1)) 8) <|
  iter (P := (((Int × (List Int × (List Int × (Unit × (Unit × Unit)))))) × (List Int × Unit))) (fun rec ((i6, (a0, (b1, (_, (_, _))))), (o0, _)) =>
      bif (ilt i6 (len a0)) then
        iter (P := (((Int × (List Int × (Unit × (Int × (List Int × (Int × (Unit × Unit)))))))) × (List Int × Unit))) (fun rec_1 ((j8, (b1_1, (_, (i6_1, (a0_1, (carry7, (_, _))))))), (o0_1, _)) =>
            bif (ilt j8 (len b1_1)) then
              ok (inB (iadd .i64 i6_1 j8) (len o0_1)) <|
              ok (inB i6_1 (len a0_1)) <|
              ok (inB j8 (len b1_1)) <|
              ok (inB (iadd .i64 i6_1 j8) (len o0_1)) <|
              rec_1 (((iadd .i64 j8 1), (b1_1, ((), (i6_1, (a0_1, ((iquo .i64 (iadd .i64 (iadd .i64 (List.getD o0_1 (Int.toNat (iadd .i64 i6_1 j8)) 0) (imul .i64 (List.getD a0_1 (Int.toNat i6_1) 0) (List.getD b1_1 (Int.toNat j8) 0))) carry7) 65536), ((), ()))))))), ((List.set o0_1 (Int.toNat (iadd .i64 i6_1 j8)) (irem .i64 (iadd .i64 (iadd .i64 (List.getD o0_1 (Int.toNat (iadd .i64 i6_1 j8)) 0) (imul .i64 (List.getD a0_1 (Int.toNat i6_1) 0) (List.getD b1_1 (Int.toNat j8) 0))) carry7) 65536)), ()))
            else
            ok (inB (iadd .i64 i6_1 (len b1_1)) (len o0_1)) <|
            rec (((iadd .i64 i6_1 1), (a0_1, (b1_1, ((), ((), ()))))), ((List.set o0_1 (Int.toNat (iadd .i64 i6_1 (len b1_1))) carry7), ()))) n ((0, (b1, ((), (i6, (a0, (0, ((), ()))))))), (o0, ()))
      else
      (c_s_l5Trim R o0).bind fun (r79_1, _) =>
      some (r79_1, ())) n ((0, (u0, (u1, ((), ((), ()))))), ((List.replicate (Int.toNat (iadd .i64 (len u0) (len u1))) 0), ()))
noncomputable def p_s_l3Max (R : Run) (n : Nat) (u0 : Int) (u1 : Int) : Option (Int × Unit) :=
  bif (ilt u1 u0) then
    some (u0, ())
  else
  some (u1, ())
noncomputable def p_s_BitTop (R : Run) (n : Nat) (u0 : Int) : Option (Int × Unit) :=
  bif (u0 == 32) then
    some (2139095040, ())
  else
  bif (u0 == 64) then
    some (9218868437227405312, ())
  else
  some (0, ())
noncomputable def p_s_l22Size (R : Run) (n : Nat) (u0 : Bool) (u1 : List Int) (u2 : List Int) (u3 : Bool) : Option (ByteArray × Unit) :=
  (c_s_l22Power R u0 u1 u2).bind fun (r165_1, _) =>
  (c_s_l22Tens R (iadd .i64 (isub .i64 r165_1 9) 1)).bind fun (r166_1, (r166b, (r166c, _))) =>
  (c_s_l5Mul R u1 r166c).bind fun (r84_1, _) =>
  (c_s_l5Mul R u2 r166b).bind fun (r84_2_1, _) =>
  (c_s_l5Div R r84_1 r84_2_1).bind fun (r142_1, (r142b, _)) =>
  jb (P := (((List Int × (Int × (ByteArray × Unit)))) × Unit)) (
      jb (P := (((Bool × (List Int × (Int × (ByteArray × Unit))))) × Unit)) (
          bif u3 then
            some (.inr (((ilt 0 (len r142b)), (r142_1, (r165_1, ((bs []), ())))), ()))
          else
          some (.inr ((false, (r142_1, (r165_1, ((bs []), ())))), ()))) fun ((t37, (q7, (k5, (t4, _)))), _) =>
      bif t37 then
        (c_s_l5Add R q7 [1]).bind fun (r153_1, _) =>
        some (.inr ((r153_1, (k5, (t4, ()))), ()))
      else
      some (.inr ((q7, (k5, (t4, ()))), ()))) fun ((q7_1, (k5_1, (t4_1, _))), _) =>
  (c_s_NatText R q7_1).bind fun (r167_1, _) =>
  jb (P := (((ByteArray × (Int × (ByteArray × Unit)))) × Unit)) (
      bif (ilt 9 (slen r167_1)) then
        some (.inr ((r167_1, ((iadd .i64 k5_1 1), (t4_1, ()))), ()))
      else
      some (.inr ((r167_1, (k5_1, (t4_1, ()))), ()))) fun ((digits9, (k5_2, (t4_2, _))), _) =>
  iter (P := (((Int × (ByteArray × (Int × (ByteArray × Unit))))) × Unit)) (fun rec ((n10, (digits9_1, (k5_3, (t4_3, _)))), _) =>
      jb (P := (((Bool × (Int × (ByteArray × (Int × (ByteArray × Unit)))))) × Unit)) (
          bif (ilt 1 n10) then
            ok (inB (isub .i64 n10 1) (slen digits9_1)) <|
            some (.inr ((((bt digits9_1 (isub .i64 n10 1)) == 48), (n10, (digits9_1, (k5_3, (t4_3, ()))))), ()))
          else
          some (.inr ((false, (n10, (digits9_1, (k5_3, (t4_3, ()))))), ()))) fun ((t58, (n10_1, (digits9_2, (k5_4, (t4_4, _))))), _) =>
      bif t58 then
        rec (((isub .i64 n10_1 1), (digits9_2, (k5_4, (t4_4, ())))), ())
      else
      ok (sliceOk 0 1 (slen digits9_2)) <|
      jb (P := (((Int × (ByteArray × (ByteArray × Unit)))) × Unit)) (
          bif (ilt 1 n10_1) then
            ok (sok (ByteArray.extract digits9_2 (Int.toNat 0) (Int.toNat 1)) (bs [46])) <|
            ok (sliceOk 1 n10_1 (slen digits9_2)) <|
            ok (sok ((ByteArray.extract digits9_2 (Int.toNat 0) (Int.toNat 1)) ++ (bs [46])) (ByteArray.extract digits9_2 (Int.toNat 1) (Int.toNat n10_1))) <|
            some (.inr ((k5_4, ((((ByteArray.extract digits9_2 (Int.toNat 0) (Int.toNat 1)) ++ (bs [46])) ++ (ByteArray.extract digits9_2 (Int.toNat 1) (Int.toNat n10_1))), (t4_4, ()))), ()))
          else
          some (.inr ((k5_4, ((ByteArray.extract digits9_2 (Int.toNat 0) (Int.toNat 1)), (t4_4, ()))), ()))) fun ((k5_5, (s11, (t4_5, _))), _) =>
      jb (P := (((ByteArray × (ByteArray × Unit))) × Unit)) (
          bif (k5_5 != 0) then
            ok (sok s11 (bs [101])) <|
            (c_s_l21Int R k5_5).bind fun (r168_1, _) =>
            ok (sok (s11 ++ (bs [101])) r168_1) <|
            some (.inr ((((s11 ++ (bs [101])) ++ r168_1), (t4_5, ())), ()))
          else
          some (.inr ((s11, (t4_5, ())), ()))) fun ((s11_1, (t4_6, _)), _) =>
      some (s11_1, ())) n (((slen digits9), (digits9, (k5_2, (t4_2, ())))), ())
noncomputable def p_i_BitOk (R : Run) (n : Nat) (u0 : Int) (u1 : Int) : Option (Bool × Unit) :=
  (c_i_formatOf R u0).bind fun (r46_1, (r46b, (r46c, (r46d, (r46e, _))))) =>
  jb (P := (((Bool × Unit)) × Unit)) (
      bif r46e then
        (c_i_in R u1 (ineg .i64 r46d) r46d).bind fun (r18_1, _) =>
        some (.inr ((r18_1, ()), ()))
      else
      some (.inr ((false, ()), ()))) fun ((t4, _), _) =>
  some (t4, ())
noncomputable def p_i_floatShow (R : Run) (n : Nat) (u0 : Int) (u1 : Int) (u2 : Bool) : Option (ByteArray × Unit) :=
  bif (u1 == 0) then
    some ((bs [48]), ())
  else
  bif (ilt u1 0) then
    (c_i_floatShow R u0 (ineg .i64 u1) (!u2)).bind fun (r102_1, _) =>
    ok (sok (bs [45]) r102_1) <|
    some (((bs [45]) ++ r102_1), ())
  else
  (c_i_BitTop R u0).bind fun (r143_1, _) =>
  bif (u1 == r143_1) then
    some ((bs [105, 110, 102]), ())
  else
  (c_i_value R u0 u1).bind fun (r144_1, (r144b, (r144c, _))) =>
  (c_i_show R r144_1 r144b r144c u2).bind fun (r170_1, _) =>
  some (r170_1, ())
noncomputable def p_i_in (R : Run) (n : Nat) (u0 : Int) (u1 : Int) (u2 : Int) : Option (Bool × Unit) :=
  jb (P := (((Bool × Unit)) × Unit)) (
      bif (ile u1 u0) then
        some (.inr (((ile u0 u2), ()), ()))
      else
      some (.inr ((false, ()), ()))) fun ((t6, _), _) =>
  some (t6, ())
noncomputable def p_i_size (R : Run) (n : Nat) (u0 : Int) : Option (Int × Unit) :=
  some ((imax u0 (ineg .i64 u0)), ())
noncomputable def p_s_l5Trim (R : Run) (n : Nat) (u0 : List Int) : Option (List Int × Unit) :=
  iter (P := (((Int × (List Int × (Unit × Unit)))) × Unit)) (fun rec ((n3, (a0, (_, _))), _) =>
      jb (P := (((Bool × (Int × (List Int × (Unit × Unit))))) × Unit)) (
          bif (ilt 0 n3) then
            ok (inB (isub .i64 n3 1) (len a0)) <|
            some (.inr ((((List.getD a0 (Int.toNat (isub .i64 n3 1)) 0) == 0), (n3, (a0, ((), ())))), ()))
          else
          some (.inr ((false, (n3, (a0, ((), ())))), ()))) fun ((t17, (n3_1, (a0_1, (_, _)))), _) =>
      bif t17 then
        rec (((isub .i64 n3_1 1), (a0_1, ((), ()))), ())
      else
      iter (P := (((Int × (Int × (Unit × (List Int × (Unit × Unit)))))) × (List Int × Unit))) (fun rec_1 ((i5, (n3_2, (_, (a0_2, (_, _))))), (o0, _)) =>
          bif (ilt i5 n3_2) then
            ok (inB i5 (len a0_2)) <|
            ok (aok (o0 ++ [(List.getD a0_2 (Int.toNat i5) 0)]) 8) <|
            rec_1 (((iadd .i64 i5 1), (n3_2, ((), (a0_2, ((), ()))))), ((o0 ++ [(List.getD a0_2 (Int.toNat i5) 0)]), ()))
          else
          some (o0, ())) n ((0, (n3_1, ((), (a0_1, ((), ()))))), ([], ()))) n (((len u0), (u0, ((), ()))), ())
noncomputable def p_s_l31Rd_width (R : Run) (n : Nat) (u0 : List Int) (u1 : Int) : Option (Int × (List Int × (Int × Unit))) :=
  (c_s_l31Rd_pick R u0 u1 32).bind fun (r121_1, (r121b, (r121c, _))) =>
  bif (ilt r121_1 15) then
    some (32, (r121b, (r121c, ())))
  else
  bif (ilt r121_1 30) then
    some (64, (r121b, (r121c, ())))
  else
  (c_s_l31Rd_pick R r121b r121c 4).bind fun (r121_2_1, (r121_2b, (r121_2c, _))) =>
  ok (inB r121_2_1 (len [0, 63, 16, (-64)])) <|
  some ((List.getD [0, 63, 16, (-64)] (Int.toNat r121_2_1) 0), (r121_2b, (r121_2c, ())))
noncomputable def p_s_l31Rd_ord (R : Run) (n : Nat) (u0 : List Int) (u1 : Int) (u2 : Int) : Option (Int × (List Int × (Int × Unit))) :=
  (c_s_BitTop R u2).bind fun (r36_1, _) =>
  jb (P := (((Unit × (Int × (Int × (Int × Unit))))) × (((List Int × (Int × Unit))) × Unit))) (
      (c_s_l31Rd_pick R u0 u1 10).bind fun (r31_1, (r31b, (r31c, _))) =>
      bif (r31_1 == 0) then
        (c_s_l31Rd_pick R r31b r31c 6).bind fun (r31_2_1, (r31_2b, (r31_2c, _))) =>
        some (.inr (((), (r36_1, (r31_2_1, (0, ())))), ((r31_2b, (r31_2c, ())), ())))
      else
      bif (r31_1 == 1) then
        (c_s_l31Rd_pick R r31b r31c 6).bind fun (r31_3_1, (r31_3b, (r31_3c, _))) =>
        some (.inr (((), (r36_1, ((isub .i64 r36_1 r31_3_1), (0, ())))), ((r31_3b, (r31_3c, ())), ())))
      else
      jb (P := (((Bool × (Unit × (Int × (Int × (Int × (Int × (Int × Unit)))))))) × (((List Int × (Int × Unit))) × Unit))) (
          bif (r31_1 == 2) then
            some (.inr ((true, ((), (u2, (r31_1, (r36_1, (0, (0, ()))))))), ((r31b, (r31c, ())), ())))
          else
          some (.inr (((r31_1 == 3), ((), (u2, (r31_1, (r36_1, (0, (0, ()))))))), ((r31b, (r31c, ())), ())))) fun ((t31, (_, (width1, (t10, (top5, (n6, (t4, _))))))), ((o0a, (o0b, _)), _)) =>
      bif t31 then
        (c_s_l31Rd_pick R o0a o0b 2048).bind fun (r31_4_1, (r31_4b, (r31_4c, _))) =>
        (c_s_l31Rd_pick R r31_4b r31_4c 4).bind fun (r31_5_1, (r31_5b, (r31_5c, _))) =>
        bif (width1 == 32) then
          (c_s_l31Rd_pick R r31_5b r31_5c 256).bind fun (r31_6_1, (r31_6b, (r31_6c, _))) =>
          (c_s_l31Rd_pick R r31_6b r31_6c 4).bind fun (r31_7_1, (r31_7b, (r31_7c, _))) =>
          some (.inr (((), (top5, ((isub .i64 (iadd .i64 (ishl .i64 r31_6_1 23) r31_7_1) 1), (t4, ())))), ((r31_7b, (r31_7c, ())), ())))
        else
        some (.inr (((), (top5, ((isub .i64 (iadd .i64 (ishl .i64 r31_4_1 52) r31_5_1) 1), (t4, ())))), ((r31_5b, (r31_5c, ())), ())))
      else
      bif (t10 == 4) then
        (c_s_l31Rd_pick R o0a o0b 1048576).bind fun (r31_8_1, (r31_8b, (r31_8c, _))) =>
        some (.inr (((), (top5, (r31_8_1, (t4, ())))), ((r31_8b, (r31_8c, ())), ())))
      else
      (c_s_l31Rd_big R o0a o0b).bind fun (r82_1, (r82b, (r82c, _))) =>
      bif (ilt 0 top5) then
        ok (!((iadd .i64 top5 1) == 0)) <|
        some (.inr (((), (top5, ((irem .i64 (IntKind.wrap .i64 (ishr .u64 r82_1 1)) (iadd .i64 top5 1)), (t4, ())))), ((r82b, (r82c, ())), ())))
      else
      some (.inr (((), (top5, ((IntKind.wrap .i64 (ishr .u64 r82_1 1)), (t4, ())))), ((r82b, (r82c, ())), ())))) fun ((_, (top5_1, (n6_1, (t4_1, _)))), ((o0a_1, (o0b_1, _)), _)) =>
  jb (P := (((Unit × (Int × (Int × Unit)))) × (((List Int × (Int × Unit))) × Unit))) (
      (c_s_l31Rd_pick R o0a_1 o0b_1 40).bind fun (r31_9_1, (r31_9b, (r31_9c, _))) =>
      bif (r31_9_1 == 0) then
        (c_s_l31Rd_pick R r31_9b r31_9c 3).bind fun (r31_10_1, (r31_10b, (r31_10c, _))) =>
        some (.inr (((), ((iadd .i64 (iadd .i64 top5_1 1) r31_10_1), (t4_1, ()))), ((r31_10b, (r31_10c, ())), ())))
      else
      bif (ilt top5_1 n6_1) then
        some (.inr (((), (top5_1, (t4_1, ()))), ((r31_9b, (r31_9c, ())), ())))
      else
      some (.inr (((), (n6_1, (t4_1, ()))), ((r31_9b, (r31_9c, ())), ())))) fun ((_, (n6_2, (t4_2, _))), ((o0a_2, (o0b_2, _)), _)) =>
  (c_s_l31Rd_pick R o0a_2 o0b_2 2).bind fun (r31_11_1, (r31_11b, (r31_11c, _))) =>
  bif (r31_11_1 == 0) then
    some ((ineg .i64 n6_2), (r31_11b, (r31_11c, ())))
  else
  some (n6_2, (r31_11b, (r31_11c, ())))
noncomputable def p_s_l31Rd_pick (R : Run) (n : Nat) (u0 : List Int) (u1 : Int) (u2 : Int) : Option (Int × (List Int × (Int × Unit))) :=
  jb (P := (((Bool × (Unit × (Int × (Int × Unit))))) × (((List Int × (Int × Unit))) × Unit))) (
      bif (ilt u2 1) then
        some (.inr ((true, ((), (u2, (0, ())))), ((u0, ((iadd .i64 u1 1), ())), ())))
      else
      some (.inr ((((len u0) == 0), ((), (u2, (0, ())))), ((u0, ((iadd .i64 u1 1), ())), ())))) fun ((t24, (_, (n1, (t4, _)))), ((o0a, (o0b, _)), _)) =>
  bif t24 then
    some (0, (o0a, (o0b, ())))
  else
  bif (ilt (isub .i64 o0b 1) (len o0a)) then
    ok (inB (isub .i64 o0b 1) (len o0a)) <|
    ok (!(n1 == 0)) <|
    some ((irem .i64 (IntKind.wrap .i64 (List.getD o0a (Int.toNat (isub .i64 o0b 1)) 0)) n1), (o0a, (o0b, ())))
  else
  ok (!((len o0a) == 0)) <|
  ok (inB (irem .i64 (isub .i64 o0b 1) (len o0a)) (len o0a)) <|
  ok (!((len o0a) == 0)) <|
  ok (inB (irem .i64 (iadd .i64 (imul .i64 (isub .i64 o0b 1) 7) 3) (len o0a)) (len o0a)) <|
  ok (!((len o0a) == 0)) <|
  ok (!(n1 == 0)) <|
  some ((irem .i64 (ixor .i64 (iadd .i64 (iadd .i64 (iadd .i64 (imul .i64 (IntKind.wrap .i64 (List.getD o0a (Int.toNat (irem .i64 (isub .i64 o0b 1) (len o0a))) 0)) 131) (imul .i64 (IntKind.wrap .i64 (List.getD o0a (Int.toNat (irem .i64 (iadd .i64 (imul .i64 (isub .i64 o0b 1) 7) 3) (len o0a))) 0)) 1117)) (imul .i64 (isub .i64 o0b 1) 29)) (imul .i64 (iquo .i64 (isub .i64 o0b 1) (len o0a)) 53)) (iquo .i64 (iadd .i64 (iadd .i64 (iadd .i64 (imul .i64 (IntKind.wrap .i64 (List.getD o0a (Int.toNat (irem .i64 (isub .i64 o0b 1) (len o0a))) 0)) 131) (imul .i64 (IntKind.wrap .i64 (List.getD o0a (Int.toNat (irem .i64 (iadd .i64 (imul .i64 (isub .i64 o0b 1) 7) 3) (len o0a))) 0)) 1117)) (imul .i64 (isub .i64 o0b 1) 29)) (imul .i64 (iquo .i64 (isub .i64 o0b 1) (len o0a)) 53)) 64)) n1), (o0a, (o0b, ())))
noncomputable def p_s_l1Width (R : Run) (n : Nat) (u0 : Int) : Option (Bool × Unit) :=
  jb (P := (((Bool × Unit)) × Unit)) (
      bif (u0 == 32) then
        some (.inr ((true, ()), ()))
      else
      some (.inr (((u0 == 64), ()), ()))) fun ((t2, _), _) =>
  some (t2, ())
noncomputable def p_s_l31Rd_nice (R : Run) (n : Nat) (u0 : List Int) (u1 : Int) (u2 : Int) : Option (Int × (List Int × (Int × Unit))) :=
  (c_s_l31Rd_pick R u0 u1 9).bind fun (r31_1, (r31b, (r31c, _))) =>
  (c_s_l3Max R (isub .i64 r31_1 3) (ineg .i64 (isub .i64 r31_1 3))).bind fun (r38_1, _) =>
  (c_s_NatOf R (IntKind.wrap .u64 r38_1)).bind fun (r67_1, _) =>
  (c_s_l31Rd_pick R r31b r31c 6).bind fun (r31_2_1, (r31_2b, (r31_2c, _))) =>
  ok (inB r31_2_1 (len [1, 1, 2, 4, 3, 10])) <|
  (c_s_FracOf R (ilt (isub .i64 r31_1 3) 0) r67_1 [(List.getD [1, 1, 2, 4, 3, 10] (Int.toNat r31_2_1) 0)]).bind fun (r43_1, (r43b, (r43c, (r43d, _)))) =>
  (c_s_l31Rd_pick R r31_2b r31_2c 2).bind fun (r31_3_1, (r31_3b, (r31_3c, _))) =>
  bif (r31_3_1 == 0) then
    (c_s_l8Frac R r43_1 r43b r43c).bind fun (r81_1, (r81b, (r81c, _))) =>
    (c_s_l8Round R u2 r81_1 r81b r81c true).bind fun (r63_1, _) =>
    some (r63_1, (r31_3b, (r31_3c, ())))
  else
  (c_s_l8Frac R r43_1 r43b r43c).bind fun (r81_2_1, (r81_2b, (r81_2c, _))) =>
  (c_s_l8Round R u2 r81_2_1 r81_2b r81_2c false).bind fun (r63_2_1, _) =>
  some (r63_2_1, (r31_3b, (r31_3c, ())))
noncomputable def p_s_DecFrac (R : Run) (n : Nat) (u0 : ByteArray) : Option (Bool × (List Int × (List Int × (Bool × Unit)))) :=
  (c_s_l7Parts R u0).bind fun (r179_1, (r179b, (r179c, (r179d, _)))) =>
  bif (!r179d) then
    some (false, ([], ([], (false, ()))))
  else
  iter (P := (((Int × (ByteArray × (List Int × (Int × (Int × (Unit × (Bool × Unit)))))))) × (((Bool × (Unit × (Unit × Unit)))) × Unit))) (fun rec ((i9, (digits4, (top8, (power6, (behind5, (_, (t3, _))))))), ((o0, (_, (_, _))), _)) =>
      bif (ilt i9 (slen digits4)) then
        (c_s_l5Times R top8 10).bind fun (r180_1, _) =>
        ok (inB i9 (slen digits4)) <|
        (c_s_NatOf R (IntKind.wrap .u64 (isub .u8 (bt digits4 i9) 48))).bind fun (r125_1, _) =>
        (c_s_l5Add R r180_1 r125_1).bind fun (r153_1, _) =>
        (c_s_l5Trim R r153_1).bind fun (r117_1, _) =>
        rec (((iadd .i64 i9 1), (digits4, (r117_1, (power6, (behind5, ((), (t3, ()))))))), ((o0, ((), ((), ()))), ()))
      else
      bif (ile 0 (isub .i64 power6 behind5)) then
        (c_s_l7Tens R (isub .i64 power6 behind5)).bind fun (r181_1, _) =>
        (c_s_l5Mul R top8 r181_1).bind fun (r84_1, _) =>
        (c_s_l6Make R false r84_1 [1]).bind fun (r71_1, (r71b, (r71c, (r71d, _)))) =>
        some (r71_1, (r71b, (r71c, (r71d, ()))))
      else
      (c_s_l7Tens R (ineg .i64 (isub .i64 power6 behind5))).bind fun (r181_2_1, _) =>
      (c_s_l6Make R false top8 r181_2_1).bind fun (r71_2_1, (r71_2b, (r71_2c, (r71_2d, _)))) =>
      some (r71_2_1, (r71_2b, (r71_2c, (r71_2d, ()))))) n ((0, (r179_1, ([], (r179c, (r179b, ((), (false, ()))))))), ((false, ((), ((), ()))), ()))
noncomputable def p_s_NatOf (R : Run) (n : Nat) (u0 : Int) : Option (List Int × Unit) :=
  iter (P := (((Int × (Unit × (Unit × Unit)))) × (List Int × Unit))) (fun rec ((n0, (_, (_, _))), (o0, _)) =>
      bif (ilt 0 n0) then
        ok (aok (o0 ++ [(IntKind.wrap .i64 (irem .u64 n0 65536))]) 8) <|
        rec (((iquo .u64 n0 65536), ((), ((), ()))), ((o0 ++ [(IntKind.wrap .i64 (irem .u64 n0 65536))]), ()))
      else
      some (o0, ())) n ((u0, ((), ((), ()))), ([], ()))
noncomputable def p_i_whole (R : Run) (n : Nat) (u0 : Bool) (u1 : List Int) : Option (Bool × (List Int × (List Int × Unit))) :=
  jb (P := (((Unit × Unit)) × (((Bool × (List Int × (Unit × Unit)))) × (List Int × Unit)))) (
      bif u0 then
        some (.inr (((), ()), (((ilt 0 (len u1)), (u1, ((), ()))), ([1], ()))))
      else
      some (.inr (((), ()), ((false, (u1, ((), ()))), ([1], ()))))) fun ((_, _), ((o0a, (o0b, (_, _))), (o1, _))) =>
  some (o0a, (o0b, (o1, ())))
noncomputable def p_s_FracOf (R : Run) (n : Nat) (u0 : Bool) (u1 : List Int) (u2 : List Int) : Option (Bool × (List Int × (List Int × (Bool × Unit)))) :=
  jb (P := (((Bool × (Unit × (Bool × (List Int × (List Int × (Bool × Unit))))))) × (((Bool × (Unit × (Unit × Unit)))) × Unit))) (
      (c_s_NatOk R u1).bind fun (r68_1, _) =>
      bif (!r68_1) then
        some (.inr ((true, ((), (u0, (u1, (u2, (false, ())))))), ((false, ((), ((), ()))), ())))
      else
      (c_s_NatOk R u2).bind fun (r68_2_1, _) =>
      bif (!r68_2_1) then
        some (.inr ((true, ((), (u0, (u1, (u2, (false, ())))))), ((false, ((), ((), ()))), ())))
      else
      some (.inr ((((len u2) == 0), ((), (u0, (u1, (u2, (false, ())))))), ((false, ((), ((), ()))), ())))) fun ((t20, (_, (below0, (top1, (bottom2, (t7, _)))))), ((o0, (_, (_, _))), _)) =>
  bif t20 then
    some (false, ([], ([], (false, ()))))
  else
  (c_s_l6Make R below0 top1 bottom2).bind fun (r66_1, (r66b, (r66c, (r66d, _)))) =>
  some (r66_1, (r66b, (r66c, (r66d, ()))))
noncomputable def p_s_l1Least (R : Run) (n : Nat) (u0 : Int) : Option (Int × Unit) :=
  bif (u0 == 32) then
    some ((-149), ())
  else
  some ((-1074), ())
noncomputable def p_s_l1Frac (R : Run) (n : Nat) (u0 : Int) : Option (Int × Unit) :=
  bif (u0 == 32) then
    some (23, ())
  else
  some (52, ())
noncomputable def p_s_l5Pow2 (R : Run) (n : Nat) (u0 : Int) : Option (List Int × Unit) :=
  ok (ile 0 (IntKind.wrap .u64 (irem .i64 u0 16))) <|
  (c_s_l5Shl R [(ishl .i64 1 (IntKind.wrap .u64 (irem .i64 u0 16)))] (iquo .i64 u0 16)).bind fun (r96_1, _) =>
  some (r96_1, ())
noncomputable def p_s_l5Gcd (R : Run) (n : Nat) (u0 : List Int) (u1 : List Int) : Option (List Int × Unit) :=
  (c_s_l5Trim R u0).bind fun (r79_1, _) =>
  (c_s_l5Trim R u1).bind fun (r79_2_1, _) =>
  iter (P := (((List Int × (List Int × (Unit × Unit)))) × Unit)) (fun rec ((y6, (x5, (_, _))), _) =>
      bif (ilt 0 (len y6)) then
        (c_s_l5Div R x5 y6).bind fun (r87_1, (r87b, _)) =>
        rec ((r87b, (y6, ((), ()))), ())
      else
      some (x5, ())) n ((r79_2_1, (r79_1, ((), ()))), ())
noncomputable def p_s_l5Div (R : Run) (n : Nat) (u0 : List Int) (u1 : List Int) : Option (List Int × (List Int × Unit)) :=
  (c_s_l5Cmp R u0 u1).bind fun (r77_1, _) =>
  bif (ilt r77_1 0) then
    (c_s_l5Trim R u0).bind fun (r79_1, _) =>
    some ([], (r79_1, ()))
  else
  bif ((len u1) == 1) then
    ok (inB 0 (len u1)) <|
    (c_s_l5DivSmall R u0 (List.getD u1 (Int.toNat 0) 0)).bind fun (r97_1, (r97b, _)) =>
    (c_s_NatOf R (IntKind.wrap .u64 r97b)).bind fun (r67_1, _) =>
    some (r97_1, (r67_1, ()))
  else
  ok (inB (isub .i64 (len u1) 1) (len u1)) <|
  ok (!((iadd .i64 (List.getD u1 (Int.toNat (isub .i64 (len u1) 1)) 0) 1) == 0)) <|
  (c_s_l5Times R u0 (iquo .i64 65536 (iadd .i64 (List.getD u1 (Int.toNat (isub .i64 (len u1) 1)) 0) 1))).bind fun (r98_1, _) =>
  (c_s_l5Times R u1 (iquo .i64 65536 (iadd .i64 (List.getD u1 (Int.toNat (isub .i64 (len u1) 1)) 0) 1))).bind fun (r98_2_1, _) =>
  ok (mkOk (iadd .i64 (isub .i64 (len r98_1) (len r98_2_1)) 1) (iadd .i64 (isub .i64 (len r98_1) (len r98_2_1)) 1) 8) <|
  (c_s_l5Top R r98_1 (iadd .i64 (isub .i64 (len r98_1) (len r98_2_1)) 1)).bind fun (r99_1, _) =>
  iter (P := (((Int × (List Int × (List Int × (Int × (List Int × (Unit × (Int × (Unit × (Unit × Unit)))))))))) × (List Int × Unit))) (fun rec ((i14, (rest13, (x9, (n11, (y10, (_, (up8, (_, (_, _))))))))), (o0, _)) =>
      bif (ile 0 i14) then
        (c_s_l5Shl R rest13 1).bind fun (r96_1, _) =>
        ok (inB i14 (len x9)) <|
        (c_s_NatOf R (IntKind.wrap .u64 (List.getD x9 (Int.toNat i14) 0))).bind fun (r67_2_1, _) =>
        (c_s_l5Add R r96_1 r67_2_1).bind fun (r76_1, _) =>
        (c_s_l5Trim R r76_1).bind fun (r79_2_1, _) =>
        (c_s_l5At R r79_2_1 n11).bind fun (r92_1, _) =>
        (c_s_l5At R r79_2_1 (isub .i64 n11 1)).bind fun (r92_2_1, _) =>
        ok (inB (isub .i64 n11 1) (len y10)) <|
        ok (!((List.getD y10 (Int.toNat (isub .i64 n11 1)) 0) == 0)) <|
        jb (P := (((List Int × (Int × (List Int × (Unit × (Int × (List Int × (Int × (Int × (Unit × (Unit × Unit))))))))))) × (List Int × Unit))) (
            bif (ile 65536 (iquo .i64 (iadd .i64 (imul .i64 r92_1 65536) r92_2_1) (List.getD y10 (Int.toNat (isub .i64 n11 1)) 0))) then
              some (.inr ((y10, (65535, (r79_2_1, ((), (i14, (x9, (n11, (up8, ((), ((), ())))))))))), (o0, ())))
            else
            some (.inr ((y10, ((iquo .i64 (iadd .i64 (imul .i64 r92_1 65536) r92_2_1) (List.getD y10 (Int.toNat (isub .i64 n11 1)) 0)), (r79_2_1, ((), (i14, (x9, (n11, (up8, ((), ((), ())))))))))), (o0, ())))) fun ((y10_1, (guess15, (rest13_1, (_, (i14_1, (x9_1, (n11_1, (up8_1, (_, (_, _)))))))))), (o0_1, _)) =>
        (c_s_l5Times R y10_1 guess15).bind fun (r98_3_1, _) =>
        iter (P := (((List Int × (List Int × (List Int × (Int × (Unit × (Int × (List Int × (Int × (Int × (Unit × (Unit × Unit)))))))))))) × (List Int × Unit))) (fun rec_1 ((p16, (rest13_2, (y10_2, (guess15_1, (_, (i14_2, (x9_2, (n11_2, (up8_2, (_, (_, _))))))))))), (o0_2, _)) =>
            (c_s_l5Cmp R p16 rest13_2).bind fun (r77_2_1, _) =>
            bif (ilt 0 r77_2_1) then
              (c_s_l5Sub R p16 y10_2).bind fun (r78_1, _) =>
              rec_1 ((r78_1, (rest13_2, (y10_2, ((isub .i64 guess15_1 1), ((), (i14_2, (x9_2, (n11_2, (up8_2, ((), ((), ()))))))))))), (o0_2, ()))
            else
            ok (inB i14_2 (len o0_2)) <|
            (c_s_l5Sub R rest13_2 p16).bind fun (r78_2_1, _) =>
            rec (((isub .i64 i14_2 1), (r78_2_1, (x9_2, (n11_2, (y10_2, ((), (up8_2, ((), ((), ()))))))))), ((List.set o0_2 (Int.toNat i14_2) guess15_1), ()))) n ((r98_3_1, (rest13_1, (y10_1, (guess15, ((), (i14_1, (x9_1, (n11_1, (up8_1, ((), ((), ()))))))))))), (o0_1, ()))
      else
      (c_s_l5DivSmall R rest13 up8).bind fun (r97_2_1, (r97_2b, _)) =>
      (c_s_l5Trim R o0).bind fun (r79_3_1, _) =>
      some (r79_3_1, (r97_2_1, ()))) n (((isub .i64 (len r98_1) (len r98_2_1)), (r99_1, (r98_1, ((len r98_2_1), (r98_2_1, ((), ((iquo .i64 65536 (iadd .i64 (List.getD u1 (Int.toNat (isub .i64 (len u1) 1)) 0) 1)), ((), ((), ()))))))))), ((List.replicate (Int.toNat (iadd .i64 (isub .i64 (len r98_1) (len r98_2_1)) 1)) 0), ()))
noncomputable def p_i_BitTop (R : Run) (n : Nat) (u0 : Int) : Option (Int × Unit) :=
  (c_i_formatOf R u0).bind fun (r46_1, (r46b, (r46c, (r46d, (r46e, _))))) =>
  some (r46d, ())
noncomputable def p_i_value (R : Run) (n : Nat) (u0 : Int) (u1 : Int) : Option (Bool × (List Int × (List Int × Unit))) :=
  (c_i_BitPartOf R u0 u1).bind fun (r190_1, (r190b, (r190c, (r190d, _)))) =>
  (c_i_natOf R r190b).bind fun (r191_1, _) =>
  bif (ile 0 r190c) then
    (c_i_natShift R r191_1 r190c).bind fun (r192_1, _) =>
    (c_i_whole R r190_1 r192_1).bind fun (r132_1, (r132b, (r132c, _))) =>
    some (r132_1, (r132b, (r132c, ())))
  else
  (c_i_natShift R [1] (ineg .i64 r190c)).bind fun (r192_2_1, _) =>
  (c_i_lowest R r190_1 r191_1 r192_2_1).bind fun (r146_1, (r146b, (r146c, _))) =>
  some (r146_1, (r146b, (r146c, ())))
noncomputable def p_i_natMul (R : Run) (n : Nat) (u0 : List Int) (u1 : List Int) : Option (List Int × Unit) :=
  ok (mkOk (iadd .i64 (iadd .i64 (len u0) (len u1)) 1) (iadd .i64 (iadd .i64 (len u0) (len u1)) 1) 8) <|
  iter (P := (((Int × (Int × (List Int × (List Int × (Unit × (Unit × Unit))))))) × (List Int × Unit))) (fun rec ((t21, (t20, (t19, (b1, (_, (_, _)))))), (o0, _)) =>
      bif (ilt t21 t20) then
        ok (inB t21 (len t19)) <|
        iter (P := (((Int × (Int × (List Int × (Unit × (Int × (Int × (Int × (List Int × (Int × (Int × (List Int × (Unit × Unit))))))))))))) × (List Int × Unit))) (fun rec_1 ((t28, (t27, (t26, (_, (i6, (x7, (carry8, (b1_1, (t21_1, (t20_1, (t19_1, (_, _)))))))))))), (o0_1, _)) =>
            bif (ilt t28 t27) then
              ok (inB t28 (len t26)) <|
              ok (inB (iadd .i64 i6 t28) (len o0_1)) <|
              ok (inB (iadd .i64 i6 t28) (len o0_1)) <|
              rec_1 (((iadd .i64 t28 1), (t27, (t26, ((), (i6, (x7, ((ishr .i64 (iadd .i64 (iadd .i64 (List.getD o0_1 (Int.toNat (iadd .i64 i6 t28)) 0) (imul .i64 x7 (List.getD t26 (Int.toNat t28) 0))) carry8) 16), (b1_1, (t21_1, (t20_1, (t19_1, ((), ())))))))))))), ((List.set o0_1 (Int.toNat (iadd .i64 i6 t28)) (iand .i64 (iadd .i64 (iadd .i64 (List.getD o0_1 (Int.toNat (iadd .i64 i6 t28)) 0) (imul .i64 x7 (List.getD t26 (Int.toNat t28) 0))) carry8) 65535)), ()))
            else
            ok (inB (iadd .i64 i6 (len b1_1)) (len o0_1)) <|
            ok (inB (iadd .i64 i6 (len b1_1)) (len o0_1)) <|
            rec (((iadd .i64 t21_1 1), (t20_1, (t19_1, (b1_1, ((), ((), ())))))), ((List.set o0_1 (Int.toNat (iadd .i64 i6 (len b1_1))) (iadd .i64 (List.getD o0_1 (Int.toNat (iadd .i64 i6 (len b1_1))) 0) carry8)), ()))) n ((0, ((len b1), (b1, ((), (t21, ((List.getD t19 (Int.toNat t21) 0), (0, (b1, (t21, (t20, (t19, ((), ())))))))))))), (o0, ()))
      else
      (c_i_trim R o0).bind fun (r73_1, _) =>
      some (r73_1, ())) n ((0, ((len u0), (u0, (u1, ((), ((), ())))))), ((List.replicate (Int.toNat (iadd .i64 (iadd .i64 (len u0) (len u1)) 1)) 0), ()))
noncomputable def p_i_lowest (R : Run) (n : Nat) (u0 : Bool) (u1 : List Int) (u2 : List Int) : Option (Bool × (List Int × (List Int × Unit))) :=
  (c_i_natGcd R u1 u2).bind fun (r194_1, _) =>
  jb (P := (((Bool × (List Int × (List Int × (Unit × Unit))))) × (((Bool × (Unit × (Unit × Unit)))) × Unit))) (
      (c_i_natCmp R r194_1 [1]).bind fun (r148_1, _) =>
      bif (r148_1 != 0) then
        (c_i_natDiv R u1 r194_1).bind fun (r195_1, (r195b, _)) =>
        (c_i_natDiv R u2 r194_1).bind fun (r195_2_1, (r195_2b, _)) =>
        some (.inr ((u0, (r195_1, (r195_2_1, ((), ())))), ((false, ((), ((), ()))), ())))
      else
      some (.inr ((u0, (u1, (u2, ((), ())))), ((false, ((), ((), ()))), ())))) fun ((below0, (top1, (bottom2, (_, _)))), ((o0, (_, (_, _))), _)) =>
  jb (P := (((Unit × Unit)) × (((Bool × (List Int × (List Int × Unit)))) × Unit))) (
      bif below0 then
        some (.inr (((), ()), (((ilt 0 (len top1)), (top1, (bottom2, ()))), ())))
      else
      some (.inr (((), ()), ((false, (top1, (bottom2, ()))), ())))) fun ((_, _), ((o0a, (o0b, (o0c, _))), _)) =>
  some (o0a, (o0b, (o0c, ())))
noncomputable def p_i_natAdd (R : Run) (n : Nat) (u0 : List Int) (u1 : List Int) : Option (List Int × Unit) :=
  ok (mkOk (iadd .i64 (imax (len u0) (len u1)) 1) (iadd .i64 (imax (len u0) (len u1)) 1) 8) <|
  iter (P := (((Int × (Int × (List Int × (Unit × (Unit × Unit)))))) × (List Int × Unit))) (fun rec ((t21, (t20, (t19, (_, (_, _))))), (o0, _)) =>
      bif (ilt t21 t20) then
        ok (inB t21 (len t19)) <|
        ok (inB t21 (len o0)) <|
        ok (inB t21 (len o0)) <|
        rec (((iadd .i64 t21 1), (t20, (t19, ((), ((), ()))))), ((List.set o0 (Int.toNat t21) (iadd .i64 (List.getD o0 (Int.toNat t21) 0) (List.getD t19 (Int.toNat t21) 0))), ()))
      else
      iter (P := (((Int × (Int × (Unit × (Unit × Unit))))) × (List Int × Unit))) (fun rec_1 ((t37, (t36, (_, (_, _)))), (o0_1, _)) =>
          bif (ilt t37 t36) then
            ok (inB (iadd .i64 t37 1) (len o0_1)) <|
            ok (inB t37 (len o0_1)) <|
            ok (inB (iadd .i64 t37 1) (len o0_1)) <|
            ok (inB t37 (len (List.set o0_1 (Int.toNat (iadd .i64 t37 1)) (iadd .i64 (List.getD o0_1 (Int.toNat (iadd .i64 t37 1)) 0) (ishr .i64 (List.getD o0_1 (Int.toNat t37) 0) 16))))) <|
            ok (inB t37 (len (List.set o0_1 (Int.toNat (iadd .i64 t37 1)) (iadd .i64 (List.getD o0_1 (Int.toNat (iadd .i64 t37 1)) 0) (ishr .i64 (List.getD o0_1 (Int.toNat t37) 0) 16))))) <|
            rec_1 (((iadd .i64 t37 1), (t36, ((), ((), ())))), ((List.set (List.set o0_1 (Int.toNat (iadd .i64 t37 1)) (iadd .i64 (List.getD o0_1 (Int.toNat (iadd .i64 t37 1)) 0) (ishr .i64 (List.getD o0_1 (Int.toNat t37) 0) 16))) (Int.toNat t37) (iand .i64 (List.getD (List.set o0_1 (Int.toNat (iadd .i64 t37 1)) (iadd .i64 (List.getD o0_1 (Int.toNat (iadd .i64 t37 1)) 0) (ishr .i64 (List.getD o0_1 (Int.toNat t37) 0) 16))) (Int.toNat t37) 0) 65535)), ()))
          else
          (c_i_trim R o0_1).bind fun (r193_1, _) =>
          some (r193_1, ())) n ((0, ((isub .i64 (len o0) 1), ((), ((), ())))), (o0, ()))) n ((0, ((len u1), (u1, ((), ((), ()))))), ((copied (List.replicate (Int.toNat (iadd .i64 (imax (len u0) (len u1)) 1)) 0) u0), ()))
noncomputable def p_i_natCmp (R : Run) (n : Nat) (u0 : List Int) (u1 : List Int) : Option (Int × Unit) :=
  bif ((len u0) != (len u1)) then
    some ((imax (-1) (imin 1 (isub .i64 (len u0) (len u1)))), ())
  else
  iter (P := (((Int × (List Int × (List Int × (Int × Unit))))) × Unit)) (fun rec ((i5, (a0, (b1, (t4, _)))), _) =>
      bif (ile 0 i5) then
        ok (inB i5 (len a0)) <|
        ok (inB i5 (len b1)) <|
        bif ((List.getD a0 (Int.toNat i5) 0) != (List.getD b1 (Int.toNat i5) 0)) then
          ok (inB i5 (len a0)) <|
          ok (inB i5 (len b1)) <|
          some ((imax (-1) (imin 1 (isub .i64 (List.getD a0 (Int.toNat i5) 0) (List.getD b1 (Int.toNat i5) 0)))), ())
        else
        rec (((isub .i64 i5 1), (a0, (b1, (t4, ())))), ())
      else
      some (0, ())) n (((isub .i64 (len u0) 1), (u0, (u1, (0, ())))), ())
noncomputable def p_s_NatOk (R : Run) (n : Nat) (u0 : List Int) : Option (Bool × Unit) :=
  bif (ilt 256 (len u0)) then
    some (false, ())
  else
  iter (P := (((Int × (List Int × (Bool × Unit)))) × Unit)) (fun rec ((i3, (a0, (t2, _))), _) =>
      bif (ilt i3 (len a0)) then
        jb (P := (((Bool × (Int × (List Int × (Bool × Unit))))) × Unit)) (
            ok (inB i3 (len a0)) <|
            bif (ilt (List.getD a0 (Int.toNat i3) 0) 0) then
              some (.inr ((true, (i3, (a0, (t2, ())))), ()))
            else
            ok (inB i3 (len a0)) <|
            some (.inr (((ile 65536 (List.getD a0 (Int.toNat i3) 0)), (i3, (a0, (t2, ())))), ()))) fun ((t24, (i3_1, (a0_1, (t2_1, _)))), _) =>
        bif t24 then
          some (false, ())
        else
        rec (((iadd .i64 i3_1 1), (a0_1, (t2_1, ()))), ())
      else
      jb (P := (((Bool × Unit)) × Unit)) (
          bif ((len a0) == 0) then
            some (.inr ((true, ()), ()))
          else
          ok (inB (isub .i64 (len a0) 1) (len a0)) <|
          some (.inr ((((List.getD a0 (Int.toNat (isub .i64 (len a0) 1)) 0) != 0), ()), ()))) fun ((t2_2, _), _) =>
      some (t2_2, ())) n ((0, (u0, (false, ()))), ())
noncomputable def p_s_l6One (R : Run) (n : Nat) (u0 : List Int) : Option (Bool × Unit) :=
  jb (P := (((Bool × Unit)) × Unit)) (
      bif ((len u0) == 1) then
        ok (inB 0 (len u0)) <|
        some (.inr ((((List.getD u0 (Int.toNat 0) 0) == 1), ()), ()))
      else
      some (.inr ((false, ()), ()))) fun ((t2, _), _) =>
  some (t2, ())
noncomputable def p_s_l5Add (R : Run) (n : Nat) (u0 : List Int) (u1 : List Int) : Option (List Int × Unit) :=
  jb (P := (((Int × (List Int × (List Int × (Unit × Unit))))) × Unit)) (
      bif (ilt (len u0) (len u1)) then
        some (.inr (((len u1), (u0, (u1, ((), ())))), ()))
      else
      some (.inr (((len u0), (u0, (u1, ((), ())))), ()))) fun ((n5, (a0, (b1, (_, _)))), _) =>
  iter (P := (((Int × (Int × (List Int × (List Int × (Int × (Unit × (Unit × Unit)))))))) × (List Int × Unit))) (fun rec ((i8, (n5_1, (a0_1, (b1_1, (carry7, (_, (_, _))))))), (o0, _)) =>
      bif (ilt i8 n5_1) then
        (c_s_l5At R a0_1 i8).bind fun (r92_1, _) =>
        (c_s_l5At R b1_1 i8).bind fun (r92_2_1, _) =>
        ok (aok (o0 ++ [(irem .i64 (iadd .i64 (iadd .i64 r92_1 r92_2_1) carry7) 65536)]) 8) <|
        rec (((iadd .i64 i8 1), (n5_1, (a0_1, (b1_1, ((iquo .i64 (iadd .i64 (iadd .i64 r92_1 r92_2_1) carry7) 65536), ((), ((), ()))))))), ((o0 ++ [(irem .i64 (iadd .i64 (iadd .i64 r92_1 r92_2_1) carry7) 65536)]), ()))
      else
      jb (P := (((Unit × (Unit × Unit))) × (List Int × Unit))) (
          bif (ilt 0 carry7) then
            ok (aok (o0 ++ [carry7]) 8) <|
            some (.inr (((), ((), ())), ((o0 ++ [carry7]), ())))
          else
          some (.inr (((), ((), ())), (o0, ())))) fun ((_, (_, _)), (o0_1, _)) =>
      some (o0_1, ())) n ((0, (n5, (a0, (b1, (0, ((), ((), ()))))))), ([], ()))
noncomputable def p_s_l5Cmp (R : Run) (n : Nat) (u0 : List Int) (u1 : List Int) : Option (Int × Unit) :=
  bif (ilt (len u0) (len u1)) then
    some ((-1), ())
  else
  bif (ilt (len u1) (len u0)) then
    some (1, ())
  else
  iter (P := (((Int × (List Int × (List Int × (Int × Unit))))) × Unit)) (fun rec ((i5, (a0, (b1, (t4, _)))), _) =>
      bif (ile 0 i5) then
        ok (inB i5 (len a0)) <|
        ok (inB i5 (len b1)) <|
        bif (ilt (List.getD a0 (Int.toNat i5) 0) (List.getD b1 (Int.toNat i5) 0)) then
          some ((-1), ())
        else
        ok (inB i5 (len a0)) <|
        ok (inB i5 (len b1)) <|
        bif (ilt (List.getD b1 (Int.toNat i5) 0) (List.getD a0 (Int.toNat i5) 0)) then
          some (1, ())
        else
        rec (((isub .i64 i5 1), (a0, (b1, (t4, ())))), ())
      else
      some (0, ())) n (((isub .i64 (len u0) 1), (u0, (u1, (0, ())))), ())
noncomputable def p_s_l5Sub (R : Run) (n : Nat) (u0 : List Int) (u1 : List Int) : Option (List Int × Unit) :=
  iter (P := (((Int × (List Int × (List Int × (Int × (Unit × (Unit × Unit))))))) × (List Int × Unit))) (fun rec ((i7, (a0, (b1, (borrow6, (_, (_, _)))))), (o0, _)) =>
      bif (ilt i7 (len a0)) then
        ok (inB i7 (len a0)) <|
        (c_s_l5At R b1 i7).bind fun (r92_1, _) =>
        jb (P := (((Unit × (Int × (Int × (List Int × (List Int × (Int × (Unit × Unit)))))))) × (List Int × Unit))) (
            bif (ilt (isub .i64 (isub .i64 (List.getD a0 (Int.toNat i7) 0) r92_1) borrow6) 0) then
              some (.inr (((), ((iadd .i64 (isub .i64 (isub .i64 (List.getD a0 (Int.toNat i7) 0) r92_1) borrow6) 65536), (i7, (a0, (b1, (1, ((), ()))))))), (o0, ())))
            else
            some (.inr (((), ((isub .i64 (isub .i64 (List.getD a0 (Int.toNat i7) 0) r92_1) borrow6), (i7, (a0, (b1, (0, ((), ()))))))), (o0, ())))) fun ((_, (s8, (i7_1, (a0_1, (b1_1, (borrow6_1, (_, _))))))), (o0_1, _)) =>
        ok (aok (o0_1 ++ [s8]) 8) <|
        rec (((iadd .i64 i7_1 1), (a0_1, (b1_1, (borrow6_1, ((), ((), ())))))), ((o0_1 ++ [s8]), ()))
      else
      (c_s_l5Trim R o0).bind fun (r79_1, _) =>
      some (r79_1, ())) n ((0, (u0, (u1, (0, ((), ((), ())))))), ([], ()))
noncomputable def p_s_l8Round (R : Run) (n : Nat) (u0 : Int) (u1 : Bool) (u2 : List Int) (u3 : List Int) (u4 : Bool) : Option (Int × Unit) :=
  (c_s_l8Size R u0 u1 u2 u3).bind fun (r83_1, (r83b, _)) =>
  bif u1 then
    jb (P := (((Int × (Bool × (Bool × (Int × Unit))))) × Unit)) (
        jb (P := (((Bool × (Int × (Bool × (Bool × (Int × Unit)))))) × Unit)) (
            bif r83b then
              some (.inr (((!u4), (r83_1, (r83b, (u4, (0, ()))))), ()))
            else
            some (.inr ((false, (r83_1, (r83b, (u4, (0, ()))))), ()))) fun ((t21, (n7, (rest8, (up2, (t6, _))))), _) =>
        bif t21 then
          some (.inr (((iadd .i64 n7 1), (rest8, (up2, (t6, ())))), ()))
        else
        some (.inr ((n7, (rest8, (up2, (t6, ())))), ()))) fun ((n7_1, (rest8_1, (up2_1, (t6_1, _)))), _) =>
    some ((ineg .i64 n7_1), ())
  else
  jb (P := (((Int × (Int × Unit))) × Unit)) (
      jb (P := (((Bool × (Int × (Int × Unit)))) × Unit)) (
          bif r83b then
            some (.inr ((u4, (r83_1, (0, ()))), ()))
          else
          some (.inr ((false, (r83_1, (0, ()))), ()))) fun ((t29, (n7_2, (t6_2, _))), _) =>
      bif t29 then
        some (.inr (((iadd .i64 n7_2 1), (t6_2, ())), ()))
      else
      some (.inr ((n7_2, (t6_2, ())), ()))) fun ((n7_3, (t6_3, _)), _) =>
  some (n7_3, ())
noncomputable def p_s_l8Frac (R : Run) (n : Nat) (u0 : Bool) (u1 : List Int) (u2 : List Int) : Option (Bool × (List Int × (List Int × Unit))) :=
  some (u0, (u1, (u2, ())))
noncomputable def p_s_l22Power (R : Run) (n : Nat) (u0 : Bool) (u1 : List Int) (u2 : List Int) : Option (Int × Unit) :=
  iter (P := (((Int × (Int × (Unit × (Int × Unit))))) × (((Bool × (List Int × (List Int × Unit)))) × Unit))) (fun rec ((lo3, (hi4, (_, (t2, _)))), ((o0a, (o0b, (o0c, _))), _)) =>
      bif (ilt lo3 hi4) then
        (c_s_l22Tens R (isub .i64 hi4 (iquo .i64 (isub .i64 hi4 lo3) 2))).bind fun (r166_1, (r166b, (r166c, _))) =>
        (c_s_l8Cmp R r166_1 r166b r166c o0a o0b o0c).bind fun (r201_1, _) =>
        bif (ile r201_1 0) then
          rec (((isub .i64 hi4 (iquo .i64 (isub .i64 hi4 lo3) 2)), (hi4, ((), (t2, ())))), ((o0a, (o0b, (o0c, ()))), ()))
        else
        rec ((lo3, ((isub .i64 (isub .i64 hi4 (iquo .i64 (isub .i64 hi4 lo3) 2)) 1), ((), (t2, ())))), ((o0a, (o0b, (o0c, ()))), ()))
      else
      some (lo3, ())) n (((-400), (400, ((), (0, ())))), ((u0, (u1, (u2, ()))), ()))
noncomputable def p_s_l22Tens (R : Run) (n : Nat) (u0 : Int) : Option (Bool × (List Int × (List Int × Unit))) :=
  bif (ilt u0 0) then
    (c_s_l7Tens R (ineg .i64 u0)).bind fun (r181_1, _) =>
    some (false, ([1], (r181_1, ())))
  else
  (c_s_l7Tens R u0).bind fun (r181_2_1, _) =>
  some (false, (r181_2_1, ([1], ())))
noncomputable def p_s_NatText (R : Run) (n : Nat) (u0 : List Int) : Option (ByteArray × Unit) :=
  (c_s_NatOk R u0).bind fun (r151_1, _) =>
  bif (!r151_1) then
    some ((bs []), ())
  else
  bif ((len u0) == 0) then
    some ((bs [48]), ())
  else
  iter (P := (((List Int × (Unit × (ByteArray × Unit)))) × (List Int × Unit))) (fun rec ((x4, (_, (t2, _))), (o0, _)) =>
      bif (ilt 0 (len x4)) then
        (c_s_l5DivSmall R x4 10).bind fun (r187_1, (r187b, _)) =>
        ok (aok (o0 ++ [(IntKind.wrap .u8 (iadd .i64 48 r187b))]) 1) <|
        rec ((r187_1, ((), (t2, ()))), ((o0 ++ [(IntKind.wrap .u8 (iadd .i64 48 r187b))]), ()))
      else
      iter (P := (((Int × (Unit × (Unit × (ByteArray × Unit))))) × (List Int × (List Int × Unit)))) (fun rec_1 ((i8, (_, (_, (t2_1, _)))), (o0_1, (o1, _))) =>
          bif (ile 0 i8) then
            ok (inB i8 (len o1)) <|
            ok (aok (o0_1 ++ [(List.getD o1 (Int.toNat i8) 0)]) 1) <|
            rec_1 (((isub .i64 i8 1), ((), ((), (t2_1, ())))), ((o0_1 ++ [(List.getD o1 (Int.toNat i8) 0)]), (o1, ())))
          else
          some ((ofInts o0_1), ())) n (((isub .i64 (len o0) 1), ((), ((), (t2, ())))), ([], (o0, ())))) n ((u0, ((), ((bs []), ()))), ([], ()))
noncomputable def p_s_l21Int (R : Run) (n : Nat) (u0 : Int) : Option (ByteArray × Unit) :=
  (c_s_FracInt R u0).bind fun (r53_1, (r53b, (r53c, _))) =>
  (c_s_FracText R r53_1 r53b r53c).bind fun (r202_1, _) =>
  some (r202_1, ())
noncomputable def p_i_formatOf (R : Run) (n : Nat) (u0 : Int) : Option (Int × (Int × (Int × (Int × (Bool × Unit))))) :=
  bif (u0 == 32) then
    some (23, ((-149), (127, (2139095040, (true, ())))))
  else
  bif (u0 == 64) then
    some (52, ((-1074), (1023, (9218868437227405312, (true, ())))))
  else
  some (0, (0, (0, (0, (false, ())))))
noncomputable def p_i_show (R : Run) (n : Nat) (u0 : Bool) (u1 : List Int) (u2 : List Int) (u3 : Bool) : Option (ByteArray × Unit) :=
  iter (P := (((List Int × (List Int × (Int × (Unit × (Bool × (ByteArray × Unit))))))) × (((Bool × (List Int × (List Int × Unit)))) × Unit))) (fun rec ((top5, (bottom6, (power7, (_, (up1, (t4, _)))))), ((o0a, (o0b, (o0c, _))), _)) =>
      (c_i_natCmp R top5 bottom6).bind fun (r148_1, _) =>
      bif (ilt r148_1 0) then
        (c_i_natMul R top5 [10]).bind fun (r145_1, _) =>
        rec ((r145_1, (bottom6, ((isub .i64 power7 1), ((), (up1, (t4, ())))))), ((o0a, (o0b, (o0c, ()))), ()))
      else
      (c_i_natDiv R top5 bottom6).bind fun (r195_1, (r195b, _)) =>
      (c_i_natText R r195_1).bind fun (r203_1, _) =>
      jb (P := (((List Int × (List Int × (Bool × (Int × (ByteArray × Unit)))))) × Unit)) (
          bif (ile 0 (isub .i64 8 (iadd .i64 power7 (isub .i64 (slen r203_1) 1)))) then
            (c_i_ten R (isub .i64 8 (iadd .i64 power7 (isub .i64 (slen r203_1) 1)))).bind fun (r204_1, _) =>
            (c_i_natMul R o0b r204_1).bind fun (r145_2_1, _) =>
            some (.inr ((r145_2_1, (o0c, (up1, ((iadd .i64 power7 (isub .i64 (slen r203_1) 1)), (t4, ()))))), ()))
          else
          (c_i_ten R (ineg .i64 (isub .i64 8 (iadd .i64 power7 (isub .i64 (slen r203_1) 1))))).bind fun (r204_2_1, _) =>
          (c_i_natMul R o0c r204_2_1).bind fun (r145_3_1, _) =>
          some (.inr ((o0b, (r145_3_1, (up1, ((iadd .i64 power7 (isub .i64 (slen r203_1) 1)), (t4, ()))))), ()))) fun ((top5_1, (bottom6_1, (up1_1, (power7_1, (t4_1, _))))), _) =>
      (c_i_natDiv R top5_1 bottom6_1).bind fun (r195_2_1, (r195_2b, _)) =>
      jb (P := (((List Int × (Int × (ByteArray × Unit)))) × Unit)) (
          jb (P := (((Bool × (List Int × (Int × (ByteArray × Unit))))) × Unit)) (
              bif up1_1 then
                some (.inr (((ilt 0 (len r195_2b)), (r195_2_1, (power7_1, (t4_1, ())))), ()))
              else
              some (.inr ((false, (r195_2_1, (power7_1, (t4_1, ())))), ()))) fun ((t68, (q8, (power7_2, (t4_2, _)))), _) =>
          bif t68 then
            (c_i_natAdd R q8 [1]).bind fun (r147_1, _) =>
            some (.inr ((r147_1, (power7_2, (t4_2, ()))), ()))
          else
          some (.inr ((q8, (power7_2, (t4_2, ()))), ()))) fun ((q8_1, (power7_3, (t4_3, _))), _) =>
      (c_i_natText R q8_1).bind fun (r203_2_1, _) =>
      ok (sliceOk 0 1 (slen r203_2_1)) <|
      jb (P := (((Int × (ByteArray × (ByteArray × Unit)))) × Unit)) (
          ok (sliceOk 1 (slen r203_2_1) (slen r203_2_1)) <|
          (c_strings_TrimRight R (ByteArray.extract r203_2_1 (Int.toNat 1) (Int.toNat (slen r203_2_1))) (bs [48])).bind fun (r205_1, _) =>
          bif (!(seq r205_1 (bs []))) then
            ok (sok (bs [46]) r205_1) <|
            ok (sok (ByteArray.extract r203_2_1 (Int.toNat 0) (Int.toNat 1)) ((bs [46]) ++ r205_1)) <|
            some (.inr (((iadd .i64 power7_3 (isub .i64 (slen r203_2_1) 9)), (((ByteArray.extract r203_2_1 (Int.toNat 0) (Int.toNat 1)) ++ ((bs [46]) ++ r205_1)), (t4_3, ()))), ()))
          else
          some (.inr (((iadd .i64 power7_3 (isub .i64 (slen r203_2_1) 9)), ((ByteArray.extract r203_2_1 (Int.toNat 0) (Int.toNat 1)), (t4_3, ()))), ()))) fun ((power7_4, (out13, (t4_4, _))), _) =>
      jb (P := (((ByteArray × (ByteArray × Unit))) × Unit)) (
          bif (power7_4 != 0) then
            (c_strconv_Itoa R power7_4).bind fun (r206_1, _) =>
            ok (sok (bs [101]) r206_1) <|
            ok (sok out13 ((bs [101]) ++ r206_1)) <|
            some (.inr (((out13 ++ ((bs [101]) ++ r206_1)), (t4_4, ())), ()))
          else
          some (.inr ((out13, (t4_4, ())), ()))) fun ((out13_1, (t4_5, _)), _) =>
      some (out13_1, ())) n ((u1, (u2, (0, ((), (u3, ((bs []), ())))))), ((u0, (u1, (u2, ()))), ()))
noncomputable def p_s_l31Rd_big (R : Run) (n : Nat) (u0 : List Int) (u1 : Int) : Option (Int × (List Int × (Int × Unit))) :=
  iter (P := (((Int × (Int × (Unit × (Int × Unit))))) × (((List Int × (Int × Unit))) × Unit))) (fun rec ((i4, (n3, (_, (t2, _)))), ((o0a, (o0b, _)), _)) =>
      bif (ilt i4 8) then
        (c_s_l31Rd_pick R o0a o0b 256).bind fun (r31_1, (r31b, (r31c, _))) =>
        rec (((iadd .i64 i4 1), ((iadd .u64 (imul .u64 n3 256) (IntKind.wrap .u64 r31_1)), ((), (t2, ())))), ((r31b, (r31c, ())), ()))
      else
      some (n3, (o0a, (o0b, ())))) n ((0, (0, ((), (0, ())))), ((u0, (u1, ())), ()))
noncomputable def p_s_l7Parts (R : Run) (n : Nat) (u0 : ByteArray) : Option (ByteArray × (Int × (Int × (Bool × Unit)))) :=
  bif (ilt 60 (slen u0)) then
    some ((bs []), (0, (0, (false, ()))))
  else
  (c_s_l7Digits R u0 0).bind fun (r211_1, _) =>
  jb (P := (((Bool × (ByteArray × (Int × (ByteArray × (Int × (Int × (Bool × Unit)))))))) × Unit)) (
      bif (r211_1 == 0) then
        some (.inr ((true, (u0, (r211_1, ((bs []), (0, (0, (false, ()))))))), ()))
      else
      bif (ilt 1 r211_1) then
        ok (inB 0 (slen u0)) <|
        some (.inr ((((bt u0 0) == 48), (u0, (r211_1, ((bs []), (0, (0, (false, ()))))))), ()))
      else
      some (.inr ((false, (u0, (r211_1, ((bs []), (0, (0, (false, ()))))))), ()))) fun ((t29, (s0, (n6, (t2, (t3, (t4, (t5, _))))))), _) =>
  bif t29 then
    some ((bs []), (0, (0, (false, ()))))
  else
  ok (sliceOk 0 n6 (slen s0)) <|
  jb (P := (((Int × (ByteArray × (ByteArray × (Int × (ByteArray × (Int × (Int × (Bool × Unit))))))))) × Unit)) (
      jb (P := (((Bool × (ByteArray × (Int × (ByteArray × (Int × (ByteArray × (Int × (Int × (Bool × Unit)))))))))) × Unit)) (
          bif (ilt n6 (slen s0)) then
            ok (inB n6 (slen s0)) <|
            some (.inr ((((bt s0 n6) == 46), (s0, (n6, ((ByteArray.extract s0 (Int.toNat 0) (Int.toNat n6)), (0, (t2, (t3, (t4, (t5, ()))))))))), ()))
          else
          some (.inr ((false, (s0, (n6, ((ByteArray.extract s0 (Int.toNat 0) (Int.toNat n6)), (0, (t2, (t3, (t4, (t5, ()))))))))), ()))) fun ((t43, (s0_1, (at9, (digits7, (behind8, (t2_1, (t3_1, (t4_1, (t5_1, _))))))))), _) =>
      bif t43 then
        (c_s_l7Digits R s0_1 (iadd .i64 at9 1)).bind fun (r211_2_1, _) =>
        bif (r211_2_1 == 0) then
          some (.inl ((bs []), (0, (0, (false, ())))))
        else
        ok (sliceOk (iadd .i64 at9 1) (iadd .i64 (iadd .i64 at9 1) r211_2_1) (slen s0_1)) <|
        ok (sok digits7 (ByteArray.extract s0_1 (Int.toNat (iadd .i64 at9 1)) (Int.toNat (iadd .i64 (iadd .i64 at9 1) r211_2_1)))) <|
        some (.inr (((iadd .i64 (iadd .i64 at9 1) r211_2_1), (s0_1, ((digits7 ++ (ByteArray.extract s0_1 (Int.toNat (iadd .i64 at9 1)) (Int.toNat (iadd .i64 (iadd .i64 at9 1) r211_2_1)))), (r211_2_1, (t2_1, (t3_1, (t4_1, (t5_1, ())))))))), ()))
      else
      some (.inr ((at9, (s0_1, (digits7, (behind8, (t2_1, (t3_1, (t4_1, (t5_1, ())))))))), ()))) fun ((at9_1, (s0_2, (digits7_1, (behind8_1, (t2_2, (t3_2, (t4_2, (t5_2, _)))))))), _) =>
  jb (P := (((ByteArray × (Int × (Int × (Int × (ByteArray × (ByteArray × (Int × (Int × (Bool × Unit)))))))))) × Unit)) (
      jb (P := (((Bool × (Int × (ByteArray × (Int × (ByteArray × (Int × (ByteArray × (Int × (Int × (Bool × Unit))))))))))) × Unit)) (
          bif (ilt at9_1 (slen s0_2)) then
            ok (inB at9_1 (slen s0_2)) <|
            some (.inr ((((bt s0_2 at9_1) == 101), (at9_1, (s0_2, (0, (digits7_1, (behind8_1, (t2_2, (t3_2, (t4_2, (t5_2, ())))))))))), ()))
          else
          some (.inr ((false, (at9_1, (s0_2, (0, (digits7_1, (behind8_1, (t2_2, (t3_2, (t4_2, (t5_2, ())))))))))), ()))) fun ((t73, (at9_2, (s0_3, (power10, (digits7_2, (behind8_2, (t2_3, (t3_3, (t4_3, (t5_3, _)))))))))), _) =>
      bif t73 then
        jb (P := (((Bool × (Int × (ByteArray × (Int × (ByteArray × (Int × (ByteArray × (Int × (Int × (Bool × Unit))))))))))) × Unit)) (
            bif (ilt (iadd .i64 at9_2 1) (slen s0_3)) then
              ok (inB (iadd .i64 at9_2 1) (slen s0_3)) <|
              some (.inr ((((bt s0_3 (iadd .i64 at9_2 1)) == 45), ((iadd .i64 at9_2 1), (s0_3, (power10, (digits7_2, (behind8_2, (t2_3, (t3_3, (t4_3, (t5_3, ())))))))))), ()))
            else
            some (.inr ((false, ((iadd .i64 at9_2 1), (s0_3, (power10, (digits7_2, (behind8_2, (t2_3, (t3_3, (t4_3, (t5_3, ())))))))))), ()))) fun ((minus11, (at9_3, (s0_4, (power10_1, (digits7_3, (behind8_3, (t2_4, (t3_4, (t4_4, (t5_4, _)))))))))), _) =>
        jb (P := (((ByteArray × (Int × (Bool × (Int × (ByteArray × (Int × (ByteArray × (Int × (Int × (Bool × Unit))))))))))) × Unit)) (
            bif minus11 then
              some (.inr ((s0_4, ((iadd .i64 at9_3 1), (minus11, (power10_1, (digits7_3, (behind8_3, (t2_4, (t3_4, (t4_4, (t5_4, ())))))))))), ()))
            else
            some (.inr ((s0_4, (at9_3, (minus11, (power10_1, (digits7_3, (behind8_3, (t2_4, (t3_4, (t4_4, (t5_4, ())))))))))), ()))) fun ((s0_5, (at9_4, (minus11_1, (power10_2, (digits7_4, (behind8_4, (t2_5, (t3_5, (t4_5, (t5_5, _)))))))))), _) =>
        (c_s_l7Digits R s0_5 at9_4).bind fun (r211_3_1, _) =>
        jb (P := (((Bool × (Int × (Int × (Int × (ByteArray × (Bool × (ByteArray × (Int × (ByteArray × (Int × (Int × (Bool × Unit))))))))))))) × Unit)) (
            bif (r211_3_1 == 0) then
              some (.inr ((true, (at9_4, (r211_3_1, (power10_2, (s0_5, (minus11_1, (digits7_4, (behind8_4, (t2_5, (t3_5, (t4_5, (t5_5, ())))))))))))), ()))
            else
            bif (ilt 3 r211_3_1) then
              some (.inr ((true, (at9_4, (r211_3_1, (power10_2, (s0_5, (minus11_1, (digits7_4, (behind8_4, (t2_5, (t3_5, (t4_5, (t5_5, ())))))))))))), ()))
            else
            bif (ilt 1 r211_3_1) then
              ok (inB at9_4 (slen s0_5)) <|
              bif ((bt s0_5 at9_4) == 48) then
                some (.inr ((true, (at9_4, (r211_3_1, (power10_2, (s0_5, (minus11_1, (digits7_4, (behind8_4, (t2_5, (t3_5, (t4_5, (t5_5, ())))))))))))), ()))
              else
              bif minus11_1 then
                ok (inB at9_4 (slen s0_5)) <|
                some (.inr ((((bt s0_5 at9_4) == 48), (at9_4, (r211_3_1, (power10_2, (s0_5, (minus11_1, (digits7_4, (behind8_4, (t2_5, (t3_5, (t4_5, (t5_5, ())))))))))))), ()))
              else
              some (.inr ((false, (at9_4, (r211_3_1, (power10_2, (s0_5, (minus11_1, (digits7_4, (behind8_4, (t2_5, (t3_5, (t4_5, (t5_5, ())))))))))))), ()))
            else
            bif minus11_1 then
              ok (inB at9_4 (slen s0_5)) <|
              some (.inr ((((bt s0_5 at9_4) == 48), (at9_4, (r211_3_1, (power10_2, (s0_5, (minus11_1, (digits7_4, (behind8_4, (t2_5, (t3_5, (t4_5, (t5_5, ())))))))))))), ()))
            else
            some (.inr ((false, (at9_4, (r211_3_1, (power10_2, (s0_5, (minus11_1, (digits7_4, (behind8_4, (t2_5, (t3_5, (t4_5, (t5_5, ())))))))))))), ()))) fun ((t116, (at9_5, (k12, (power10_3, (s0_6, (minus11_2, (digits7_5, (behind8_5, (t2_6, (t3_6, (t4_6, (t5_6, _)))))))))))), _) =>
        bif t116 then
          some (.inl ((bs []), (0, (0, (false, ())))))
        else
        iter (P := (((Int × (Int × (Int × (Int × (ByteArray × (Bool × (ByteArray × (Int × (ByteArray × (Int × (Int × (Bool × Unit))))))))))))) × Unit)) (fun rec ((i13, (at9_6, (k12_1, (power10_4, (s0_7, (minus11_3, (digits7_6, (behind8_6, (t2_7, (t3_7, (t4_7, (t5_7, _)))))))))))), _) =>
            bif (ilt i13 (iadd .i64 at9_6 k12_1)) then
              ok (inB i13 (slen s0_7)) <|
              rec (((iadd .i64 i13 1), (at9_6, (k12_1, ((iadd .i64 (imul .i64 power10_4 10) (IntKind.wrap .i64 (isub .u8 (bt s0_7 i13) 48))), (s0_7, (minus11_3, (digits7_6, (behind8_6, (t2_7, (t3_7, (t4_7, (t5_7, ())))))))))))), ())
            else
            bif (ilt 400 power10_4) then
              some (.inl ((bs []), (0, (0, (false, ())))))
            else
            jb (P := (((Int × (Int × (ByteArray × (Int × (Int × (ByteArray × (ByteArray × (Int × (Int × (Bool × Unit))))))))))) × Unit)) (
                bif minus11_3 then
                  some (.inr ((at9_6, (k12_1, (digits7_6, (behind8_6, ((ineg .i64 power10_4), (s0_7, (t2_7, (t3_7, (t4_7, (t5_7, ())))))))))), ()))
                else
                some (.inr ((at9_6, (k12_1, (digits7_6, (behind8_6, (power10_4, (s0_7, (t2_7, (t3_7, (t4_7, (t5_7, ())))))))))), ()))) fun ((at9_7, (k12_2, (digits7_7, (behind8_7, (power10_5, (s0_8, (t2_8, (t3_8, (t4_8, (t5_8, _)))))))))), _) =>
            some (.inr ((digits7_7, (behind8_7, (power10_5, ((iadd .i64 at9_7 k12_2), (s0_8, (t2_8, (t3_8, (t4_8, (t5_8, ()))))))))), ()))) n ((at9_5, (at9_5, (k12, (power10_3, (s0_6, (minus11_2, (digits7_5, (behind8_5, (t2_6, (t3_6, (t4_6, (t5_6, ())))))))))))), ())
      else
      some (.inr ((digits7_2, (behind8_2, (power10, (at9_2, (s0_3, (t2_3, (t3_3, (t4_3, (t5_3, ()))))))))), ()))) fun ((digits7_8, (behind8_8, (power10_6, (at9_8, (s0_9, (t2_9, (t3_9, (t4_9, (t5_9, _))))))))), _) =>
  some (digits7_8, (behind8_8, (power10_6, ((at9_8 == (slen s0_9)), ()))))
noncomputable def p_s_l5Times (R : Run) (n : Nat) (u0 : List Int) (u1 : Int) : Option (List Int × Unit) :=
  bif (u1 == 0) then
    some ([], ())
  else
  (c_s_l5Mul R u0 [u1]).bind fun (r69_1, _) =>
  some (r69_1, ())
noncomputable def p_s_l7Tens (R : Run) (n : Nat) (u0 : Int) : Option (List Int × Unit) :=
  iter (P := (((Int × (Int × (List Int × (Unit × Unit))))) × Unit)) (fun rec ((i4, (k0, (out3, (_, _)))), _) =>
      bif (ilt i4 k0) then
        (c_s_l5Times R out3 10).bind fun (r180_1, _) =>
        rec (((iadd .i64 i4 1), (k0, (r180_1, ((), ())))), ())
      else
      some (out3, ())) n ((0, (u0, ([1], ((), ())))), ())
noncomputable def p_s_l5Shl (R : Run) (n : Nat) (u0 : List Int) (u1 : Int) : Option (List Int × Unit) :=
  bif ((len u0) == 0) then
    some ([], ())
  else
  ok (mkOk u1 u1 8) <|
  iter (P := (((Int × (List Int × (Unit × (Unit × Unit))))) × (List Int × Unit))) (fun rec ((i6, (a0, (_, (_, _)))), (o0, _)) =>
      bif (ilt i6 (len a0)) then
        ok (inB i6 (len a0)) <|
        ok (aok (o0 ++ [(List.getD a0 (Int.toNat i6) 0)]) 8) <|
        rec (((iadd .i64 i6 1), (a0, ((), ((), ())))), ((o0 ++ [(List.getD a0 (Int.toNat i6) 0)]), ()))
      else
      some (o0, ())) n ((0, (u0, ((), ((), ())))), ((List.replicate (Int.toNat u1) 0), ()))
noncomputable def p_s_l5DivSmall (R : Run) (n : Nat) (u0 : List Int) (u1 : Int) : Option (List Int × (Int × Unit)) :=
  ok (mkOk (len u0) (len u0) 8) <|
  iter (P := (((Int × (Int × (List Int × (Unit × (Int × (Unit × (Int × Unit)))))))) × (List Int × Unit))) (fun rec ((i8, (rest7, (a0, (_, (d1, (_, (t5, _))))))), (o0, _)) =>
      bif (ile 0 i8) then
        ok (inB i8 (len a0)) <|
        ok (!(d1 == 0)) <|
        ok (inB i8 (len o0)) <|
        ok (!(d1 == 0)) <|
        rec (((isub .i64 i8 1), ((irem .i64 (iadd .i64 (imul .i64 rest7 65536) (List.getD a0 (Int.toNat i8) 0)) d1), (a0, ((), (d1, ((), (t5, ()))))))), ((List.set o0 (Int.toNat i8) (iquo .i64 (iadd .i64 (imul .i64 rest7 65536) (List.getD a0 (Int.toNat i8) 0)) d1)), ()))
      else
      (c_s_l5Trim R o0).bind fun (r79_1, _) =>
      some (r79_1, (rest7, ()))) n (((isub .i64 (len u0) 1), (0, (u0, ((), (u1, ((), (0, ()))))))), ((List.replicate (Int.toNat (len u0)) 0), ()))
noncomputable def p_s_l5Top (R : Run) (n : Nat) (u0 : List Int) (u1 : Int) : Option (List Int × Unit) :=
  iter (P := (((Int × (List Int × (Unit × (Unit × Unit))))) × (List Int × Unit))) (fun rec ((i6, (a0, (_, (_, _)))), (o0, _)) =>
      bif (ilt i6 (len a0)) then
        ok (inB i6 (len a0)) <|
        ok (aok (o0 ++ [(List.getD a0 (Int.toNat i6) 0)]) 8) <|
        rec (((iadd .i64 i6 1), (a0, ((), ((), ())))), ((o0 ++ [(List.getD a0 (Int.toNat i6) 0)]), ()))
      else
      some (o0, ())) n ((u1, (u0, ((), ((), ())))), ([], ()))
noncomputable def p_s_l5At (R : Run) (n : Nat) (u0 : List Int) (u1 : Int) : Option (Int × Unit) :=
  bif (ilt u1 (len u0)) then
    ok (inB u1 (len u0)) <|
    some ((List.getD u0 (Int.toNat u1) 0), ())
  else
  some (0, ())
noncomputable def p_i_BitPartOf (R : Run) (n : Nat) (u0 : Int) (u1 : Int) : Option (Bool × (Int × (Int × (Bool × Unit)))) :=
  (c_i_formatOf R u0).bind fun (r169_1, (r169b, (r169c, (r169d, (r169e, _))))) =>
  jb (P := (((Bool × (Unit × (Int × (Unit × (Bool × Unit)))))) × (((Bool × (Int × (Int × Unit)))) × (((Int × (Int × (Int × (Int × Unit))))) × Unit)))) (
      (c_i_BitOk R u0 u1).bind fun (r101_1, _) =>
      bif (!r101_1) then
        some (.inr ((true, ((), (u1, ((), (false, ()))))), ((false, (0, (0, ()))), ((r169_1, (r169b, (r169c, (r169d, ())))), ()))))
      else
      (c_i_size R u1).bind fun (r113_1, _) =>
      some (.inr (((r113_1 == r169d), ((), (u1, ((), (false, ()))))), ((false, (0, (0, ()))), ((r169_1, (r169b, (r169c, (r169d, ())))), ()))))) fun ((t25, (_, (ord1, (_, (t5, _))))), ((o0a, (o0b, (o0c, _))), ((o1a, (o1b, (o1c, (o1d, _)))), _))) =>
  bif t25 then
    some (false, (0, (0, (false, ()))))
  else
  (c_i_size R ord1).bind fun (r113_2_1, _) =>
  ok (ile 0 o1a) <|
  (c_i_size R ord1).bind fun (r113_3_1, _) =>
  ok (ile 0 o1a) <|
  bif ((ishr .i64 r113_3_1 o1a) == 0) then
    some ((ilt ord1 0), ((IntKind.wrap .u64 (iand .i64 r113_2_1 (isub .i64 (ishl .i64 1 o1a) 1))), (o1b, (true, ()))))
  else
  ok (ile 0 o1a) <|
  some ((ilt ord1 0), ((IntKind.wrap .u64 (ior .i64 (iand .i64 r113_2_1 (isub .i64 (ishl .i64 1 o1a) 1)) (ishl .i64 1 o1a))), ((isub .i64 (iadd .i64 o1b (ishr .i64 r113_3_1 o1a)) 1), (true, ()))))
noncomputable def p_i_natOf (R : Run) (n : Nat) (u0 : Int) : Option (List Int × Unit) :=
  iter (P := (((Int × (Unit × (Unit × Unit)))) × (List Int × Unit))) (fun rec ((n0, (_, (_, _))), (o0, _)) =>
      bif (ilt 0 n0) then
        ok (aok (o0 ++ [(IntKind.wrap .i64 (iand .u64 n0 65535))]) 8) <|
        rec (((ishr .u64 n0 16), ((), ((), ()))), ((o0 ++ [(IntKind.wrap .i64 (iand .u64 n0 65535))]), ()))
      else
      some (o0, ())) n ((u0, ((), ((), ()))), ([], ()))
noncomputable def p_i_natShift (R : Run) (n : Nat) (u0 : List Int) (u1 : Int) : Option (List Int × Unit) :=
  bif (ilt u1 0) then
    bif (ile (len u0) (iquo .i64 (ineg .i64 u1) 16)) then
      some ([], ())
    else
    ok (sliceOk (iquo .i64 (ineg .i64 u1) 16) (len u0) (len u0)) <|
    (c_slices_Clone_int_int R (List.drop (Int.toNat (iquo .i64 (ineg .i64 u1) 16)) (List.take (Int.toNat (len u0)) u0))).bind fun (r105_1, _) =>
    iter (P := (((Int × (Int × (Unit × (Int × (Int × (List Int × (Int × (Unit × Unit))))))))) × (List Int × Unit))) (fun rec ((t31, (t30, (_, (rest6, (drop5, (a0, (k1, (_, _)))))))), (o0, _)) =>
        bif (ilt t31 t30) then
          jb (P := (((Int × (Int × (Unit × (Int × (Int × (List Int × (Int × (Unit × Unit))))))))) × (List Int × Unit))) (
              ok (inB t31 (len o0)) <|
              ok (ile 0 rest6) <|
              ok (inB t31 (len o0)) <|
              bif (ilt (iadd .i64 (iadd .i64 drop5 t31) 1) (len a0)) then
                ok (inB t31 (len (List.set o0 (Int.toNat t31) (ishr .i64 (List.getD o0 (Int.toNat t31) 0) rest6)))) <|
                ok (inB (iadd .i64 (iadd .i64 drop5 t31) 1) (len a0)) <|
                ok (ile 0 (isub .i64 16 rest6)) <|
                ok (inB t31 (len (List.set o0 (Int.toNat t31) (ishr .i64 (List.getD o0 (Int.toNat t31) 0) rest6)))) <|
                some (.inr ((t31, (t30, ((), (rest6, (drop5, (a0, (k1, ((), ())))))))), ((List.set (List.set o0 (Int.toNat t31) (ishr .i64 (List.getD o0 (Int.toNat t31) 0) rest6)) (Int.toNat t31) (ior .i64 (List.getD (List.set o0 (Int.toNat t31) (ishr .i64 (List.getD o0 (Int.toNat t31) 0) rest6)) (Int.toNat t31) 0) (iand .i64 (ishl .i64 (List.getD a0 (Int.toNat (iadd .i64 (iadd .i64 drop5 t31) 1)) 0) (isub .i64 16 rest6)) 65535))), ())))
              else
              some (.inr ((t31, (t30, ((), (rest6, (drop5, (a0, (k1, ((), ())))))))), ((List.set o0 (Int.toNat t31) (ishr .i64 (List.getD o0 (Int.toNat t31) 0) rest6)), ())))) fun ((t31_1, (t30_1, (_, (rest6_1, (drop5_1, (a0_1, (k1_1, (_, _)))))))), (o0_1, _)) =>
          rec (((iadd .i64 t31_1 1), (t30_1, ((), (rest6_1, (drop5_1, (a0_1, (k1_1, ((), ())))))))), (o0_1, ()))
        else
        (c_i_trim R o0).bind fun (r73_1, _) =>
        some (r73_1, ())) n ((0, ((len r105_1), ((), ((irem .i64 (ineg .i64 u1) 16), ((iquo .i64 (ineg .i64 u1) 16), (u0, (u1, ((), ())))))))), (r105_1, ()))
  else
  ok (mkOk (iadd .i64 (iadd .i64 (iquo .i64 u1 16) (len u0)) 1) (iadd .i64 (iadd .i64 (iquo .i64 u1 16) (len u0)) 1) 8) <|
  iter (P := (((Int × (Int × (List Int × (Int × (Unit × (Unit × Unit))))))) × (List Int × Unit))) (fun rec_1 ((t77, (t76, (t75, (k1_2, (_, (_, _)))))), (o0_2, _)) =>
      bif (ilt t77 t76) then
        ok (inB t77 (len t75)) <|
        ok (ile 0 (irem .i64 k1_2 16)) <|
        ok (inB (iadd .i64 (iquo .i64 k1_2 16) t77) (len o0_2)) <|
        ok (inB (iadd .i64 (iquo .i64 k1_2 16) t77) (len o0_2)) <|
        ok (inB (iadd .i64 (iadd .i64 (iquo .i64 k1_2 16) t77) 1) (len (List.set o0_2 (Int.toNat (iadd .i64 (iquo .i64 k1_2 16) t77)) (ior .i64 (List.getD o0_2 (Int.toNat (iadd .i64 (iquo .i64 k1_2 16) t77)) 0) (iand .i64 (ishl .i64 (List.getD t75 (Int.toNat t77) 0) (irem .i64 k1_2 16)) 65535))))) <|
        rec_1 (((iadd .i64 t77 1), (t76, (t75, (k1_2, ((), ((), ())))))), ((List.set (List.set o0_2 (Int.toNat (iadd .i64 (iquo .i64 k1_2 16) t77)) (ior .i64 (List.getD o0_2 (Int.toNat (iadd .i64 (iquo .i64 k1_2 16) t77)) 0) (iand .i64 (ishl .i64 (List.getD t75 (Int.toNat t77) 0) (irem .i64 k1_2 16)) 65535))) (Int.toNat (iadd .i64 (iadd .i64 (iquo .i64 k1_2 16) t77) 1)) (ishr .i64 (ishl .i64 (List.getD t75 (Int.toNat t77) 0) (irem .i64 k1_2 16)) 16)), ()))
      else
      (c_i_trim R o0_2).bind fun (r73_2_1, _) =>
      some (r73_2_1, ())) n ((0, ((len u0), (u0, (u1, ((), ((), ())))))), ((List.replicate (Int.toNat (iadd .i64 (iadd .i64 (iquo .i64 u1 16) (len u0)) 1)) 0), ()))
noncomputable def p_i_trim (R : Run) (n : Nat) (u0 : List Int) : Option (List Int × Unit) :=
  iter (P := (((List Int × (Unit × Unit))) × Unit)) (fun rec ((a0, (_, _)), _) =>
      jb (P := (((Bool × (List Int × (Unit × Unit)))) × Unit)) (
          bif (ilt 0 (len a0)) then
            ok (inB (isub .i64 (len a0) 1) (len a0)) <|
            some (.inr ((((List.getD a0 (Int.toNat (isub .i64 (len a0) 1)) 0) == 0), (a0, ((), ()))), ()))
          else
          some (.inr ((false, (a0, ((), ()))), ()))) fun ((t14, (a0_1, (_, _))), _) =>
      bif t14 then
        ok (sliceOk 0 (isub .i64 (len a0_1) 1) (len a0_1)) <|
        rec (((List.drop (Int.toNat 0) (List.take (Int.toNat (isub .i64 (len a0_1) 1)) a0_1)), ((), ())), ())
      else
      some (a0_1, ())) n ((u0, ((), ())), ())
noncomputable def p_i_natGcd (R : Run) (n : Nat) (u0 : List Int) (u1 : List Int) : Option (List Int × Unit) :=
  iter (P := (((List Int × (List Int × (Unit × Unit)))) × Unit)) (fun rec ((b1, (a0, (_, _))), _) =>
      bif (ilt 0 (len b1)) then
        (c_i_natDiv R a0 b1).bind fun (r91_1, (r91b, _)) =>
        rec ((r91b, (b1, ((), ()))), ())
      else
      some (a0, ())) n ((u1, (u0, ((), ()))), ())
noncomputable def p_i_natDiv (R : Run) (n : Nat) (u0 : List Int) (u1 : List Int) : Option (List Int × (List Int × Unit)) :=
  (c_i_natCmp R u0 u1).bind fun (r50_1, _) =>
  bif (ilt r50_1 0) then
    some ([], (u0, ()))
  else
  bif ((len u1) == 1) then
    ok (mkOk (len u0) (len u0) 8) <|
    iter (P := (((Int × (Int × (List Int × (Unit × (List Int × (Unit × (Unit × Unit)))))))) × (List Int × Unit))) (fun rec ((i8, (rest7, (a0, (_, (b1, (_, (_, _))))))), (o0, _)) =>
        bif (ile 0 i8) then
          ok (inB i8 (len a0)) <|
          ok (inB 0 (len b1)) <|
          ok (!((List.getD b1 (Int.toNat 0) 0) == 0)) <|
          ok (inB 0 (len b1)) <|
          ok (!((List.getD b1 (Int.toNat 0) 0) == 0)) <|
          ok (inB i8 (len o0)) <|
          rec (((isub .i64 i8 1), ((irem .i64 (ior .i64 (ishl .i64 rest7 16) (List.getD a0 (Int.toNat i8) 0)) (List.getD b1 (Int.toNat 0) 0)), (a0, ((), (b1, ((), ((), ()))))))), ((List.set o0 (Int.toNat i8) (iquo .i64 (ior .i64 (ishl .i64 rest7 16) (List.getD a0 (Int.toNat i8) 0)) (List.getD b1 (Int.toNat 0) 0))), ()))
        else
        (c_i_trim R o0).bind fun (r73_1, _) =>
        (c_i_trim R [rest7]).bind fun (r73_2_1, _) =>
        some (r73_1, (r73_2_1, ()))) n (((isub .i64 (len u0) 1), (0, (u0, ((), (u1, ((), ((), ()))))))), ((List.replicate (Int.toNat (len u0)) 0), ()))
  else
  ok (inB (isub .i64 (len u1) 1) (len u1)) <|
  (c_math_bits_Len R (IntKind.wrap .u64 (List.getD u1 (Int.toNat (isub .i64 (len u1) 1)) 0))).bind fun (r103_1, _) =>
  (c_i_natShift R u1 (isub .i64 16 r103_1)).bind fun (r104_1, _) =>
  (c_i_natShift R u0 (isub .i64 16 r103_1)).bind fun (r104_2_1, _) =>
  (c_slices_Clone_int_int R r104_2_1).bind fun (r105_1, _) =>
  ok (aok (r105_1 ++ [0]) 8) <|
  iter (P := (((Unit × (List Int × (Int × (List Int × (Int × (Unit × (Unit × Unit)))))))) × (List Int × Unit))) (fun rec_1 ((_, (a0_1, (n13, (v11, (by10, (_, (_, _))))))), (o0_1, _)) =>
      bif (ilt (len o0_1) (iadd .i64 (len a0_1) 1)) then
        ok (aok (o0_1 ++ [0]) 8) <|
        rec_1 (((), (a0_1, (n13, (v11, (by10, ((), ((), ()))))))), ((o0_1 ++ [0]), ()))
      else
      ok (mkOk (isub .i64 (len o0_1) n13) (isub .i64 (len o0_1) n13) 8) <|
      iter (P := (((Int × (Unit × (Int × (List Int × (Unit × (Int × (Unit × (Unit × Unit))))))))) × (List Int × (List Int × Unit)))) (fun rec_2 ((j15, (_, (n13_1, (v11_1, (_, (by10_1, (_, (_, _)))))))), (o0_2, (o1, _))) =>
          bif (ile 0 j15) then
            ok (inB (iadd .i64 j15 n13_1) (len o0_2)) <|
            ok (inB (isub .i64 (iadd .i64 j15 n13_1) 1) (len o0_2)) <|
            ok (inB (isub .i64 n13_1 1) (len v11_1)) <|
            ok (!((List.getD v11_1 (Int.toNat (isub .i64 n13_1 1)) 0) == 0)) <|
            ok (inB (isub .i64 n13_1 1) (len v11_1)) <|
            ok (!((List.getD v11_1 (Int.toNat (isub .i64 n13_1 1)) 0) == 0)) <|
            jb (P := (((List Int × (Unit × (Int × (Int × (Int × (Unit × (Int × (Unit × (Unit × Unit)))))))))) × (List Int × (List Int × Unit)))) (
                iter (P := (((Int × (List Int × (Int × (Int × (Unit × (Int × (Unit × (Int × (Unit × (Unit × Unit))))))))))) × (List Int × (List Int × Unit)))) (fun rec_3 ((q17, (v11_2, (n13_2, (r18, (_, (j15_1, (_, (by10_2, (_, (_, _)))))))))), (o0_3, (o1_1, _))) =>
                    jb (P := (((Bool × (Int × (Int × (List Int × (Int × (Unit × (Int × (Unit × (Int × (Unit × (Unit × Unit)))))))))))) × (List Int × (List Int × Unit)))) (
                        bif (ile 65536 q17) then
                          some (.inr ((true, (q17, (r18, (v11_2, (n13_2, ((), (j15_1, ((), (by10_2, ((), ((), ()))))))))))), (o0_3, (o1_1, ()))))
                        else
                        ok (inB (isub .i64 n13_2 2) (len v11_2)) <|
                        ok (inB (isub .i64 (iadd .i64 j15_1 n13_2) 2) (len o0_3)) <|
                        some (.inr (((ilt (ior .i64 (ishl .i64 r18 16) (List.getD o0_3 (Int.toNat (isub .i64 (iadd .i64 j15_1 n13_2) 2)) 0)) (imul .i64 q17 (List.getD v11_2 (Int.toNat (isub .i64 n13_2 2)) 0))), (q17, (r18, (v11_2, (n13_2, ((), (j15_1, ((), (by10_2, ((), ((), ()))))))))))), (o0_3, (o1_1, ()))))) fun ((t163, (q17_1, (r18_1, (v11_3, (n13_3, (_, (j15_2, (_, (by10_3, (_, (_, _))))))))))), (o0_4, (o1_2, _))) =>
                    bif t163 then
                      ok (inB (isub .i64 n13_3 1) (len v11_3)) <|
                      bif (ile 65536 (iadd .i64 r18_1 (List.getD v11_3 (Int.toNat (isub .i64 n13_3 1)) 0))) then
                        some (.inr ((v11_3, ((), (j15_2, ((isub .i64 q17_1 1), (n13_3, ((), (by10_3, ((), ((), ()))))))))), (o0_4, (o1_2, ()))))
                      else
                      rec_3 (((isub .i64 q17_1 1), (v11_3, (n13_3, ((iadd .i64 r18_1 (List.getD v11_3 (Int.toNat (isub .i64 n13_3 1)) 0)), ((), (j15_2, ((), (by10_3, ((), ((), ())))))))))), (o0_4, (o1_2, ())))
                    else
                    some (.inr ((v11_3, ((), (j15_2, (q17_1, (n13_3, ((), (by10_3, ((), ((), ()))))))))), (o0_4, (o1_2, ()))))) n (((iquo .i64 (ior .i64 (ishl .i64 (List.getD o0_2 (Int.toNat (iadd .i64 j15 n13_1)) 0) 16) (List.getD o0_2 (Int.toNat (isub .i64 (iadd .i64 j15 n13_1) 1)) 0)) (List.getD v11_1 (Int.toNat (isub .i64 n13_1 1)) 0)), (v11_1, (n13_1, ((irem .i64 (ior .i64 (ishl .i64 (List.getD o0_2 (Int.toNat (iadd .i64 j15 n13_1)) 0) 16) (List.getD o0_2 (Int.toNat (isub .i64 (iadd .i64 j15 n13_1) 1)) 0)) (List.getD v11_1 (Int.toNat (isub .i64 n13_1 1)) 0)), ((), (j15, ((), (by10_1, ((), ((), ())))))))))), (o0_2, (o1, ())))) fun ((v11_4, (_, (j15_3, (q17_2, (n13_4, (_, (by10_4, (_, (_, _))))))))), (o0_5, (o1_3, _))) =>
            iter (P := (((Int × (Int × (List Int × (Unit × (Int × (Int × (Int × (Int × (List Int × (Unit × (Int × (Unit × (Unit × Unit)))))))))))))) × (List Int × (List Int × Unit)))) (fun rec_4 ((t177, (t176, (t175, (_, (j15_4, (borrow19, (q17_3, (n13_5, (v11_5, (_, (by10_5, (_, (_, _))))))))))))), (o0_6, (o1_4, _))) =>
                bif (ilt t177 t176) then
                  ok (inB t177 (len t175)) <|
                  ok (inB (iadd .i64 j15_4 t177) (len o0_6)) <|
                  jb (P := (((Unit × (Int × (Int × (Int × (Int × (Int × (List Int × (Int × (Int × (Int × (List Int × (Unit × (Int × (Unit × (Unit × Unit)))))))))))))))) × (List Int × (List Int × Unit)))) (
                      bif (ilt (isub .i64 (isub .i64 (List.getD o0_6 (Int.toNat (iadd .i64 j15_4 t177)) 0) borrow19) (imul .i64 q17_3 (List.getD t175 (Int.toNat t177) 0))) 0) then
                        some (.inr (((), (j15_4, (t177, ((iadd .i64 (isub .i64 (isub .i64 (List.getD o0_6 (Int.toNat (iadd .i64 j15_4 t177)) 0) borrow19) (imul .i64 q17_3 (List.getD t175 (Int.toNat t177) 0))) (imul .i64 (iquo .i64 (isub .i64 (iadd .i64 (ineg .i64 (isub .i64 (isub .i64 (List.getD o0_6 (Int.toNat (iadd .i64 j15_4 t177)) 0) borrow19) (imul .i64 q17_3 (List.getD t175 (Int.toNat t177) 0)))) 65536) 1) 65536) 65536)), (t177, (t176, (t175, ((iquo .i64 (isub .i64 (iadd .i64 (ineg .i64 (isub .i64 (isub .i64 (List.getD o0_6 (Int.toNat (iadd .i64 j15_4 t177)) 0) borrow19) (imul .i64 q17_3 (List.getD t175 (Int.toNat t177) 0)))) 65536) 1) 65536), (q17_3, (n13_5, (v11_5, ((), (by10_5, ((), ((), ()))))))))))))))), (o0_6, (o1_4, ()))))
                      else
                      some (.inr (((), (j15_4, (t177, ((isub .i64 (isub .i64 (List.getD o0_6 (Int.toNat (iadd .i64 j15_4 t177)) 0) borrow19) (imul .i64 q17_3 (List.getD t175 (Int.toNat t177) 0))), (t177, (t176, (t175, (0, (q17_3, (n13_5, (v11_5, ((), (by10_5, ((), ((), ()))))))))))))))), (o0_6, (o1_4, ()))))) fun ((_, (j15_5, (i20, (x22, (t177_1, (t176_1, (t175_1, (borrow19_1, (q17_4, (n13_6, (v11_6, (_, (by10_6, (_, (_, _))))))))))))))), (o0_7, (o1_5, _))) =>
                  ok (inB (iadd .i64 j15_5 i20) (len o0_7)) <|
                  rec_4 (((iadd .i64 t177_1 1), (t176_1, (t175_1, ((), (j15_5, (borrow19_1, (q17_4, (n13_6, (v11_6, ((), (by10_6, ((), ((), ()))))))))))))), ((List.set o0_7 (Int.toNat (iadd .i64 j15_5 i20)) x22), (o1_5, ())))
                else
                ok (inB (iadd .i64 j15_4 n13_5) (len o0_6)) <|
                ok (inB (iadd .i64 j15_4 n13_5) (len o0_6)) <|
                jb (P := (((Unit × (Int × (Int × (Unit × (Int × (List Int × (Int × (Unit × (Unit × Unit)))))))))) × (List Int × (List Int × Unit)))) (
                    ok (inB (iadd .i64 j15_4 n13_5) (len (List.set o0_6 (Int.toNat (iadd .i64 j15_4 n13_5)) (isub .i64 (List.getD o0_6 (Int.toNat (iadd .i64 j15_4 n13_5)) 0) borrow19)))) <|
                    bif (ilt (List.getD (List.set o0_6 (Int.toNat (iadd .i64 j15_4 n13_5)) (isub .i64 (List.getD o0_6 (Int.toNat (iadd .i64 j15_4 n13_5)) 0) borrow19)) (Int.toNat (iadd .i64 j15_4 n13_5)) 0) 0) then
                      iter (P := (((Int × (Int × (List Int × (Unit × (Int × (Int × (Int × (Unit × (Int × (List Int × (Int × (Unit × (Unit × Unit)))))))))))))) × (List Int × (List Int × Unit)))) (fun rec_5 ((t232, (t231, (t230, (_, (j15_6, (carry23, (n13_7, (_, (q17_5, (v11_7, (by10_7, (_, (_, _))))))))))))), (o0_8, (o1_6, _))) =>
                          bif (ilt t232 t231) then
                            ok (inB t232 (len t230)) <|
                            ok (inB (iadd .i64 j15_6 t232) (len o0_8)) <|
                            ok (inB (iadd .i64 j15_6 t232) (len o0_8)) <|
                            rec_5 (((iadd .i64 t232 1), (t231, (t230, ((), (j15_6, ((ishr .i64 (iadd .i64 (iadd .i64 (List.getD o0_8 (Int.toNat (iadd .i64 j15_6 t232)) 0) (List.getD t230 (Int.toNat t232) 0)) carry23) 16), (n13_7, ((), (q17_5, (v11_7, (by10_7, ((), ((), ()))))))))))))), ((List.set o0_8 (Int.toNat (iadd .i64 j15_6 t232)) (iand .i64 (iadd .i64 (iadd .i64 (List.getD o0_8 (Int.toNat (iadd .i64 j15_6 t232)) 0) (List.getD t230 (Int.toNat t232) 0)) carry23) 65535)), (o1_6, ())))
                          else
                          ok (inB (iadd .i64 j15_6 n13_7) (len o0_8)) <|
                          ok (inB (iadd .i64 j15_6 n13_7) (len o0_8)) <|
                          some (.inr (((), (j15_6, (q17_5, ((), (n13_7, (v11_7, (by10_7, ((), ((), ()))))))))), (o1_6, ((List.set o0_8 (Int.toNat (iadd .i64 j15_6 n13_7)) (iadd .i64 (List.getD o0_8 (Int.toNat (iadd .i64 j15_6 n13_7)) 0) carry23)), ()))))) n ((0, ((len v11_5), (v11_5, ((), (j15_4, (0, (n13_5, ((), ((isub .i64 q17_3 1), (v11_5, (by10_5, ((), ((), ()))))))))))))), ((List.set o0_6 (Int.toNat (iadd .i64 j15_4 n13_5)) (isub .i64 (List.getD o0_6 (Int.toNat (iadd .i64 j15_4 n13_5)) 0) borrow19)), (o1_4, ())))
                    else
                    some (.inr (((), (j15_4, (q17_3, ((), (n13_5, (v11_5, (by10_5, ((), ((), ()))))))))), (o1_4, ((List.set o0_6 (Int.toNat (iadd .i64 j15_4 n13_5)) (isub .i64 (List.getD o0_6 (Int.toNat (iadd .i64 j15_4 n13_5)) 0) borrow19)), ()))))) fun ((_, (j15_7, (q17_6, (_, (n13_8, (v11_8, (by10_8, (_, (_, _))))))))), (o0_9, (o1_7, _))) =>
                ok (inB j15_7 (len o0_9)) <|
                rec_2 (((isub .i64 j15_7 1), ((), (n13_8, (v11_8, ((), (by10_8, ((), ((), ())))))))), (o1_7, ((List.set o0_9 (Int.toNat j15_7) q17_6), ())))) n ((0, ((len v11_4), (v11_4, ((), (j15_3, (0, (q17_2, (n13_4, (v11_4, ((), (by10_4, ((), ((), ()))))))))))))), (o0_5, (o1_3, ())))
          else
          (c_i_trim R o1).bind fun (r73_3_1, _) =>
          (c_i_trim R o0_2).bind fun (r73_4_1, _) =>
          (c_i_natShift R r73_4_1 (ineg .i64 by10_1)).bind fun (r104_3_1, _) =>
          some (r73_3_1, (r104_3_1, ()))) n (((isub .i64 (isub .i64 (len o0_1) n13) 1), ((), (n13, (v11, ((), (by10, ((), ((), ())))))))), (o0_1, ((List.replicate (Int.toNat (isub .i64 (len o0_1) n13)) 0), ())))) n (((), (u0, ((len r104_1), (r104_1, ((isub .i64 16 r103_1), ((), ((), ()))))))), ((r105_1 ++ [0]), ()))
noncomputable def p_s_l8Size (R : Run) (n : Nat) (u0 : Int) (u1 : Bool) (u2 : List Int) (u3 : List Int) : Option (Int × (Bool × Unit)) :=
  bif ((len u2) == 0) then
    some (0, (false, ()))
  else
  (c_s_l1Frac R u0).bind fun (r85_1, _) =>
  (c_s_l5Bits R u2).bind fun (r93_1, _) =>
  (c_s_l5Bits R u3).bind fun (r93_2_1, _) =>
  jb (P := (((Unit × (Int × (Int × (Int × (Int × (Bool × Unit))))))) × (((Bool × (List Int × (List Int × Unit)))) × Unit))) (
      (c_s_l1Least R u0).bind fun (r84_1, _) =>
      bif (ilt (ineg .i64 r84_1) (iadd .i64 (isub .i64 (iadd .i64 r85_1 1) r93_1) r93_2_1)) then
        (c_s_l1Least R u0).bind fun (r84_2_1, _) =>
        some (.inr (((), ((ineg .i64 r84_2_1), (r85_1, (u0, (0, (false, ())))))), ((u1, (u2, (u3, ()))), ())))
      else
      some (.inr (((), ((iadd .i64 (isub .i64 (iadd .i64 r85_1 1) r93_1) r93_2_1), (r85_1, (u0, (0, (false, ())))))), ((u1, (u2, (u3, ()))), ())))) fun ((_, (s7, (frac6, (width0, (t4, (t5, _)))))), ((o0a, (o0b, (o0c, _))), _)) =>
  (c_s_l8Scaled R o0a o0b o0c s7).bind fun (r94_1, (r94b, _)) =>
  iter (P := (((List Int × (Int × (Int × (Unit × (Bool × (Int × (Int × (Bool × Unit))))))))) × (((Bool × (List Int × (List Int × Unit)))) × Unit))) (fun rec ((q8, (frac6_1, (s7_1, (_, (rest9, (width0_1, (t4_1, (t5_1, _)))))))), ((o0a_1, (o0b_1, (o0c_1, _))), _)) =>
      (c_s_l5Bits R q8).bind fun (r93_3_1, _) =>
      bif (ilt (iadd .i64 frac6_1 1) r93_3_1) then
        (c_s_l8Scaled R o0a_1 o0b_1 o0c_1 (isub .i64 s7_1 1)).bind fun (r94_2_1, (r94_2b, _)) =>
        rec ((r94_2_1, (frac6_1, ((isub .i64 s7_1 1), ((), (r94_2b, (width0_1, (t4_1, (t5_1, ())))))))), ((o0a_1, (o0b_1, (o0c_1, ()))), ()))
      else
      (c_s_NatSmall R q8).bind fun (r95_1, (r95b, _)) =>
      (c_s_l5Bits R q8).bind fun (r93_4_1, _) =>
      bif (ile r93_4_1 frac6_1) then
        some ((IntKind.wrap .i64 r95_1), (rest9, ()))
      else
      (c_s_l1Least R width0_1).bind fun (r84_3_1, _) =>
      (c_s_BitTop R width0_1).bind fun (r36_1, _) =>
      ok (ile 0 (IntKind.wrap .u64 frac6_1)) <|
      bif (ilt (isub .i64 (ishr .i64 r36_1 (IntKind.wrap .u64 frac6_1)) 1) (iadd .i64 (isub .i64 (ineg .i64 s7_1) r84_3_1) 1)) then
        (c_s_BitTop R width0_1).bind fun (r36_2_1, _) =>
        some ((isub .i64 r36_2_1 1), (true, ()))
      else
      ok (ile 0 (IntKind.wrap .u64 frac6_1)) <|
      ok (ile 0 (IntKind.wrap .u64 frac6_1)) <|
      some ((isub .i64 (iadd .i64 (ishl .i64 (iadd .i64 (isub .i64 (ineg .i64 s7_1) r84_3_1) 1) (IntKind.wrap .u64 frac6_1)) (IntKind.wrap .i64 r95_1)) (ishl .i64 1 (IntKind.wrap .u64 frac6_1))), (rest9, ()))) n ((r94_1, (frac6, (s7, ((), (r94b, (width0, (t4, (t5, ())))))))), ((o0a, (o0b, (o0c, ()))), ()))
noncomputable def p_s_l8Cmp (R : Run) (n : Nat) (u0 : Bool) (u1 : List Int) (u2 : List Int) (u3 : Bool) (u4 : List Int) (u5 : List Int) : Option (Int × Unit) :=
  (c_s_l5Mul R u1 u5).bind fun (r69_1, _) =>
  (c_s_l5Mul R u4 u2).bind fun (r69_2_1, _) =>
  jb (P := (((Bool × (Unit × (List Int × (Unit × (List Int × (Int × Unit))))))) × (((Bool × (List Int × (List Int × Unit)))) × (((Bool × (List Int × (List Int × Unit)))) × Unit)))) (
      bif ((len r69_1) == 0) then
        some (.inr ((((len r69_2_1) == 0), ((), (r69_1, ((), (r69_2_1, (0, ())))))), ((u0, (u1, (u2, ()))), ((u3, (u4, (u5, ()))), ()))))
      else
      some (.inr ((false, ((), (r69_1, ((), (r69_2_1, (0, ())))))), ((u0, (u1, (u2, ()))), ((u3, (u4, (u5, ()))), ()))))) fun ((t24, (_, (x5, (_, (y6, (t4, _)))))), ((o0a, (o0b, (o0c, _))), ((o1a, (o1b, (o1c, _))), _))) =>
  bif t24 then
    some (0, ())
  else
  jb (P := (((Bool × (Unit × (List Int × (List Int × (Int × Unit)))))) × (((Bool × (List Int × (List Int × Unit)))) × Unit))) (
      bif o0a then
        some (.inr (((ilt 0 (len x5)), ((), (y6, (x5, (t4, ()))))), ((o1a, (o1b, (o1c, ()))), ())))
      else
      some (.inr ((false, ((), (y6, (x5, (t4, ()))))), ((o1a, (o1b, (o1c, ()))), ())))) fun ((t31, (_, (y6_1, (x5_1, (t4_1, _))))), ((o0a_1, (o0b_1, (o0c_1, _))), _)) =>
  bif t31 then
    jb (P := (((Bool × (List Int × (List Int × (Unit × (Int × Unit)))))) × (((Bool × (List Int × (List Int × Unit)))) × Unit))) (
        bif o0a_1 then
          some (.inr (((ilt 0 (len y6_1)), (y6_1, (x5_1, ((), (t4_1, ()))))), ((o0a_1, (o0b_1, (o0c_1, ()))), ())))
        else
        some (.inr ((false, (y6_1, (x5_1, ((), (t4_1, ()))))), ((o0a_1, (o0b_1, (o0c_1, ()))), ())))) fun ((t38, (y6_2, (x5_2, (_, (t4_2, _))))), ((o0a_2, (o0b_2, (o0c_2, _))), _)) =>
    bif t38 then
      (c_s_l5Cmp R y6_2 x5_2).bind fun (r77_1, _) =>
      some (r77_1, ())
    else
    some ((-1), ())
  else
  jb (P := (((Bool × (List Int × (List Int × (Int × Unit))))) × Unit)) (
      bif o0a_1 then
        some (.inr (((ilt 0 (len y6_1)), (x5_1, (y6_1, (t4_1, ())))), ()))
      else
      some (.inr ((false, (x5_1, (y6_1, (t4_1, ())))), ()))) fun ((t48, (x5_3, (y6_3, (t4_3, _)))), _) =>
  bif t48 then
    some (1, ())
  else
  (c_s_l5Cmp R x5_3 y6_3).bind fun (r77_2_1, _) =>
  some (r77_2_1, ())
noncomputable def p_s_FracText (R : Run) (n : Nat) (u0 : Bool) (u1 : List Int) (u2 : List Int) : Option (ByteArray × Unit) :=
  (c_s_FracOk R u0 u1 u2).bind fun (r78_1, _) =>
  bif (!r78_1) then
    some ((bs []), ())
  else
  (c_s_NatText R u1).bind fun (r167_1, _) =>
  jb (P := (((Unit × (ByteArray × (ByteArray × Unit)))) × (((Bool × (List Int × (List Int × Unit)))) × Unit))) (
      bif u0 then
        ok (sok (bs [45]) r167_1) <|
        some (.inr (((), (((bs [45]) ++ r167_1), ((bs []), ()))), ((u0, (u1, (u2, ()))), ())))
      else
      some (.inr (((), (r167_1, ((bs []), ()))), ((u0, (u1, (u2, ()))), ())))) fun ((_, (s3, (t2, _))), ((o0a, (o0b, (o0c, _))), _)) =>
  jb (P := (((ByteArray × (ByteArray × Unit))) × Unit)) (
      (c_s_l6One R o0c).bind fun (r152_1, _) =>
      bif (!r152_1) then
        ok (sok s3 (bs [47])) <|
        (c_s_NatText R o0c).bind fun (r167_2_1, _) =>
        ok (sok (s3 ++ (bs [47])) r167_2_1) <|
        some (.inr ((((s3 ++ (bs [47])) ++ r167_2_1), (t2, ())), ()))
      else
      some (.inr ((s3, (t2, ())), ()))) fun ((s3_1, (t2_1, _)), _) =>
  some (s3_1, ())
noncomputable def p_i_natText (R : Run) (n : Nat) (u0 : List Int) : Option (ByteArray × Unit) :=
  bif ((len u0) == 0) then
    some ((bs [48]), ())
  else
  iter (P := (((List Int × (ByteArray × (ByteArray × Unit)))) × Unit)) (fun rec ((a0, (out3, (t2, _))), _) =>
      bif (ilt 0 (len a0)) then
        (c_i_natDiv R a0 [10000]).bind fun (r195_1, (r195b, _)) =>
        jb (P := (((Int × (List Int × (ByteArray × (List Int × (ByteArray × Unit)))))) × Unit)) (
            bif (ilt 0 (len r195b)) then
              ok (inB 0 (len r195b)) <|
              some (.inr (((List.getD r195b (Int.toNat 0) 0), (r195_1, (out3, (a0, (t2, ()))))), ()))
            else
            some (.inr ((0, (r195_1, (out3, (a0, (t2, ()))))), ()))) fun ((n6, (q4, (out3_1, (a0_1, (t2_1, _))))), _) =>
        (c_strconv_Itoa R n6).bind fun (r206_1, _) =>
        jb (P := (((ByteArray × (ByteArray × (List Int × (List Int × (ByteArray × Unit)))))) × Unit)) (
            bif (ilt 0 (len q4)) then
              (c_strings_Repeat R (bs [48]) (isub .i64 4 (slen r206_1))).bind fun (r219_1, _) =>
              ok (sok r219_1 r206_1) <|
              some (.inr (((r219_1 ++ r206_1), (out3_1, (q4, (a0_1, (t2_1, ()))))), ()))
            else
            some (.inr ((r206_1, (out3_1, (q4, (a0_1, (t2_1, ()))))), ()))) fun ((part7, (out3_2, (q4_1, (a0_2, (t2_2, _))))), _) =>
        ok (sok part7 out3_2) <|
        rec ((q4_1, ((part7 ++ out3_2), (t2_2, ()))), ())
      else
      some (out3, ())) n ((u0, ((bs []), ((bs []), ()))), ())
noncomputable def p_i_ten (R : Run) (n : Nat) (u0 : Int) : Option (List Int × Unit) :=
  iter (P := (((Int × (Int × (List Int × (Unit × Unit))))) × Unit)) (fun rec ((t6, (t5, (out3, (_, _)))), _) =>
      bif (ilt t6 t5) then
        (c_i_natMul R out3 [10]).bind fun (r145_1, _) =>
        rec (((iadd .i64 t6 1), (t5, (r145_1, ((), ())))), ())
      else
      some (out3, ())) n ((0, (u0, ([1], ((), ())))), ())
noncomputable def p_s_l7Digits (R : Run) (n : Nat) (u0 : ByteArray) (u1 : Int) : Option (Int × Unit) :=
  iter (P := (((Int × (Int × (ByteArray × (Int × Unit))))) × Unit)) (fun rec ((from1, (n5, (s0, (t4, _)))), _) =>
      jb (P := (((Bool × (Int × (Int × (ByteArray × (Int × Unit)))))) × Unit)) (
          bif (ilt (iadd .i64 from1 n5) (slen s0)) then
            ok (inB (iadd .i64 from1 n5) (slen s0)) <|
            bif (ile 48 (bt s0 (iadd .i64 from1 n5))) then
              ok (inB (iadd .i64 from1 n5) (slen s0)) <|
              some (.inr (((ile (bt s0 (iadd .i64 from1 n5)) 57), (n5, (from1, (s0, (t4, ()))))), ()))
            else
            some (.inr ((false, (n5, (from1, (s0, (t4, ()))))), ()))
          else
          some (.inr ((false, (n5, (from1, (s0, (t4, ()))))), ()))) fun ((t27, (n5_1, (from1_1, (s0_1, (t4_1, _))))), _) =>
      bif t27 then
        rec ((from1_1, ((iadd .i64 n5_1 1), (s0_1, (t4_1, ())))), ())
      else
      some (n5_1, ())) n ((u1, (0, (u0, (0, ())))), ())
noncomputable def p_s_l5Bits (R : Run) (n : Nat) (u0 : List Int) : Option (Int × Unit) :=
  bif ((len u0) == 0) then
    some (0, ())
  else
  ok (inB (isub .i64 (len u0) 1) (len u0)) <|
  iter (P := (((Int × (Int × (Int × Unit)))) × Unit)) (fun rec ((d4, (n3, (t2, _))), _) =>
      bif (ilt 0 d4) then
        rec (((iquo .i64 d4 2), ((iadd .i64 n3 1), (t2, ()))), ())
      else
      some (n3, ())) n (((List.getD u0 (Int.toNat (isub .i64 (len u0) 1)) 0), ((imul .i64 16 (isub .i64 (len u0) 1)), (0, ()))), ())
noncomputable def p_math_bits_Len (R : Run) (n : Nat) (u0 : Int) : Option (Int × Unit) :=
  (c_math_bits_Len64 R u0).bind fun (r108_1, _) =>
  some (r108_1, ())
noncomputable def p_s_l8Scaled (R : Run) (n : Nat) (u0 : Bool) (u1 : List Int) (u2 : List Int) (u3 : Int) : Option (List Int × (Bool × Unit)) :=
  jb (P := (((List Int × (List Int × (Unit × (Bool × Unit))))) × Unit)) (
      bif (ile 0 u3) then
        (c_s_l5Pow2 R u3).bind fun (r86_1, _) =>
        (c_s_l5Mul R u1 r86_1).bind fun (r69_1, _) =>
        some (.inr ((r69_1, (u2, ((), (false, ())))), ()))
      else
      (c_s_l5Pow2 R (ineg .i64 u3)).bind fun (r86_2_1, _) =>
      (c_s_l5Mul R u2 r86_2_1).bind fun (r69_2_1, _) =>
      some (.inr ((u1, (r69_2_1, ((), (false, ())))), ()))) fun ((top6, (bottom7, (_, (t5, _)))), _) =>
  (c_s_l5Div R top6 bottom7).bind fun (r87_1, (r87b, _)) =>
  some (r87_1, ((ilt 0 (len r87b)), ()))
noncomputable def p_s_NatSmall (R : Run) (n : Nat) (u0 : List Int) : Option (Int × (Bool × Unit)) :=
  jb (P := (((Bool × (List Int × (Int × (Bool × Unit))))) × Unit)) (
      (c_s_NatOk R u0).bind fun (r68_1, _) =>
      bif (!r68_1) then
        some (.inr ((true, (u0, (0, (false, ())))), ()))
      else
      some (.inr (((ilt 4 (len u0)), (u0, (0, (false, ())))), ()))) fun ((t13, (a0, (t2, (t3, _)))), _) =>
  bif t13 then
    some (0, (false, ()))
  else
  iter (P := (((Int × (Int × (List Int × (Int × (Bool × Unit)))))) × Unit)) (fun rec ((i5, (n4, (a0_1, (t2_1, (t3_1, _))))), _) =>
      bif (ile 0 i5) then
        ok (inB i5 (len a0_1)) <|
        rec (((isub .i64 i5 1), ((iadd .u64 (imul .u64 n4 65536) (IntKind.wrap .u64 (List.getD a0_1 (Int.toNat i5) 0))), (a0_1, (t2_1, (t3_1, ()))))), ())
      else
      some (n4, (true, ()))) n (((isub .i64 (len a0) 1), (0, (a0, (t2, (t3, ()))))), ())
noncomputable def p_math_bits_Len64 (R : Run) (n : Nat) (u0 : Int) : Option (Int × Unit) :=
  jb (P := (((Int × (Int × Unit))) × Unit)) (
      bif (ile 4294967296 u0) then
        some (.inr (((ishr .u64 u0 32), (32, ())), ()))
      else
      some (.inr ((u0, (0, ())), ()))) fun ((x0, (n2, _)), _) =>
  jb (P := (((Int × (Int × Unit))) × Unit)) (
      bif (ile 65536 x0) then
        some (.inr (((ishr .u64 x0 16), ((iadd .i64 n2 16), ())), ()))
      else
      some (.inr ((x0, (n2, ())), ()))) fun ((x0_1, (n2_1, _)), _) =>
  jb (P := (((Int × (Int × Unit))) × Unit)) (
      bif (ile 256 x0_1) then
        some (.inr (((iadd .i64 n2_1 8), ((ishr .u64 x0_1 8), ())), ()))
      else
      some (.inr ((n2_1, (x0_1, ())), ()))) fun ((n2_2, (x0_2, _)), _) =>
  ok (inB (IntKind.wrap .u8 x0_2) (slen (bs [0, 1, 2, 2, 3, 3, 3, 3, 4, 4, 4, 4, 4, 4, 4, 4, 5, 5, 5, 5, 5, 5, 5, 5, 5, 5, 5, 5, 5, 5, 5, 5, 6, 6, 6, 6, 6, 6, 6, 6, 6, 6, 6, 6, 6, 6, 6, 6, 6, 6, 6, 6, 6, 6, 6, 6, 6, 6, 6, 6, 6, 6, 6, 6, 7, 7, 7, 7, 7, 7, 7, 7, 7, 7, 7, 7, 7, 7, 7, 7, 7, 7, 7, 7, 7, 7, 7, 7, 7, 7, 7, 7, 7, 7, 7, 7, 7, 7, 7, 7, 7, 7, 7, 7, 7, 7, 7, 7, 7, 7, 7, 7, 7, 7, 7, 7, 7, 7, 7, 7, 7, 7, 7, 7, 7, 7, 7, 7, 8, 8, 8, 8, 8, 8, 8, 8, 8, 8, 8, 8, 8, 8, 8, 8, 8, 8, 8, 8, 8, 8, 8, 8, 8, 8, 8, 8, 8, 8, 8, 8, 8, 8, 8, 8, 8, 8, 8, 8, 8, 8, 8, 8, 8, 8, 8, 8, 8, 8, 8, 8, 8, 8, 8, 8, 8, 8, 8, 8, 8, 8, 8, 8, 8, 8, 8, 8, 8, 8, 8, 8, 8, 8, 8, 8, 8, 8, 8, 8, 8, 8, 8, 8, 8, 8, 8, 8, 8, 8, 8, 8, 8, 8, 8, 8, 8, 8, 8, 8, 8, 8, 8, 8, 8, 8, 8, 8, 8, 8, 8, 8, 8, 8, 8, 8, 8, 8, 8, 8, 8, 8, 8, 8, 8, 8, 8, 8]))) <|
  some ((iadd .i64 n2_2 (IntKind.wrap .i64 (bt (bs [0, 1, 2, 2, 3, 3, 3, 3, 4, 4, 4, 4, 4, 4, 4, 4, 5, 5, 5, 5, 5, 5, 5, 5, 5, 5, 5, 5, 5, 5, 5, 5, 6, 6, 6, 6, 6, 6, 6, 6, 6, 6, 6, 6, 6, 6, 6, 6, 6, 6, 6, 6, 6, 6, 6, 6, 6, 6, 6, 6, 6, 6, 6, 6, 7, 7, 7, 7, 7, 7, 7, 7, 7, 7, 7, 7, 7, 7, 7, 7, 7, 7, 7, 7, 7, 7, 7, 7, 7, 7, 7, 7, 7, 7, 7, 7, 7, 7, 7, 7, 7, 7, 7, 7, 7, 7, 7, 7, 7, 7, 7, 7, 7, 7, 7, 7, 7, 7, 7, 7, 7, 7, 7, 7, 7, 7, 7, 7, 8, 8, 8, 8, 8, 8, 8, 8, 8, 8, 8, 8, 8, 8, 8, 8, 8, 8, 8, 8, 8, 8, 8, 8, 8, 8, 8, 8, 8, 8, 8, 8, 8, 8, 8, 8, 8, 8, 8, 8, 8, 8, 8, 8, 8, 8, 8, 8, 8, 8, 8, 8, 8, 8, 8, 8, 8, 8, 8, 8, 8, 8, 8, 8, 8, 8, 8, 8, 8, 8, 8, 8, 8, 8, 8, 8, 8, 8, 8, 8, 8, 8, 8, 8, 8, 8, 8, 8, 8, 8, 8, 8, 8, 8, 8, 8, 8, 8, 8, 8, 8, 8, 8, 8, 8, 8, 8, 8, 8, 8, 8, 8, 8, 8, 8, 8, 8, 8, 8, 8, 8, 8, 8, 8, 8, 8, 8, 8]) (IntKind.wrap .u8 x0_2)))), ())
end Go.Px.Seat
