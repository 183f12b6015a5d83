/- Own texts, part S3: PxEqs. -/
import Derived.Test.YtbdlklncblklnaaGreatDoorS2
set_option linter.unusedVariables false

namespace Go.Px.Seat
open Go
set_option linter.unusedVariables false
noncomputable def C (B : Run) : Prog := ⟨T, F, S, B⟩
variable {B : Run}
theorem e_w_FnFloatShow (R : Run) (n : Nat) (u0 : List Int) : c_w_FnFloatShow ((C B).step R n) u0 = p_w_FnFloatShow R n u0 := by kernel_rfl
theorem e_s_FloatFrac (R : Run) (n : Nat) (u0 : Int) (u1 : Int) : c_s_FloatFrac ((C B).step R n) u0 u1 = p_s_FloatFrac R n u0 u1 := by kernel_rfl
theorem e_s_FracAdd (R : Run) (n : Nat) (u0 : Bool) (u1 : List Int) (u2 : List Int) (u3 : Bool) (u4 : List Int) (u5 : List Int) : c_s_FracAdd ((C B).step R n) u0 u1 u2 u3 u4 u5 = p_s_FracAdd R n u0 u1 u2 u3 u4 u5 := by kernel_rfl
theorem e_s_FracSub (R : Run) (n : Nat) (u0 : Bool) (u1 : List Int) (u2 : List Int) (u3 : Bool) (u4 : List Int) (u5 : List Int) : c_s_FracSub ((C B).step R n) u0 u1 u2 u3 u4 u5 = p_s_FracSub R n u0 u1 u2 u3 u4 u5 := by kernel_rfl
theorem e_s_FracCmp (R : Run) (n : Nat) (u0 : Bool) (u1 : List Int) (u2 : List Int) (u3 : Bool) (u4 : List Int) (u5 : List Int) : c_s_FracCmp ((C B).step R n) u0 u1 u2 u3 u4 u5 = p_s_FracCmp R n u0 u1 u2 u3 u4 u5 := by kernel_rfl
theorem e_s_FracSign (R : Run) (n : Nat) (u0 : Bool) (u1 : List Int) (u2 : List Int) : c_s_FracSign ((C B).step R n) u0 u1 u2 = p_s_FracSign R n u0 u1 u2 := by kernel_rfl
theorem e_s_FloatShow (R : Run) (n : Nat) (u0 : Int) (u1 : Int) (u2 : Bool) : c_s_FloatShow ((C B).step R n) u0 u1 u2 = p_s_FloatShow R n u0 u1 u2 := by kernel_rfl
theorem e_i_FloatShow (R : Run) (n : Nat) (u0 : Int) (u1 : Int) (u2 : Bool) : c_i_FloatShow ((C B).step R n) u0 u1 u2 = p_i_FloatShow R n u0 u1 u2 := by kernel_rfl
theorem e_s_FracDiv (R : Run) (n : Nat) (u0 : Bool) (u1 : List Int) (u2 : List Int) (u3 : Bool) (u4 : List Int) (u5 : List Int) : c_s_FracDiv ((C B).step R n) u0 u1 u2 u3 u4 u5 = p_s_FracDiv R n u0 u1 u2 u3 u4 u5 := by kernel_rfl
theorem e_s_FracAbs (R : Run) (n : Nat) (u0 : Bool) (u1 : List Int) (u2 : List Int) : c_s_FracAbs ((C B).step R n) u0 u1 u2 = p_s_FracAbs R n u0 u1 u2 := by kernel_rfl
theorem e_s_FracNeg (R : Run) (n : Nat) (u0 : Bool) (u1 : List Int) (u2 : List Int) : c_s_FracNeg ((C B).step R n) u0 u1 u2 = p_s_FracNeg R n u0 u1 u2 := by kernel_rfl
theorem e_s_DrawFloatShow (R : Run) (n : Nat) (u0 : List Int) : c_s_DrawFloatShow ((C B).step R n) u0 = p_s_DrawFloatShow R n u0 := by kernel_rfl
theorem e_s_BitOk (R : Run) (n : Nat) (u0 : Int) (u1 : Int) : c_s_BitOk ((C B).step R n) u0 u1 = p_s_BitOk R n u0 u1 := by kernel_rfl
theorem e_w_ppLiteral (R : Run) (n : Nat) (u0 : ByteArray) : c_w_ppLiteral ((C B).step R n) u0 = p_w_ppLiteral R n u0 := by kernel_rfl
theorem e_s_FracInt (R : Run) (n : Nat) (u0 : Int) : c_s_FracInt ((C B).step R n) u0 = p_s_FracInt R n u0 := by kernel_rfl
theorem e_s_l31Open (R : Run) (n : Nat) (u0 : List Int) : c_s_l31Open ((C B).step R n) u0 = p_s_l31Open R n u0 := by kernel_rfl
theorem e_s_BitPartOf (R : Run) (n : Nat) (u0 : Int) (u1 : Int) : c_s_BitPartOf ((C B).step R n) u0 u1 = p_s_BitPartOf R n u0 u1 := by kernel_rfl
theorem e_s_l8Of (R : Run) (n : Nat) (u0 : Int) (u1 : Int) : c_s_l8Of ((C B).step R n) u0 u1 = p_s_l8Of R n u0 u1 := by kernel_rfl
theorem e_s_l6Make (R : Run) (n : Nat) (u0 : Bool) (u1 : List Int) (u2 : List Int) : c_s_l6Make ((C B).step R n) u0 u1 u2 = p_s_l6Make R n u0 u1 u2 := by kernel_rfl
theorem e_s_FracOk (R : Run) (n : Nat) (u0 : Bool) (u1 : List Int) (u2 : List Int) : c_s_FracOk ((C B).step R n) u0 u1 u2 = p_s_FracOk R n u0 u1 u2 := by kernel_rfl
theorem e_s_l6Sum (R : Run) (n : Nat) (u0 : Bool) (u1 : List Int) (u2 : List Int) (u3 : Bool) (u4 : List Int) (u5 : List Int) : c_s_l6Sum ((C B).step R n) u0 u1 u2 u3 u4 u5 = p_s_l6Sum R n u0 u1 u2 u3 u4 u5 := by kernel_rfl
theorem e_s_l6Neg (R : Run) (n : Nat) (u0 : Bool) (u1 : List Int) (u2 : List Int) : c_s_l6Neg ((C B).step R n) u0 u1 u2 = p_s_l6Neg R n u0 u1 u2 := by kernel_rfl
theorem e_s_l5Mul (R : Run) (n : Nat) (u0 : List Int) (u1 : List Int) : c_s_l5Mul ((C B).step R n) u0 u1 = p_s_l5Mul R n u0 u1 := by kernel_rfl
theorem e_s_l3Max (R : Run) (n : Nat) (u0 : Int) (u1 : Int) : c_s_l3Max ((C B).step R n) u0 u1 = p_s_l3Max R n u0 u1 := by kernel_rfl
theorem e_s_BitTop (R : Run) (n : Nat) (u0 : Int) : c_s_BitTop ((C B).step R n) u0 = p_s_BitTop R n u0 := by kernel_rfl
theorem e_s_l22Size (R : Run) (n : Nat) (u0 : Bool) (u1 : List Int) (u2 : List Int) (u3 : Bool) : c_s_l22Size ((C B).step R n) u0 u1 u2 u3 = p_s_l22Size R n u0 u1 u2 u3 := by kernel_rfl
theorem e_i_BitOk (R : Run) (n : Nat) (u0 : Int) (u1 : Int) : c_i_BitOk ((C B).step R n) u0 u1 = p_i_BitOk R n u0 u1 := by kernel_rfl
theorem e_i_floatShow (R : Run) (n : Nat) (u0 : Int) (u1 : Int) (u2 : Bool) : c_i_floatShow ((C B).step R n) u0 u1 u2 = p_i_floatShow R n u0 u1 u2 := by kernel_rfl
theorem e_i_in (R : Run) (n : Nat) (u0 : Int) (u1 : Int) (u2 : Int) : c_i_in ((C B).step R n) u0 u1 u2 = p_i_in R n u0 u1 u2 := by kernel_rfl
theorem e_i_size (R : Run) (n : Nat) (u0 : Int) : c_i_size ((C B).step R n) u0 = p_i_size R n u0 := by kernel_rfl
theorem e_s_l5Trim (R : Run) (n : Nat) (u0 : List Int) : c_s_l5Trim ((C B).step R n) u0 = p_s_l5Trim R n u0 := by kernel_rfl
theorem e_s_l31Rd_width (R : Run) (n : Nat) (u0 : List Int) (u1 : Int) : c_s_l31Rd_width ((C B).step R n) u0 u1 = p_s_l31Rd_width R n u0 u1 := by kernel_rfl
theorem e_s_l31Rd_ord (R : Run) (n : Nat) (u0 : List Int) (u1 : Int) (u2 : Int) : c_s_l31Rd_ord ((C B).step R n) u0 u1 u2 = p_s_l31Rd_ord R n u0 u1 u2 := by kernel_rfl
theorem e_s_l31Rd_pick (R : Run) (n : Nat) (u0 : List Int) (u1 : Int) (u2 : Int) : c_s_l31Rd_pick ((C B).step R n) u0 u1 u2 = p_s_l31Rd_pick R n u0 u1 u2 := by kernel_rfl
theorem e_s_l1Width (R : Run) (n : Nat) (u0 : Int) : c_s_l1Width ((C B).step R n) u0 = p_s_l1Width R n u0 := by kernel_rfl
theorem e_s_l31Rd_nice (R : Run) (n : Nat) (u0 : List Int) (u1 : Int) (u2 : Int) : c_s_l31Rd_nice ((C B).step R n) u0 u1 u2 = p_s_l31Rd_nice R n u0 u1 u2 := by kernel_rfl
theorem e_s_DecFrac (R : Run) (n : Nat) (u0 : ByteArray) : c_s_DecFrac ((C B).step R n) u0 = p_s_DecFrac R n u0 := by kernel_rfl
theorem e_s_NatOf (R : Run) (n : Nat) (u0 : Int) : c_s_NatOf ((C B).step R n) u0 = p_s_NatOf R n u0 := by kernel_rfl
theorem e_i_whole (R : Run) (n : Nat) (u0 : Bool) (u1 : List Int) : c_i_whole ((C B).step R n) u0 u1 = p_i_whole R n u0 u1 := by kernel_rfl
theorem e_s_FracOf (R : Run) (n : Nat) (u0 : Bool) (u1 : List Int) (u2 : List Int) : c_s_FracOf ((C B).step R n) u0 u1 u2 = p_s_FracOf R n u0 u1 u2 := by kernel_rfl
theorem e_s_l1Least (R : Run) (n : Nat) (u0 : Int) : c_s_l1Least ((C B).step R n) u0 = p_s_l1Least R n u0 := by kernel_rfl
theorem e_s_l1Frac (R : Run) (n : Nat) (u0 : Int) : c_s_l1Frac ((C B).step R n) u0 = p_s_l1Frac R n u0 := by kernel_rfl
theorem e_s_l5Pow2 (R : Run) (n : Nat) (u0 : Int) : c_s_l5Pow2 ((C B).step R n) u0 = p_s_l5Pow2 R n u0 := by kernel_rfl
theorem e_s_l5Gcd (R : Run) (n : Nat) (u0 : List Int) (u1 : List Int) : c_s_l5Gcd ((C B).step R n) u0 u1 = p_s_l5Gcd R n u0 u1 := by kernel_rfl
theorem e_s_l5Div (R : Run) (n : Nat) (u0 : List Int) (u1 : List Int) : c_s_l5Div ((C B).step R n) u0 u1 = p_s_l5Div R n u0 u1 := by kernel_rfl
theorem e_i_BitTop (R : Run) (n : Nat) (u0 : Int) : c_i_BitTop ((C B).step R n) u0 = p_i_BitTop R n u0 := by kernel_rfl
theorem e_i_value (R : Run) (n : Nat) (u0 : Int) (u1 : Int) : c_i_value ((C B).step R n) u0 u1 = p_i_value R n u0 u1 := by kernel_rfl
theorem e_i_natMul (R : Run) (n : Nat) (u0 : List Int) (u1 : List Int) : c_i_natMul ((C B).step R n) u0 u1 = p_i_natMul R n u0 u1 := by kernel_rfl
theorem e_i_lowest (R : Run) (n : Nat) (u0 : Bool) (u1 : List Int) (u2 : List Int) : c_i_lowest ((C B).step R n) u0 u1 u2 = p_i_lowest R n u0 u1 u2 := by kernel_rfl
theorem e_i_natAdd (R : Run) (n : Nat) (u0 : List Int) (u1 : List Int) : c_i_natAdd ((C B).step R n) u0 u1 = p_i_natAdd R n u0 u1 := by kernel_rfl
theorem e_i_natCmp (R : Run) (n : Nat) (u0 : List Int) (u1 : List Int) : c_i_natCmp ((C B).step R n) u0 u1 = p_i_natCmp R n u0 u1 := by kernel_rfl
theorem e_s_NatOk (R : Run) (n : Nat) (u0 : List Int) : c_s_NatOk ((C B).step R n) u0 = p_s_NatOk R n u0 := by kernel_rfl
theorem e_s_l6One (R : Run) (n : Nat) (u0 : List Int) : c_s_l6One ((C B).step R n) u0 = p_s_l6One R n u0 := by kernel_rfl
theorem e_s_l5Add (R : Run) (n : Nat) (u0 : List Int) (u1 : List Int) : c_s_l5Add ((C B).step R n) u0 u1 = p_s_l5Add R n u0 u1 := by kernel_rfl
theorem e_s_l5Cmp (R : Run) (n : Nat) (u0 : List Int) (u1 : List Int) : c_s_l5Cmp ((C B).step R n) u0 u1 = p_s_l5Cmp R n u0 u1 := by kernel_rfl
theorem e_s_l5Sub (R : Run) (n : Nat) (u0 : List Int) (u1 : List Int) : c_s_l5Sub ((C B).step R n) u0 u1 = p_s_l5Sub R n u0 u1 := by kernel_rfl
theorem e_s_l8Round (R : Run) (n : Nat) (u0 : Int) (u1 : Bool) (u2 : List Int) (u3 : List Int) (u4 : Bool) : c_s_l8Round ((C B).step R n) u0 u1 u2 u3 u4 = p_s_l8Round R n u0 u1 u2 u3 u4 := by kernel_rfl
theorem e_s_l8Frac (R : Run) (n : Nat) (u0 : Bool) (u1 : List Int) (u2 : List Int) : c_s_l8Frac ((C B).step R n) u0 u1 u2 = p_s_l8Frac R n u0 u1 u2 := by kernel_rfl
theorem e_s_l22Power (R : Run) (n : Nat) (u0 : Bool) (u1 : List Int) (u2 : List Int) : c_s_l22Power ((C B).step R n) u0 u1 u2 = p_s_l22Power R n u0 u1 u2 := by kernel_rfl
theorem e_s_l22Tens (R : Run) (n : Nat) (u0 : Int) : c_s_l22Tens ((C B).step R n) u0 = p_s_l22Tens R n u0 := by kernel_rfl
theorem e_s_NatText (R : Run) (n : Nat) (u0 : List Int) : c_s_NatText ((C B).step R n) u0 = p_s_NatText R n u0 := by kernel_rfl
theorem e_s_l21Int (R : Run) (n : Nat) (u0 : Int) : c_s_l21Int ((C B).step R n) u0 = p_s_l21Int R n u0 := by kernel_rfl
theorem e_i_formatOf (R : Run) (n : Nat) (u0 : Int) : c_i_formatOf ((C B).step R n) u0 = p_i_formatOf R n u0 := by kernel_rfl
theorem e_i_show (R : Run) (n : Nat) (u0 : Bool) (u1 : List Int) (u2 : List Int) (u3 : Bool) : c_i_show ((C B).step R n) u0 u1 u2 u3 = p_i_show R n u0 u1 u2 u3 := by kernel_rfl
theorem e_s_l31Rd_big (R : Run) (n : Nat) (u0 : List Int) (u1 : Int) : c_s_l31Rd_big ((C B).step R n) u0 u1 = p_s_l31Rd_big R n u0 u1 := by kernel_rfl
theorem e_s_l7Parts (R : Run) (n : Nat) (u0 : ByteArray) : c_s_l7Parts ((C B).step R n) u0 = p_s_l7Parts R n u0 := by kernel_rfl
theorem e_s_l5Times (R : Run) (n : Nat) (u0 : List Int) (u1 : Int) : c_s_l5Times ((C B).step R n) u0 u1 = p_s_l5Times R n u0 u1 := by kernel_rfl
theorem e_s_l7Tens (R : Run) (n : Nat) (u0 : Int) : c_s_l7Tens ((C B).step R n) u0 = p_s_l7Tens R n u0 := by kernel_rfl
theorem e_s_l5Shl (R : Run) (n : Nat) (u0 : List Int) (u1 : Int) : c_s_l5Shl ((C B).step R n) u0 u1 = p_s_l5Shl R n u0 u1 := by kernel_rfl
theorem e_s_l5DivSmall (R : Run) (n : Nat) (u0 : List Int) (u1 : Int) : c_s_l5DivSmall ((C B).step R n) u0 u1 = p_s_l5DivSmall R n u0 u1 := by kernel_rfl
theorem e_s_l5Top (R : Run) (n : Nat) (u0 : List Int) (u1 : Int) : c_s_l5Top ((C B).step R n) u0 u1 = p_s_l5Top R n u0 u1 := by kernel_rfl
theorem e_s_l5At (R : Run) (n : Nat) (u0 : List Int) (u1 : Int) : c_s_l5At ((C B).step R n) u0 u1 = p_s_l5At R n u0 u1 := by kernel_rfl
theorem e_i_BitPartOf (R : Run) (n : Nat) (u0 : Int) (u1 : Int) : c_i_BitPartOf ((C B).step R n) u0 u1 = p_i_BitPartOf R n u0 u1 := by kernel_rfl
theorem e_i_natOf (R : Run) (n : Nat) (u0 : Int) : c_i_natOf ((C B).step R n) u0 = p_i_natOf R n u0 := by kernel_rfl
theorem e_i_natShift (R : Run) (n : Nat) (u0 : List Int) (u1 : Int) : c_i_natShift ((C B).step R n) u0 u1 = p_i_natShift R n u0 u1 := by kernel_rfl
theorem e_i_trim (R : Run) (n : Nat) (u0 : List Int) : c_i_trim ((C B).step R n) u0 = p_i_trim R n u0 := by kernel_rfl
theorem e_i_natGcd (R : Run) (n : Nat) (u0 : List Int) (u1 : List Int) : c_i_natGcd ((C B).step R n) u0 u1 = p_i_natGcd R n u0 u1 := by kernel_rfl
theorem e_i_natDiv (R : Run) (n : Nat) (u0 : List Int) (u1 : List Int) : c_i_natDiv ((C B).step R n) u0 u1 = p_i_natDiv R n u0 u1 := by kernel_rfl
theorem e_s_l8Size (R : Run) (n : Nat) (u0 : Int) (u1 : Bool) (u2 : List Int) (u3 : List Int) : c_s_l8Size ((C B).step R n) u0 u1 u2 u3 = p_s_l8Size R n u0 u1 u2 u3 := by kernel_rfl
theorem e_s_l8Cmp (R : Run) (n : Nat) (u0 : Bool) (u1 : List Int) (u2 : List Int) (u3 : Bool) (u4 : List Int) (u5 : List Int) : c_s_l8Cmp ((C B).step R n) u0 u1 u2 u3 u4 u5 = p_s_l8Cmp R n u0 u1 u2 u3 u4 u5 := by kernel_rfl
theorem e_s_FracText (R : Run) (n : Nat) (u0 : Bool) (u1 : List Int) (u2 : List Int) : c_s_FracText ((C B).step R n) u0 u1 u2 = p_s_FracText R n u0 u1 u2 := by kernel_rfl
theorem e_i_natText (R : Run) (n : Nat) (u0 : List Int) : c_i_natText ((C B).step R n) u0 = p_i_natText R n u0 := by kernel_rfl
theorem e_i_ten (R : Run) (n : Nat) (u0 : Int) : c_i_ten ((C B).step R n) u0 = p_i_ten R n u0 := by kernel_rfl
theorem e_s_l7Digits (R : Run) (n : Nat) (u0 : ByteArray) (u1 : Int) : c_s_l7Digits ((C B).step R n) u0 u1 = p_s_l7Digits R n u0 u1 := by kernel_rfl
theorem e_s_l5Bits (R : Run) (n : Nat) (u0 : List Int) : c_s_l5Bits ((C B).step R n) u0 = p_s_l5Bits R n u0 := by kernel_rfl
theorem e_math_bits_Len (R : Run) (n : Nat) (u0 : Int) : c_math_bits_Len ((C B).step R n) u0 = p_math_bits_Len R n u0 := by kernel_rfl
theorem e_s_l8Scaled (R : Run) (n : Nat) (u0 : Bool) (u1 : List Int) (u2 : List Int) (u3 : Int) : c_s_l8Scaled ((C B).step R n) u0 u1 u2 u3 = p_s_l8Scaled R n u0 u1 u2 u3 := by kernel_rfl
theorem e_s_NatSmall (R : Run) (n : Nat) (u0 : List Int) : c_s_NatSmall ((C B).step R n) u0 = p_s_NatSmall R n u0 := by kernel_rfl
theorem e_math_bits_Len64 (R : Run) (n : Nat) (u0 : Int) : c_math_bits_Len64 ((C B).step R n) u0 = p_math_bits_Len64 R n u0 := by kernel_rfl
end Go.Px.Seat
