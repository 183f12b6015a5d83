/- Own texts, part S3: PxEqs. -/
import Derived.Test.YthallaeafilbbaaGreatDoorS2
set_option linter.unusedVariables false

namespace Go.Px.Seat
open Go
set_option linter.unusedVariables false
noncomputable def C (B : Run) : Prog := ⟨T, F, S, B⟩
variable {B : Run}
theorem e_w_FnExactBoxShow (R : Run) (n : Nat) (u0 : Int) (u1 : List ((Int × (Int × Unit)))) (u2 : List ByteArray) : c_w_FnExactBoxShow ((C B).step R n) u0 u1 u2 = p_w_FnExactBoxShow R n u0 u1 u2 := by kernel_rfl
theorem e_w_szBox (R : Run) (n : Nat) (u0 : List ((Int × (Int × Unit)))) (u1 : Int) : c_w_szBox ((C B).step R n) u0 u1 = p_w_szBox R n u0 u1 := by kernel_rfl
theorem e_w_szStringS (R : Run) (n : Nat) (u0 : List ByteArray) (u1 : Int) : c_w_szStringS ((C B).step R n) u0 u1 = p_w_szStringS R n u0 u1 := by kernel_rfl
theorem e_s_BoxShow (R : Run) (n : Nat) (u0 : Int) (u1 : List ((Int × (Int × Unit)))) (u2 : List ByteArray) : c_s_BoxShow ((C B).step R n) u0 u1 u2 = p_s_BoxShow R n u0 u1 u2 := by kernel_rfl
theorem e_w_toBox (R : Run) (n : Nat) (u0 : List ((Int × (Int × Unit)))) : c_w_toBox ((C B).step R n) u0 = p_w_toBox R n u0 := by kernel_rfl
theorem e_w_toStringS (R : Run) (n : Nat) (u0 : List ByteArray) : c_w_toStringS ((C B).step R n) u0 = p_w_toStringS R n u0 := by kernel_rfl
theorem e_i_BoxShow (R : Run) (n : Nat) (u0 : Int) (u1 : List ((Int × (Int × Unit)))) (u2 : List ByteArray) : c_i_BoxShow ((C B).step R n) u0 u1 u2 = p_i_BoxShow R n u0 u1 u2 := by kernel_rfl
theorem e_w_eqBox (R : Run) (n : Nat) (u0 : List ((Int × (Int × Unit)))) (u1 : List ((Int × (Int × Unit)))) : c_w_eqBox ((C B).step R n) u0 u1 = p_w_eqBox R n u0 u1 := by kernel_rfl
theorem e_w_eqStringS (R : Run) (n : Nat) (u0 : List ByteArray) (u1 : List ByteArray) : c_w_eqStringS ((C B).step R n) u0 u1 = p_w_eqStringS R n u0 u1 := by kernel_rfl
theorem e_w_szPairS (R : Run) (n : Nat) (u0 : List ((Int × (Int × Unit)))) (u1 : Int) : c_w_szPairS ((C B).step R n) u0 u1 = p_w_szPairS R n u0 u1 := by kernel_rfl
theorem e_s_BoxOk (R : Run) (n : Nat) (u0 : Int) (u1 : List ((Int × (Int × Unit)))) : c_s_BoxOk ((C B).step R n) u0 u1 = p_s_BoxOk R n u0 u1 := by kernel_rfl
theorem e_s_l13Distinct (R : Run) (n : Nat) (u0 : List ByteArray) : c_s_l13Distinct ((C B).step R n) u0 = p_s_l13Distinct R n u0 := by kernel_rfl
theorem e_s_FloatShow (R : Run) (n : Nat) (u0 : Int) (u1 : Int) (u2 : Bool) : c_s_FloatShow ((C B).step R n) u0 u1 u2 = p_s_FloatShow R n u0 u1 u2 := by kernel_rfl
theorem e_w_toPairS (R : Run) (n : Nat) (u0 : List ((Int × (Int × Unit)))) : c_w_toPairS ((C B).step R n) u0 = p_w_toPairS R n u0 := by kernel_rfl
theorem e_i_BoxOk (R : Run) (n : Nat) (u0 : Int) (u1 : List ((Int × (Int × Unit)))) : c_i_BoxOk ((C B).step R n) u0 u1 = p_i_BoxOk R n u0 u1 := by kernel_rfl
theorem e_i_twice (R : Run) (n : Nat) (u0 : List ByteArray) : c_i_twice ((C B).step R n) u0 = p_i_twice R n u0 := by kernel_rfl
theorem e_slices_ContainsFunc_string_string_i_BoxShow_1 (R : Run) (n : Nat) (u0 : List ByteArray) : c_slices_ContainsFunc_string_string_i_BoxShow_1 ((C B).step R n) u0 = p_slices_ContainsFunc_string_string_i_BoxShow_1 R n u0 := by kernel_rfl
theorem e_i_BoxShow_1 (R : Run) (n : Nat) (u0 : ByteArray) : c_i_BoxShow_1 ((C B).step R n) u0 = p_i_BoxShow_1 R n u0 := by kernel_rfl
theorem e_i_boxShow (R : Run) (n : Nat) (u0 : Int) (u1 : List ((Int × (Int × Unit)))) (u2 : List ByteArray) : c_i_boxShow ((C B).step R n) u0 u1 u2 = p_i_boxShow R n u0 u1 u2 := by kernel_rfl
theorem e_w_eqPairS (R : Run) (n : Nat) (u0 : List ((Int × (Int × Unit)))) (u1 : List ((Int × (Int × Unit)))) : c_w_eqPairS ((C B).step R n) u0 u1 = p_w_eqPairS R n u0 u1 := by kernel_rfl
theorem e_s_PairOk (R : Run) (n : Nat) (u0 : Int) (u1 : Int) (u2 : Int) : c_s_PairOk ((C B).step R n) u0 u1 u2 = p_s_PairOk R n u0 u1 u2 := by kernel_rfl
theorem e_s_LangNameOk (R : Run) (n : Nat) (u0 : ByteArray) : c_s_LangNameOk ((C B).step R n) u0 = p_s_LangNameOk R n u0 := by kernel_rfl
theorem e_s_l12Find (R : Run) (n : Nat) (u0 : List ByteArray) (u1 : ByteArray) : c_s_l12Find ((C B).step R n) u0 u1 = p_s_l12Find R n u0 u1 := by kernel_rfl
theorem e_s_BitOk (R : Run) (n : Nat) (u0 : Int) (u1 : Int) : c_s_BitOk ((C B).step R n) u0 u1 = p_s_BitOk R n u0 u1 := by kernel_rfl
theorem e_s_BitTop (R : Run) (n : Nat) (u0 : Int) : c_s_BitTop ((C B).step R n) u0 = p_s_BitTop R n u0 := by kernel_rfl
theorem e_s_l22Size (R : Run) (n : Nat) (u0 : Bool) (u1 : List Int) (u2 : List Int) (u3 : Bool) : c_s_l22Size ((C B).step R n) u0 u1 u2 u3 = p_s_l22Size R n u0 u1 u2 u3 := by kernel_rfl
theorem e_s_l8Of (R : Run) (n : Nat) (u0 : Int) (u1 : Int) : c_s_l8Of ((C B).step R n) u0 u1 = p_s_l8Of R n u0 u1 := by kernel_rfl
theorem e_w_toPair (R : Run) (n : Nat) (u0 : Int) (u1 : Int) : c_w_toPair ((C B).step R n) u0 u1 = p_w_toPair R n u0 u1 := by kernel_rfl
theorem e_i_in (R : Run) (n : Nat) (u0 : Int) (u1 : Int) (u2 : Int) : c_i_in ((C B).step R n) u0 u1 u2 = p_i_in R n u0 u1 u2 := by kernel_rfl
theorem e_slices_ContainsFunc_impl_Pair_impl_Pair_i_BoxOk_1 (R : Run) (n : Nat) (u0 : List ((Int × (Int × Unit)))) (u1 : Int) : c_slices_ContainsFunc_impl_Pair_impl_Pair_i_BoxOk_1 ((C B).step R n) u0 u1 = p_slices_ContainsFunc_impl_Pair_impl_Pair_i_BoxOk_1 R n u0 u1 := by kernel_rfl
theorem e_i_BoxOk_1 (R : Run) (n : Nat) (u0 : Int) (u1 : Int) (u2 : Int) : c_i_BoxOk_1 ((C B).step R n) u0 u1 u2 = p_i_BoxOk_1 R n u0 u1 u2 := by kernel_rfl
theorem e_i_PairOk (R : Run) (n : Nat) (u0 : Int) (u1 : Int) (u2 : Int) : c_i_PairOk ((C B).step R n) u0 u1 u2 = p_i_PairOk R n u0 u1 u2 := by kernel_rfl
theorem e_slices_Contains_string_string (R : Run) (n : Nat) (u0 : List ByteArray) (u1 : ByteArray) : c_slices_Contains_string_string ((C B).step R n) u0 u1 = p_slices_Contains_string_string R n u0 u1 := by kernel_rfl
theorem e_slices_IndexFunc_string_string_i_BoxShow_1 (R : Run) (n : Nat) (u0 : List ByteArray) : c_slices_IndexFunc_string_string_i_BoxShow_1 ((C B).step R n) u0 = p_slices_IndexFunc_string_string_i_BoxShow_1 R n u0 := by kernel_rfl
theorem e_i_wordOk (R : Run) (n : Nat) (u0 : ByteArray) : c_i_wordOk ((C B).step R n) u0 = p_i_wordOk R n u0 := by kernel_rfl
theorem e_i_floatShow (R : Run) (n : Nat) (u0 : Int) (u1 : Int) (u2 : Bool) : c_i_floatShow ((C B).step R n) u0 u1 u2 = p_i_floatShow R n u0 u1 u2 := by kernel_rfl
theorem e_w_eqPair (R : Run) (n : Nat) (u0 : Int) (u1 : Int) (u2 : Int) (u3 : Int) : c_w_eqPair ((C B).step R n) u0 u1 u2 u3 = p_w_eqPair R n u0 u1 u2 u3 := by kernel_rfl
theorem e_s_l11Letter (R : Run) (n : Nat) (u0 : Int) : c_s_l11Letter ((C B).step R n) u0 = p_s_l11Letter R n u0 := by kernel_rfl
theorem e_s_l11Digit (R : Run) (n : Nat) (u0 : Int) : c_s_l11Digit ((C B).step R n) u0 = p_s_l11Digit R n u0 := by kernel_rfl
theorem e_s_l11Plain (R : Run) (n : Nat) (u0 : ByteArray) : c_s_l11Plain ((C B).step R n) u0 = p_s_l11Plain R n u0 := by kernel_rfl
theorem e_i_isLetter (R : Run) (n : Nat) (u0 : Int) : c_i_isLetter ((C B).step R n) u0 = p_i_isLetter R n u0 := by kernel_rfl
theorem e_i_isFigure (R : Run) (n : Nat) (u0 : Int) : c_i_isFigure ((C B).step R n) u0 = p_i_isFigure R n u0 := by kernel_rfl
theorem e_s_l11Word (R : Run) (n : Nat) (u0 : ByteArray) : c_s_l11Word ((C B).step R n) u0 = p_s_l11Word R n u0 := by kernel_rfl
theorem e_s_l1Width (R : Run) (n : Nat) (u0 : Int) : c_s_l1Width ((C B).step R n) u0 = p_s_l1Width R n u0 := by kernel_rfl
theorem e_s_l22Power (R : Run) (n : Nat) (u0 : Bool) (u1 : List Int) (u2 : List Int) : c_s_l22Power ((C B).step R n) u0 u1 u2 = p_s_l22Power R n u0 u1 u2 := by kernel_rfl
theorem e_s_l22Tens (R : Run) (n : Nat) (u0 : Int) : c_s_l22Tens ((C B).step R n) u0 = p_s_l22Tens R n u0 := by kernel_rfl
theorem e_s_l5Div (R : Run) (n : Nat) (u0 : List Int) (u1 : List Int) : c_s_l5Div ((C B).step R n) u0 u1 = p_s_l5Div R n u0 u1 := by kernel_rfl
theorem e_s_l5Mul (R : Run) (n : Nat) (u0 : List Int) (u1 : List Int) : c_s_l5Mul ((C B).step R n) u0 u1 = p_s_l5Mul R n u0 u1 := by kernel_rfl
theorem e_s_l5Add (R : Run) (n : Nat) (u0 : List Int) (u1 : List Int) : c_s_l5Add ((C B).step R n) u0 u1 = p_s_l5Add R n u0 u1 := by kernel_rfl
theorem e_s_NatText (R : Run) (n : Nat) (u0 : List Int) : c_s_NatText ((C B).step R n) u0 = p_s_NatText R n u0 := by kernel_rfl
theorem e_s_l21Int (R : Run) (n : Nat) (u0 : Int) : c_s_l21Int ((C B).step R n) u0 = p_s_l21Int R n u0 := by kernel_rfl
theorem e_s_BitPartOf (R : Run) (n : Nat) (u0 : Int) (u1 : Int) : c_s_BitPartOf ((C B).step R n) u0 u1 = p_s_BitPartOf R n u0 u1 := by kernel_rfl
theorem e_s_NatOf (R : Run) (n : Nat) (u0 : Int) : c_s_NatOf ((C B).step R n) u0 = p_s_NatOf R n u0 := by kernel_rfl
theorem e_s_l5Pow2 (R : Run) (n : Nat) (u0 : Int) : c_s_l5Pow2 ((C B).step R n) u0 = p_s_l5Pow2 R n u0 := by kernel_rfl
theorem e_slices_IndexFunc_impl_Pair_impl_Pair_i_BoxOk_1 (R : Run) (n : Nat) (u0 : List ((Int × (Int × Unit)))) (u1 : Int) : c_slices_IndexFunc_impl_Pair_impl_Pair_i_BoxOk_1 ((C B).step R n) u0 u1 = p_slices_IndexFunc_impl_Pair_impl_Pair_i_BoxOk_1 R n u0 u1 := by kernel_rfl
theorem e_i_BitTop (R : Run) (n : Nat) (u0 : Int) : c_i_BitTop ((C B).step R n) u0 = p_i_BitTop R n u0 := by kernel_rfl
theorem e_i_BitOk (R : Run) (n : Nat) (u0 : Int) (u1 : Int) : c_i_BitOk ((C B).step R n) u0 u1 = p_i_BitOk R n u0 u1 := by kernel_rfl
theorem e_slices_Index_string_string (R : Run) (n : Nat) (u0 : List ByteArray) (u1 : ByteArray) : c_slices_Index_string_string ((C B).step R n) u0 u1 = p_slices_Index_string_string R n u0 u1 := by kernel_rfl
theorem e_i_show (R : Run) (n : Nat) (u0 : Bool) (u1 : List Int) (u2 : List Int) (u3 : Bool) : c_i_show ((C B).step R n) u0 u1 u2 u3 = p_i_show R n u0 u1 u2 u3 := by kernel_rfl
theorem e_i_value (R : Run) (n : Nat) (u0 : Int) (u1 : Int) : c_i_value ((C B).step R n) u0 u1 = p_i_value R n u0 u1 := by kernel_rfl
theorem e_s_l8Cmp (R : Run) (n : Nat) (u0 : Bool) (u1 : List Int) (u2 : List Int) (u3 : Bool) (u4 : List Int) (u5 : List Int) : c_s_l8Cmp ((C B).step R n) u0 u1 u2 u3 u4 u5 = p_s_l8Cmp R n u0 u1 u2 u3 u4 u5 := by kernel_rfl
theorem e_s_l7Tens (R : Run) (n : Nat) (u0 : Int) : c_s_l7Tens ((C B).step R n) u0 = p_s_l7Tens R n u0 := by kernel_rfl
theorem e_s_l5Cmp (R : Run) (n : Nat) (u0 : List Int) (u1 : List Int) : c_s_l5Cmp ((C B).step R n) u0 u1 = p_s_l5Cmp R n u0 u1 := by kernel_rfl
theorem e_s_l5Trim (R : Run) (n : Nat) (u0 : List Int) : c_s_l5Trim ((C B).step R n) u0 = p_s_l5Trim R n u0 := by kernel_rfl
theorem e_s_l5DivSmall (R : Run) (n : Nat) (u0 : List Int) (u1 : Int) : c_s_l5DivSmall ((C B).step R n) u0 u1 = p_s_l5DivSmall R n u0 u1 := by kernel_rfl
theorem e_s_l5Times (R : Run) (n : Nat) (u0 : List Int) (u1 : Int) : c_s_l5Times ((C B).step R n) u0 u1 = p_s_l5Times R n u0 u1 := by kernel_rfl
theorem e_s_l5Top (R : Run) (n : Nat) (u0 : List Int) (u1 : Int) : c_s_l5Top ((C B).step R n) u0 u1 = p_s_l5Top R n u0 u1 := by kernel_rfl
theorem e_s_l5Shl (R : Run) (n : Nat) (u0 : List Int) (u1 : Int) : c_s_l5Shl ((C B).step R n) u0 u1 = p_s_l5Shl R n u0 u1 := by kernel_rfl
theorem e_s_l5At (R : Run) (n : Nat) (u0 : List Int) (u1 : Int) : c_s_l5At ((C B).step R n) u0 u1 = p_s_l5At R n u0 u1 := by kernel_rfl
theorem e_s_l5Sub (R : Run) (n : Nat) (u0 : List Int) (u1 : List Int) : c_s_l5Sub ((C B).step R n) u0 u1 = p_s_l5Sub R n u0 u1 := by kernel_rfl
theorem e_s_NatOk (R : Run) (n : Nat) (u0 : List Int) : c_s_NatOk ((C B).step R n) u0 = p_s_NatOk R n u0 := by kernel_rfl
theorem e_s_FracText (R : Run) (n : Nat) (u0 : Bool) (u1 : List Int) (u2 : List Int) : c_s_FracText ((C B).step R n) u0 u1 u2 = p_s_FracText R n u0 u1 u2 := by kernel_rfl
theorem e_s_FracInt (R : Run) (n : Nat) (u0 : Int) : c_s_FracInt ((C B).step R n) u0 = p_s_FracInt R n u0 := by kernel_rfl
theorem e_s_l1Least (R : Run) (n : Nat) (u0 : Int) : c_s_l1Least ((C B).step R n) u0 = p_s_l1Least R n u0 := by kernel_rfl
theorem e_s_l1Frac (R : Run) (n : Nat) (u0 : Int) : c_s_l1Frac ((C B).step R n) u0 = p_s_l1Frac R n u0 := by kernel_rfl
theorem e_i_formatOf (R : Run) (n : Nat) (u0 : Int) : c_i_formatOf ((C B).step R n) u0 = p_i_formatOf R n u0 := by kernel_rfl
theorem e_i_natCmp (R : Run) (n : Nat) (u0 : List Int) (u1 : List Int) : c_i_natCmp ((C B).step R n) u0 u1 = p_i_natCmp R n u0 u1 := by kernel_rfl
theorem e_i_natMul (R : Run) (n : Nat) (u0 : List Int) (u1 : List Int) : c_i_natMul ((C B).step R n) u0 u1 = p_i_natMul R n u0 u1 := by kernel_rfl
theorem e_i_natDiv (R : Run) (n : Nat) (u0 : List Int) (u1 : List Int) : c_i_natDiv ((C B).step R n) u0 u1 = p_i_natDiv R n u0 u1 := by kernel_rfl
theorem e_i_natText (R : Run) (n : Nat) (u0 : List Int) : c_i_natText ((C B).step R n) u0 = p_i_natText R n u0 := by kernel_rfl
theorem e_i_ten (R : Run) (n : Nat) (u0 : Int) : c_i_ten ((C B).step R n) u0 = p_i_ten R n u0 := by kernel_rfl
theorem e_i_natAdd (R : Run) (n : Nat) (u0 : List Int) (u1 : List Int) : c_i_natAdd ((C B).step R n) u0 u1 = p_i_natAdd R n u0 u1 := by kernel_rfl
theorem e_i_BitPartOf (R : Run) (n : Nat) (u0 : Int) (u1 : Int) : c_i_BitPartOf ((C B).step R n) u0 u1 = p_i_BitPartOf R n u0 u1 := by kernel_rfl
theorem e_i_natOf (R : Run) (n : Nat) (u0 : Int) : c_i_natOf ((C B).step R n) u0 = p_i_natOf R n u0 := by kernel_rfl
theorem e_i_whole (R : Run) (n : Nat) (u0 : Bool) (u1 : List Int) : c_i_whole ((C B).step R n) u0 u1 = p_i_whole R n u0 u1 := by kernel_rfl
theorem e_i_natShift (R : Run) (n : Nat) (u0 : List Int) (u1 : Int) : c_i_natShift ((C B).step R n) u0 u1 = p_i_natShift R n u0 u1 := by kernel_rfl
theorem e_i_lowest (R : Run) (n : Nat) (u0 : Bool) (u1 : List Int) (u2 : List Int) : c_i_lowest ((C B).step R n) u0 u1 u2 = p_i_lowest R n u0 u1 u2 := by kernel_rfl
theorem e_s_FracOk (R : Run) (n : Nat) (u0 : Bool) (u1 : List Int) (u2 : List Int) : c_s_FracOk ((C B).step R n) u0 u1 u2 = p_s_FracOk R n u0 u1 u2 := by kernel_rfl
theorem e_s_l6One (R : Run) (n : Nat) (u0 : List Int) : c_s_l6One ((C B).step R n) u0 = p_s_l6One R n u0 := by kernel_rfl
theorem e_i_trim (R : Run) (n : Nat) (u0 : List Int) : c_i_trim ((C B).step R n) u0 = p_i_trim R n u0 := by kernel_rfl
theorem e_math_bits_Len (R : Run) (n : Nat) (u0 : Int) : c_math_bits_Len ((C B).step R n) u0 = p_math_bits_Len R n u0 := by kernel_rfl
theorem e_i_size (R : Run) (n : Nat) (u0 : Int) : c_i_size ((C B).step R n) u0 = p_i_size R n u0 := by kernel_rfl
theorem e_i_natGcd (R : Run) (n : Nat) (u0 : List Int) (u1 : List Int) : c_i_natGcd ((C B).step R n) u0 u1 = p_i_natGcd R n u0 u1 := by kernel_rfl
theorem e_s_l5Gcd (R : Run) (n : Nat) (u0 : List Int) (u1 : List Int) : c_s_l5Gcd ((C B).step R n) u0 u1 = p_s_l5Gcd R n u0 u1 := by kernel_rfl
theorem e_math_bits_Len64 (R : Run) (n : Nat) (u0 : Int) : c_math_bits_Len64 ((C B).step R n) u0 = p_math_bits_Len64 R n u0 := by kernel_rfl
end Go.Px.Seat
