/- Own texts, part S2: PxFns. -/
import Derived.Test.YthallaeafilbbaaGreatDoorA5
import Derived.Test.YthallaeafilbbaaGreatDoorS1
set_option linter.unusedVariables false

namespace Go.Px.Seat
open Go
def c_strings_Join (R : Run) (u0 : List ByteArray) (u1 : ByteArray) : Option (ByteArray × Unit) := R 62 [] sg_strings_Join (u0, (u1, ()))
def c_i_LangNameOk (R : Run) (u0 : ByteArray) : Option (Bool × Unit) := R 31 [] sg_i_LangNameOk (u0, ())
def c_w_FnExactBoxShow (R : Run) (u0 : Int) (u1 : List ((Int × (Int × Unit)))) (u2 : List ByteArray) : Option (Bool × Unit) := R 3 [] sg_w_FnExactBoxShow (u0, (u1, (u2, ())))
def c_w_szBox (R : Run) (u0 : List ((Int × (Int × Unit)))) (u1 : Int) : Option (Int × Unit) := R 5 [] sg_w_szBox (u0, (u1, ()))
def c_w_szStringS (R : Run) (u0 : List ByteArray) (u1 : Int) : Option (Int × Unit) := R 6 [] sg_w_szStringS (u0, (u1, ()))
def c_s_BoxShow (R : Run) (u0 : Int) (u1 : List ((Int × (Int × Unit)))) (u2 : List ByteArray) : Option (ByteArray × Unit) := R 7 [] sg_s_BoxShow (u0, (u1, (u2, ())))
def c_w_toBox (R : Run) (u0 : List ((Int × (Int × Unit)))) : Option ((List ((Int × (Int × Unit)))) × Unit) := R 8 [] sg_w_toBox (u0, ())
def c_w_toStringS (R : Run) (u0 : List ByteArray) : Option (List ByteArray × Unit) := R 9 [] sg_w_toStringS (u0, ())
def c_i_BoxShow (R : Run) (u0 : Int) (u1 : List ((Int × (Int × Unit)))) (u2 : List ByteArray) : Option (ByteArray × Unit) := R 10 [] sg_i_BoxShow (u0, (u1, (u2, ())))
def c_w_eqBox (R : Run) (u0 : List ((Int × (Int × Unit)))) (u1 : List ((Int × (Int × Unit)))) : Option (Bool × Unit) := R 11 [] sg_w_eqBox (u0, (u1, ()))
def c_w_eqStringS (R : Run) (u0 : List ByteArray) (u1 : List ByteArray) : Option (Bool × Unit) := R 12 [] sg_w_eqStringS (u0, (u1, ()))
def c_w_szPairS (R : Run) (u0 : List ((Int × (Int × Unit)))) (u1 : Int) : Option (Int × Unit) := R 22 [] sg_w_szPairS (u0, (u1, ()))
def c_s_BoxOk (R : Run) (u0 : Int) (u1 : List ((Int × (Int × Unit)))) : Option (Bool × Unit) := R 23 [] sg_s_BoxOk (u0, (u1, ()))
def c_s_l13Distinct (R : Run) (u0 : List ByteArray) : Option (Bool × Unit) := R 24 [] sg_s_l13Distinct (u0, ())
def c_s_FloatShow (R : Run) (u0 : Int) (u1 : Int) (u2 : Bool) : Option (ByteArray × Unit) := R 25 [] sg_s_FloatShow (u0, (u1, (u2, ())))
def c_w_toPairS (R : Run) (u0 : List ((Int × (Int × Unit)))) : Option ((List ((Int × (Int × Unit)))) × Unit) := R 26 [] sg_w_toPairS (u0, ())
def c_i_BoxOk (R : Run) (u0 : Int) (u1 : List ((Int × (Int × Unit)))) : Option (Bool × Unit) := R 27 [] sg_i_BoxOk (u0, (u1, ()))
def c_i_twice (R : Run) (u0 : List ByteArray) : Option (Bool × Unit) := R 28 [] sg_i_twice (u0, ())
def c_slices_ContainsFunc_string_string_i_BoxShow_1 (R : Run) (u0 : List ByteArray) : Option (Bool × Unit) := R 29 [30] sg_slices_ContainsFunc_string_string_i_BoxShow_1 (u0, ())
def c_i_BoxShow_1 (R : Run) (u0 : ByteArray) : Option (Bool × Unit) := R 30 [] sg_i_BoxShow_1 (u0, ())
def c_i_boxShow (R : Run) (u0 : Int) (u1 : List ((Int × (Int × Unit)))) (u2 : List ByteArray) : Option (ByteArray × Unit) := R 32 [] sg_i_boxShow (u0, (u1, (u2, ())))
def c_w_eqPairS (R : Run) (u0 : List ((Int × (Int × Unit)))) (u1 : List ((Int × (Int × Unit)))) : Option (Bool × Unit) := R 33 [] sg_w_eqPairS (u0, (u1, ()))
def c_s_PairOk (R : Run) (u0 : Int) (u1 : Int) (u2 : Int) : Option (Bool × Unit) := R 46 [] sg_s_PairOk (u0, (u1, (u2, ())))
def c_s_LangNameOk (R : Run) (u0 : ByteArray) : Option (Bool × Unit) := R 47 [] sg_s_LangNameOk (u0, ())
def c_s_l12Find (R : Run) (u0 : List ByteArray) (u1 : ByteArray) : Option (Int × Unit) := R 48 [] sg_s_l12Find (u0, (u1, ()))
def c_s_BitOk (R : Run) (u0 : Int) (u1 : Int) : Option (Bool × Unit) := R 49 [] sg_s_BitOk (u0, (u1, ()))
def c_s_BitTop (R : Run) (u0 : Int) : Option (Int × Unit) := R 50 [] sg_s_BitTop (u0, ())
def c_s_l22Size (R : Run) (u0 : Bool) (u1 : List Int) (u2 : List Int) (u3 : Bool) : Option (ByteArray × Unit) := R 51 [] sg_s_l22Size (u0, (u1, (u2, (u3, ()))))
def c_s_l8Of (R : Run) (u0 : Int) (u1 : Int) : Option (Bool × (List Int × (List Int × Unit))) := R 52 [] sg_s_l8Of (u0, (u1, ()))
def c_w_toPair (R : Run) (u0 : Int) (u1 : Int) : Option (Int × (Int × Unit)) := R 53 [] sg_w_toPair (u0, (u1, ()))
def c_i_in (R : Run) (u0 : Int) (u1 : Int) (u2 : Int) : Option (Bool × Unit) := R 54 [] sg_i_in (u0, (u1, (u2, ())))
def c_slices_ContainsFunc_impl_Pair_impl_Pair_i_BoxOk_1 (R : Run) (u0 : List ((Int × (Int × Unit)))) (u1 : Int) : Option (Bool × (Int × Unit)) := R 55 [56] sg_slices_ContainsFunc_impl_Pair_impl_Pair_i_BoxOk_1 (u0, (u1, ()))
def c_i_BoxOk_1 (R : Run) (u0 : Int) (u1 : Int) (u2 : Int) : Option (Bool × (Int × Unit)) := R 56 [] sg_i_BoxOk_1 (u0, (u1, (u2, ())))
def c_i_PairOk (R : Run) (u0 : Int) (u1 : Int) (u2 : Int) : Option (Bool × Unit) := R 57 [] sg_i_PairOk (u0, (u1, (u2, ())))
def c_slices_Contains_string_string (R : Run) (u0 : List ByteArray) (u1 : ByteArray) : Option (Bool × Unit) := R 58 [] sg_slices_Contains_string_string (u0, (u1, ()))
def c_slices_IndexFunc_string_string_i_BoxShow_1 (R : Run) (u0 : List ByteArray) : Option (Int × Unit) := R 59 [30] sg_slices_IndexFunc_string_string_i_BoxShow_1 (u0, ())
def c_i_wordOk (R : Run) (u0 : ByteArray) : Option (Bool × Unit) := R 60 [] sg_i_wordOk (u0, ())
def c_i_floatShow (R : Run) (u0 : Int) (u1 : Int) (u2 : Bool) : Option (ByteArray × Unit) := R 61 [] sg_i_floatShow (u0, (u1, (u2, ())))
def c_w_eqPair (R : Run) (u0 : Int) (u1 : Int) (u2 : Int) (u3 : Int) : Option (Bool × Unit) := R 63 [] sg_w_eqPair (u0, (u1, (u2, (u3, ()))))
def c_s_l11Letter (R : Run) (u0 : Int) : Option (Bool × Unit) := R 71 [] sg_s_l11Letter (u0, ())
def c_s_l11Digit (R : Run) (u0 : Int) : Option (Bool × Unit) := R 72 [] sg_s_l11Digit (u0, ())
def c_s_l11Plain (R : Run) (u0 : ByteArray) : Option (Bool × Unit) := R 75 [] sg_s_l11Plain (u0, ())
def c_i_isLetter (R : Run) (u0 : Int) : Option (Bool × Unit) := R 79 [] sg_i_isLetter (u0, ())
def c_i_isFigure (R : Run) (u0 : Int) : Option (Bool × Unit) := R 80 [] sg_i_isFigure (u0, ())
def c_s_l11Word (R : Run) (u0 : ByteArray) : Option (Bool × Unit) := R 89 [] sg_s_l11Word (u0, ())
def c_s_l1Width (R : Run) (u0 : Int) : Option (Bool × Unit) := R 90 [] sg_s_l1Width (u0, ())
def c_s_l22Power (R : Run) (u0 : Bool) (u1 : List Int) (u2 : List Int) : Option (Int × Unit) := R 91 [] sg_s_l22Power (u0, (u1, (u2, ())))
def c_s_l22Tens (R : Run) (u0 : Int) : Option (Bool × (List Int × (List Int × Unit))) := R 92 [] sg_s_l22Tens (u0, ())
def c_s_l5Div (R : Run) (u0 : List Int) (u1 : List Int) : Option (List Int × (List Int × Unit)) := R 93 [] sg_s_l5Div (u0, (u1, ()))
def c_s_l5Mul (R : Run) (u0 : List Int) (u1 : List Int) : Option (List Int × Unit) := R 94 [] sg_s_l5Mul (u0, (u1, ()))
def c_s_l5Add (R : Run) (u0 : List Int) (u1 : List Int) : Option (List Int × Unit) := R 95 [] sg_s_l5Add (u0, (u1, ()))
def c_s_NatText (R : Run) (u0 : List Int) : Option (ByteArray × Unit) := R 96 [] sg_s_NatText (u0, ())
def c_s_l21Int (R : Run) (u0 : Int) : Option (ByteArray × Unit) := R 97 [] sg_s_l21Int (u0, ())
def c_s_BitPartOf (R : Run) (u0 : Int) (u1 : Int) : Option (Bool × (Int × (Int × (Bool × Unit)))) := R 98 [] sg_s_BitPartOf (u0, (u1, ()))
def c_s_NatOf (R : Run) (u0 : Int) : Option (List Int × Unit) := R 99 [] sg_s_NatOf (u0, ())
def c_s_l5Pow2 (R : Run) (u0 : Int) : Option (List Int × Unit) := R 100 [] sg_s_l5Pow2 (u0, ())
def c_slices_IndexFunc_impl_Pair_impl_Pair_i_BoxOk_1 (R : Run) (u0 : List ((Int × (Int × Unit)))) (u1 : Int) : Option (Int × (Int × Unit)) := R 101 [56] sg_slices_IndexFunc_impl_Pair_impl_Pair_i_BoxOk_1 (u0, (u1, ()))
def c_i_BitTop (R : Run) (u0 : Int) : Option (Int × Unit) := R 102 [] sg_i_BitTop (u0, ())
def c_i_BitOk (R : Run) (u0 : Int) (u1 : Int) : Option (Bool × Unit) := R 103 [] sg_i_BitOk (u0, (u1, ()))
def c_slices_Index_string_string (R : Run) (u0 : List ByteArray) (u1 : ByteArray) : Option (Int × Unit) := R 104 [] sg_slices_Index_string_string (u0, (u1, ()))
def c_i_show (R : Run) (u0 : Bool) (u1 : List Int) (u2 : List Int) (u3 : Bool) : Option (ByteArray × Unit) := R 105 [] sg_i_show (u0, (u1, (u2, (u3, ()))))
def c_i_value (R : Run) (u0 : Int) (u1 : Int) : Option (Bool × (List Int × (List Int × Unit))) := R 106 [] sg_i_value (u0, (u1, ()))
def c_strconv_Itoa (R : Run) (u0 : Int) : Option (ByteArray × Unit) := R 113 [] sg_strconv_Itoa (u0, ())
def c_s_l8Cmp (R : Run) (u0 : Bool) (u1 : List Int) (u2 : List Int) (u3 : Bool) (u4 : List Int) (u5 : List Int) : Option (Int × Unit) := R 133 [] sg_s_l8Cmp (u0, (u1, (u2, (u3, (u4, (u5, ()))))))
def c_s_l7Tens (R : Run) (u0 : Int) : Option (List Int × Unit) := R 134 [] sg_s_l7Tens (u0, ())
def c_s_l5Cmp (R : Run) (u0 : List Int) (u1 : List Int) : Option (Int × Unit) := R 135 [] sg_s_l5Cmp (u0, (u1, ()))
def c_s_l5Trim (R : Run) (u0 : List Int) : Option (List Int × Unit) := R 136 [] sg_s_l5Trim (u0, ())
def c_s_l5DivSmall (R : Run) (u0 : List Int) (u1 : Int) : Option (List Int × (Int × Unit)) := R 137 [] sg_s_l5DivSmall (u0, (u1, ()))
def c_s_l5Times (R : Run) (u0 : List Int) (u1 : Int) : Option (List Int × Unit) := R 138 [] sg_s_l5Times (u0, (u1, ()))
def c_s_l5Top (R : Run) (u0 : List Int) (u1 : Int) : Option (List Int × Unit) := R 139 [] sg_s_l5Top (u0, (u1, ()))
def c_s_l5Shl (R : Run) (u0 : List Int) (u1 : Int) : Option (List Int × Unit) := R 140 [] sg_s_l5Shl (u0, (u1, ()))
def c_s_l5At (R : Run) (u0 : List Int) (u1 : Int) : Option (Int × Unit) := R 141 [] sg_s_l5At (u0, (u1, ()))
def c_s_l5Sub (R : Run) (u0 : List Int) (u1 : List Int) : Option (List Int × Unit) := R 142 [] sg_s_l5Sub (u0, (u1, ()))
def c_s_NatOk (R : Run) (u0 : List Int) : Option (Bool × Unit) := R 143 [] sg_s_NatOk (u0, ())
def c_s_FracText (R : Run) (u0 : Bool) (u1 : List Int) (u2 : List Int) : Option (ByteArray × Unit) := R 144 [] sg_s_FracText (u0, (u1, (u2, ())))
def c_s_FracInt (R : Run) (u0 : Int) : Option (Bool × (List Int × (List Int × Unit))) := R 145 [] sg_s_FracInt (u0, ())
def c_s_l1Least (R : Run) (u0 : Int) : Option (Int × Unit) := R 146 [] sg_s_l1Least (u0, ())
def c_s_l1Frac (R : Run) (u0 : Int) : Option (Int × Unit) := R 147 [] sg_s_l1Frac (u0, ())
def c_i_formatOf (R : Run) (u0 : Int) : Option (Int × (Int × (Int × (Int × (Bool × Unit))))) := R 148 [] sg_i_formatOf (u0, ())
def c_i_natCmp (R : Run) (u0 : List Int) (u1 : List Int) : Option (Int × Unit) := R 149 [] sg_i_natCmp (u0, (u1, ()))
def c_i_natMul (R : Run) (u0 : List Int) (u1 : List Int) : Option (List Int × Unit) := R 150 [] sg_i_natMul (u0, (u1, ()))
def c_i_natDiv (R : Run) (u0 : List Int) (u1 : List Int) : Option (List Int × (List Int × Unit)) := R 151 [] sg_i_natDiv (u0, (u1, ()))
def c_i_natText (R : Run) (u0 : List Int) : Option (ByteArray × Unit) := R 152 [] sg_i_natText (u0, ())
def c_i_ten (R : Run) (u0 : Int) : Option (List Int × Unit) := R 153 [] sg_i_ten (u0, ())
def c_i_natAdd (R : Run) (u0 : List Int) (u1 : List Int) : Option (List Int × Unit) := R 154 [] sg_i_natAdd (u0, (u1, ()))
def c_strings_TrimRight (R : Run) (u0 : ByteArray) (u1 : ByteArray) : Option (ByteArray × Unit) := R 155 [] sg_strings_TrimRight (u0, (u1, ()))
def c_i_BitPartOf (R : Run) (u0 : Int) (u1 : Int) : Option (Bool × (Int × (Int × (Bool × Unit)))) := R 156 [] sg_i_BitPartOf (u0, (u1, ()))
def c_i_natOf (R : Run) (u0 : Int) : Option (List Int × Unit) := R 157 [] sg_i_natOf (u0, ())
def c_i_whole (R : Run) (u0 : Bool) (u1 : List Int) : Option (Bool × (List Int × (List Int × Unit))) := R 158 [] sg_i_whole (u0, (u1, ()))
def c_i_natShift (R : Run) (u0 : List Int) (u1 : Int) : Option (List Int × Unit) := R 159 [] sg_i_natShift (u0, (u1, ()))
def c_i_lowest (R : Run) (u0 : Bool) (u1 : List Int) (u2 : List Int) : Option (Bool × (List Int × (List Int × Unit))) := R 160 [] sg_i_lowest (u0, (u1, (u2, ())))
def c_s_FracOk (R : Run) (u0 : Bool) (u1 : List Int) (u2 : List Int) : Option (Bool × Unit) := R 171 [] sg_s_FracOk (u0, (u1, (u2, ())))
def c_s_l6One (R : Run) (u0 : List Int) : Option (Bool × Unit) := R 172 [] sg_s_l6One (u0, ())
def c_i_trim (R : Run) (u0 : List Int) : Option (List Int × Unit) := R 173 [] sg_i_trim (u0, ())
def c_math_bits_Len (R : Run) (u0 : Int) : Option (Int × Unit) := R 174 [] sg_math_bits_Len (u0, ())
def c_slices_Clone_int_int (R : Run) (u0 : List Int) : Option (List Int × Unit) := R 175 [] sg_slices_Clone_int_int (u0, ())
def c_strings_Repeat (R : Run) (u0 : ByteArray) (u1 : Int) : Option (ByteArray × Unit) := R 176 [] sg_strings_Repeat (u0, (u1, ()))
def c_i_size (R : Run) (u0 : Int) : Option (Int × Unit) := R 181 [] sg_i_size (u0, ())
def c_i_natGcd (R : Run) (u0 : List Int) (u1 : List Int) : Option (List Int × Unit) := R 182 [] sg_i_natGcd (u0, (u1, ()))
def c_s_l5Gcd (R : Run) (u0 : List Int) (u1 : List Int) : Option (List Int × Unit) := R 197 [] sg_s_l5Gcd (u0, (u1, ()))
def c_math_bits_Len64 (R : Run) (u0 : Int) : Option (Int × Unit) := R 199 [] sg_math_bits_Len64 (u0, ())

noncomputable def p_w_FnExactBoxShow (R : Run) (n : Nat) (u0 : Int) (u1 : List ((Int × (Int × Unit)))) (u2 : List ByteArray) : Option (Bool × Unit) :=
  (c_w_szBox R u1 1048576).bind fun (r5_1, _) =>
  bif (ilt r5_1 0) then
    some (true, ())
  else
  (c_w_szStringS R u2 r5_1).bind fun (r6_1, _) =>
  bif (ilt r6_1 0) then
    some (true, ())
  else
  (c_w_toBox R u1).bind fun (r8_1, _) =>
  (c_w_toStringS R u2).bind fun (r9_1, _) =>
  (c_s_BoxShow R u0 r8_1 r9_1).bind fun (r7_1, _) =>
  (c_w_toBox R u1).bind fun (r8_2_1, _) =>
  (c_w_toStringS R u2).bind fun (r9_2_1, _) =>
  (c_i_BoxShow R u0 r8_2_1 r9_2_1).bind fun (r10_1, _) =>
  bif (!(seq r10_1 r7_1)) then
    some (false, ())
  else
  (c_w_toBox R u1).bind fun (r8_3_1, _) =>
  (c_w_eqBox R r8_2_1 r8_3_1).bind fun (r11_1, _) =>
  bif (!r11_1) then
    some (false, ())
  else
  (c_w_toStringS R u2).bind fun (r9_3_1, _) =>
  (c_w_eqStringS R r9_2_1 r9_3_1).bind fun (r12_1, _) =>
  bif (!r12_1) then
    some (false, ())
  else
  some (true, ())
noncomputable def p_w_szBox (R : Run) (n : Nat) (u0 : List ((Int × (Int × Unit)))) (u1 : Int) : Option (Int × Unit) :=
  (c_w_szPairS R u0 u1).bind fun (r22_1, _) =>
  bif (ilt r22_1 0) then
    some ((-1), ())
  else
  some (r22_1, ())
noncomputable def p_w_szStringS (R : Run) (n : Nat) (u0 : List ByteArray) (u1 : Int) : Option (Int × Unit) :=
  bif (ilt (isub .i64 u1 (len u0)) 0) then
    some ((-1), ())
  else
  iter (P := (((Int × (List ByteArray × (Int × (Int × Unit))))) × Unit)) (fun rec ((i5, (a0, (left1, (t4, _)))), _) =>
      bif (ilt i5 (len a0)) then
        ok (inB i5 (len a0)) <|
        bif (ilt (isub .i64 left1 (slen (List.getD a0 (Int.toNat i5) (bs [])))) 0) then
          some ((-1), ())
        else
        rec (((iadd .i64 i5 1), (a0, ((isub .i64 left1 (slen (List.getD a0 (Int.toNat i5) (bs [])))), (t4, ())))), ())
      else
      some (left1, ())) n ((0, (u0, ((isub .i64 u1 (len u0)), (0, ())))), ())
noncomputable def p_s_BoxShow (R : Run) (n : Nat) (u0 : Int) (u1 : List ((Int × (Int × Unit)))) (u2 : List ByteArray) : Option (ByteArray × Unit) :=
  jb (P := (((Bool × (List ByteArray × (Int × (Unit × (ByteArray × Unit)))))) × ((((List ((Int × (Int × Unit)))) × Unit)) × Unit))) (
      (c_s_BoxOk R u0 u1).bind fun (r23_1, _) =>
      bif (!r23_1) then
        some (.inr ((true, (u2, (u0, ((), ((bs []), ()))))), ((u1, ()), ())))
      else
      bif ((len u2) != (len u1)) then
        some (.inr ((true, (u2, (u0, ((), ((bs []), ()))))), ((u1, ()), ())))
      else
      (c_s_l13Distinct R u2).bind fun (r24_1, _) =>
      some (.inr (((!r24_1), (u2, (u0, ((), ((bs []), ()))))), ((u1, ()), ())))) fun ((t25, (names2, (width0, (_, (t6, _))))), ((o0, _), _)) =>
  bif t25 then
    some ((bs []), ())
  else
  iter (P := (((Int × (List ByteArray × (ByteArray × (Int × (Unit × (ByteArray × Unit))))))) × ((((List ((Int × (Int × Unit)))) × Unit)) × Unit))) (fun rec ((i8, (names2_1, (s7, (width0_1, (_, (t6_1, _)))))), ((o0_1, _), _)) =>
      bif (ilt i8 (len names2_1)) then
        jb (P := (((ByteArray × (List ByteArray × (Int × (Int × (Unit × (ByteArray × Unit))))))) × ((((List ((Int × (Int × Unit)))) × Unit)) × Unit))) (
            bif (ilt 0 i8) then
              ok (sok s7 (bs [44, 32])) <|
              some (.inr (((s7 ++ (bs [44, 32])), (names2_1, (i8, (width0_1, ((), (t6_1, ())))))), ((o0_1, ()), ())))
            else
            some (.inr ((s7, (names2_1, (i8, (width0_1, ((), (t6_1, ())))))), ((o0_1, ()), ())))) fun ((s7_1, (names2_2, (i8_1, (width0_2, (_, (t6_2, _)))))), ((o0_2, _), _)) =>
        ok (inB i8_1 (len names2_2)) <|
        ok (sok s7_1 (List.getD names2_2 (Int.toNat i8_1) (bs []))) <|
        ok (sok (s7_1 ++ (List.getD names2_2 (Int.toNat i8_1) (bs []))) (bs [32, 105, 110, 32, 91])) <|
        ok (inB i8_1 (len o0_2)) <|
        (c_s_FloatShow R width0_2 (List.getD o0_2 (Int.toNat i8_1) (0, (0, ()))).1 false).bind fun (r25_1, _) =>
        ok (sok ((s7_1 ++ (List.getD names2_2 (Int.toNat i8_1) (bs []))) ++ (bs [32, 105, 110, 32, 91])) r25_1) <|
        ok (sok (((s7_1 ++ (List.getD names2_2 (Int.toNat i8_1) (bs []))) ++ (bs [32, 105, 110, 32, 91])) ++ r25_1) (bs [44, 32])) <|
        ok (inB i8_1 (len o0_2)) <|
        (c_s_FloatShow R width0_2 (List.getD o0_2 (Int.toNat i8_1) (0, (0, ()))).2.1 true).bind fun (r25_2_1, _) =>
        ok (sok ((((s7_1 ++ (List.getD names2_2 (Int.toNat i8_1) (bs []))) ++ (bs [32, 105, 110, 32, 91])) ++ r25_1) ++ (bs [44, 32])) r25_2_1) <|
        ok (sok (((((s7_1 ++ (List.getD names2_2 (Int.toNat i8_1) (bs []))) ++ (bs [32, 105, 110, 32, 91])) ++ r25_1) ++ (bs [44, 32])) ++ r25_2_1) (bs [93])) <|
        rec (((iadd .i64 i8_1 1), (names2_2, (((((((s7_1 ++ (List.getD names2_2 (Int.toNat i8_1) (bs []))) ++ (bs [32, 105, 110, 32, 91])) ++ r25_1) ++ (bs [44, 32])) ++ r25_2_1) ++ (bs [93])), (width0_2, ((), (t6_2, ())))))), ((o0_2, ()), ()))
      else
      some (s7, ())) n ((0, (names2, ((bs []), (width0, ((), (t6, ())))))), ((o0, ()), ()))
noncomputable def p_w_toBox (R : Run) (n : Nat) (u0 : List ((Int × (Int × Unit)))) : Option ((List ((Int × (Int × Unit)))) × Unit) :=
  (c_w_toPairS R u0).bind fun (r26_1, _) =>
  some (r26_1, ())
noncomputable def p_w_toStringS (R : Run) (n : Nat) (u0 : List ByteArray) : Option (List ByteArray × Unit) :=
  ok (mkOk (len u0) (len u0) 16) <|
  iter (P := (((Int × (List ByteArray × (Unit × (Unit × Unit))))) × (List ByteArray × Unit))) (fun rec ((i4, (a0, (_, (_, _)))), (o0, _)) =>
      bif (ilt i4 (len a0)) then
        ok (inB i4 (len a0)) <|
        ok (inB i4 (len o0)) <|
        rec (((iadd .i64 i4 1), (a0, ((), ((), ())))), ((List.set o0 (Int.toNat i4) (List.getD a0 (Int.toNat i4) (bs []))), ()))
      else
      some (o0, ())) n ((0, (u0, ((), ((), ())))), ((List.replicate (Int.toNat (len u0)) (bs [])), ()))
noncomputable def p_i_BoxShow (R : Run) (n : Nat) (u0 : Int) (u1 : List ((Int × (Int × Unit)))) (u2 : List ByteArray) : Option (ByteArray × Unit) :=
  jb (P := (((Bool × (Int × (Unit × (List ByteArray × (ByteArray × Unit)))))) × ((((List ((Int × (Int × Unit)))) × Unit)) × Unit))) (
      (c_i_BoxOk R u0 u1).bind fun (r27_1, _) =>
      bif (!r27_1) then
        some (.inr ((true, (u0, ((), (u2, ((bs []), ()))))), ((u1, ()), ())))
      else
      bif ((len u2) != (len u1)) then
        some (.inr ((true, (u0, ((), (u2, ((bs []), ()))))), ((u1, ()), ())))
      else
      (c_i_twice R u2).bind fun (r28_1, _) =>
      bif r28_1 then
        some (.inr ((true, (u0, ((), (u2, ((bs []), ()))))), ((u1, ()), ())))
      else
      (c_slices_ContainsFunc_string_string_i_BoxShow_1 R u2).bind fun (r29_1, _) =>
      some (.inr ((r29_1, (u0, ((), (u2, ((bs []), ()))))), ((u1, ()), ())))) fun ((t26, (width0, (_, (names2, (t6, _))))), ((o0, _), _)) =>
  bif t26 then
    some ((bs []), ())
  else
  (c_i_boxShow R width0 o0 names2).bind fun (r32_1, _) =>
  some (r32_1, ())
noncomputable def p_w_eqBox (R : Run) (n : Nat) (u0 : List ((Int × (Int × Unit)))) (u1 : List ((Int × (Int × Unit)))) : Option (Bool × Unit) :=
  (c_w_eqPairS R u0 u1).bind fun (r33_1, _) =>
  bif (!r33_1) then
    some (false, ())
  else
  some (true, ())
noncomputable def p_w_eqStringS (R : Run) (n : Nat) (u0 : List ByteArray) (u1 : List ByteArray) : Option (Bool × Unit) :=
  bif ((len u0) != (len u1)) then
    some (false, ())
  else
  iter (P := (((Int × (List ByteArray × (List ByteArray × (Bool × Unit))))) × Unit)) (fun rec ((i5, (a0, (b1, (t4, _)))), _) =>
      bif (ilt i5 (len a0)) then
        ok (inB i5 (len a0)) <|
        ok (inB i5 (len b1)) <|
        bif (!(seq (List.getD a0 (Int.toNat i5) (bs [])) (List.getD b1 (Int.toNat i5) (bs [])))) then
          some (false, ())
        else
        rec (((iadd .i64 i5 1), (a0, (b1, (t4, ())))), ())
      else
      some (true, ())) n ((0, (u0, (u1, (false, ())))), ())
noncomputable def p_w_szPairS (R : Run) (n : Nat) (u0 : List ((Int × (Int × Unit)))) (u1 : Int) : Option (Int × Unit) :=
  bif (ilt (isub .i64 u1 (len u0)) 0) then
    some ((-1), ())
  else
  some ((isub .i64 u1 (len u0)), ())
noncomputable def p_s_BoxOk (R : Run) (n : Nat) (u0 : Int) (u1 : List ((Int × (Int × Unit)))) : Option (Bool × Unit) :=
  jb (P := (((Bool × (Unit × (Int × (Bool × Unit))))) × ((((List ((Int × (Int × Unit)))) × Unit)) × Unit))) (
      bif (ilt (len u1) 1) then
        some (.inr ((true, ((), (u0, (false, ())))), ((u1, ()), ())))
      else
      some (.inr (((ilt 6 (len u1)), ((), (u0, (false, ())))), ((u1, ()), ())))) fun ((t15, (_, (width0, (t4, _)))), ((o0, _), _)) =>
  bif t15 then
    some (false, ())
  else
  iter (P := (((Int × (Unit × (Int × (Bool × Unit))))) × ((((List ((Int × (Int × Unit)))) × Unit)) × Unit))) (fun rec ((i5, (_, (width0_1, (t4_1, _)))), ((o0_1, _), _)) =>
      bif (ilt i5 (len o0_1)) then
        ok (inB i5 (len o0_1)) <|
        (c_s_PairOk R width0_1 (List.getD o0_1 (Int.toNat i5) (0, (0, ()))).1 (List.getD o0_1 (Int.toNat i5) (0, (0, ()))).2.1).bind fun (r46_1, _) =>
        bif (!r46_1) then
          some (false, ())
        else
        rec (((iadd .i64 i5 1), ((), (width0_1, (t4_1, ())))), ((o0_1, ()), ()))
      else
      some (true, ())) n ((0, ((), (width0, (t4, ())))), ((o0, ()), ()))
noncomputable def p_s_l13Distinct (R : Run) (n : Nat) (u0 : List ByteArray) : Option (Bool × Unit) :=
  iter (P := (((Int × (List ByteArray × (Bool × Unit)))) × Unit)) (fun rec ((i3, (l0, (t2, _))), _) =>
      bif (ilt i3 (len l0)) then
        jb (P := (((Bool × (Int × (List ByteArray × (Bool × Unit))))) × Unit)) (
            ok (inB i3 (len l0)) <|
            (c_s_LangNameOk R (List.getD l0 (Int.toNat i3) (bs []))).bind fun (r47_1, _) =>
            bif (!r47_1) then
              some (.inr ((true, (i3, (l0, (t2, ())))), ()))
            else
            ok (sliceOk 0 i3 (len l0)) <|
            ok (inB i3 (len l0)) <|
            (c_s_l12Find R (List.drop (Int.toNat 0) (List.take (Int.toNat i3) l0)) (List.getD l0 (Int.toNat i3) (bs []))).bind fun (r48_1, _) =>
            some (.inr (((ile 0 r48_1), (i3, (l0, (t2, ())))), ()))) fun ((t26, (i3_1, (l0_1, (t2_1, _)))), _) =>
        bif t26 then
          some (false, ())
        else
        rec (((iadd .i64 i3_1 1), (l0_1, (t2_1, ()))), ())
      else
      some (true, ())) n ((0, (u0, (false, ()))), ())
noncomputable def p_s_FloatShow (R : Run) (n : Nat) (u0 : Int) (u1 : Int) (u2 : Bool) : Option (ByteArray × Unit) :=
  (c_s_BitOk R u0 u1).bind fun (r51_1, _) =>
  bif (!r51_1) then
    some ((bs []), ())
  else
  bif (u1 == 0) then
    some ((bs [48]), ())
  else
  bif (ilt u1 0) then
    (c_s_FloatShow R u0 (ineg .i64 u1) (!u2)).bind fun (r34_1, _) =>
    ok (sok (bs [45]) r34_1) <|
    some (((bs [45]) ++ r34_1), ())
  else
  (c_s_BitTop R u0).bind fun (r99_1, _) =>
  bif (u1 == r99_1) then
    some ((bs [105, 110, 102]), ())
  else
  (c_s_l8Of R u0 u1).bind fun (r70_1, (r70b, (r70c, _))) =>
  (c_s_l22Size R r70_1 r70b r70c u2).bind fun (r100_1, _) =>
  some (r100_1, ())
noncomputable def p_w_toPairS (R : Run) (n : Nat) (u0 : List ((Int × (Int × Unit)))) : Option ((List ((Int × (Int × Unit)))) × Unit) :=
  ok (mkOk (len u0) (len u0) 16) <|
  iter (P := (((Int × ((List ((Int × (Int × Unit)))) × (Unit × (Unit × Unit))))) × ((List ((Int × (Int × Unit)))) × Unit))) (fun rec ((i4, (a0, (_, (_, _)))), (o0, _)) =>
      bif (ilt i4 (len a0)) then
        ok (inB i4 (len a0)) <|
        (c_w_toPair R (List.getD a0 (Int.toNat i4) (0, (0, ()))).1 (List.getD a0 (Int.toNat i4) (0, (0, ()))).2.1).bind fun (r53_1, (r53b, _)) =>
        ok (inB i4 (len o0)) <|
        rec (((iadd .i64 i4 1), (a0, ((), ((), ())))), ((List.set o0 (Int.toNat i4) (r53_1, (r53b, ()))), ()))
      else
      some (o0, ())) n ((0, (u0, ((), ((), ())))), ((List.replicate (Int.toNat (len u0)) (0, (0, ()))), ()))
noncomputable def p_i_BoxOk (R : Run) (n : Nat) (u0 : Int) (u1 : List ((Int × (Int × Unit)))) : Option (Bool × Unit) :=
  jb (P := (((Bool × Unit)) × Unit)) (
      (c_i_in R (len u1) 1 6).bind fun (r54_1, _) =>
      bif r54_1 then
        (c_slices_ContainsFunc_impl_Pair_impl_Pair_i_BoxOk_1 R u1 u0).bind fun (r55_1, (r55b, _)) =>
        some (.inr (((!r55_1), ()), ()))
      else
      some (.inr ((false, ()), ()))) fun ((t4, _), _) =>
  some (t4, ())
noncomputable def p_i_twice (R : Run) (n : Nat) (u0 : List ByteArray) : Option (Bool × Unit) :=
  iter (P := (((Int × (Int × (List ByteArray × (List ByteArray × (Bool × Unit)))))) × Unit)) (fun rec ((t7, (t6, (t5, (list0, (t2, _))))), _) =>
      bif (ilt t7 t6) then
        ok (inB t7 (len t5)) <|
        ok (sliceOk 0 t7 (len list0)) <|
        (c_slices_Contains_string_string R (List.drop (Int.toNat 0) (List.take (Int.toNat t7) list0)) (List.getD t5 (Int.toNat t7) (bs []))).bind fun (r58_1, _) =>
        bif r58_1 then
          some (true, ())
        else
        rec (((iadd .i64 t7 1), (t6, (t5, (list0, (t2, ()))))), ())
      else
      some (false, ())) n ((0, ((len u0), (u0, (u0, (false, ()))))), ())
noncomputable def p_slices_ContainsFunc_string_string_i_BoxShow_1 (R : Run) (n : Nat) (u0 : List ByteArray) : Option (Bool × Unit) :=
  (c_slices_IndexFunc_string_string_i_BoxShow_1 R u0).bind fun (r59_1, _) =>
  some ((ile 0 r59_1), ())
noncomputable def p_i_BoxShow_1 (R : Run) (n : Nat) (u0 : ByteArray) : Option (Bool × Unit) :=
  (c_i_LangNameOk R u0).bind fun (r31_1, _) =>
  some ((!r31_1), ())
noncomputable def p_i_boxShow (R : Run) (n : Nat) (u0 : Int) (u1 : List ((Int × (Int × Unit)))) (u2 : List ByteArray) : Option (ByteArray × Unit) :=
  iter (P := (((Int × (Int × ((List ((Int × (Int × Unit)))) × (Unit × (List ByteArray × (Int × (ByteArray × Unit)))))))) × (List ByteArray × Unit))) (fun rec ((t13, (t12, (t11, (_, (names2, (width0, (t6, _))))))), (o0, _)) =>
      bif (ilt t13 t12) then
        ok (inB t13 (len t11)) <|
        ok (inB t13 (len names2)) <|
        ok (sok (List.getD names2 (Int.toNat t13) (bs [])) (bs [32, 105, 110, 32, 91])) <|
        (c_i_floatShow R width0 (List.getD t11 (Int.toNat t13) (0, (0, ()))).1 false).bind fun (r61_1, _) =>
        ok (sok ((List.getD names2 (Int.toNat t13) (bs [])) ++ (bs [32, 105, 110, 32, 91])) r61_1) <|
        ok (sok (((List.getD names2 (Int.toNat t13) (bs [])) ++ (bs [32, 105, 110, 32, 91])) ++ r61_1) (bs [44, 32])) <|
        (c_i_floatShow R width0 (List.getD t11 (Int.toNat t13) (0, (0, ()))).2.1 true).bind fun (r61_2_1, _) =>
        ok (sok ((((List.getD names2 (Int.toNat t13) (bs [])) ++ (bs [32, 105, 110, 32, 91])) ++ r61_1) ++ (bs [44, 32])) r61_2_1) <|
        ok (sok (((((List.getD names2 (Int.toNat t13) (bs [])) ++ (bs [32, 105, 110, 32, 91])) ++ r61_1) ++ (bs [44, 32])) ++ r61_2_1) (bs [93])) <|
        ok (aok (o0 ++ [((((((List.getD names2 (Int.toNat t13) (bs [])) ++ (bs [32, 105, 110, 32, 91])) ++ r61_1) ++ (bs [44, 32])) ++ r61_2_1) ++ (bs [93]))]) 16) <|
        rec (((iadd .i64 t13 1), (t12, (t11, ((), (names2, (width0, (t6, ()))))))), ((o0 ++ [((((((List.getD names2 (Int.toNat t13) (bs [])) ++ (bs [32, 105, 110, 32, 91])) ++ r61_1) ++ (bs [44, 32])) ++ r61_2_1) ++ (bs [93]))]), ()))
      else
      (c_strings_Join R o0 (bs [44, 32])).bind fun (r62_1, _) =>
      some (r62_1, ())) n ((0, ((len u1), (u1, ((), (u2, (u0, ((bs []), ()))))))), ([], ()))
noncomputable def p_w_eqPairS (R : Run) (n : Nat) (u0 : List ((Int × (Int × Unit)))) (u1 : List ((Int × (Int × Unit)))) : Option (Bool × Unit) :=
  bif ((len u0) != (len u1)) then
    some (false, ())
  else
  iter (P := (((Int × ((List ((Int × (Int × Unit)))) × ((List ((Int × (Int × Unit)))) × (Bool × Unit))))) × Unit)) (fun rec ((i5, (a0, (b1, (t4, _)))), _) =>
      bif (ilt i5 (len a0)) then
        ok (inB i5 (len a0)) <|
        ok (inB i5 (len b1)) <|
        (c_w_eqPair R (List.getD a0 (Int.toNat i5) (0, (0, ()))).1 (List.getD a0 (Int.toNat i5) (0, (0, ()))).2.1 (List.getD b1 (Int.toNat i5) (0, (0, ()))).1 (List.getD b1 (Int.toNat i5) (0, (0, ()))).2.1).bind fun (r63_1, _) =>
        bif (!r63_1) then
          some (false, ())
        else
        rec (((iadd .i64 i5 1), (a0, (b1, (t4, ())))), ())
      else
      some (true, ())) n ((0, (u0, (u1, (false, ())))), ())
noncomputable def p_s_PairOk (R : Run) (n : Nat) (u0 : Int) (u1 : Int) (u2 : Int) : Option (Bool × Unit) :=
  (c_s_BitTop R u0).bind fun (r36_1, _) =>
  jb (P := (((Bool × Unit)) × Unit)) (
      (c_s_BitOk R u0 u1).bind fun (r62_1, _) =>
      bif r62_1 then
        (c_s_BitOk R u0 u2).bind fun (r62_2_1, _) =>
        bif r62_2_1 then
          bif (ile u1 u2) then
            bif (ilt u1 r36_1) then
              some (.inr (((ilt (ineg .i64 r36_1) u2), ()), ()))
            else
            some (.inr ((false, ()), ()))
          else
          some (.inr ((false, ()), ()))
        else
        some (.inr ((false, ()), ()))
      else
      some (.inr ((false, ()), ()))) fun ((t4, _), _) =>
  some (t4, ())
noncomputable def p_s_LangNameOk (R : Run) (n : Nat) (u0 : ByteArray) : Option (Bool × Unit) :=
  jb (P := (((Bool × Unit)) × Unit)) (
      (c_s_l11Plain R u0).bind fun (r24_1, _) =>
      bif r24_1 then
        (c_s_l11Word R u0).bind fun (r62_1, _) =>
        some (.inr (((!r62_1), ()), ()))
      else
      some (.inr ((false, ()), ()))) fun ((t2, _), _) =>
  some (t2, ())
noncomputable def p_s_l12Find (R : Run) (n : Nat) (u0 : List ByteArray) (u1 : ByteArray) : Option (Int × Unit) :=
  iter (P := (((Int × (List ByteArray × (ByteArray × (Int × Unit))))) × Unit)) (fun rec ((i5, (l0, (s1, (t4, _)))), _) =>
      bif (ilt i5 (len l0)) then
        ok (inB i5 (len l0)) <|
        bif (seq (List.getD l0 (Int.toNat i5) (bs [])) s1) then
          some (i5, ())
        else
        rec (((iadd .i64 i5 1), (l0, (s1, (t4, ())))), ())
      else
      some ((-1), ())) n ((0, (u0, (u1, (0, ())))), ())
noncomputable def p_s_BitOk (R : Run) (n : Nat) (u0 : Int) (u1 : Int) : Option (Bool × Unit) :=
  jb (P := (((Bool × Unit)) × Unit)) (
      (c_s_l1Width R u0).bind fun (r52_1, _) =>
      bif r52_1 then
        (c_s_BitTop R u0).bind fun (r36_1, _) =>
        bif (ile (ineg .i64 r36_1) u1) then
          (c_s_BitTop R u0).bind fun (r36_2_1, _) =>
          some (.inr (((ile u1 r36_2_1), ()), ()))
        else
        some (.inr ((false, ()), ()))
      else
      some (.inr ((false, ()), ()))) fun ((t4, _), _) =>
  some (t4, ())
noncomputable def p_s_BitTop (R : Run) (n : Nat) (u0 : Int) : Option (Int × Unit) :=
  bif (u0 == 32) then
    some (2139095040, ())
  else
  bif (u0 == 64) then
    some (9218868437227405312, ())
  else
  some (0, ())
noncomputable def p_s_l22Size (R : Run) (n : Nat) (u0 : Bool) (u1 : List Int) (u2 : List Int) (u3 : Bool) : Option (ByteArray × Unit) :=
  (c_s_l22Power R u0 u1 u2).bind fun (r165_1, _) =>
  (c_s_l22Tens R (iadd .i64 (isub .i64 r165_1 9) 1)).bind fun (r166_1, (r166b, (r166c, _))) =>
  (c_s_l5Mul R u1 r166c).bind fun (r84_1, _) =>
  (c_s_l5Mul R u2 r166b).bind fun (r84_2_1, _) =>
  (c_s_l5Div R r84_1 r84_2_1).bind fun (r142_1, (r142b, _)) =>
  jb (P := (((List Int × (Int × (ByteArray × Unit)))) × Unit)) (
      jb (P := (((Bool × (List Int × (Int × (ByteArray × Unit))))) × Unit)) (
          bif u3 then
            some (.inr (((ilt 0 (len r142b)), (r142_1, (r165_1, ((bs []), ())))), ()))
          else
          some (.inr ((false, (r142_1, (r165_1, ((bs []), ())))), ()))) fun ((t37, (q7, (k5, (t4, _)))), _) =>
      bif t37 then
        (c_s_l5Add R q7 [1]).bind fun (r153_1, _) =>
        some (.inr ((r153_1, (k5, (t4, ()))), ()))
      else
      some (.inr ((q7, (k5, (t4, ()))), ()))) fun ((q7_1, (k5_1, (t4_1, _))), _) =>
  (c_s_NatText R q7_1).bind fun (r167_1, _) =>
  jb (P := (((ByteArray × (Int × (ByteArray × Unit)))) × Unit)) (
      bif (ilt 9 (slen r167_1)) then
        some (.inr ((r167_1, ((iadd .i64 k5_1 1), (t4_1, ()))), ()))
      else
      some (.inr ((r167_1, (k5_1, (t4_1, ()))), ()))) fun ((digits9, (k5_2, (t4_2, _))), _) =>
  iter (P := (((Int × (ByteArray × (Int × (ByteArray × Unit))))) × Unit)) (fun rec ((n10, (digits9_1, (k5_3, (t4_3, _)))), _) =>
      jb (P := (((Bool × (Int × (ByteArray × (Int × (ByteArray × Unit)))))) × Unit)) (
          bif (ilt 1 n10) then
            ok (inB (isub .i64 n10 1) (slen digits9_1)) <|
            some (.inr ((((bt digits9_1 (isub .i64 n10 1)) == 48), (n10, (digits9_1, (k5_3, (t4_3, ()))))), ()))
          else
          some (.inr ((false, (n10, (digits9_1, (k5_3, (t4_3, ()))))), ()))) fun ((t58, (n10_1, (digits9_2, (k5_4, (t4_4, _))))), _) =>
      bif t58 then
        rec (((isub .i64 n10_1 1), (digits9_2, (k5_4, (t4_4, ())))), ())
      else
      ok (sliceOk 0 1 (slen digits9_2)) <|
      jb (P := (((Int × (ByteArray × (ByteArray × Unit)))) × Unit)) (
          bif (ilt 1 n10_1) then
            ok (sok (ByteArray.extract digits9_2 (Int.toNat 0) (Int.toNat 1)) (bs [46])) <|
            ok (sliceOk 1 n10_1 (slen digits9_2)) <|
            ok (sok ((ByteArray.extract digits9_2 (Int.toNat 0) (Int.toNat 1)) ++ (bs [46])) (ByteArray.extract digits9_2 (Int.toNat 1) (Int.toNat n10_1))) <|
            some (.inr ((k5_4, ((((ByteArray.extract digits9_2 (Int.toNat 0) (Int.toNat 1)) ++ (bs [46])) ++ (ByteArray.extract digits9_2 (Int.toNat 1) (Int.toNat n10_1))), (t4_4, ()))), ()))
          else
          some (.inr ((k5_4, ((ByteArray.extract digits9_2 (Int.toNat 0) (Int.toNat 1)), (t4_4, ()))), ()))) fun ((k5_5, (s11, (t4_5, _))), _) =>
      jb (P := (((ByteArray × (ByteArray × Unit))) × Unit)) (
          bif (k5_5 != 0) then
            ok (sok s11 (bs [101])) <|
            (c_s_l21Int R k5_5).bind fun (r168_1, _) =>
            ok (sok (s11 ++ (bs [101])) r168_1) <|
            some (.inr ((((s11 ++ (bs [101])) ++ r168_1), (t4_5, ())), ()))
          else
          some (.inr ((s11, (t4_5, ())), ()))) fun ((s11_1, (t4_6, _)), _) =>
      some (s11_1, ())) n (((slen digits9), (digits9, (k5_2, (t4_2, ())))), ())
noncomputable def p_s_l8Of (R : Run) (n : Nat) (u0 : Int) (u1 : Int) : Option (Bool × (List Int × (List Int × Unit))) :=
  (c_s_BitPartOf R u0 u1).bind fun (r64_1, (r64b, (r64c, (r64d, _)))) =>
  (c_s_NatOf R r64b).bind fun (r67_1, _) =>
  jb (P := (((Unit × (Unit × Unit))) × (((Bool × (List Int × (List Int × Unit)))) × (((Bool × (Unit × (Unit × Unit)))) × Unit)))) (
      bif (ile 0 r64c) then
        (c_s_l5Pow2 R r64c).bind fun (r86_1, _) =>
        (c_s_l5Mul R r67_1 r86_1).bind fun (r69_1, _) =>
        some (.inr (((), ((), ())), ((r64_1, (r69_1, ([1], ()))), ((false, ((), ((), ()))), ()))))
      else
      (c_s_l5Pow2 R (ineg .i64 r64c)).bind fun (r86_2_1, _) =>
      some (.inr (((), ((), ())), ((r64_1, (r67_1, (r86_2_1, ()))), ((false, ((), ((), ()))), ()))))) fun ((_, (_, _)), ((o0a, (o0b, (o0c, _))), ((o1, (_, (_, _))), _))) =>
  some (o0a, (o0b, (o0c, ())))
noncomputable def p_w_toPair (R : Run) (n : Nat) (u0 : Int) (u1 : Int) : Option (Int × (Int × Unit)) :=
  some (u0, (u1, ()))
noncomputable def p_i_in (R : Run) (n : Nat) (u0 : Int) (u1 : Int) (u2 : Int) : Option (Bool × Unit) :=
  jb (P := (((Bool × Unit)) × Unit)) (
      bif (ile u1 u0) then
        some (.inr (((ile u0 u2), ()), ()))
      else
      some (.inr ((false, ()), ()))) fun ((t6, _), _) =>
  some (t6, ())
noncomputable def p_slices_ContainsFunc_impl_Pair_impl_Pair_i_BoxOk_1 (R : Run) (n : Nat) (u0 : List ((Int × (Int × Unit)))) (u1 : Int) : Option (Bool × (Int × Unit)) :=
  (c_slices_IndexFunc_impl_Pair_impl_Pair_i_BoxOk_1 R u0 u1).bind fun (r101_1, (r101b, _)) =>
  some ((ile 0 r101_1), (r101b, ()))
noncomputable def p_i_BoxOk_1 (R : Run) (n : Nat) (u0 : Int) (u1 : Int) (u2 : Int) : Option (Bool × (Int × Unit)) :=
  (c_i_PairOk R u2 u0 u1).bind fun (r57_1, _) =>
  some ((!r57_1), (u2, ()))
noncomputable def p_i_PairOk (R : Run) (n : Nat) (u0 : Int) (u1 : Int) (u2 : Int) : Option (Bool × Unit) :=
  (c_i_BitTop R u0).bind fun (r28_1, _) =>
  jb (P := (((Bool × Unit)) × Unit)) (
      (c_i_BitOk R u0 u1).bind fun (r70_1, _) =>
      bif r70_1 then
        (c_i_BitOk R u0 u2).bind fun (r70_2_1, _) =>
        bif r70_2_1 then
          bif (ile u1 u2) then
            bif (u1 != r28_1) then
              some (.inr (((u2 != (ineg .i64 r28_1)), ()), ()))
            else
            some (.inr ((false, ()), ()))
          else
          some (.inr ((false, ()), ()))
        else
        some (.inr ((false, ()), ()))
      else
      some (.inr ((false, ()), ()))) fun ((t4, _), _) =>
  some (t4, ())
noncomputable def p_slices_Contains_string_string (R : Run) (n : Nat) (u0 : List ByteArray) (u1 : ByteArray) : Option (Bool × Unit) :=
  (c_slices_Index_string_string R u0 u1).bind fun (r104_1, _) =>
  some ((ile 0 r104_1), ())
noncomputable def p_slices_IndexFunc_string_string_i_BoxShow_1 (R : Run) (n : Nat) (u0 : List ByteArray) : Option (Int × Unit) :=
  iter (P := (((Int × (Int × (Unit × (List ByteArray × (Int × Unit)))))) × Unit)) (fun rec ((t8, (t7, (_, (s0, (t4, _))))), _) =>
      bif (ilt t8 t7) then
        ok (inB t8 (len s0)) <|
        (c_i_BoxShow_1 R (List.getD s0 (Int.toNat t8) (bs []))).bind fun (r30_1, _) =>
        bif r30_1 then
          some (t8, ())
        else
        rec (((iadd .i64 t8 1), (t7, ((), (s0, (t4, ()))))), ())
      else
      some ((-1), ())) n ((0, ((len u0), ((), (u0, (0, ()))))), ())
noncomputable def p_i_wordOk (R : Run) (n : Nat) (u0 : ByteArray) : Option (Bool × Unit) :=
  iter (P := (((Int × (Int × (ByteArray × (Bool × Unit))))) × Unit)) (fun rec ((t6, (t5, (s0, (t2, _)))), _) =>
      bif (ilt t6 t5) then
        jb (P := (((Bool × (Int × (Int × (ByteArray × (Bool × Unit)))))) × Unit)) (
            ok (inB t6 (slen s0)) <|
            (c_i_isLetter R (bt s0 t6)).bind fun (r15_1, _) =>
            bif (!r15_1) then
              ok (inB t6 (slen s0)) <|
              (c_i_isFigure R (bt s0 t6)).bind fun (r16_1, _) =>
              some (.inr (((!r16_1), (t6, (t5, (s0, (t2, ()))))), ()))
            else
            some (.inr ((false, (t6, (t5, (s0, (t2, ()))))), ()))) fun ((t20, (t6_1, (t5_1, (s0_1, (t2_1, _))))), _) =>
        bif t20 then
          some (false, ())
        else
        rec (((iadd .i64 t6_1 1), (t5_1, (s0_1, (t2_1, ())))), ())
      else
      jb (P := (((Bool × Unit)) × Unit)) (
          (c_i_in R (slen s0) 1 8).bind fun (r37_1, _) =>
          bif r37_1 then
            ok (inB 0 (slen s0)) <|
            (c_i_isLetter R (bt s0 0)).bind fun (r15_2_1, _) =>
            some (.inr ((r15_2_1, ()), ()))
          else
          some (.inr ((false, ()), ()))) fun ((t2_2, _), _) =>
      some (t2_2, ())) n ((0, ((slen u0), (u0, (false, ())))), ())
noncomputable def p_i_floatShow (R : Run) (n : Nat) (u0 : Int) (u1 : Int) (u2 : Bool) : Option (ByteArray × Unit) :=
  bif (u1 == 0) then
    some ((bs [48]), ())
  else
  bif (ilt u1 0) then
    (c_i_floatShow R u0 (ineg .i64 u1) (!u2)).bind fun (r102_1, _) =>
    ok (sok (bs [45]) r102_1) <|
    some (((bs [45]) ++ r102_1), ())
  else
  (c_i_BitTop R u0).bind fun (r143_1, _) =>
  bif (u1 == r143_1) then
    some ((bs [105, 110, 102]), ())
  else
  (c_i_value R u0 u1).bind fun (r144_1, (r144b, (r144c, _))) =>
  (c_i_show R r144_1 r144b r144c u2).bind fun (r170_1, _) =>
  some (r170_1, ())
noncomputable def p_w_eqPair (R : Run) (n : Nat) (u0 : Int) (u1 : Int) (u2 : Int) (u3 : Int) : Option (Bool × Unit) :=
  bif (u0 != u2) then
    some (false, ())
  else
  bif (u1 != u3) then
    some (false, ())
  else
  some (true, ())
noncomputable def p_s_l11Letter (R : Run) (n : Nat) (u0 : Int) : Option (Bool × Unit) :=
  jb (P := (((Bool × Unit)) × Unit)) (
      bif (ile 97 u0) then
        some (.inr (((ile u0 122), ()), ()))
      else
      some (.inr ((false, ()), ()))) fun ((t2, _), _) =>
  some (t2, ())
noncomputable def p_s_l11Digit (R : Run) (n : Nat) (u0 : Int) : Option (Bool × Unit) :=
  jb (P := (((Bool × Unit)) × Unit)) (
      bif (ile 48 u0) then
        some (.inr (((ile u0 57), ()), ()))
      else
      some (.inr ((false, ()), ()))) fun ((t2, _), _) =>
  some (t2, ())
noncomputable def p_s_l11Plain (R : Run) (n : Nat) (u0 : ByteArray) : Option (Bool × Unit) :=
  jb (P := (((Bool × (ByteArray × (Bool × Unit)))) × Unit)) (
      bif (ilt (slen u0) 1) then
        some (.inr ((true, (u0, (false, ()))), ()))
      else
      bif (ilt 8 (slen u0)) then
        some (.inr ((true, (u0, (false, ()))), ()))
      else
      ok (inB 0 (slen u0)) <|
      (c_s_l11Letter R (bt u0 0)).bind fun (r20_1, _) =>
      some (.inr (((!r20_1), (u0, (false, ()))), ()))) fun ((t17, (s0, (t2, _))), _) =>
  bif t17 then
    some (false, ())
  else
  iter (P := (((Int × (ByteArray × (Bool × Unit)))) × Unit)) (fun rec ((i3, (s0_1, (t2_1, _))), _) =>
      bif (ilt i3 (slen s0_1)) then
        jb (P := (((Bool × (Int × (ByteArray × (Bool × Unit))))) × Unit)) (
            ok (inB i3 (slen s0_1)) <|
            (c_s_l11Letter R (bt s0_1 i3)).bind fun (r20_2_1, _) =>
            bif (!r20_2_1) then
              ok (inB i3 (slen s0_1)) <|
              (c_s_l11Digit R (bt s0_1 i3)).bind fun (r21_1, _) =>
              some (.inr (((!r21_1), (i3, (s0_1, (t2_1, ())))), ()))
            else
            some (.inr ((false, (i3, (s0_1, (t2_1, ())))), ()))) fun ((t35, (i3_1, (s0_2, (t2_2, _)))), _) =>
        bif t35 then
          some (false, ())
        else
        rec (((iadd .i64 i3_1 1), (s0_2, (t2_2, ()))), ())
      else
      some (true, ())) n ((1, (s0, (t2, ()))), ())
noncomputable def p_i_isLetter (R : Run) (n : Nat) (u0 : Int) : Option (Bool × Unit) :=
  jb (P := (((Bool × Unit)) × Unit)) (
      bif (ile 97 u0) then
        some (.inr (((ile u0 122), ()), ()))
      else
      some (.inr ((false, ()), ()))) fun ((t2, _), _) =>
  some (t2, ())
noncomputable def p_i_isFigure (R : Run) (n : Nat) (u0 : Int) : Option (Bool × Unit) :=
  jb (P := (((Bool × Unit)) × Unit)) (
      bif (ile 48 u0) then
        some (.inr (((ile u0 57), ()), ()))
      else
      some (.inr ((false, ()), ()))) fun ((t2, _), _) =>
  some (t2, ())
noncomputable def p_s_l11Word (R : Run) (n : Nat) (u0 : ByteArray) : Option (Bool × Unit) :=
  jb (P := (((Bool × Unit)) × Unit)) (
      bif (seq u0 (bs [100, 101, 102])) then
        some (.inr ((true, ()), ()))
      else
      bif (seq u0 (bs [118, 97, 114])) then
        some (.inr ((true, ()), ()))
      else
      bif (seq u0 (bs [115, 113, 114, 116])) then
        some (.inr ((true, ()), ()))
      else
      bif (seq u0 (bs [97, 98, 115])) then
        some (.inr ((true, ()), ()))
      else
      bif (seq u0 (bs [109, 105, 110])) then
        some (.inr ((true, ()), ()))
      else
      some (.inr (((seq u0 (bs [109, 97, 120])), ()), ()))) fun ((t2, _), _) =>
  some (t2, ())
noncomputable def p_s_l1Width (R : Run) (n : Nat) (u0 : Int) : Option (Bool × Unit) :=
  jb (P := (((Bool × Unit)) × Unit)) (
      bif (u0 == 32) then
        some (.inr ((true, ()), ()))
      else
      some (.inr (((u0 == 64), ()), ()))) fun ((t2, _), _) =>
  some (t2, ())
noncomputable def p_s_l22Power (R : Run) (n : Nat) (u0 : Bool) (u1 : List Int) (u2 : List Int) : Option (Int × Unit) :=
  iter (P := (((Int × (Int × (Unit × (Int × Unit))))) × (((Bool × (List Int × (List Int × Unit)))) × Unit))) (fun rec ((lo3, (hi4, (_, (t2, _)))), ((o0a, (o0b, (o0c, _))), _)) =>
      bif (ilt lo3 hi4) then
        (c_s_l22Tens R (isub .i64 hi4 (iquo .i64 (isub .i64 hi4 lo3) 2))).bind fun (r166_1, (r166b, (r166c, _))) =>
        (c_s_l8Cmp R r166_1 r166b r166c o0a o0b o0c).bind fun (r201_1, _) =>
        bif (ile r201_1 0) then
          rec (((isub .i64 hi4 (iquo .i64 (isub .i64 hi4 lo3) 2)), (hi4, ((), (t2, ())))), ((o0a, (o0b, (o0c, ()))), ()))
        else
        rec ((lo3, ((isub .i64 (isub .i64 hi4 (iquo .i64 (isub .i64 hi4 lo3) 2)) 1), ((), (t2, ())))), ((o0a, (o0b, (o0c, ()))), ()))
      else
      some (lo3, ())) n (((-400), (400, ((), (0, ())))), ((u0, (u1, (u2, ()))), ()))
noncomputable def p_s_l22Tens (R : Run) (n : Nat) (u0 : Int) : Option (Bool × (List Int × (List Int × Unit))) :=
  bif (ilt u0 0) then
    (c_s_l7Tens R (ineg .i64 u0)).bind fun (r181_1, _) =>
    some (false, ([1], (r181_1, ())))
  else
  (c_s_l7Tens R u0).bind fun (r181_2_1, _) =>
  some (false, (r181_2_1, ([1], ())))
noncomputable def p_s_l5Div (R : Run) (n : Nat) (u0 : List Int) (u1 : List Int) : Option (List Int × (List Int × Unit)) :=
  (c_s_l5Cmp R u0 u1).bind fun (r77_1, _) =>
  bif (ilt r77_1 0) then
    (c_s_l5Trim R u0).bind fun (r79_1, _) =>
    some ([], (r79_1, ()))
  else
  bif ((len u1) == 1) then
    ok (inB 0 (len u1)) <|
    (c_s_l5DivSmall R u0 (List.getD u1 (Int.toNat 0) 0)).bind fun (r97_1, (r97b, _)) =>
    (c_s_NatOf R (IntKind.wrap .u64 r97b)).bind fun (r67_1, _) =>
    some (r97_1, (r67_1, ()))
  else
  ok (inB (isub .i64 (len u1) 1) (len u1)) <|
  ok (!((iadd .i64 (List.getD u1 (Int.toNat (isub .i64 (len u1) 1)) 0) 1) == 0)) <|
  (c_s_l5Times R u0 (iquo .i64 65536 (iadd .i64 (List.getD u1 (Int.toNat (isub .i64 (len u1) 1)) 0) 1))).bind fun (r98_1, _) =>
  (c_s_l5Times R u1 (iquo .i64 65536 (iadd .i64 (List.getD u1 (Int.toNat (isub .i64 (len u1) 1)) 0) 1))).bind fun (r98_2_1, _) =>
  ok (mkOk (iadd .i64 (isub .i64 (len r98_1) (len r98_2_1)) 1) (iadd .i64 (isub .i64 (len r98_1) (len r98_2_1)) 1) 8) <|
  (c_s_l5Top R r98_1 (iadd .i64 (isub .i64 (len r98_1) (len r98_2_1)) 1)).bind fun (r99_1, _) =>
  iter (P := (((Int × (List Int × (List Int × (Int × (List Int × (Unit × (Int × (Unit × (Unit × Unit)))))))))) × (List Int × Unit))) (fun rec ((i14, (rest13, (x9, (n11, (y10, (_, (up8, (_, (_, _))))))))), (o0, _)) =>
      bif (ile 0 i14) then
        (c_s_l5Shl R rest13 1).bind fun (r96_1, _) =>
        ok (inB i14 (len x9)) <|
        (c_s_NatOf R (IntKind.wrap .u64 (List.getD x9 (Int.toNat i14) 0))).bind fun (r67_2_1, _) =>
        (c_s_l5Add R r96_1 r67_2_1).bind fun (r76_1, _) =>
        (c_s_l5Trim R r76_1).bind fun (r79_2_1, _) =>
        (c_s_l5At R r79_2_1 n11).bind fun (r92_1, _) =>
        (c_s_l5At R r79_2_1 (isub .i64 n11 1)).bind fun (r92_2_1, _) =>
        ok (inB (isub .i64 n11 1) (len y10)) <|
        ok (!((List.getD y10 (Int.toNat (isub .i64 n11 1)) 0) == 0)) <|
        jb (P := (((List Int × (Int × (List Int × (Unit × (Int × (List Int × (Int × (Int × (Unit × (Unit × Unit))))))))))) × (List Int × Unit))) (
            bif (ile 65536 (iquo .i64 (iadd .i64 (imul .i64 r92_1 65536) r92_2_1) (List.getD y10 (Int.toNat (isub .i64 n11 1)) 0))) then
              some (.inr ((y10, (65535, (r79_2_1, ((), (i14, (x9, (n11, (up8, ((), ((), ())))))))))), (o0, ())))
            else
            some (.inr ((y10, ((iquo .i64 (iadd .i64 (imul .i64 r92_1 65536) r92_2_1) (List.getD y10 (Int.toNat (isub .i64 n11 1)) 0)), (r79_2_1, ((), (i14, (x9, (n11, (up8, ((), ((), ())))))))))), (o0, ())))) fun ((y10_1, (guess15, (rest13_1, (_, (i14_1, (x9_1, (n11_1, (up8_1, (_, (_, _)))))))))), (o0_1, _)) =>
        (c_s_l5Times R y10_1 guess15).bind fun (r98_3_1, _) =>
        iter (P := (((List Int × (List Int × (List Int × (Int × (Unit × (Int × (List Int × (Int × (Int × (Unit × (Unit × Unit)))))))))))) × (List Int × Unit))) (fun rec_1 ((p16, (rest13_2, (y10_2, (guess15_1, (_, (i14_2, (x9_2, (n11_2, (up8_2, (_, (_, _))))))))))), (o0_2, _)) =>
            (c_s_l5Cmp R p16 rest13_2).bind fun (r77_2_1, _) =>
            bif (ilt 0 r77_2_1) then
              (c_s_l5Sub R p16 y10_2).bind fun (r78_1, _) =>
              rec_1 ((r78_1, (rest13_2, (y10_2, ((isub .i64 guess15_1 1), ((), (i14_2, (x9_2, (n11_2, (up8_2, ((), ((), ()))))))))))), (o0_2, ()))
            else
            ok (inB i14_2 (len o0_2)) <|
            (c_s_l5Sub R rest13_2 p16).bind fun (r78_2_1, _) =>
            rec (((isub .i64 i14_2 1), (r78_2_1, (x9_2, (n11_2, (y10_2, ((), (up8_2, ((), ((), ()))))))))), ((List.set o0_2 (Int.toNat i14_2) guess15_1), ()))) n ((r98_3_1, (rest13_1, (y10_1, (guess15, ((), (i14_1, (x9_1, (n11_1, (up8_1, ((), ((), ()))))))))))), (o0_1, ()))
      else
      (c_s_l5DivSmall R rest13 up8).bind fun (r97_2_1, (r97_2b, _)) =>
      (c_s_l5Trim R o0).bind fun (r79_3_1, _) =>
      some (r79_3_1, (r97_2_1, ()))) n (((isub .i64 (len r98_1) (len r98_2_1)), (r99_1, (r98_1, ((len r98_2_1), (r98_2_1, ((), ((iquo .i64 65536 (iadd .i64 (List.getD u1 (Int.toNat (isub .i64 (len u1) 1)) 0) 1)), ((), ((), ()))))))))), ((List.replicate (Int.toNat (iadd .i64 (isub .i64 (len r98_1) (len r98_2_1)) 1)) 0), ()))
noncomputable def p_s_l5Mul (R : Run) (n : Nat) (u0 : List Int) (u1 : List Int) : Option (List Int × Unit) :=
  ok (mkOk (iadd .i64 (len u0) (len u1)) (iadd .i64 (len u0) (len u1)) 8) <|
  iter (P := (((Int × (List Int × (List Int × (Unit × (Unit × Unit)))))) × (List Int × Unit))) (fun rec ((i6, (a0, (b1, (_, (_, _))))), (o0, _)) =>
      bif (ilt i6 (len a0)) then
        iter (P := (((Int × (List Int × (Unit × (Int × (List Int × (Int × (Unit × Unit)))))))) × (List Int × Unit))) (fun rec_1 ((j8, (b1_1, (_, (i6_1, (a0_1, (carry7, (_, _))))))), (o0_1, _)) =>
            bif (ilt j8 (len b1_1)) then
              ok (inB (iadd .i64 i6_1 j8) (len o0_1)) <|
              ok (inB i6_1 (len a0_1)) <|
              ok (inB j8 (len b1_1)) <|
              ok (inB (iadd .i64 i6_1 j8) (len o0_1)) <|
              rec_1 (((iadd .i64 j8 1), (b1_1, ((), (i6_1, (a0_1, ((iquo .i64 (iadd .i64 (iadd .i64 (List.getD o0_1 (Int.toNat (iadd .i64 i6_1 j8)) 0) (imul .i64 (List.getD a0_1 (Int.toNat i6_1) 0) (List.getD b1_1 (Int.toNat j8) 0))) carry7) 65536), ((), ()))))))), ((List.set o0_1 (Int.toNat (iadd .i64 i6_1 j8)) (irem .i64 (iadd .i64 (iadd .i64 (List.getD o0_1 (Int.toNat (iadd .i64 i6_1 j8)) 0) (imul .i64 (List.getD a0_1 (Int.toNat i6_1) 0) (List.getD b1_1 (Int.toNat j8) 0))) carry7) 65536)), ()))
            else
            ok (inB (iadd .i64 i6_1 (len b1_1)) (len o0_1)) <|
            rec (((iadd .i64 i6_1 1), (a0_1, (b1_1, ((), ((), ()))))), ((List.set o0_1 (Int.toNat (iadd .i64 i6_1 (len b1_1))) carry7), ()))) n ((0, (b1, ((), (i6, (a0, (0, ((), ()))))))), (o0, ()))
      else
      (c_s_l5Trim R o0).bind fun (r79_1, _) =>
      some (r79_1, ())) n ((0, (u0, (u1, ((), ((), ()))))), ((List.replicate (Int.toNat (iadd .i64 (len u0) (len u1))) 0), ()))
noncomputable def p_s_l5Add (R : Run) (n : Nat) (u0 : List Int) (u1 : List Int) : Option (List Int × Unit) :=
  jb (P := (((Int × (List Int × (List Int × (Unit × Unit))))) × Unit)) (
      bif (ilt (len u0) (len u1)) then
        some (.inr (((len u1), (u0, (u1, ((), ())))), ()))
      else
      some (.inr (((len u0), (u0, (u1, ((), ())))), ()))) fun ((n5, (a0, (b1, (_, _)))), _) =>
  iter (P := (((Int × (Int × (List Int × (List Int × (Int × (Unit × (Unit × Unit)))))))) × (List Int × Unit))) (fun rec ((i8, (n5_1, (a0_1, (b1_1, (carry7, (_, (_, _))))))), (o0, _)) =>
      bif (ilt i8 n5_1) then
        (c_s_l5At R a0_1 i8).bind fun (r92_1, _) =>
        (c_s_l5At R b1_1 i8).bind fun (r92_2_1, _) =>
        ok (aok (o0 ++ [(irem .i64 (iadd .i64 (iadd .i64 r92_1 r92_2_1) carry7) 65536)]) 8) <|
        rec (((iadd .i64 i8 1), (n5_1, (a0_1, (b1_1, ((iquo .i64 (iadd .i64 (iadd .i64 r92_1 r92_2_1) carry7) 65536), ((), ((), ()))))))), ((o0 ++ [(irem .i64 (iadd .i64 (iadd .i64 r92_1 r92_2_1) carry7) 65536)]), ()))
      else
      jb (P := (((Unit × (Unit × Unit))) × (List Int × Unit))) (
          bif (ilt 0 carry7) then
            ok (aok (o0 ++ [carry7]) 8) <|
            some (.inr (((), ((), ())), ((o0 ++ [carry7]), ())))
          else
          some (.inr (((), ((), ())), (o0, ())))) fun ((_, (_, _)), (o0_1, _)) =>
      some (o0_1, ())) n ((0, (n5, (a0, (b1, (0, ((), ((), ()))))))), ([], ()))
noncomputable def p_s_NatText (R : Run) (n : Nat) (u0 : List Int) : Option (ByteArray × Unit) :=
  (c_s_NatOk R u0).bind fun (r151_1, _) =>
  bif (!r151_1) then
    some ((bs []), ())
  else
  bif ((len u0) == 0) then
    some ((bs [48]), ())
  else
  iter (P := (((List Int × (Unit × (ByteArray × Unit)))) × (List Int × Unit))) (fun rec ((x4, (_, (t2, _))), (o0, _)) =>
      bif (ilt 0 (len x4)) then
        (c_s_l5DivSmall R x4 10).bind fun (r187_1, (r187b, _)) =>
        ok (aok (o0 ++ [(IntKind.wrap .u8 (iadd .i64 48 r187b))]) 1) <|
        rec ((r187_1, ((), (t2, ()))), ((o0 ++ [(IntKind.wrap .u8 (iadd .i64 48 r187b))]), ()))
      else
      iter (P := (((Int × (Unit × (Unit × (ByteArray × Unit))))) × (List Int × (List Int × Unit)))) (fun rec_1 ((i8, (_, (_, (t2_1, _)))), (o0_1, (o1, _))) =>
          bif (ile 0 i8) then
            ok (inB i8 (len o1)) <|
            ok (aok (o0_1 ++ [(List.getD o1 (Int.toNat i8) 0)]) 1) <|
            rec_1 (((isub .i64 i8 1), ((), ((), (t2_1, ())))), ((o0_1 ++ [(List.getD o1 (Int.toNat i8) 0)]), (o1, ())))
          else
          some ((ofInts o0_1), ())) n (((isub .i64 (len o0) 1), ((), ((), (t2, ())))), ([], (o0, ())))) n ((u0, ((), ((bs []), ()))), ([], ()))
noncomputable def p_s_l21Int (R : Run) (n : Nat) (u0 : Int) : Option (ByteArray × Unit) :=
  (c_s_FracInt R u0).bind fun (r53_1, (r53b, (r53c, _))) =>
  (c_s_FracText R r53_1 r53b r53c).bind fun (r202_1, _) =>
  some (r202_1, ())
noncomputable def p_s_BitPartOf (R : Run) (n : Nat) (u0 : Int) (u1 : Int) : Option (Bool × (Int × (Int × (Bool × Unit)))) :=
  jb (P := (((Bool × (Unit × (Int × (Int × (Bool × Unit)))))) × (((Bool × (Int × (Int × Unit)))) × Unit))) (
      (c_s_BitOk R u0 u1).bind fun (r62_1, _) =>
      bif (!r62_1) then
        some (.inr ((true, ((), (u1, (u0, (false, ()))))), ((false, (0, (0, ()))), ())))
      else
      (c_s_BitTop R u0).bind fun (r36_1, _) =>
      bif (u1 == r36_1) then
        some (.inr ((true, ((), (u1, (u0, (false, ()))))), ((false, (0, (0, ()))), ())))
      else
      (c_s_BitTop R u0).bind fun (r36_2_1, _) =>
      some (.inr (((u1 == (ineg .i64 r36_2_1)), ((), (u1, (u0, (false, ()))))), ((false, (0, (0, ()))), ())))) fun ((t26, (_, (ord1, (width0, (t5, _))))), ((o0a, (o0b, (o0c, _))), _)) =>
  bif t26 then
    some (false, (0, (0, (false, ()))))
  else
  (c_s_l1Least R width0).bind fun (r84_1, _) =>
  jb (P := (((Int × (Int × (Unit × (Unit × (Bool × Unit)))))) × (((Bool × (Int × (Int × Unit)))) × (((Bool × (Int × (Int × Unit)))) × Unit)))) (
      bif (ilt ord1 0) then
        some (.inr ((width0, ((ineg .i64 ord1), ((), ((), (t5, ()))))), (((ilt ord1 0), (0, (r84_1, ()))), ((o0a, (o0b, (o0c, ()))), ()))))
      else
      some (.inr ((width0, (ord1, ((), ((), (t5, ()))))), (((ilt ord1 0), (0, (r84_1, ()))), ((o0a, (o0b, (o0c, ()))), ()))))) fun ((width0_1, (size7, (_, (_, (t5_1, _))))), ((o0a_1, (o0b_1, (o0c_1, _))), ((o1a, (o1b, (o1c, _))), _))) =>
  (c_s_l1Frac R width0_1).bind fun (r85_1, _) =>
  ok (ile 0 (IntKind.wrap .u64 r85_1)) <|
  ok (!((ishl .i64 1 (IntKind.wrap .u64 r85_1)) == 0)) <|
  ok (!((ishl .i64 1 (IntKind.wrap .u64 r85_1)) == 0)) <|
  jb (P := (((Unit × (Unit × (Bool × Unit)))) × (((Bool × (Int × (Int × Unit)))) × (((Bool × (Int × (Int × Unit)))) × Unit)))) (
      bif (ilt 0 (iquo .i64 size7 (ishl .i64 1 (IntKind.wrap .u64 r85_1)))) then
        some (.inr (((), ((), (t5_1, ()))), ((o0a_1, ((iadd .u64 (IntKind.wrap .u64 (irem .i64 size7 (ishl .i64 1 (IntKind.wrap .u64 r85_1)))) (IntKind.wrap .u64 (ishl .i64 1 (IntKind.wrap .u64 r85_1)))), ((isub .i64 (iadd .i64 o0c_1 (iquo .i64 size7 (ishl .i64 1 (IntKind.wrap .u64 r85_1)))) 1), ()))), ((o1a, (o1b, (o1c, ()))), ()))))
      else
      some (.inr (((), ((), (t5_1, ()))), ((o0a_1, ((IntKind.wrap .u64 (irem .i64 size7 (ishl .i64 1 (IntKind.wrap .u64 r85_1)))), (o0c_1, ()))), ((o1a, (o1b, (o1c, ()))), ()))))) fun ((_, (_, (t5_2, _))), ((o0a_2, (o0b_2, (o0c_2, _))), ((o1a_1, (o1b_1, (o1c_1, _))), _))) =>
  some (o0a_2, (o0b_2, (o0c_2, (true, ()))))
noncomputable def p_s_NatOf (R : Run) (n : Nat) (u0 : Int) : Option (List Int × Unit) :=
  iter (P := (((Int × (Unit × (Unit × Unit)))) × (List Int × Unit))) (fun rec ((n0, (_, (_, _))), (o0, _)) =>
      bif (ilt 0 n0) then
        ok (aok (o0 ++ [(IntKind.wrap .i64 (irem .u64 n0 65536))]) 8) <|
        rec (((iquo .u64 n0 65536), ((), ((), ()))), ((o0 ++ [(IntKind.wrap .i64 (irem .u64 n0 65536))]), ()))
      else
      some (o0, ())) n ((u0, ((), ((), ()))), ([], ()))
noncomputable def p_s_l5Pow2 (R : Run) (n : Nat) (u0 : Int) : Option (List Int × Unit) :=
  ok (ile 0 (IntKind.wrap .u64 (irem .i64 u0 16))) <|
  (c_s_l5Shl R [(ishl .i64 1 (IntKind.wrap .u64 (irem .i64 u0 16)))] (iquo .i64 u0 16)).bind fun (r96_1, _) =>
  some (r96_1, ())
noncomputable def p_slices_IndexFunc_impl_Pair_impl_Pair_i_BoxOk_1 (R : Run) (n : Nat) (u0 : List ((Int × (Int × Unit)))) (u1 : Int) : Option (Int × (Int × Unit)) :=
  iter (P := (((Int × (Int × (Unit × ((List ((Int × (Int × Unit)))) × (Int × Unit)))))) × (((Int × Unit)) × Unit))) (fun rec ((t8, (t7, (_, (s0, (t4, _))))), ((o0, _), _)) =>
      bif (ilt t8 t7) then
        ok (inB t8 (len s0)) <|
        (c_i_BoxOk_1 R (List.getD s0 (Int.toNat t8) (0, (0, ()))).1 (List.getD s0 (Int.toNat t8) (0, (0, ()))).2.1 o0).bind fun (r56_1, (r56b, _)) =>
        bif r56_1 then
          some (t8, (r56b, ()))
        else
        rec (((iadd .i64 t8 1), (t7, ((), (s0, (t4, ()))))), ((r56b, ()), ()))
      else
      some ((-1), (o0, ()))) n ((0, ((len u0), ((), (u0, (0, ()))))), ((u1, ()), ()))
noncomputable def p_i_BitTop (R : Run) (n : Nat) (u0 : Int) : Option (Int × Unit) :=
  (c_i_formatOf R u0).bind fun (r46_1, (r46b, (r46c, (r46d, (r46e, _))))) =>
  some (r46d, ())
noncomputable def p_i_BitOk (R : Run) (n : Nat) (u0 : Int) (u1 : Int) : Option (Bool × Unit) :=
  (c_i_formatOf R u0).bind fun (r46_1, (r46b, (r46c, (r46d, (r46e, _))))) =>
  jb (P := (((Bool × Unit)) × Unit)) (
      bif r46e then
        (c_i_in R u1 (ineg .i64 r46d) r46d).bind fun (r18_1, _) =>
        some (.inr ((r18_1, ()), ()))
      else
      some (.inr ((false, ()), ()))) fun ((t4, _), _) =>
  some (t4, ())
noncomputable def p_slices_Index_string_string (R : Run) (n : Nat) (u0 : List ByteArray) (u1 : ByteArray) : Option (Int × Unit) :=
  iter (P := (((Int × (Int × (ByteArray × (List ByteArray × (Int × Unit)))))) × Unit)) (fun rec ((t8, (t7, (v1, (s0, (t4, _))))), _) =>
      bif (ilt t8 t7) then
        ok (inB t8 (len s0)) <|
        bif (seq v1 (List.getD s0 (Int.toNat t8) (bs []))) then
          some (t8, ())
        else
        rec (((iadd .i64 t8 1), (t7, (v1, (s0, (t4, ()))))), ())
      else
      some ((-1), ())) n ((0, ((len u0), (u1, (u0, (0, ()))))), ())
noncomputable def p_i_show (R : Run) (n : Nat) (u0 : Bool) (u1 : List Int) (u2 : List Int) (u3 : Bool) : Option (ByteArray × Unit) :=
  iter (P := (((List Int × (List Int × (Int × (Unit × (Bool × (ByteArray × Unit))))))) × (((Bool × (List Int × (List Int × Unit)))) × Unit))) (fun rec ((top5, (bottom6, (power7, (_, (up1, (t4, _)))))), ((o0a, (o0b, (o0c, _))), _)) =>
      (c_i_natCmp R top5 bottom6).bind fun (r148_1, _) =>
      bif (ilt r148_1 0) then
        (c_i_natMul R top5 [10]).bind fun (r145_1, _) =>
        rec ((r145_1, (bottom6, ((isub .i64 power7 1), ((), (up1, (t4, ())))))), ((o0a, (o0b, (o0c, ()))), ()))
      else
      (c_i_natDiv R top5 bottom6).bind fun (r195_1, (r195b, _)) =>
      (c_i_natText R r195_1).bind fun (r203_1, _) =>
      jb (P := (((List Int × (List Int × (Bool × (Int × (ByteArray × Unit)))))) × Unit)) (
          bif (ile 0 (isub .i64 8 (iadd .i64 power7 (isub .i64 (slen r203_1) 1)))) then
            (c_i_ten R (isub .i64 8 (iadd .i64 power7 (isub .i64 (slen r203_1) 1)))).bind fun (r204_1, _) =>
            (c_i_natMul R o0b r204_1).bind fun (r145_2_1, _) =>
            some (.inr ((r145_2_1, (o0c, (up1, ((iadd .i64 power7 (isub .i64 (slen r203_1) 1)), (t4, ()))))), ()))
          else
          (c_i_ten R (ineg .i64 (isub .i64 8 (iadd .i64 power7 (isub .i64 (slen r203_1) 1))))).bind fun (r204_2_1, _) =>
          (c_i_natMul R o0c r204_2_1).bind fun (r145_3_1, _) =>
          some (.inr ((o0b, (r145_3_1, (up1, ((iadd .i64 power7 (isub .i64 (slen r203_1) 1)), (t4, ()))))), ()))) fun ((top5_1, (bottom6_1, (up1_1, (power7_1, (t4_1, _))))), _) =>
      (c_i_natDiv R top5_1 bottom6_1).bind fun (r195_2_1, (r195_2b, _)) =>
      jb (P := (((List Int × (Int × (ByteArray × Unit)))) × Unit)) (
          jb (P := (((Bool × (List Int × (Int × (ByteArray × Unit))))) × Unit)) (
              bif up1_1 then
                some (.inr (((ilt 0 (len r195_2b)), (r195_2_1, (power7_1, (t4_1, ())))), ()))
              else
              some (.inr ((false, (r195_2_1, (power7_1, (t4_1, ())))), ()))) fun ((t68, (q8, (power7_2, (t4_2, _)))), _) =>
          bif t68 then
            (c_i_natAdd R q8 [1]).bind fun (r147_1, _) =>
            some (.inr ((r147_1, (power7_2, (t4_2, ()))), ()))
          else
          some (.inr ((q8, (power7_2, (t4_2, ()))), ()))) fun ((q8_1, (power7_3, (t4_3, _))), _) =>
      (c_i_natText R q8_1).bind fun (r203_2_1, _) =>
      ok (sliceOk 0 1 (slen r203_2_1)) <|
      jb (P := (((Int × (ByteArray × (ByteArray × Unit)))) × Unit)) (
          ok (sliceOk 1 (slen r203_2_1) (slen r203_2_1)) <|
          (c_strings_TrimRight R (ByteArray.extract r203_2_1 (Int.toNat 1) (Int.toNat (slen r203_2_1))) (bs [48])).bind fun (r205_1, _) =>
          bif (!(seq r205_1 (bs []))) then
            ok (sok (bs [46]) r205_1) <|
            ok (sok (ByteArray.extract r203_2_1 (Int.toNat 0) (Int.toNat 1)) ((bs [46]) ++ r205_1)) <|
            some (.inr (((iadd .i64 power7_3 (isub .i64 (slen r203_2_1) 9)), (((ByteArray.extract r203_2_1 (Int.toNat 0) (Int.toNat 1)) ++ ((bs [46]) ++ r205_1)), (t4_3, ()))), ()))
          else
          some (.inr (((iadd .i64 power7_3 (isub .i64 (slen r203_2_1) 9)), ((ByteArray.extract r203_2_1 (Int.toNat 0) (Int.toNat 1)), (t4_3, ()))), ()))) fun ((power7_4, (out13, (t4_4, _))), _) =>
      jb (P := (((ByteArray × (ByteArray × Unit))) × Unit)) (
          bif (power7_4 != 0) then
            (c_strconv_Itoa R power7_4).bind fun (r206_1, _) =>
            ok (sok (bs [101]) r206_1) <|
            ok (sok out13 ((bs [101]) ++ r206_1)) <|
            some (.inr (((out13 ++ ((bs [101]) ++ r206_1)), (t4_4, ())), ()))
          else
          some (.inr ((out13, (t4_4, ())), ()))) fun ((out13_1, (t4_5, _)), _) =>
      some (out13_1, ())) n ((u1, (u2, (0, ((), (u3, ((bs []), ())))))), ((u0, (u1, (u2, ()))), ()))
noncomputable def p_i_value (R : Run) (n : Nat) (u0 : Int) (u1 : Int) : Option (Bool × (List Int × (List Int × Unit))) :=
  (c_i_BitPartOf R u0 u1).bind fun (r190_1, (r190b, (r190c, (r190d, _)))) =>
  (c_i_natOf R r190b).bind fun (r191_1, _) =>
  bif (ile 0 r190c) then
    (c_i_natShift R r191_1 r190c).bind fun (r192_1, _) =>
    (c_i_whole R r190_1 r192_1).bind fun (r132_1, (r132b, (r132c, _))) =>
    some (r132_1, (r132b, (r132c, ())))
  else
  (c_i_natShift R [1] (ineg .i64 r190c)).bind fun (r192_2_1, _) =>
  (c_i_lowest R r190_1 r191_1 r192_2_1).bind fun (r146_1, (r146b, (r146c, _))) =>
  some (r146_1, (r146b, (r146c, ())))
noncomputable def p_s_l8Cmp (R : Run) (n : Nat) (u0 : Bool) (u1 : List Int) (u2 : List Int) (u3 : Bool) (u4 : List Int) (u5 : List Int) : Option (Int × Unit) :=
  (c_s_l5Mul R u1 u5).bind fun (r69_1, _) =>
  (c_s_l5Mul R u4 u2).bind fun (r69_2_1, _) =>
  jb (P := (((Bool × (Unit × (List Int × (Unit × (List Int × (Int × Unit))))))) × (((Bool × (List Int × (List Int × Unit)))) × (((Bool × (List Int × (List Int × Unit)))) × Unit)))) (
      bif ((len r69_1) == 0) then
        some (.inr ((((len r69_2_1) == 0), ((), (r69_1, ((), (r69_2_1, (0, ())))))), ((u0, (u1, (u2, ()))), ((u3, (u4, (u5, ()))), ()))))
      else
      some (.inr ((false, ((), (r69_1, ((), (r69_2_1, (0, ())))))), ((u0, (u1, (u2, ()))), ((u3, (u4, (u5, ()))), ()))))) fun ((t24, (_, (x5, (_, (y6, (t4, _)))))), ((o0a, (o0b, (o0c, _))), ((o1a, (o1b, (o1c, _))), _))) =>
  bif t24 then
    some (0, ())
  else
  jb (P := (((Bool × (Unit × (List Int × (List Int × (Int × Unit)))))) × (((Bool × (List Int × (List Int × Unit)))) × Unit))) (
      bif o0a then
        some (.inr (((ilt 0 (len x5)), ((), (y6, (x5, (t4, ()))))), ((o1a, (o1b, (o1c, ()))), ())))
      else
      some (.inr ((false, ((), (y6, (x5, (t4, ()))))), ((o1a, (o1b, (o1c, ()))), ())))) fun ((t31, (_, (y6_1, (x5_1, (t4_1, _))))), ((o0a_1, (o0b_1, (o0c_1, _))), _)) =>
  bif t31 then
    jb (P := (((Bool × (List Int × (List Int × (Unit × (Int × Unit)))))) × (((Bool × (List Int × (List Int × Unit)))) × Unit))) (
        bif o0a_1 then
          some (.inr (((ilt 0 (len y6_1)), (y6_1, (x5_1, ((), (t4_1, ()))))), ((o0a_1, (o0b_1, (o0c_1, ()))), ())))
        else
        some (.inr ((false, (y6_1, (x5_1, ((), (t4_1, ()))))), ((o0a_1, (o0b_1, (o0c_1, ()))), ())))) fun ((t38, (y6_2, (x5_2, (_, (t4_2, _))))), ((o0a_2, (o0b_2, (o0c_2, _))), _)) =>
    bif t38 then
      (c_s_l5Cmp R y6_2 x5_2).bind fun (r77_1, _) =>
      some (r77_1, ())
    else
    some ((-1), ())
  else
  jb (P := (((Bool × (List Int × (List Int × (Int × Unit))))) × Unit)) (
      bif o0a_1 then
        some (.inr (((ilt 0 (len y6_1)), (x5_1, (y6_1, (t4_1, ())))), ()))
      else
      some (.inr ((false, (x5_1, (y6_1, (t4_1, ())))), ()))) fun ((t48, (x5_3, (y6_3, (t4_3, _)))), _) =>
  bif t48 then
    some (1, ())
  else
  (c_s_l5Cmp R x5_3 y6_3).bind fun (r77_2_1, _) =>
  some (r77_2_1, ())
noncomputable def p_s_l7Tens (R : Run) (n : Nat) (u0 : Int) : Option (List Int × Unit) :=
  iter (P := (((Int × (Int × (List Int × (Unit × Unit))))) × Unit)) (fun rec ((i4, (k0, (out3, (_, _)))), _) =>
      bif (ilt i4 k0) then
        (c_s_l5Times R out3 10).bind fun (r180_1, _) =>
        rec (((iadd .i64 i4 1), (k0, (r180_1, ((), ())))), ())
      else
      some (out3, ())) n ((0, (u0, ([1], ((), ())))), ())
noncomputable def p_s_l5Cmp (R : Run) (n : Nat) (u0 : List Int) (u1 : List Int) : Option (Int × Unit) :=
  bif (ilt (len u0) (len u1)) then
    some ((-1), ())
  else
  bif (ilt (len u1) (len u0)) then
    some (1, ())
  else
  iter (P := (((Int × (List Int × (List Int × (Int × Unit))))) × Unit)) (fun rec ((i5, (a0, (b1, (t4, _)))), _) =>
      bif (ile 0 i5) then
        ok (inB i5 (len a0)) <|
        ok (inB i5 (len b1)) <|
        bif (ilt (List.getD a0 (Int.toNat i5) 0) (List.getD b1 (Int.toNat i5) 0)) then
          some ((-1), ())
        else
        ok (inB i5 (len a0)) <|
        ok (inB i5 (len b1)) <|
        bif (ilt (List.getD b1 (Int.toNat i5) 0) (List.getD a0 (Int.toNat i5) 0)) then
          some (1, ())
        else
        rec (((isub .i64 i5 1), (a0, (b1, (t4, ())))), ())
      else
      some (0, ())) n (((isub .i64 (len u0) 1), (u0, (u1, (0, ())))), ())
noncomputable def p_s_l5Trim (R : Run) (n : Nat) (u0 : List Int) : Option (List Int × Unit) :=
  iter (P := (((Int × (List Int × (Unit × Unit)))) × Unit)) (fun rec ((n3, (a0, (_, _))), _) =>
      jb (P := (((Bool × (Int × (List Int × (Unit × Unit))))) × Unit)) (
          bif (ilt 0 n3) then
            ok (inB (isub .i64 n3 1) (len a0)) <|
            some (.inr ((((List.getD a0 (Int.toNat (isub .i64 n3 1)) 0) == 0), (n3, (a0, ((), ())))), ()))
          else
          some (.inr ((false, (n3, (a0, ((), ())))), ()))) fun ((t17, (n3_1, (a0_1, (_, _)))), _) =>
      bif t17 then
        rec (((isub .i64 n3_1 1), (a0_1, ((), ()))), ())
      else
      iter (P := (((Int × (Int × (Unit × (List Int × (Unit × Unit)))))) × (List Int × Unit))) (fun rec_1 ((i5, (n3_2, (_, (a0_2, (_, _))))), (o0, _)) =>
          bif (ilt i5 n3_2) then
            ok (inB i5 (len a0_2)) <|
            ok (aok (o0 ++ [(List.getD a0_2 (Int.toNat i5) 0)]) 8) <|
            rec_1 (((iadd .i64 i5 1), (n3_2, ((), (a0_2, ((), ()))))), ((o0 ++ [(List.getD a0_2 (Int.toNat i5) 0)]), ()))
          else
          some (o0, ())) n ((0, (n3_1, ((), (a0_1, ((), ()))))), ([], ()))) n (((len u0), (u0, ((), ()))), ())
noncomputable def p_s_l5DivSmall (R : Run) (n : Nat) (u0 : List Int) (u1 : Int) : Option (List Int × (Int × Unit)) :=
  ok (mkOk (len u0) (len u0) 8) <|
  iter (P := (((Int × (Int × (List Int × (Unit × (Int × (Unit × (Int × Unit)))))))) × (List Int × Unit))) (fun rec ((i8, (rest7, (a0, (_, (d1, (_, (t5, _))))))), (o0, _)) =>
      bif (ile 0 i8) then
        ok (inB i8 (len a0)) <|
        ok (!(d1 == 0)) <|
        ok (inB i8 (len o0)) <|
        ok (!(d1 == 0)) <|
        rec (((isub .i64 i8 1), ((irem .i64 (iadd .i64 (imul .i64 rest7 65536) (List.getD a0 (Int.toNat i8) 0)) d1), (a0, ((), (d1, ((), (t5, ()))))))), ((List.set o0 (Int.toNat i8) (iquo .i64 (iadd .i64 (imul .i64 rest7 65536) (List.getD a0 (Int.toNat i8) 0)) d1)), ()))
      else
      (c_s_l5Trim R o0).bind fun (r79_1, _) =>
      some (r79_1, (rest7, ()))) n (((isub .i64 (len u0) 1), (0, (u0, ((), (u1, ((), (0, ()))))))), ((List.replicate (Int.toNat (len u0)) 0), ()))
noncomputable def p_s_l5Times (R : Run) (n : Nat) (u0 : List Int) (u1 : Int) : Option (List Int × Unit) :=
  bif (u1 == 0) then
    some ([], ())
  else
  (c_s_l5Mul R u0 [u1]).bind fun (r69_1, _) =>
  some (r69_1, ())
noncomputable def p_s_l5Top (R : Run) (n : Nat) (u0 : List Int) (u1 : Int) : Option (List Int × Unit) :=
  iter (P := (((Int × (List Int × (Unit × (Unit × Unit))))) × (List Int × Unit))) (fun rec ((i6, (a0, (_, (_, _)))), (o0, _)) =>
      bif (ilt i6 (len a0)) then
        ok (inB i6 (len a0)) <|
        ok (aok (o0 ++ [(List.getD a0 (Int.toNat i6) 0)]) 8) <|
        rec (((iadd .i64 i6 1), (a0, ((), ((), ())))), ((o0 ++ [(List.getD a0 (Int.toNat i6) 0)]), ()))
      else
      some (o0, ())) n ((u1, (u0, ((), ((), ())))), ([], ()))
noncomputable def p_s_l5Shl (R : Run) (n : Nat) (u0 : List Int) (u1 : Int) : Option (List Int × Unit) :=
  bif ((len u0) == 0) then
    some ([], ())
  else
  ok (mkOk u1 u1 8) <|
  iter (P := (((Int × (List Int × (Unit × (Unit × Unit))))) × (List Int × Unit))) (fun rec ((i6, (a0, (_, (_, _)))), (o0, _)) =>
      bif (ilt i6 (len a0)) then
        ok (inB i6 (len a0)) <|
        ok (aok (o0 ++ [(List.getD a0 (Int.toNat i6) 0)]) 8) <|
        rec (((iadd .i64 i6 1), (a0, ((), ((), ())))), ((o0 ++ [(List.getD a0 (Int.toNat i6) 0)]), ()))
      else
      some (o0, ())) n ((0, (u0, ((), ((), ())))), ((List.replicate (Int.toNat u1) 0), ()))
noncomputable def p_s_l5At (R : Run) (n : Nat) (u0 : List Int) (u1 : Int) : Option (Int × Unit) :=
  bif (ilt u1 (len u0)) then
    ok (inB u1 (len u0)) <|
    some ((List.getD u0 (Int.toNat u1) 0), ())
  else
  some (0, ())
noncomputable def p_s_l5Sub (R : Run) (n : Nat) (u0 : List Int) (u1 : List Int) : Option (List Int × Unit) :=
  iter (P := (((Int × (List Int × (List Int × (Int × (Unit × (Unit × Unit))))))) × (List Int × Unit))) (fun rec ((i7, (a0, (b1, (borrow6, (_, (_, _)))))), (o0, _)) =>
      bif (ilt i7 (len a0)) then
        ok (inB i7 (len a0)) <|
        (c_s_l5At R b1 i7).bind fun (r92_1, _) =>
        jb (P := (((Unit × (Int × (Int × (List Int × (List Int × (Int × (Unit × Unit)))))))) × (List Int × Unit))) (
            bif (ilt (isub .i64 (isub .i64 (List.getD a0 (Int.toNat i7) 0) r92_1) borrow6) 0) then
              some (.inr (((), ((iadd .i64 (isub .i64 (isub .i64 (List.getD a0 (Int.toNat i7) 0) r92_1) borrow6) 65536), (i7, (a0, (b1, (1, ((), ()))))))), (o0, ())))
            else
            some (.inr (((), ((isub .i64 (isub .i64 (List.getD a0 (Int.toNat i7) 0) r92_1) borrow6), (i7, (a0, (b1, (0, ((), ()))))))), (o0, ())))) fun ((_, (s8, (i7_1, (a0_1, (b1_1, (borrow6_1, (_, _))))))), (o0_1, _)) =>
        ok (aok (o0_1 ++ [s8]) 8) <|
        rec (((iadd .i64 i7_1 1), (a0_1, (b1_1, (borrow6_1, ((), ((), ())))))), ((o0_1 ++ [s8]), ()))
      else
      (c_s_l5Trim R o0).bind fun (r79_1, _) =>
      some (r79_1, ())) n ((0, (u0, (u1, (0, ((), ((), ())))))), ([], ()))
noncomputable def p_s_NatOk (R : Run) (n : Nat) (u0 : List Int) : Option (Bool × Unit) :=
  bif (ilt 256 (len u0)) then
    some (false, ())
  else
  iter (P := (((Int × (List Int × (Bool × Unit)))) × Unit)) (fun rec ((i3, (a0, (t2, _))), _) =>
      bif (ilt i3 (len a0)) then
        jb (P := (((Bool × (Int × (List Int × (Bool × Unit))))) × Unit)) (
            ok (inB i3 (len a0)) <|
            bif (ilt (List.getD a0 (Int.toNat i3) 0) 0) then
              some (.inr ((true, (i3, (a0, (t2, ())))), ()))
            else
            ok (inB i3 (len a0)) <|
            some (.inr (((ile 65536 (List.getD a0 (Int.toNat i3) 0)), (i3, (a0, (t2, ())))), ()))) fun ((t24, (i3_1, (a0_1, (t2_1, _)))), _) =>
        bif t24 then
          some (false, ())
        else
        rec (((iadd .i64 i3_1 1), (a0_1, (t2_1, ()))), ())
      else
      jb (P := (((Bool × Unit)) × Unit)) (
          bif ((len a0) == 0) then
            some (.inr ((true, ()), ()))
          else
          ok (inB (isub .i64 (len a0) 1) (len a0)) <|
          some (.inr ((((List.getD a0 (Int.toNat (isub .i64 (len a0) 1)) 0) != 0), ()), ()))) fun ((t2_2, _), _) =>
      some (t2_2, ())) n ((0, (u0, (false, ()))), ())
noncomputable def p_s_FracText (R : Run) (n : Nat) (u0 : Bool) (u1 : List Int) (u2 : List Int) : Option (ByteArray × Unit) :=
  (c_s_FracOk R u0 u1 u2).bind fun (r78_1, _) =>
  bif (!r78_1) then
    some ((bs []), ())
  else
  (c_s_NatText R u1).bind fun (r167_1, _) =>
  jb (P := (((Unit × (ByteArray × (ByteArray × Unit)))) × (((Bool × (List Int × (List Int × Unit)))) × Unit))) (
      bif u0 then
        ok (sok (bs [45]) r167_1) <|
        some (.inr (((), (((bs [45]) ++ r167_1), ((bs []), ()))), ((u0, (u1, (u2, ()))), ())))
      else
      some (.inr (((), (r167_1, ((bs []), ()))), ((u0, (u1, (u2, ()))), ())))) fun ((_, (s3, (t2, _))), ((o0a, (o0b, (o0c, _))), _)) =>
  jb (P := (((ByteArray × (ByteArray × Unit))) × Unit)) (
      (c_s_l6One R o0c).bind fun (r152_1, _) =>
      bif (!r152_1) then
        ok (sok s3 (bs [47])) <|
        (c_s_NatText R o0c).bind fun (r167_2_1, _) =>
        ok (sok (s3 ++ (bs [47])) r167_2_1) <|
        some (.inr ((((s3 ++ (bs [47])) ++ r167_2_1), (t2, ())), ()))
      else
      some (.inr ((s3, (t2, ())), ()))) fun ((s3_1, (t2_1, _)), _) =>
  some (s3_1, ())
noncomputable def p_s_FracInt (R : Run) (n : Nat) (u0 : Int) : Option (Bool × (List Int × (List Int × Unit))) :=
  jb (P := (((Unit × (Unit × Unit))) × (((Bool × (List Int × (Unit × Unit)))) × (((Bool × (Unit × (Unit × Unit)))) × (List Int × Unit))))) (
      bif (ilt u0 0) then
        (c_s_NatOf R (ineg .u64 (IntKind.wrap .u64 u0))).bind fun (r67_1, _) =>
        some (.inr (((), ((), ())), (((ilt u0 0), (r67_1, ((), ()))), ((false, ((), ((), ()))), ([1], ())))))
      else
      (c_s_NatOf R (IntKind.wrap .u64 u0)).bind fun (r67_2_1, _) =>
      some (.inr (((), ((), ())), (((ilt u0 0), (r67_2_1, ((), ()))), ((false, ((), ((), ()))), ([1], ())))))) fun ((_, (_, _)), ((o0a, (o0b, (_, _))), ((o1, (_, (_, _))), (o2, _)))) =>
  some (o0a, (o0b, (o2, ())))
noncomputable def p_s_l1Least (R : Run) (n : Nat) (u0 : Int) : Option (Int × Unit) :=
  bif (u0 == 32) then
    some ((-149), ())
  else
  some ((-1074), ())
noncomputable def p_s_l1Frac (R : Run) (n : Nat) (u0 : Int) : Option (Int × Unit) :=
  bif (u0 == 32) then
    some (23, ())
  else
  some (52, ())
noncomputable def p_i_formatOf (R : Run) (n : Nat) (u0 : Int) : Option (Int × (Int × (Int × (Int × (Bool × Unit))))) :=
  bif (u0 == 32) then
    some (23, ((-149), (127, (2139095040, (true, ())))))
  else
  bif (u0 == 64) then
    some (52, ((-1074), (1023, (9218868437227405312, (true, ())))))
  else
  some (0, (0, (0, (0, (false, ())))))
noncomputable def p_i_natCmp (R : Run) (n : Nat) (u0 : List Int) (u1 : List Int) : Option (Int × Unit) :=
  bif ((len u0) != (len u1)) then
    some ((imax (-1) (imin 1 (isub .i64 (len u0) (len u1)))), ())
  else
  iter (P := (((Int × (List Int × (List Int × (Int × Unit))))) × Unit)) (fun rec ((i5, (a0, (b1, (t4, _)))), _) =>
      bif (ile 0 i5) then
        ok (inB i5 (len a0)) <|
        ok (inB i5 (len b1)) <|
        bif ((List.getD a0 (Int.toNat i5) 0) != (List.getD b1 (Int.toNat i5) 0)) then
          ok (inB i5 (len a0)) <|
          ok (inB i5 (len b1)) <|
          some ((imax (-1) (imin 1 (isub .i64 (List.getD a0 (Int.toNat i5) 0) (List.getD b1 (Int.toNat i5) 0)))), ())
        else
        rec (((isub .i64 i5 1), (a0, (b1, (t4, ())))), ())
      else
      some (0, ())) n (((isub .i64 (len u0) 1), (u0, (u1, (0, ())))), ())
noncomputable def p_i_natMul (R : Run) (n : Nat) (u0 : List Int) (u1 : List Int) : Option (List Int × Unit) :=
  ok (mkOk (iadd .i64 (iadd .i64 (len u0) (len u1)) 1) (iadd .i64 (iadd .i64 (len u0) (len u1)) 1) 8) <|
  iter (P := (((Int × (Int × (List Int × (List Int × (Unit × (Unit × Unit))))))) × (List Int × Unit))) (fun rec ((t21, (t20, (t19, (b1, (_, (_, _)))))), (o0, _)) =>
      bif (ilt t21 t20) then
        ok (inB t21 (len t19)) <|
        iter (P := (((Int × (Int × (List Int × (Unit × (Int × (Int × (Int × (List Int × (Int × (Int × (List Int × (Unit × Unit))))))))))))) × (List Int × Unit))) (fun rec_1 ((t28, (t27, (t26, (_, (i6, (x7, (carry8, (b1_1, (t21_1, (t20_1, (t19_1, (_, _)))))))))))), (o0_1, _)) =>
            bif (ilt t28 t27) then
              ok (inB t28 (len t26)) <|
              ok (inB (iadd .i64 i6 t28) (len o0_1)) <|
              ok (inB (iadd .i64 i6 t28) (len o0_1)) <|
              rec_1 (((iadd .i64 t28 1), (t27, (t26, ((), (i6, (x7, ((ishr .i64 (iadd .i64 (iadd .i64 (List.getD o0_1 (Int.toNat (iadd .i64 i6 t28)) 0) (imul .i64 x7 (List.getD t26 (Int.toNat t28) 0))) carry8) 16), (b1_1, (t21_1, (t20_1, (t19_1, ((), ())))))))))))), ((List.set o0_1 (Int.toNat (iadd .i64 i6 t28)) (iand .i64 (iadd .i64 (iadd .i64 (List.getD o0_1 (Int.toNat (iadd .i64 i6 t28)) 0) (imul .i64 x7 (List.getD t26 (Int.toNat t28) 0))) carry8) 65535)), ()))
            else
            ok (inB (iadd .i64 i6 (len b1_1)) (len o0_1)) <|
            ok (inB (iadd .i64 i6 (len b1_1)) (len o0_1)) <|
            rec (((iadd .i64 t21_1 1), (t20_1, (t19_1, (b1_1, ((), ((), ())))))), ((List.set o0_1 (Int.toNat (iadd .i64 i6 (len b1_1))) (iadd .i64 (List.getD o0_1 (Int.toNat (iadd .i64 i6 (len b1_1))) 0) carry8)), ()))) n ((0, ((len b1), (b1, ((), (t21, ((List.getD t19 (Int.toNat t21) 0), (0, (b1, (t21, (t20, (t19, ((), ())))))))))))), (o0, ()))
      else
      (c_i_trim R o0).bind fun (r73_1, _) =>
      some (r73_1, ())) n ((0, ((len u0), (u0, (u1, ((), ((), ())))))), ((List.replicate (Int.toNat (iadd .i64 (iadd .i64 (len u0) (len u1)) 1)) 0), ()))
noncomputable def p_i_natDiv (R : Run) (n : Nat) (u0 : List Int) (u1 : List Int) : Option (List Int × (List Int × Unit)) :=
  (c_i_natCmp R u0 u1).bind fun (r50_1, _) =>
  bif (ilt r50_1 0) then
    some ([], (u0, ()))
  else
  bif ((len u1) == 1) then
    ok (mkOk (len u0) (len u0) 8) <|
    iter (P := (((Int × (Int × (List Int × (Unit × (List Int × (Unit × (Unit × Unit)))))))) × (List Int × Unit))) (fun rec ((i8, (rest7, (a0, (_, (b1, (_, (_, _))))))), (o0, _)) =>
        bif (ile 0 i8) then
          ok (inB i8 (len a0)) <|
          ok (inB 0 (len b1)) <|
          ok (!((List.getD b1 (Int.toNat 0) 0) == 0)) <|
          ok (inB 0 (len b1)) <|
          ok (!((List.getD b1 (Int.toNat 0) 0) == 0)) <|
          ok (inB i8 (len o0)) <|
          rec (((isub .i64 i8 1), ((irem .i64 (ior .i64 (ishl .i64 rest7 16) (List.getD a0 (Int.toNat i8) 0)) (List.getD b1 (Int.toNat 0) 0)), (a0, ((), (b1, ((), ((), ()))))))), ((List.set o0 (Int.toNat i8) (iquo .i64 (ior .i64 (ishl .i64 rest7 16) (List.getD a0 (Int.toNat i8) 0)) (List.getD b1 (Int.toNat 0) 0))), ()))
        else
        (c_i_trim R o0).bind fun (r73_1, _) =>
        (c_i_trim R [rest7]).bind fun (r73_2_1, _) =>
        some (r73_1, (r73_2_1, ()))) n (((isub .i64 (len u0) 1), (0, (u0, ((), (u1, ((), ((), ()))))))), ((List.replicate (Int.toNat (len u0)) 0), ()))
  else
  ok (inB (isub .i64 (len u1) 1) (len u1)) <|
  (c_math_bits_Len R (IntKind.wrap .u64 (List.getD u1 (Int.toNat (isub .i64 (len u1) 1)) 0))).bind fun (r103_1, _) =>
  (c_i_natShift R u1 (isub .i64 16 r103_1)).bind fun (r104_1, _) =>
  (c_i_natShift R u0 (isub .i64 16 r103_1)).bind fun (r104_2_1, _) =>
  (c_slices_Clone_int_int R r104_2_1).bind fun (r105_1, _) =>
  ok (aok (r105_1 ++ [0]) 8) <|
  iter (P := (((Unit × (List Int × (Int × (List Int × (Int × (Unit × (Unit × Unit)))))))) × (List Int × Unit))) (fun rec_1 ((_, (a0_1, (n13, (v11, (by10, (_, (_, _))))))), (o0_1, _)) =>
      bif (ilt (len o0_1) (iadd .i64 (len a0_1) 1)) then
        ok (aok (o0_1 ++ [0]) 8) <|
        rec_1 (((), (a0_1, (n13, (v11, (by10, ((), ((), ()))))))), ((o0_1 ++ [0]), ()))
      else
      ok (mkOk (isub .i64 (len o0_1) n13) (isub .i64 (len o0_1) n13) 8) <|
      iter (P := (((Int × (Unit × (Int × (List Int × (Unit × (Int × (Unit × (Unit × Unit))))))))) × (List Int × (List Int × Unit)))) (fun rec_2 ((j15, (_, (n13_1, (v11_1, (_, (by10_1, (_, (_, _)))))))), (o0_2, (o1, _))) =>
          bif (ile 0 j15) then
            ok (inB (iadd .i64 j15 n13_1) (len o0_2)) <|
            ok (inB (isub .i64 (iadd .i64 j15 n13_1) 1) (len o0_2)) <|
            ok (inB (isub .i64 n13_1 1) (len v11_1)) <|
            ok (!((List.getD v11_1 (Int.toNat (isub .i64 n13_1 1)) 0) == 0)) <|
            ok (inB (isub .i64 n13_1 1) (len v11_1)) <|
            ok (!((List.getD v11_1 (Int.toNat (isub .i64 n13_1 1)) 0) == 0)) <|
            jb (P := (((List Int × (Unit × (Int × (Int × (Int × (Unit × (Int × (Unit × (Unit × Unit)))))))))) × (List Int × (List Int × Unit)))) (
                iter (P := (((Int × (List Int × (Int × (Int × (Unit × (Int × (Unit × (Int × (Unit × (Unit × Unit))))))))))) × (List Int × (List Int × Unit)))) (fun rec_3 ((q17, (v11_2, (n13_2, (r18, (_, (j15_1, (_, (by10_2, (_, (_, _)))))))))), (o0_3, (o1_1, _))) =>
                    jb (P := (((Bool × (Int × (Int × (List Int × (Int × (Unit × (Int × (Unit × (Int × (Unit × (Unit × Unit)))))))))))) × (List Int × (List Int × Unit)))) (
                        bif (ile 65536 q17) then
                          some (.inr ((true, (q17, (r18, (v11_2, (n13_2, ((), (j15_1, ((), (by10_2, ((), ((), ()))))))))))), (o0_3, (o1_1, ()))))
                        else
                        ok (inB (isub .i64 n13_2 2) (len v11_2)) <|
                        ok (inB (isub .i64 (iadd .i64 j15_1 n13_2) 2) (len o0_3)) <|
                        some (.inr (((ilt (ior .i64 (ishl .i64 r18 16) (List.getD o0_3 (Int.toNat (isub .i64 (iadd .i64 j15_1 n13_2) 2)) 0)) (imul .i64 q17 (List.getD v11_2 (Int.toNat (isub .i64 n13_2 2)) 0))), (q17, (r18, (v11_2, (n13_2, ((), (j15_1, ((), (by10_2, ((), ((), ()))))))))))), (o0_3, (o1_1, ()))))) fun ((t163, (q17_1, (r18_1, (v11_3, (n13_3, (_, (j15_2, (_, (by10_3, (_, (_, _))))))))))), (o0_4, (o1_2, _))) =>
                    bif t163 then
                      ok (inB (isub .i64 n13_3 1) (len v11_3)) <|
                      bif (ile 65536 (iadd .i64 r18_1 (List.getD v11_3 (Int.toNat (isub .i64 n13_3 1)) 0))) then
                        some (.inr ((v11_3, ((), (j15_2, ((isub .i64 q17_1 1), (n13_3, ((), (by10_3, ((), ((), ()))))))))), (o0_4, (o1_2, ()))))
                      else
                      rec_3 (((isub .i64 q17_1 1), (v11_3, (n13_3, ((iadd .i64 r18_1 (List.getD v11_3 (Int.toNat (isub .i64 n13_3 1)) 0)), ((), (j15_2, ((), (by10_3, ((), ((), ())))))))))), (o0_4, (o1_2, ())))
                    else
                    some (.inr ((v11_3, ((), (j15_2, (q17_1, (n13_3, ((), (by10_3, ((), ((), ()))))))))), (o0_4, (o1_2, ()))))) n (((iquo .i64 (ior .i64 (ishl .i64 (List.getD o0_2 (Int.toNat (iadd .i64 j15 n13_1)) 0) 16) (List.getD o0_2 (Int.toNat (isub .i64 (iadd .i64 j15 n13_1) 1)) 0)) (List.getD v11_1 (Int.toNat (isub .i64 n13_1 1)) 0)), (v11_1, (n13_1, ((irem .i64 (ior .i64 (ishl .i64 (List.getD o0_2 (Int.toNat (iadd .i64 j15 n13_1)) 0) 16) (List.getD o0_2 (Int.toNat (isub .i64 (iadd .i64 j15 n13_1) 1)) 0)) (List.getD v11_1 (Int.toNat (isub .i64 n13_1 1)) 0)), ((), (j15, ((), (by10_1, ((), ((), ())))))))))), (o0_2, (o1, ())))) fun ((v11_4, (_, (j15_3, (q17_2, (n13_4, (_, (by10_4, (_, (_, _))))))))), (o0_5, (o1_3, _))) =>
            iter (P := (((Int × (Int × (List Int × (Unit × (Int × (Int × (Int × (Int × (List Int × (Unit × (Int × (Unit × (Unit × Unit)))))))))))))) × (List Int × (List Int × Unit)))) (fun rec_4 ((t177, (t176, (t175, (_, (j15_4, (borrow19, (q17_3, (n13_5, (v11_5, (_, (by10_5, (_, (_, _))))))))))))), (o0_6, (o1_4, _))) =>
                bif (ilt t177 t176) then
                  ok (inB t177 (len t175)) <|
                  ok (inB (iadd .i64 j15_4 t177) (len o0_6)) <|
                  jb (P := (((Unit × (Int × (Int × (Int × (Int × (Int × (List Int × (Int × (Int × (Int × (List Int × (Unit × (Int × (Unit × (Unit × Unit)))))))))))))))) × (List Int × (List Int × Unit)))) (
                      bif (ilt (isub .i64 (isub .i64 (List.getD o0_6 (Int.toNat (iadd .i64 j15_4 t177)) 0) borrow19) (imul .i64 q17_3 (List.getD t175 (Int.toNat t177) 0))) 0) then
                        some (.inr (((), (j15_4, (t177, ((iadd .i64 (isub .i64 (isub .i64 (List.getD o0_6 (Int.toNat (iadd .i64 j15_4 t177)) 0) borrow19) (imul .i64 q17_3 (List.getD t175 (Int.toNat t177) 0))) (imul .i64 (iquo .i64 (isub .i64 (iadd .i64 (ineg .i64 (isub .i64 (isub .i64 (List.getD o0_6 (Int.toNat (iadd .i64 j15_4 t177)) 0) borrow19) (imul .i64 q17_3 (List.getD t175 (Int.toNat t177) 0)))) 65536) 1) 65536) 65536)), (t177, (t176, (t175, ((iquo .i64 (isub .i64 (iadd .i64 (ineg .i64 (isub .i64 (isub .i64 (List.getD o0_6 (Int.toNat (iadd .i64 j15_4 t177)) 0) borrow19) (imul .i64 q17_3 (List.getD t175 (Int.toNat t177) 0)))) 65536) 1) 65536), (q17_3, (n13_5, (v11_5, ((), (by10_5, ((), ((), ()))))))))))))))), (o0_6, (o1_4, ()))))
                      else
                      some (.inr (((), (j15_4, (t177, ((isub .i64 (isub .i64 (List.getD o0_6 (Int.toNat (iadd .i64 j15_4 t177)) 0) borrow19) (imul .i64 q17_3 (List.getD t175 (Int.toNat t177) 0))), (t177, (t176, (t175, (0, (q17_3, (n13_5, (v11_5, ((), (by10_5, ((), ((), ()))))))))))))))), (o0_6, (o1_4, ()))))) fun ((_, (j15_5, (i20, (x22, (t177_1, (t176_1, (t175_1, (borrow19_1, (q17_4, (n13_6, (v11_6, (_, (by10_6, (_, (_, _))))))))))))))), (o0_7, (o1_5, _))) =>
                  ok (inB (iadd .i64 j15_5 i20) (len o0_7)) <|
                  rec_4 (((iadd .i64 t177_1 1), (t176_1, (t175_1, ((), (j15_5, (borrow19_1, (q17_4, (n13_6, (v11_6, ((), (by10_6, ((), ((), ()))))))))))))), ((List.set o0_7 (Int.toNat (iadd .i64 j15_5 i20)) x22), (o1_5, ())))
                else
                ok (inB (iadd .i64 j15_4 n13_5) (len o0_6)) <|
                ok (inB (iadd .i64 j15_4 n13_5) (len o0_6)) <|
                jb (P := (((Unit × (Int × (Int × (Unit × (Int × (List Int × (Int × (Unit × (Unit × Unit)))))))))) × (List Int × (List Int × Unit)))) (
                    ok (inB (iadd .i64 j15_4 n13_5) (len (List.set o0_6 (Int.toNat (iadd .i64 j15_4 n13_5)) (isub .i64 (List.getD o0_6 (Int.toNat (iadd .i64 j15_4 n13_5)) 0) borrow19)))) <|
                    bif (ilt (List.getD (List.set o0_6 (Int.toNat (iadd .i64 j15_4 n13_5)) (isub .i64 (List.getD o0_6 (Int.toNat (iadd .i64 j15_4 n13_5)) 0) borrow19)) (Int.toNat (iadd .i64 j15_4 n13_5)) 0) 0) then
                      iter (P := (((Int × (Int × (List Int × (Unit × (Int × (Int × (Int × (Unit × (Int × (List Int × (Int × (Unit × (Unit × Unit)))))))))))))) × (List Int × (List Int × Unit)))) (fun rec_5 ((t232, (t231, (t230, (_, (j15_6, (carry23, (n13_7, (_, (q17_5, (v11_7, (by10_7, (_, (_, _))))))))))))), (o0_8, (o1_6, _))) =>
                          bif (ilt t232 t231) then
                            ok (inB t232 (len t230)) <|
                            ok (inB (iadd .i64 j15_6 t232) (len o0_8)) <|
                            ok (inB (iadd .i64 j15_6 t232) (len o0_8)) <|
                            rec_5 (((iadd .i64 t232 1), (t231, (t230, ((), (j15_6, ((ishr .i64 (iadd .i64 (iadd .i64 (List.getD o0_8 (Int.toNat (iadd .i64 j15_6 t232)) 0) (List.getD t230 (Int.toNat t232) 0)) carry23) 16), (n13_7, ((), (q17_5, (v11_7, (by10_7, ((), ((), ()))))))))))))), ((List.set o0_8 (Int.toNat (iadd .i64 j15_6 t232)) (iand .i64 (iadd .i64 (iadd .i64 (List.getD o0_8 (Int.toNat (iadd .i64 j15_6 t232)) 0) (List.getD t230 (Int.toNat t232) 0)) carry23) 65535)), (o1_6, ())))
                          else
                          ok (inB (iadd .i64 j15_6 n13_7) (len o0_8)) <|
                          ok (inB (iadd .i64 j15_6 n13_7) (len o0_8)) <|
                          some (.inr (((), (j15_6, (q17_5, ((), (n13_7, (v11_7, (by10_7, ((), ((), ()))))))))), (o1_6, ((List.set o0_8 (Int.toNat (iadd .i64 j15_6 n13_7)) (iadd .i64 (List.getD o0_8 (Int.toNat (iadd .i64 j15_6 n13_7)) 0) carry23)), ()))))) n ((0, ((len v11_5), (v11_5, ((), (j15_4, (0, (n13_5, ((), ((isub .i64 q17_3 1), (v11_5, (by10_5, ((), ((), ()))))))))))))), ((List.set o0_6 (Int.toNat (iadd .i64 j15_4 n13_5)) (isub .i64 (List.getD o0_6 (Int.toNat (iadd .i64 j15_4 n13_5)) 0) borrow19)), (o1_4, ())))
                    else
                    some (.inr (((), (j15_4, (q17_3, ((), (n13_5, (v11_5, (by10_5, ((), ((), ()))))))))), (o1_4, ((List.set o0_6 (Int.toNat (iadd .i64 j15_4 n13_5)) (isub .i64 (List.getD o0_6 (Int.toNat (iadd .i64 j15_4 n13_5)) 0) borrow19)), ()))))) fun ((_, (j15_7, (q17_6, (_, (n13_8, (v11_8, (by10_8, (_, (_, _))))))))), (o0_9, (o1_7, _))) =>
                ok (inB j15_7 (len o0_9)) <|
                rec_2 (((isub .i64 j15_7 1), ((), (n13_8, (v11_8, ((), (by10_8, ((), ((), ())))))))), (o1_7, ((List.set o0_9 (Int.toNat j15_7) q17_6), ())))) n ((0, ((len v11_4), (v11_4, ((), (j15_3, (0, (q17_2, (n13_4, (v11_4, ((), (by10_4, ((), ((), ()))))))))))))), (o0_5, (o1_3, ())))
          else
          (c_i_trim R o1).bind fun (r73_3_1, _) =>
          (c_i_trim R o0_2).bind fun (r73_4_1, _) =>
          (c_i_natShift R r73_4_1 (ineg .i64 by10_1)).bind fun (r104_3_1, _) =>
          some (r73_3_1, (r104_3_1, ()))) n (((isub .i64 (isub .i64 (len o0_1) n13) 1), ((), (n13, (v11, ((), (by10, ((), ((), ())))))))), (o0_1, ((List.replicate (Int.toNat (isub .i64 (len o0_1) n13)) 0), ())))) n (((), (u0, ((len r104_1), (r104_1, ((isub .i64 16 r103_1), ((), ((), ()))))))), ((r105_1 ++ [0]), ()))
noncomputable def p_i_natText (R : Run) (n : Nat) (u0 : List Int) : Option (ByteArray × Unit) :=
  bif ((len u0) == 0) then
    some ((bs [48]), ())
  else
  iter (P := (((List Int × (ByteArray × (ByteArray × Unit)))) × Unit)) (fun rec ((a0, (out3, (t2, _))), _) =>
      bif (ilt 0 (len a0)) then
        (c_i_natDiv R a0 [10000]).bind fun (r195_1, (r195b, _)) =>
        jb (P := (((Int × (List Int × (ByteArray × (List Int × (ByteArray × Unit)))))) × Unit)) (
            bif (ilt 0 (len r195b)) then
              ok (inB 0 (len r195b)) <|
              some (.inr (((List.getD r195b (Int.toNat 0) 0), (r195_1, (out3, (a0, (t2, ()))))), ()))
            else
            some (.inr ((0, (r195_1, (out3, (a0, (t2, ()))))), ()))) fun ((n6, (q4, (out3_1, (a0_1, (t2_1, _))))), _) =>
        (c_strconv_Itoa R n6).bind fun (r206_1, _) =>
        jb (P := (((ByteArray × (ByteArray × (List Int × (List Int × (ByteArray × Unit)))))) × Unit)) (
            bif (ilt 0 (len q4)) then
              (c_strings_Repeat R (bs [48]) (isub .i64 4 (slen r206_1))).bind fun (r219_1, _) =>
              ok (sok r219_1 r206_1) <|
              some (.inr (((r219_1 ++ r206_1), (out3_1, (q4, (a0_1, (t2_1, ()))))), ()))
            else
            some (.inr ((r206_1, (out3_1, (q4, (a0_1, (t2_1, ()))))), ()))) fun ((part7, (out3_2, (q4_1, (a0_2, (t2_2, _))))), _) =>
        ok (sok part7 out3_2) <|
        rec ((q4_1, ((part7 ++ out3_2), (t2_2, ()))), ())
      else
      some (out3, ())) n ((u0, ((bs []), ((bs []), ()))), ())
noncomputable def p_i_ten (R : Run) (n : Nat) (u0 : Int) : Option (List Int × Unit) :=
  iter (P := (((Int × (Int × (List Int × (Unit × Unit))))) × Unit)) (fun rec ((t6, (t5, (out3, (_, _)))), _) =>
      bif (ilt t6 t5) then
        (c_i_natMul R out3 [10]).bind fun (r145_1, _) =>
        rec (((iadd .i64 t6 1), (t5, (r145_1, ((), ())))), ())
      else
      some (out3, ())) n ((0, (u0, ([1], ((), ())))), ())
noncomputable def p_i_natAdd (R : Run) (n : Nat) (u0 : List Int) (u1 : List Int) : Option (List Int × Unit) :=
  ok (mkOk (iadd .i64 (imax (len u0) (len u1)) 1) (iadd .i64 (imax (len u0) (len u1)) 1) 8) <|
  iter (P := (((Int × (Int × (List Int × (Unit × (Unit × Unit)))))) × (List Int × Unit))) (fun rec ((t21, (t20, (t19, (_, (_, _))))), (o0, _)) =>
      bif (ilt t21 t20) then
        ok (inB t21 (len t19)) <|
        ok (inB t21 (len o0)) <|
        ok (inB t21 (len o0)) <|
        rec (((iadd .i64 t21 1), (t20, (t19, ((), ((), ()))))), ((List.set o0 (Int.toNat t21) (iadd .i64 (List.getD o0 (Int.toNat t21) 0) (List.getD t19 (Int.toNat t21) 0))), ()))
      else
      iter (P := (((Int × (Int × (Unit × (Unit × Unit))))) × (List Int × Unit))) (fun rec_1 ((t37, (t36, (_, (_, _)))), (o0_1, _)) =>
          bif (ilt t37 t36) then
            ok (inB (iadd .i64 t37 1) (len o0_1)) <|
            ok (inB t37 (len o0_1)) <|
            ok (inB (iadd .i64 t37 1) (len o0_1)) <|
            ok (inB t37 (len (List.set o0_1 (Int.toNat (iadd .i64 t37 1)) (iadd .i64 (List.getD o0_1 (Int.toNat (iadd .i64 t37 1)) 0) (ishr .i64 (List.getD o0_1 (Int.toNat t37) 0) 16))))) <|
            ok (inB t37 (len (List.set o0_1 (Int.toNat (iadd .i64 t37 1)) (iadd .i64 (List.getD o0_1 (Int.toNat (iadd .i64 t37 1)) 0) (ishr .i64 (List.getD o0_1 (Int.toNat t37) 0) 16))))) <|
            rec_1 (((iadd .i64 t37 1), (t36, ((), ((), ())))), ((List.set (List.set o0_1 (Int.toNat (iadd .i64 t37 1)) (iadd .i64 (List.getD o0_1 (Int.toNat (iadd .i64 t37 1)) 0) (ishr .i64 (List.getD o0_1 (Int.toNat t37) 0) 16))) (Int.toNat t37) (iand .i64 (List.getD (List.set o0_1 (Int.toNat (iadd .i64 t37 1)) (iadd .i64 (List.getD o0_1 (Int.toNat (iadd .i64 t37 1)) 0) (ishr .i64 (List.getD o0_1 (Int.toNat t37) 0) 16))) (Int.toNat t37) 0) 65535)), ()))
          else
          (c_i_trim R o0_1).bind fun (r193_1, _) =>
          some (r193_1, ())) n ((0, ((isub .i64 (len o0) 1), ((), ((), ())))), (o0, ()))) n ((0, ((len u1), (u1, ((), ((), ()))))), ((copied (List.replicate (Int.toNat (iadd .i64 (imax (len u0) (len u1)) 1)) 0) u0), ()))
noncomputable def p_i_BitPartOf (R : Run) (n : Nat) (u0 : Int) (u1 : Int) : Option (Bool × (Int × (Int × (Bool × Unit)))) :=
  (c_i_formatOf R u0).bind fun (r169_1, (r169b, (r169c, (r169d, (r169e, _))))) =>
  jb (P := (((Bool × (Unit × (Int × (Unit × (Bool × Unit)))))) × (((Bool × (Int × (Int × Unit)))) × (((Int × (Int × (Int × (Int × Unit))))) × Unit)))) (
      (c_i_BitOk R u0 u1).bind fun (r101_1, _) =>
      bif (!r101_1) then
        some (.inr ((true, ((), (u1, ((), (false, ()))))), ((false, (0, (0, ()))), ((r169_1, (r169b, (r169c, (r169d, ())))), ()))))
      else
      (c_i_size R u1).bind fun (r113_1, _) =>
      some (.inr (((r113_1 == r169d), ((), (u1, ((), (false, ()))))), ((false, (0, (0, ()))), ((r169_1, (r169b, (r169c, (r169d, ())))), ()))))) fun ((t25, (_, (ord1, (_, (t5, _))))), ((o0a, (o0b, (o0c, _))), ((o1a, (o1b, (o1c, (o1d, _)))), _))) =>
  bif t25 then
    some (false, (0, (0, (false, ()))))
  else
  (c_i_size R ord1).bind fun (r113_2_1, _) =>
  ok (ile 0 o1a) <|
  (c_i_size R ord1).bind fun (r113_3_1, _) =>
  ok (ile 0 o1a) <|
  bif ((ishr .i64 r113_3_1 o1a) == 0) then
    some ((ilt ord1 0), ((IntKind.wrap .u64 (iand .i64 r113_2_1 (isub .i64 (ishl .i64 1 o1a) 1))), (o1b, (true, ()))))
  else
  ok (ile 0 o1a) <|
  some ((ilt ord1 0), ((IntKind.wrap .u64 (ior .i64 (iand .i64 r113_2_1 (isub .i64 (ishl .i64 1 o1a) 1)) (ishl .i64 1 o1a))), ((isub .i64 (iadd .i64 o1b (ishr .i64 r113_3_1 o1a)) 1), (true, ()))))
noncomputable def p_i_natOf (R : Run) (n : Nat) (u0 : Int) : Option (List Int × Unit) :=
  iter (P := (((Int × (Unit × (Unit × Unit)))) × (List Int × Unit))) (fun rec ((n0, (_, (_, _))), (o0, _)) =>
      bif (ilt 0 n0) then
        ok (aok (o0 ++ [(IntKind.wrap .i64 (iand .u64 n0 65535))]) 8) <|
        rec (((ishr .u64 n0 16), ((), ((), ()))), ((o0 ++ [(IntKind.wrap .i64 (iand .u64 n0 65535))]), ()))
      else
      some (o0, ())) n ((u0, ((), ((), ()))), ([], ()))
noncomputable def p_i_whole (R : Run) (n : Nat) (u0 : Bool) (u1 : List Int) : Option (Bool × (List Int × (List Int × Unit))) :=
  jb (P := (((Unit × Unit)) × (((Bool × (List Int × (Unit × Unit)))) × (List Int × Unit)))) (
      bif u0 then
        some (.inr (((), ()), (((ilt 0 (len u1)), (u1, ((), ()))), ([1], ()))))
      else
      some (.inr (((), ()), ((false, (u1, ((), ()))), ([1], ()))))) fun ((_, _), ((o0a, (o0b, (_, _))), (o1, _))) =>
  some (o0a, (o0b, (o1, ())))
noncomputable def p_i_natShift (R : Run) (n : Nat) (u0 : List Int) (u1 : Int) : Option (List Int × Unit) :=
  bif (ilt u1 0) then
    bif (ile (len u0) (iquo .i64 (ineg .i64 u1) 16)) then
      some ([], ())
    else
    ok (sliceOk (iquo .i64 (ineg .i64 u1) 16) (len u0) (len u0)) <|
    (c_slices_Clone_int_int R (List.drop (Int.toNat (iquo .i64 (ineg .i64 u1) 16)) (List.take (Int.toNat (len u0)) u0))).bind fun (r105_1, _) =>
    iter (P := (((Int × (Int × (Unit × (Int × (Int × (List Int × (Int × (Unit × Unit))))))))) × (List Int × Unit))) (fun rec ((t31, (t30, (_, (rest6, (drop5, (a0, (k1, (_, _)))))))), (o0, _)) =>
        bif (ilt t31 t30) then
          jb (P := (((Int × (Int × (Unit × (Int × (Int × (List Int × (Int × (Unit × Unit))))))))) × (List Int × Unit))) (
              ok (inB t31 (len o0)) <|
              ok (ile 0 rest6) <|
              ok (inB t31 (len o0)) <|
              bif (ilt (iadd .i64 (iadd .i64 drop5 t31) 1) (len a0)) then
                ok (inB t31 (len (List.set o0 (Int.toNat t31) (ishr .i64 (List.getD o0 (Int.toNat t31) 0) rest6)))) <|
                ok (inB (iadd .i64 (iadd .i64 drop5 t31) 1) (len a0)) <|
                ok (ile 0 (isub .i64 16 rest6)) <|
                ok (inB t31 (len (List.set o0 (Int.toNat t31) (ishr .i64 (List.getD o0 (Int.toNat t31) 0) rest6)))) <|
                some (.inr ((t31, (t30, ((), (rest6, (drop5, (a0, (k1, ((), ())))))))), ((List.set (List.set o0 (Int.toNat t31) (ishr .i64 (List.getD o0 (Int.toNat t31) 0) rest6)) (Int.toNat t31) (ior .i64 (List.getD (List.set o0 (Int.toNat t31) (ishr .i64 (List.getD o0 (Int.toNat t31) 0) rest6)) (Int.toNat t31) 0) (iand .i64 (ishl .i64 (List.getD a0 (Int.toNat (iadd .i64 (iadd .i64 drop5 t31) 1)) 0) (isub .i64 16 rest6)) 65535))), ())))
              else
              some (.inr ((t31, (t30, ((), (rest6, (drop5, (a0, (k1, ((), ())))))))), ((List.set o0 (Int.toNat t31) (ishr .i64 (List.getD o0 (Int.toNat t31) 0) rest6)), ())))) fun ((t31_1, (t30_1, (_, (rest6_1, (drop5_1, (a0_1, (k1_1, (_, _)))))))), (o0_1, _)) =>
          rec (((iadd .i64 t31_1 1), (t30_1, ((), (rest6_1, (drop5_1, (a0_1, (k1_1, ((), ())))))))), (o0_1, ()))
        else
        (c_i_trim R o0).bind fun (r73_1, _) =>
        some (r73_1, ())) n ((0, ((len r105_1), ((), ((irem .i64 (ineg .i64 u1) 16), ((iquo .i64 (ineg .i64 u1) 16), (u0, (u1, ((), ())))))))), (r105_1, ()))
  else
  ok (mkOk (iadd .i64 (iadd .i64 (iquo .i64 u1 16) (len u0)) 1) (iadd .i64 (iadd .i64 (iquo .i64 u1 16) (len u0)) 1) 8) <|
  iter (P := (((Int × (Int × (List Int × (Int × (Unit × (Unit × Unit))))))) × (List Int × Unit))) (fun rec_1 ((t77, (t76, (t75, (k1_2, (_, (_, _)))))), (o0_2, _)) =>
      bif (ilt t77 t76) then
        ok (inB t77 (len t75)) <|
        ok (ile 0 (irem .i64 k1_2 16)) <|
        ok (inB (iadd .i64 (iquo .i64 k1_2 16) t77) (len o0_2)) <|
        ok (inB (iadd .i64 (iquo .i64 k1_2 16) t77) (len o0_2)) <|
        ok (inB (iadd .i64 (iadd .i64 (iquo .i64 k1_2 16) t77) 1) (len (List.set o0_2 (Int.toNat (iadd .i64 (iquo .i64 k1_2 16) t77)) (ior .i64 (List.getD o0_2 (Int.toNat (iadd .i64 (iquo .i64 k1_2 16) t77)) 0) (iand .i64 (ishl .i64 (List.getD t75 (Int.toNat t77) 0) (irem .i64 k1_2 16)) 65535))))) <|
        rec_1 (((iadd .i64 t77 1), (t76, (t75, (k1_2, ((), ((), ())))))), ((List.set (List.set o0_2 (Int.toNat (iadd .i64 (iquo .i64 k1_2 16) t77)) (ior .i64 (List.getD o0_2 (Int.toNat (iadd .i64 (iquo .i64 k1_2 16) t77)) 0) (iand .i64 (ishl .i64 (List.getD t75 (Int.toNat t77) 0) (irem .i64 k1_2 16)) 65535))) (Int.toNat (iadd .i64 (iadd .i64 (iquo .i64 k1_2 16) t77) 1)) (ishr .i64 (ishl .i64 (List.getD t75 (Int.toNat t77) 0) (irem .i64 k1_2 16)) 16)), ()))
      else
      (c_i_trim R o0_2).bind fun (r73_2_1, _) =>
      some (r73_2_1, ())) n ((0, ((len u0), (u0, (u1, ((), ((), ())))))), ((List.replicate (Int.toNat (iadd .i64 (iadd .i64 (iquo .i64 u1 16) (len u0)) 1)) 0), ()))
noncomputable def p_i_lowest (R : Run) (n : Nat) (u0 : Bool) (u1 : List Int) (u2 : List Int) : Option (Bool × (List Int × (List Int × Unit))) :=
  (c_i_natGcd R u1 u2).bind fun (r194_1, _) =>
  jb (P := (((Bool × (List Int × (List Int × (Unit × Unit))))) × (((Bool × (Unit × (Unit × Unit)))) × Unit))) (
      (c_i_natCmp R r194_1 [1]).bind fun (r148_1, _) =>
      bif (r148_1 != 0) then
        (c_i_natDiv R u1 r194_1).bind fun (r195_1, (r195b, _)) =>
        (c_i_natDiv R u2 r194_1).bind fun (r195_2_1, (r195_2b, _)) =>
        some (.inr ((u0, (r195_1, (r195_2_1, ((), ())))), ((false, ((), ((), ()))), ())))
      else
      some (.inr ((u0, (u1, (u2, ((), ())))), ((false, ((), ((), ()))), ())))) fun ((below0, (top1, (bottom2, (_, _)))), ((o0, (_, (_, _))), _)) =>
  jb (P := (((Unit × Unit)) × (((Bool × (List Int × (List Int × Unit)))) × Unit))) (
      bif below0 then
        some (.inr (((), ()), (((ilt 0 (len top1)), (top1, (bottom2, ()))), ())))
      else
      some (.inr (((), ()), ((false, (top1, (bottom2, ()))), ())))) fun ((_, _), ((o0a, (o0b, (o0c, _))), _)) =>
  some (o0a, (o0b, (o0c, ())))
noncomputable def p_s_FracOk (R : Run) (n : Nat) (u0 : Bool) (u1 : List Int) (u2 : List Int) : Option (Bool × Unit) :=
  jb (P := (((Bool × (Unit × (Bool × Unit)))) × (((Bool × (List Int × (List Int × Unit)))) × Unit))) (
      (c_s_NatOk R u1).bind fun (r68_1, _) =>
      bif (!r68_1) then
        some (.inr ((true, ((), (false, ()))), ((u0, (u1, (u2, ()))), ())))
      else
      (c_s_NatOk R u2).bind fun (r68_2_1, _) =>
      bif (!r68_2_1) then
        some (.inr ((true, ((), (false, ()))), ((u0, (u1, (u2, ()))), ())))
      else
      bif ((len u2) == 0) then
        some (.inr ((true, ((), (false, ()))), ((u0, (u1, (u2, ()))), ())))
      else
      bif ((len u1) == 0) then
        some (.inr ((u0, ((), (false, ()))), ((u0, (u1, (u2, ()))), ())))
      else
      some (.inr ((false, ((), (false, ()))), ((u0, (u1, (u2, ()))), ())))) fun ((t28, (_, (t2, _))), ((o0a, (o0b, (o0c, _))), _)) =>
  bif t28 then
    some (false, ())
  else
  (c_s_l5Gcd R o0b o0c).bind fun (r75_1, _) =>
  (c_s_l6One R r75_1).bind fun (r74_1, _) =>
  some (r74_1, ())
noncomputable def p_s_l6One (R : Run) (n : Nat) (u0 : List Int) : Option (Bool × Unit) :=
  jb (P := (((Bool × Unit)) × Unit)) (
      bif ((len u0) == 1) then
        ok (inB 0 (len u0)) <|
        some (.inr ((((List.getD u0 (Int.toNat 0) 0) == 1), ()), ()))
      else
      some (.inr ((false, ()), ()))) fun ((t2, _), _) =>
  some (t2, ())
noncomputable def p_i_trim (R : Run) (n : Nat) (u0 : List Int) : Option (List Int × Unit) :=
  iter (P := (((List Int × (Unit × Unit))) × Unit)) (fun rec ((a0, (_, _)), _) =>
      jb (P := (((Bool × (List Int × (Unit × Unit)))) × Unit)) (
          bif (ilt 0 (len a0)) then
            ok (inB (isub .i64 (len a0) 1) (len a0)) <|
            some (.inr ((((List.getD a0 (Int.toNat (isub .i64 (len a0) 1)) 0) == 0), (a0, ((), ()))), ()))
          else
          some (.inr ((false, (a0, ((), ()))), ()))) fun ((t14, (a0_1, (_, _))), _) =>
      bif t14 then
        ok (sliceOk 0 (isub .i64 (len a0_1) 1) (len a0_1)) <|
        rec (((List.drop (Int.toNat 0) (List.take (Int.toNat (isub .i64 (len a0_1) 1)) a0_1)), ((), ())), ())
      else
      some (a0_1, ())) n ((u0, ((), ())), ())
noncomputable def p_math_bits_Len (R : Run) (n : Nat) (u0 : Int) : Option (Int × Unit) :=
  (c_math_bits_Len64 R u0).bind fun (r108_1, _) =>
  some (r108_1, ())
noncomputable def p_i_size (R : Run) (n : Nat) (u0 : Int) : Option (Int × Unit) :=
  some ((imax u0 (ineg .i64 u0)), ())
noncomputable def p_i_natGcd (R : Run) (n : Nat) (u0 : List Int) (u1 : List Int) : Option (List Int × Unit) :=
  iter (P := (((List Int × (List Int × (Unit × Unit)))) × Unit)) (fun rec ((b1, (a0, (_, _))), _) =>
      bif (ilt 0 (len b1)) then
        (c_i_natDiv R a0 b1).bind fun (r91_1, (r91b, _)) =>
        rec ((r91b, (b1, ((), ()))), ())
      else
      some (a0, ())) n ((u1, (u0, ((), ()))), ())
noncomputable def p_s_l5Gcd (R : Run) (n : Nat) (u0 : List Int) (u1 : List Int) : Option (List Int × Unit) :=
  (c_s_l5Trim R u0).bind fun (r79_1, _) =>
  (c_s_l5Trim R u1).bind fun (r79_2_1, _) =>
  iter (P := (((List Int × (List Int × (Unit × Unit)))) × Unit)) (fun rec ((y6, (x5, (_, _))), _) =>
      bif (ilt 0 (len y6)) then
        (c_s_l5Div R x5 y6).bind fun (r87_1, (r87b, _)) =>
        rec ((r87b, (y6, ((), ()))), ())
      else
      some (x5, ())) n ((r79_2_1, (r79_1, ((), ()))), ())
noncomputable def p_math_bits_Len64 (R : Run) (n : Nat) (u0 : Int) : Option (Int × Unit) :=
  jb (P := (((Int × (Int × Unit))) × Unit)) (
      bif (ile 4294967296 u0) then
        some (.inr (((ishr .u64 u0 32), (32, ())), ()))
      else
      some (.inr ((u0, (0, ())), ()))) fun ((x0, (n2, _)), _) =>
  jb (P := (((Int × (Int × Unit))) × Unit)) (
      bif (ile 65536 x0) then
        some (.inr (((ishr .u64 x0 16), ((iadd .i64 n2 16), ())), ()))
      else
      some (.inr ((x0, (n2, ())), ()))) fun ((x0_1, (n2_1, _)), _) =>
  jb (P := (((Int × (Int × Unit))) × Unit)) (
      bif (ile 256 x0_1) then
        some (.inr (((iadd .i64 n2_1 8), ((ishr .u64 x0_1 8), ())), ()))
      else
      some (.inr ((n2_1, (x0_1, ())), ()))) fun ((n2_2, (x0_2, _)), _) =>
  ok (inB (IntKind.wrap .u8 x0_2) (slen (bs [0, 1, 2, 2, 3, 3, 3, 3, 4, 4, 4, 4, 4, 4, 4, 4, 5, 5, 5, 5, 5, 5, 5, 5, 5, 5, 5, 5, 5, 5, 5, 5, 6, 6, 6, 6, 6, 6, 6, 6, 6, 6, 6, 6, 6, 6, 6, 6, 6, 6, 6, 6, 6, 6, 6, 6, 6, 6, 6, 6, 6, 6, 6, 6, 7, 7, 7, 7, 7, 7, 7, 7, 7, 7, 7, 7, 7, 7, 7, 7, 7, 7, 7, 7, 7, 7, 7, 7, 7, 7, 7, 7, 7, 7, 7, 7, 7, 7, 7, 7, 7, 7, 7, 7, 7, 7, 7, 7, 7, 7, 7, 7, 7, 7, 7, 7, 7, 7, 7, 7, 7, 7, 7, 7, 7, 7, 7, 7, 8, 8, 8, 8, 8, 8, 8, 8, 8, 8, 8, 8, 8, 8, 8, 8, 8, 8, 8, 8, 8, 8, 8, 8, 8, 8, 8, 8, 8, 8, 8, 8, 8, 8, 8, 8, 8, 8, 8, 8, 8, 8, 8, 8, 8, 8, 8, 8, 8, 8, 8, 8, 8, 8, 8, 8, 8, 8, 8, 8, 8, 8, 8, 8, 8, 8, 8, 8, 8, 8, 8, 8, 8, 8, 8, 8, 8, 8, 8, 8, 8, 8, 8, 8, 8, 8, 8, 8, 8, 8, 8, 8, 8, 8, 8, 8, 8, 8, 8, 8, 8, 8, 8, 8, 8, 8, 8, 8, 8, 8, 8, 8, 8, 8, 8, 8, 8, 8, 8, 8, 8, 8, 8, 8, 8, 8, 8, 8]))) <|
  some ((iadd .i64 n2_2 (IntKind.wrap .i64 (bt (bs [0, 1, 2, 2, 3, 3, 3, 3, 4, 4, 4, 4, 4, 4, 4, 4, 5, 5, 5, 5, 5, 5, 5, 5, 5, 5, 5, 5, 5, 5, 5, 5, 6, 6, 6, 6, 6, 6, 6, 6, 6, 6, 6, 6, 6, 6, 6, 6, 6, 6, 6, 6, 6, 6, 6, 6, 6, 6, 6, 6, 6, 6, 6, 6, 7, 7, 7, 7, 7, 7, 7, 7, 7, 7, 7, 7, 7, 7, 7, 7, 7, 7, 7, 7, 7, 7, 7, 7, 7, 7, 7, 7, 7, 7, 7, 7, 7, 7, 7, 7, 7, 7, 7, 7, 7, 7, 7, 7, 7, 7, 7, 7, 7, 7, 7, 7, 7, 7, 7, 7, 7, 7, 7, 7, 7, 7, 7, 7, 8, 8, 8, 8, 8, 8, 8, 8, 8, 8, 8, 8, 8, 8, 8, 8, 8, 8, 8, 8, 8, 8, 8, 8, 8, 8, 8, 8, 8, 8, 8, 8, 8, 8, 8, 8, 8, 8, 8, 8, 8, 8, 8, 8, 8, 8, 8, 8, 8, 8, 8, 8, 8, 8, 8, 8, 8, 8, 8, 8, 8, 8, 8, 8, 8, 8, 8, 8, 8, 8, 8, 8, 8, 8, 8, 8, 8, 8, 8, 8, 8, 8, 8, 8, 8, 8, 8, 8, 8, 8, 8, 8, 8, 8, 8, 8, 8, 8, 8, 8, 8, 8, 8, 8, 8, 8, 8, 8, 8, 8, 8, 8, 8, 8, 8, 8, 8, 8, 8, 8, 8, 8, 8, 8, 8, 8, 8, 8]) (IntKind.wrap .u8 x0_2)))), ())
end Go.Px.Seat
