/- Own texts, part S2: PxFns. -/
import Derived.Test.YtbdlklncblklnaaDoorA5
import Derived.Test.YtbdlklncblklnaaDoorS1
set_option linter.unusedVariables false

namespace Go.Px.Seat
open Go
def c_internal_stringslite_Index (R : Run) (u0 : ByteArray) (u1 : ByteArray) : Option (Int × Unit) := R 46 [] sg_internal_stringslite_Index (u0, (u1, ()))
def c_internal_stringslite_IndexByte (R : Run) (u0 : ByteArray) (u1 : Int) : Option (Int × Unit) := R 48 [] sg_internal_stringslite_IndexByte (u0, (u1, ()))
def c_strconv_Atoi (R : Run) (u0 : ByteArray) : Option (Int × (Bool × Unit)) := R 52 [] sg_strconv_Atoi (u0, ())
def c_w_FnTokens (R : Run) (u0 : List Int) : Option (Bool × Unit) := R 3 [] sg_w_FnTokens (u0, ())
def c_s_DrawLangTokens (R : Run) (u0 : List Int) : Option (ByteArray × Unit) := R 4 [] sg_s_DrawLangTokens (u0, ())
def c_i_LangTokens (R : Run) (u0 : ByteArray) : Option ((List ((Int × (ByteArray × Unit)))) × (Int × Unit)) := R 5 [] sg_i_LangTokens (u0, ())
def c_s_LangTokens (R : Run) (u0 : ByteArray) : Option ((List ((Int × (ByteArray × Unit)))) × (Int × Unit)) := R 6 [] sg_s_LangTokens (u0, ())
def c_i_LangNumOk (R : Run) (u0 : ByteArray) : Option (Bool × Unit) := R 7 [] sg_i_LangNumOk (u0, ())
def c_s_l34Open (R : Run) (u0 : List Int) : Option (List Int × (Int × Unit)) := R 8 [] sg_s_l34Open (u0, ())
def c_s_l34Rd_pick (R : Run) (u0 : List Int) (u1 : Int) (u2 : Int) : Option (Int × (List Int × (Int × Unit))) := R 9 [] sg_s_l34Rd_pick (u0, (u1, (u2, ())))
def c_s_TermText (R : Run) (u0 : List ((Int × (Int × (ByteArray × Unit))))) : Option (ByteArray × Unit) := R 10 [] sg_s_TermText (u0, ())
def c_s_l34Rd_any (R : Run) (u0 : List Int) (u1 : Int) : Option ((List ((Int × (Int × (ByteArray × Unit))))) × (List Int × (Int × Unit))) := R 11 [] sg_s_l34Rd_any (u0, (u1, ()))
def c_s_l34Rd_line (R : Run) (u0 : List Int) (u1 : Int) : Option (ByteArray × (List Int × (Int × Unit))) := R 12 [] sg_s_l34Rd_line (u0, (u1, ()))
def c_strings_Cut (R : Run) (u0 : ByteArray) (u1 : ByteArray) : Option (ByteArray × (ByteArray × (Bool × Unit))) := R 13 [] sg_strings_Cut (u0, (u1, ()))
def c_i_signOf (R : Run) (u0 : ByteArray) : Option (ByteArray × Unit) := R 14 [] sg_i_signOf (u0, ())
def c_i_isLetter (R : Run) (u0 : Int) : Option (Bool × Unit) := R 15 [] sg_i_isLetter (u0, ())
def c_i_isFigure (R : Run) (u0 : Int) : Option (Bool × Unit) := R 16 [] sg_i_isFigure (u0, ())
def c_i_wordLength (R : Run) (u0 : ByteArray) : Option (Int × Unit) := R 17 [] sg_i_wordLength (u0, ())
def c_i_wordOk (R : Run) (u0 : ByteArray) : Option (Bool × Unit) := R 18 [] sg_i_wordOk (u0, ())
def c_slices_Clip_impl_LangToken_impl_LangToken (R : Run) (u0 : List ((Int × (ByteArray × Unit)))) : Option ((List ((Int × (ByteArray × Unit)))) × Unit) := R 19 [] sg_slices_Clip_impl_LangToken_impl_LangToken (u0, ())
def c_s_l11Letter (R : Run) (u0 : Int) : Option (Bool × Unit) := R 20 [] sg_s_l11Letter (u0, ())
def c_s_l11Digit (R : Run) (u0 : Int) : Option (Bool × Unit) := R 21 [] sg_s_l11Digit (u0, ())
def c_s_l11End (R : Run) (u0 : ByteArray) (u1 : Int) : Option (Int × Unit) := R 22 [] sg_s_l11End (u0, (u1, ()))
def c_s_LangNumOk (R : Run) (u0 : ByteArray) : Option (Bool × Unit) := R 23 [] sg_s_LangNumOk (u0, ())
def c_s_l11Plain (R : Run) (u0 : ByteArray) : Option (Bool × Unit) := R 24 [] sg_s_l11Plain (u0, ())
def c_s_l11Sign (R : Run) (u0 : ByteArray) (u1 : Int) : Option (ByteArray × Unit) := R 25 [] sg_s_l11Sign (u0, (u1, ()))
def c_i_DecOk (R : Run) (u0 : ByteArray) : Option (Bool × Unit) := R 26 [] sg_i_DecOk (u0, ())
def c_s_TermOk (R : Run) (u0 : List ((Int × (Int × (ByteArray × Unit))))) : Option (Bool × Unit) := R 27 [] sg_s_TermOk (u0, ())
def c_s_l12Show (R : Run) (u0 : List ((Int × (Int × (ByteArray × Unit))))) (u1 : Int) (u2 : Int) : Option (ByteArray × Unit) := R 28 [] sg_s_l12Show (u0, (u1, (u2, ())))
def c_s_l34Rd_chain (R : Run) (u0 : List Int) (u1 : Int) (u2 : Int) : Option ((List ((Int × (Int × (ByteArray × Unit))))) × (List Int × (Int × Unit))) := R 29 [] sg_s_l34Rd_chain (u0, (u1, (u2, ())))
def c_s_l34Rd_term (R : Run) (u0 : List Int) (u1 : Int) (u2 : List ByteArray) (u3 : List ((ByteArray × (Int × Unit)))) (u4 : Int) : Option ((List ((Int × (Int × (ByteArray × Unit))))) × (List Int × (Int × Unit))) := R 30 [] sg_s_l34Rd_term (u0, (u1, (u2, (u3, (u4, ())))))
def c_s_l34Rd_word (R : Run) (u0 : List Int) (u1 : Int) : Option (ByteArray × (List Int × (Int × Unit))) := R 31 [] sg_s_l34Rd_word (u0, (u1, ()))
def c_s_l34Rd_name (R : Run) (u0 : List Int) (u1 : Int) : Option (ByteArray × (List Int × (Int × Unit))) := R 32 [] sg_s_l34Rd_name (u0, (u1, ()))
def c_s_l14Times (R : Run) (u0 : ByteArray) (u1 : Int) : Option (ByteArray × Unit) := R 33 [] sg_s_l14Times (u0, (u1, ()))
def c_internal_stringslite_Cut (R : Run) (u0 : ByteArray) (u1 : ByteArray) : Option (ByteArray × (ByteArray × (Bool × Unit))) := R 34 [] sg_internal_stringslite_Cut (u0, (u1, ()))
def c_strings_HasPrefix (R : Run) (u0 : ByteArray) (u1 : ByteArray) : Option (Bool × Unit) := R 35 [] sg_strings_HasPrefix (u0, (u1, ()))
def c_strings_IndexByte (R : Run) (u0 : ByteArray) (u1 : Int) : Option (Int × Unit) := R 36 [] sg_strings_IndexByte (u0, (u1, ()))
def c_i_in (R : Run) (u0 : Int) (u1 : Int) (u2 : Int) : Option (Bool × Unit) := R 37 [] sg_i_in (u0, (u1, (u2, ())))
def c_s_l11Run (R : Run) (u0 : ByteArray) (u1 : Int) : Option (Int × Unit) := R 38 [] sg_s_l11Run (u0, (u1, ()))
def c_i_literal (R : Run) (u0 : ByteArray) : Option (ByteArray × (ByteArray × (Int × (Bool × Unit)))) := R 39 [] sg_i_literal (u0, ())
def c_s_l12Args (R : Run) (u0 : Int) (u1 : Int) (u2 : ByteArray) : Option (Int × Unit) := R 40 [] sg_s_l12Args (u0, (u1, (u2, ())))
def c_s_l12Level (R : Run) (u0 : Int) (u1 : Int) (u2 : ByteArray) : Option (Int × Unit) := R 41 [] sg_s_l12Level (u0, (u1, (u2, ())))
def c_s_l12Parts (R : Run) (u0 : List ((Int × (Int × (ByteArray × Unit))))) (u1 : Int) : Option (List Int × Unit) := R 42 [] sg_s_l12Parts (u0, (u1, ()))
def c_s_l34Rd_grow (R : Run) (u0 : List Int) (u1 : Int) (u2 : List ((Int × (Int × (ByteArray × Unit))))) (u3 : List ByteArray) (u4 : List ((ByteArray × (Int × Unit)))) (u5 : Int) : Option ((List ((Int × (Int × (ByteArray × Unit))))) × (List Int × (Int × Unit))) := R 43 [] sg_s_l34Rd_grow (u0, (u1, (u2, (u3, (u4, (u5, ()))))))
def c_s_l34Rd_number (R : Run) (u0 : List Int) (u1 : Int) : Option (ByteArray × (List Int × (Int × Unit))) := R 44 [] sg_s_l34Rd_number (u0, (u1, ()))
def c_s_l34Many (R : Run) (u0 : ByteArray) (u1 : Int) : Option (ByteArray × Unit) := R 45 [] sg_s_l34Many (u0, (u1, ()))
def c_internal_stringslite_HasPrefix (R : Run) (u0 : ByteArray) (u1 : ByteArray) : Option (Bool × Unit) := R 47 [] sg_internal_stringslite_HasPrefix (u0, (u1, ()))
def c_i_wholeDigits (R : Run) (u0 : ByteArray) : Option (Bool × Unit) := R 49 [] sg_i_wholeDigits (u0, ())
def c_i_isDigits (R : Run) (u0 : ByteArray) : Option (Bool × Unit) := R 50 [] sg_i_isDigits (u0, ())
def c_strings_CutPrefix (R : Run) (u0 : ByteArray) (u1 : ByteArray) : Option (ByteArray × (Bool × Unit)) := R 51 [] sg_strings_CutPrefix (u0, (u1, ()))
def c_s_LangNameOk (R : Run) (u0 : ByteArray) : Option (Bool × Unit) := R 53 [] sg_s_LangNameOk (u0, ())
def c_s_l12Start (R : Run) (u0 : List ((Int × (Int × (ByteArray × Unit))))) (u1 : Int) : Option (Int × Unit) := R 54 [] sg_s_l12Start (u0, (u1, ()))
def c_internal_stringslite_CutPrefix (R : Run) (u0 : ByteArray) (u1 : ByteArray) : Option (ByteArray × (Bool × Unit)) := R 59 [] sg_internal_stringslite_CutPrefix (u0, (u1, ()))
def c_s_l11Word (R : Run) (u0 : ByteArray) : Option (Bool × Unit) := R 62 [] sg_s_l11Word (u0, ())

noncomputable def p_w_FnTokens (R : Run) (n : Nat) (u0 : List Int) : Option (Bool × Unit) :=
  bif (ilt 1048576 (len u0)) then
    some (true, ())
  else
  (c_s_DrawLangTokens R u0).bind fun (r4_1, _) =>
  (c_i_LangTokens R r4_1).bind fun (r5_1, (r5b, _)) =>
  (c_s_LangTokens R r4_1).bind fun (r6_1, (r6b, _)) =>
  bif (r5b != r6b) then
    some (false, ())
  else
  bif (r5b != 0) then
    some (((len r5_1) == 0), ())
  else
  iter (P := (((Int × ((List ((Int × (ByteArray × Unit)))) × (ByteArray × (ByteArray × (Bool × Unit)))))) × Unit)) (fun rec ((i9, (l4, (s8, (line3, (t2, _))))), _) =>
      bif (ilt i9 (len l4)) then
        ok (inB i9 (len l4)) <|
        ok (sok s8 (List.getD l4 (Int.toNat i9) (0, ((bs []), ()))).2.1) <|
        ok (sok (s8 ++ (List.getD l4 (Int.toNat i9) (0, ((bs []), ()))).2.1) (bs [32, 32])) <|
        rec (((iadd .i64 i9 1), (l4, (((s8 ++ (List.getD l4 (Int.toNat i9) (0, ((bs []), ()))).2.1) ++ (bs [32, 32])), (line3, (t2, ()))))), ())
      else
      ok (sok s8 (bs [35, 32])) <|
      ok (sok (s8 ++ (bs [35, 32])) line3) <|
      bif (ilt 1000 (slen ((s8 ++ (bs [35, 32])) ++ line3))) then
        some (true, ())
      else
      (c_i_LangTokens R ((s8 ++ (bs [35, 32])) ++ line3)).bind fun (r5_2_1, (r5_2b, _)) =>
      jb (P := (((Bool × ((List ((Int × (ByteArray × Unit)))) × ((List ((Int × (ByteArray × Unit)))) × (Bool × Unit))))) × Unit)) (
          bif (r5_2b != 0) then
            some (.inr ((true, (l4, (r5_2_1, (t2, ())))), ()))
          else
          some (.inr ((((len r5_2_1) != (len l4)), (l4, (r5_2_1, (t2, ())))), ()))) fun ((t70, (l4_1, (m10, (t2_1, _)))), _) =>
      bif t70 then
        some (false, ())
      else
      iter (P := (((Int × ((List ((Int × (ByteArray × Unit)))) × ((List ((Int × (ByteArray × Unit)))) × (Bool × Unit))))) × Unit)) (fun rec_1 ((i12, (l4_2, (m10_1, (t2_2, _)))), _) =>
          bif (ilt i12 (len l4_2)) then
            jb (P := (((Bool × (Int × ((List ((Int × (ByteArray × Unit)))) × ((List ((Int × (ByteArray × Unit)))) × (Bool × Unit)))))) × Unit)) (
                ok (inB i12 (len l4_2)) <|
                ok (inB i12 (len m10_1)) <|
                bif (!(((List.getD l4_2 (Int.toNat i12) (0, ((bs []), ()))).1 == (List.getD m10_1 (Int.toNat i12) (0, ((bs []), ()))).1) && ((seq (List.getD l4_2 (Int.toNat i12) (0, ((bs []), ()))).2.1 (List.getD m10_1 (Int.toNat i12) (0, ((bs []), ()))).2.1) && true))) then
                  some (.inr ((true, (i12, (l4_2, (m10_1, (t2_2, ()))))), ()))
                else
                ok (inB i12 (len l4_2)) <|
                ok (inB i12 (len l4_2)) <|
                (c_i_LangNumOk R (List.getD l4_2 (Int.toNat i12) (0, ((bs []), ()))).2.1).bind fun (r7_1, _) =>
                some (.inr (((!(beqB ((List.getD l4_2 (Int.toNat i12) (0, ((bs []), ()))).1 == 2) r7_1)), (i12, (l4_2, (m10_1, (t2_2, ()))))), ()))) fun ((t100, (i12_1, (l4_3, (m10_2, (t2_3, _))))), _) =>
            bif t100 then
              some (false, ())
            else
            rec_1 (((iadd .i64 i12_1 1), (l4_3, (m10_2, (t2_3, ())))), ())
          else
          some (true, ())) n ((0, (l4_1, (m10, (t2_1, ())))), ())) n ((0, (r5_1, ((bs [32]), (r4_1, (false, ()))))), ())
noncomputable def p_s_DrawLangTokens (R : Run) (n : Nat) (u0 : List Int) : Option (ByteArray × Unit) :=
  (c_s_l34Open R u0).bind fun (r8_1, (r8b, _)) =>
  (c_s_l34Rd_pick R r8_1 r8b 2).bind fun (r9_1, (r9b, (r9c, _))) =>
  bif (r9_1 == 0) then
    (c_s_l34Rd_any R r9b r9c).bind fun (r11_1, (r11b, (r11c, _))) =>
    (c_s_TermText R r11_1).bind fun (r10_1, _) =>
    some (r10_1, ())
  else
  (c_s_l34Rd_line R r9b r9c).bind fun (r12_1, (r12b, (r12c, _))) =>
  some (r12_1, ())
noncomputable def p_i_LangTokens (R : Run) (n : Nat) (u0 : ByteArray) : Option ((List ((Int × (ByteArray × Unit)))) × (Int × Unit)) :=
  bif (ilt 1000 (slen u0)) then
    some ([], (1, ()))
  else
  (c_strings_Cut R u0 (bs [35])).bind fun (r13_1, (r13b, (r13c, _))) =>
  iter (P := (((ByteArray × (Bool × (Unit × (Unit × (Int × Unit)))))) × ((List ((Int × (ByteArray × Unit)))) × Unit))) (fun rec ((rest4, (badNumber8, (_, (_, (t3, _))))), (o0, _)) =>
      bif (!(seq rest4 (bs []))) then
        ok (inB 0 (slen rest4)) <|
        bif ((bt rest4 0) == 32) then
          ok (sliceOk 1 (slen rest4) (slen rest4)) <|
          rec (((ByteArray.extract rest4 (Int.toNat 1) (Int.toNat (slen rest4))), (badNumber8, ((), ((), (t3, ()))))), (o0, ()))
        else
        (c_i_signOf R rest4).bind fun (r14_1, _) =>
        jb (P := (((Unit × (Unit × (ByteArray × (Bool × (Unit × (Int × Unit))))))) × (((Int × (ByteArray × Unit))) × ((List ((Int × (ByteArray × Unit)))) × Unit)))) (
            jb (P := (((Bool × (ByteArray × (Unit × (Bool × (Unit × (Unit × (Int × Unit)))))))) × (((Int × (ByteArray × Unit))) × ((List ((Int × (ByteArray × Unit)))) × Unit)))) (
                ok (inB 0 (slen rest4)) <|
                (c_i_isLetter R (bt rest4 0)).bind fun (r15_1, _) =>
                bif r15_1 then
                  some (.inr ((true, (rest4, ((), (badNumber8, ((), ((), (t3, ()))))))), ((3, (r14_1, ())), (o0, ()))))
                else
                ok (inB 0 (slen rest4)) <|
                (c_i_isFigure R (bt rest4 0)).bind fun (r16_1, _) =>
                some (.inr ((r16_1, (rest4, ((), (badNumber8, ((), ((), (t3, ()))))))), ((3, (r14_1, ())), (o0, ()))))) fun ((t36, (rest4_1, (_, (badNumber8_1, (_, (_, (t3_1, _))))))), ((o0a, (o0b, _)), (o1, _))) =>
            bif t36 then
              (c_i_wordLength R rest4_1).bind fun (r17_1, _) =>
              ok (sliceOk 0 r17_1 (slen rest4_1)) <|
              ok (inB 0 (slen rest4_1)) <|
              (c_i_isFigure R (bt rest4_1 0)).bind fun (r16_2_1, _) =>
              bif r16_2_1 then
                bif badNumber8_1 then
                  some (.inr (((), ((), (rest4_1, (true, ((), (t3_1, ())))))), ((2, ((ByteArray.extract rest4_1 (Int.toNat 0) (Int.toNat r17_1)), ())), (o1, ()))))
                else
                (c_i_LangNumOk R (ByteArray.extract rest4_1 (Int.toNat 0) (Int.toNat r17_1))).bind fun (r7_1, _) =>
                some (.inr (((), ((), (rest4_1, ((!r7_1), ((), (t3_1, ())))))), ((2, ((ByteArray.extract rest4_1 (Int.toNat 0) (Int.toNat r17_1)), ())), (o1, ()))))
              else
              some (.inr (((), ((), (rest4_1, (badNumber8_1, ((), (t3_1, ())))))), ((1, ((ByteArray.extract rest4_1 (Int.toNat 0) (Int.toNat r17_1)), ())), (o1, ()))))
            else
            some (.inr (((), ((), (rest4_1, (badNumber8_1, ((), (t3_1, ())))))), ((o0a, (o0b, ())), (o1, ()))))) fun ((_, (_, (rest4_2, (badNumber8_2, (_, (t3_2, _)))))), ((o0a_1, (o0b_1, _)), (o1_1, _))) =>
        jb (P := (((Bool × (Unit × (Unit × (ByteArray × (Bool × (Unit × (Int × Unit)))))))) × ((List ((Int × (ByteArray × Unit)))) × (((Int × (ByteArray × Unit))) × Unit)))) (
            bif (seq o0b_1 (bs [])) then
              some (.inr ((true, ((), ((), (rest4_2, (badNumber8_2, ((), (t3_2, ()))))))), (o1_1, ((o0a_1, (o0b_1, ())), ()))))
            else
            bif (o0a_1 == 1) then
              (c_i_wordOk R o0b_1).bind fun (r18_1, _) =>
              some (.inr (((!r18_1), ((), ((), (rest4_2, (badNumber8_2, ((), (t3_2, ()))))))), (o1_1, ((o0a_1, (o0b_1, ())), ()))))
            else
            some (.inr ((false, ((), ((), (rest4_2, (badNumber8_2, ((), (t3_2, ()))))))), (o1_1, ((o0a_1, (o0b_1, ())), ()))))) fun ((t66, (_, (_, (rest4_3, (badNumber8_3, (_, (t3_3, _))))))), (o0_1, ((o1a, (o1b, _)), _))) =>
        bif t66 then
          some ([], (2, ()))
        else
        ok (aok (o0_1 ++ [(o1a, (o1b, ()))]) 24) <|
        ok (sliceOk (slen o1b) (slen rest4_3) (slen rest4_3)) <|
        rec (((ByteArray.extract rest4_3 (Int.toNat (slen o1b)) (Int.toNat (slen rest4_3))), (badNumber8_3, ((), ((), (t3_3, ()))))), ((o0_1 ++ [(o1a, (o1b, ()))]), ()))
      else
      bif badNumber8 then
        some ([], (3, ()))
      else
      bif (ilt 300 (len o0)) then
        some ([], (5, ()))
      else
      (c_slices_Clip_impl_LangToken_impl_LangToken R o0).bind fun (r19_1, _) =>
      some (r19_1, (0, ()))) n ((r13_1, (false, ((), ((), (0, ()))))), ([], ()))
noncomputable def p_s_LangTokens (R : Run) (n : Nat) (u0 : ByteArray) : Option ((List ((Int × (ByteArray × Unit)))) × (Int × Unit)) :=
  bif (ilt 1000 (slen u0)) then
    some ([], (1, ()))
  else
  iter (P := (((Int × (ByteArray × (Int × (Unit × (Unit × (Int × Unit))))))) × ((List ((Int × (ByteArray × Unit)))) × Unit))) (fun rec ((at6, (line0, (bad5, (_, (_, (t3, _)))))), (o0, _)) =>
      jb (P := (((Bool × (ByteArray × (Int × (Int × (Unit × (Unit × (Int × Unit)))))))) × ((List ((Int × (ByteArray × Unit)))) × Unit))) (
          bif (ilt at6 (slen line0)) then
            ok (inB at6 (slen line0)) <|
            some (.inr ((((bt line0 at6) != 35), (line0, (at6, (bad5, ((), ((), (t3, ()))))))), (o0, ())))
          else
          some (.inr ((false, (line0, (at6, (bad5, ((), ((), (t3, ()))))))), (o0, ())))) fun ((t23, (line0_1, (at6_1, (bad5_1, (_, (_, (t3_1, _))))))), (o0_1, _)) =>
      bif t23 then
        ok (inB at6_1 (slen line0_1)) <|
        bif ((bt line0_1 at6_1) == 32) then
          rec (((iadd .i64 at6_1 1), (line0_1, (bad5_1, ((), ((), (t3_1, ())))))), (o0_1, ()))
        else
        jb (P := (((Bool × (ByteArray × (Int × (Int × (Int × (Unit × (Unit × (Int × Unit))))))))) × ((List ((Int × (ByteArray × Unit)))) × Unit))) (
            (c_s_l11Letter R (bt line0_1 at6_1)).bind fun (r20_1, _) =>
            bif r20_1 then
              some (.inr ((true, (line0_1, (at6_1, ((bt line0_1 at6_1), (bad5_1, ((), ((), (t3_1, ())))))))), (o0_1, ())))
            else
            (c_s_l11Digit R (bt line0_1 at6_1)).bind fun (r21_1, _) =>
            some (.inr ((r21_1, (line0_1, (at6_1, ((bt line0_1 at6_1), (bad5_1, ((), ((), (t3_1, ())))))))), (o0_1, ())))) fun ((t36, (line0_2, (at6_2, (c7, (bad5_2, (_, (_, (t3_2, _)))))))), (o0_2, _)) =>
        bif t36 then
          (c_s_l11End R line0_2 at6_2).bind fun (r22_1, _) =>
          ok (sliceOk at6_2 r22_1 (slen line0_2)) <|
          jb (P := (((Unit × (Unit × (Int × (ByteArray × (Int × (Int × (Unit × (Int × Unit))))))))) × ((List ((Int × (ByteArray × Unit)))) × (((Int × (ByteArray × Unit))) × Unit)))) (
              (c_s_l11Digit R c7).bind fun (r21_2_1, _) =>
              bif r21_2_1 then
                jb (P := (((Bool × (Unit × (Unit × (Int × (ByteArray × (Int × (Int × (Unit × (Int × Unit)))))))))) × ((List ((Int × (ByteArray × Unit)))) × (((Int × (ByteArray × Unit))) × Unit)))) (
                    bif (bad5_2 == 0) then
                      (c_s_LangNumOk R (ByteArray.extract line0_2 (Int.toNat at6_2) (Int.toNat r22_1))).bind fun (r23_1, _) =>
                      some (.inr (((!r23_1), ((), ((), (r22_1, (line0_2, (at6_2, (bad5_2, ((), (t3_2, ()))))))))), (o0_2, ((2, ((ByteArray.extract line0_2 (Int.toNat at6_2) (Int.toNat r22_1)), ())), ()))))
                    else
                    some (.inr ((false, ((), ((), (r22_1, (line0_2, (at6_2, (bad5_2, ((), (t3_2, ()))))))))), (o0_2, ((2, ((ByteArray.extract line0_2 (Int.toNat at6_2) (Int.toNat r22_1)), ())), ()))))) fun ((t55, (_, (_, (end8, (line0_3, (at6_3, (bad5_3, (_, (t3_3, _))))))))), (o0_3, ((o1a, (o1b, _)), _))) =>
                bif t55 then
                  some (.inr (((), ((), (end8, (line0_3, (at6_3, (3, ((), (t3_3, ())))))))), (o0_3, ((o1a, (o1b, ())), ()))))
                else
                some (.inr (((), ((), (end8, (line0_3, (at6_3, (bad5_3, ((), (t3_3, ())))))))), (o0_3, ((o1a, (o1b, ())), ()))))
              else
              (c_s_l11Plain R (ByteArray.extract line0_2 (Int.toNat at6_2) (Int.toNat r22_1))).bind fun (r24_1, _) =>
              bif (!r24_1) then
                some (.inl ([], (2, ())))
              else
              some (.inr (((), ((), (r22_1, (line0_2, (at6_2, (bad5_2, ((), (t3_2, ())))))))), (o0_2, ((1, ((ByteArray.extract line0_2 (Int.toNat at6_2) (Int.toNat r22_1)), ())), ()))))) fun ((_, (_, (end8_1, (line0_4, (at6_4, (bad5_4, (_, (t3_4, _)))))))), (o0_4, ((o1a_1, (o1b_1, _)), _))) =>
          ok (aok (o0_4 ++ [(o1a_1, (o1b_1, ()))]) 24) <|
          rec ((end8_1, (line0_4, (bad5_4, ((), ((), (t3_4, ())))))), ((o0_4 ++ [(o1a_1, (o1b_1, ()))]), ()))
        else
        (c_s_l11Sign R line0_2 at6_2).bind fun (r25_1, _) =>
        bif (seq r25_1 (bs [])) then
          some ([], (2, ()))
        else
        ok (aok (o0_2 ++ [(3, (r25_1, ()))]) 24) <|
        rec (((iadd .i64 at6_2 (slen r25_1)), (line0_2, (bad5_2, ((), ((), (t3_2, ())))))), ((o0_2 ++ [(3, (r25_1, ()))]), ()))
      else
      bif (bad5_1 != 0) then
        some ([], (bad5_1, ()))
      else
      bif (ilt 300 (len o0_1)) then
        some ([], (5, ()))
      else
      some (o0_1, (0, ()))) n ((0, (u0, (0, ((), ((), (0, ())))))), ([], ()))
noncomputable def p_i_LangNumOk (R : Run) (n : Nat) (u0 : ByteArray) : Option (Bool × Unit) :=
  jb (P := (((Bool × Unit)) × Unit)) (
      (c_i_DecOk R u0).bind fun (r26_1, _) =>
      bif r26_1 then
        some (.inr (((ile (slen u0) 60), ()), ()))
      else
      some (.inr ((false, ()), ()))) fun ((t2, _), _) =>
  some (t2, ())
noncomputable def p_s_l34Open (R : Run) (n : Nat) (u0 : List Int) : Option (List Int × (Int × Unit)) :=
  jb (P := (((List Int × (Unit × Unit))) × Unit)) (
      bif (ilt 2000 (len u0)) then
        ok (sliceOk 0 2000 (len u0)) <|
        some (.inr (((List.drop (Int.toNat 0) (List.take (Int.toNat 2000) u0)), ((), ())), ()))
      else
      some (.inr ((u0, ((), ())), ()))) fun ((code0, (_, _)), _) =>
  some (code0, (0, ()))
noncomputable def p_s_l34Rd_pick (R : Run) (n : Nat) (u0 : List Int) (u1 : Int) (u2 : Int) : Option (Int × (List Int × (Int × Unit))) :=
  jb (P := (((Bool × (Unit × (Int × (Int × Unit))))) × (((List Int × (Int × Unit))) × Unit))) (
      bif (ilt u2 1) then
        some (.inr ((true, ((), (u2, (0, ())))), ((u0, ((iadd .i64 u1 1), ())), ())))
      else
      some (.inr ((((len u0) == 0), ((), (u2, (0, ())))), ((u0, ((iadd .i64 u1 1), ())), ())))) fun ((t24, (_, (n1, (t4, _)))), ((o0a, (o0b, _)), _)) =>
  bif t24 then
    some (0, (o0a, (o0b, ())))
  else
  bif (ilt (isub .i64 o0b 1) (len o0a)) then
    ok (inB (isub .i64 o0b 1) (len o0a)) <|
    ok (!(n1 == 0)) <|
    some ((irem .i64 (IntKind.wrap .i64 (List.getD o0a (Int.toNat (isub .i64 o0b 1)) 0)) n1), (o0a, (o0b, ())))
  else
  ok (!((len o0a) == 0)) <|
  ok (inB (irem .i64 (isub .i64 o0b 1) (len o0a)) (len o0a)) <|
  ok (!((len o0a) == 0)) <|
  ok (inB (irem .i64 (iadd .i64 (imul .i64 (isub .i64 o0b 1) 7) 3) (len o0a)) (len o0a)) <|
  ok (!((len o0a) == 0)) <|
  ok (!(n1 == 0)) <|
  some ((irem .i64 (ixor .i64 (iadd .i64 (iadd .i64 (iadd .i64 (imul .i64 (IntKind.wrap .i64 (List.getD o0a (Int.toNat (irem .i64 (isub .i64 o0b 1) (len o0a))) 0)) 131) (imul .i64 (IntKind.wrap .i64 (List.getD o0a (Int.toNat (irem .i64 (iadd .i64 (imul .i64 (isub .i64 o0b 1) 7) 3) (len o0a))) 0)) 1117)) (imul .i64 (isub .i64 o0b 1) 29)) (imul .i64 (iquo .i64 (isub .i64 o0b 1) (len o0a)) 53)) (iquo .i64 (iadd .i64 (iadd .i64 (iadd .i64 (imul .i64 (IntKind.wrap .i64 (List.getD o0a (Int.toNat (irem .i64 (isub .i64 o0b 1) (len o0a))) 0)) 131) (imul .i64 (IntKind.wrap .i64 (List.getD o0a (Int.toNat (irem .i64 (iadd .i64 (imul .i64 (isub .i64 o0b 1) 7) 3) (len o0a))) 0)) 1117)) (imul .i64 (isub .i64 o0b 1) 29)) (imul .i64 (iquo .i64 (isub .i64 o0b 1) (len o0a)) 53)) 64)) n1), (o0a, (o0b, ())))
noncomputable def p_s_TermText (R : Run) (n : Nat) (u0 : List ((Int × (Int × (ByteArray × Unit))))) : Option (ByteArray × Unit) :=
  (c_s_TermOk R u0).bind fun (r27_1, _) =>
  bif (!r27_1) then
    some ((bs []), ())
  else
  (c_s_l12Show R u0 (isub .i64 (len u0) 1) 1).bind fun (r28_1, _) =>
  some (r28_1, ())
noncomputable def p_s_l34Rd_any (R : Run) (n : Nat) (u0 : List Int) (u1 : Int) : Option ((List ((Int × (Int × (ByteArray × Unit))))) × (List Int × (Int × Unit))) :=
  (c_s_l34Rd_pick R u0 u1 20).bind fun (r9_1, (r9b, (r9c, _))) =>
  bif (r9_1 == 0) then
    (c_s_l34Rd_pick R r9b r9c 4).bind fun (r9_2_1, (r9_2b, (r9_2c, _))) =>
    (c_s_l34Rd_chain R r9_2b r9_2c (iadd .i64 99 r9_2_1)).bind fun (r29_1, (r29b, (r29c, _))) =>
    some (r29_1, (r29b, (r29c, ())))
  else
  (c_s_l34Rd_pick R r9b r9c 5).bind fun (r9_3_1, (r9_3b, (r9_3c, _))) =>
  (c_s_l34Rd_term R r9_3b r9_3c [(bs [120]), (bs [121]), (bs [97])] [((bs [102]), (1, ())), ((bs [103]), (2, ())), ((bs [104]), (6, ()))] (iadd .i64 1 r9_3_1)).bind fun (r30_1, (r30b, (r30c, _))) =>
  (c_s_l34Rd_pick R r30b r30c 15).bind fun (r9_4_1, (r9_4b, (r9_4c, _))) =>
  bif (ilt 0 r9_4_1) then
    some (r30_1, (r9_4b, (r9_4c, ())))
  else
  (c_s_l34Rd_pick R r9_4b r9_4c (len r30_1)).bind fun (r9_5_1, (r9_5b, (r9_5c, _))) =>
  jb (P := (((Unit × (Unit × (Unit × Unit)))) × ((((List ((Int × (Int × (ByteArray × Unit))))) × Unit)) × (((Unit × Unit)) × (((List Int × (Int × Unit))) × Unit))))) (
      (c_s_l34Rd_pick R r9_5b r9_5c 7).bind fun (r9_6_1, (r9_6b, (r9_6c, _))) =>
      bif (r9_6_1 == 0) then
        (c_s_l34Rd_pick R r9_6b r9_6c 16).bind fun (r9_7_1, (r9_7b, (r9_7c, _))) =>
        ok (inB r9_5_1 (len r30_1)) <|
        some (.inr (((), ((), ((), ()))), (((List.set r30_1 (Int.toNat r9_5_1) ((isub .i64 r9_7_1 1), ((List.getD r30_1 (Int.toNat r9_5_1) (0, (0, ((bs []), ())))).2.1, ((List.getD r30_1 (Int.toNat r9_5_1) (0, (0, ((bs []), ())))).2.2.1, ())))), ()), (((), ()), ((r9_7b, (r9_7c, ())), ())))))
      else
      bif (r9_6_1 == 1) then
        (c_s_l34Rd_pick R r9_6b r9_6c 11).bind fun (r9_8_1, (r9_8b, (r9_8c, _))) =>
        ok (inB r9_5_1 (len r30_1)) <|
        some (.inr (((), ((), ((), ()))), (((List.set r30_1 (Int.toNat r9_5_1) ((List.getD r30_1 (Int.toNat r9_5_1) (0, (0, ((bs []), ())))).1, ((isub .i64 r9_8_1 1), ((List.getD r30_1 (Int.toNat r9_5_1) (0, (0, ((bs []), ())))).2.2.1, ())))), ()), (((), ()), ((r9_8b, (r9_8c, ())), ())))))
      else
      bif (r9_6_1 == 2) then
        (c_s_l34Rd_pick R r9_6b r9_6c 5).bind fun (r9_9_1, (r9_9b, (r9_9c, _))) =>
        ok (inB r9_9_1 (len [(bs []), (bs [120]), (bs [49]), (bs [115, 113, 114, 116]), (bs [48, 49])])) <|
        ok (inB r9_5_1 (len r30_1)) <|
        some (.inr (((), ((), ((), ()))), (((List.set r30_1 (Int.toNat r9_5_1) ((List.getD r30_1 (Int.toNat r9_5_1) (0, (0, ((bs []), ())))).1, ((List.getD r30_1 (Int.toNat r9_5_1) (0, (0, ((bs []), ())))).2.1, ((List.getD [(bs []), (bs [120]), (bs [49]), (bs [115, 113, 114, 116]), (bs [48, 49])] (Int.toNat r9_9_1) (bs [])), ())))), ()), (((), ()), ((r9_9b, (r9_9c, ())), ())))))
      else
      bif (r9_6_1 == 3) then
        ok (aok (r30_1 ++ [(2, (0, ((bs [120]), ())))]) 32) <|
        some (.inr (((), ((), ((), ()))), (((r30_1 ++ [(2, (0, ((bs [120]), ())))]), ()), (((), ()), ((r9_6b, (r9_6c, ())), ())))))
      else
      bif (r9_6_1 == 4) then
        ok (sliceOk 0 r9_5_1 (len r30_1)) <|
        some (.inr (((), ((), ((), ()))), (((part r30_1 (Int.toNat 0) ((Int.toNat r9_5_1) - (Int.toNat 0))), ()), (((), ()), ((r9_6b, (r9_6c, ())), ())))))
      else
      bif (r9_6_1 == 5) then
        ok (aok (r30_1 ++ [(4, (0, ((bs []), ())))]) 32) <|
        some (.inr (((), ((), ((), ()))), (((r30_1 ++ [(4, (0, ((bs []), ())))]), ()), (((), ()), ((r9_6b, (r9_6c, ())), ())))))
      else
      bif (r9_6_1 == 6) then
        ok (inB r9_5_1 (len r30_1)) <|
        some (.inr (((), ((), ((), ()))), (((List.set r30_1 (Int.toNat r9_5_1) (13, (7, ((bs [102]), ())))), ()), (((), ()), ((r9_6b, (r9_6c, ())), ())))))
      else
      some (.inr (((), ((), ((), ()))), ((r30_1, ()), (((), ()), ((r9_6b, (r9_6c, ())), ())))))) fun ((_, (_, (_, _))), ((o0, _), ((_, _), ((o2a, (o2b, _)), _)))) =>
  some (o0, (o2a, (o2b, ())))
noncomputable def p_s_l34Rd_line (R : Run) (n : Nat) (u0 : List Int) (u1 : Int) : Option (ByteArray × (List Int × (Int × Unit))) :=
  (c_s_l34Rd_pick R u0 u1 8).bind fun (r9_1, (r9b, (r9c, _))) =>
  iter (P := (((Int × (Int × (ByteArray × (Unit × (ByteArray × Unit)))))) × (((List Int × (Int × Unit))) × Unit))) (fun rec ((i5, (n4, (s3, (_, (t2, _))))), ((o0a, (o0b, _)), _)) =>
      bif (ilt i5 n4) then
        jb (P := (((Int × (Int × (ByteArray × (Unit × (ByteArray × Unit)))))) × (((List Int × (Int × Unit))) × Unit))) (
            (c_s_l34Rd_word R o0a o0b).bind fun (r31_1, (r31b, (r31c, _))) =>
            ok (sok s3 r31_1) <|
            (c_s_l34Rd_pick R r31b r31c 4).bind fun (r9_2_1, (r9_2b, (r9_2c, _))) =>
            bif (ilt 0 r9_2_1) then
              ok (sok (s3 ++ r31_1) (bs [32])) <|
              some (.inr ((i5, (n4, (((s3 ++ r31_1) ++ (bs [32])), ((), (t2, ()))))), ((r9_2b, (r9_2c, ())), ())))
            else
            some (.inr ((i5, (n4, ((s3 ++ r31_1), ((), (t2, ()))))), ((r9_2b, (r9_2c, ())), ())))) fun ((i5_1, (n4_1, (s3_1, (_, (t2_1, _))))), ((o0a_1, (o0b_1, _)), _)) =>
        rec (((iadd .i64 i5_1 1), (n4_1, (s3_1, ((), (t2_1, ()))))), ((o0a_1, (o0b_1, ())), ()))
      else
      jb (P := (((ByteArray × (ByteArray × (Unit × Unit)))) × (((List Int × (Int × Unit))) × Unit))) (
          (c_s_l34Rd_pick R o0a o0b 16).bind fun (r9_3_1, (r9_3b, (r9_3c, _))) =>
          bif (r9_3_1 == 0) then
            (c_s_l34Rd_pick R r9_3b r9_3c 11).bind fun (r9_4_1, (r9_4b, (r9_4c, _))) =>
            ok (inB r9_4_1 (len [(bs [50, 101, 45, 120]), (bs [48, 49]), (bs [49, 46]), (bs [120, 46, 53]), (bs [116, 111, 111, 108, 111, 110, 103, 110, 97, 109, 101]), (bs [50, 120]), (bs [65]), (bs [9]), (bs [60]), (bs [49, 101, 52, 48, 49]), (bs [95])])) <|
            ok (sok s3 (List.getD [(bs [50, 101, 45, 120]), (bs [48, 49]), (bs [49, 46]), (bs [120, 46, 53]), (bs [116, 111, 111, 108, 111, 110, 103, 110, 97, 109, 101]), (bs [50, 120]), (bs [65]), (bs [9]), (bs [60]), (bs [49, 101, 52, 48, 49]), (bs [95])] (Int.toNat r9_4_1) (bs []))) <|
            some (.inr (((s3 ++ (List.getD [(bs [50, 101, 45, 120]), (bs [48, 49]), (bs [49, 46]), (bs [120, 46, 53]), (bs [116, 111, 111, 108, 111, 110, 103, 110, 97, 109, 101]), (bs [50, 120]), (bs [65]), (bs [9]), (bs [60]), (bs [49, 101, 52, 48, 49]), (bs [95])] (Int.toNat r9_4_1) (bs []))), (t2, ((), ()))), ((r9_4b, (r9_4c, ())), ())))
          else
          bif (r9_3_1 == 1) then
            ok (sok s3 (bs [35, 32])) <|
            (c_s_l34Rd_name R r9_3b r9_3c).bind fun (r32_1, (r32b, (r32c, _))) =>
            ok (sok (s3 ++ (bs [35, 32])) r32_1) <|
            ok (sok ((s3 ++ (bs [35, 32])) ++ r32_1) (bs [32, 123])) <|
            some (.inr (((((s3 ++ (bs [35, 32])) ++ r32_1) ++ (bs [32, 123])), (t2, ((), ()))), ((r32b, (r32c, ())), ())))
          else
          bif (r9_3_1 == 2) then
            (c_s_l34Rd_pick R r9_3b r9_3c 8).bind fun (r9_5_1, (r9_5b, (r9_5c, _))) =>
            bif (r9_5_1 == 0) then
              (c_s_l34Rd_pick R r9_5b r9_5c 15).bind fun (r9_6_1, (r9_6b, (r9_6c, _))) =>
              (c_s_l14Times R (bs [45]) (iadd .i64 290 r9_6_1)).bind fun (r33_1, _) =>
              ok (sok r33_1 (bs [49])) <|
              some (.inr (((r33_1 ++ (bs [49])), (t2, ((), ()))), ((r9_6b, (r9_6c, ())), ())))
            else
            some (.inr ((s3, (t2, ((), ()))), ((r9_5b, (r9_5c, ())), ())))
          else
          bif (r9_3_1 == 3) then
            (c_s_l34Rd_pick R r9_3b r9_3c 8).bind fun (r9_7_1, (r9_7b, (r9_7c, _))) =>
            bif (r9_7_1 == 0) then
              (c_s_l34Rd_pick R r9_7b r9_7c 12).bind fun (r9_8_1, (r9_8b, (r9_8c, _))) =>
              (c_s_l14Times R (bs [32]) (iadd .i64 990 r9_8_1)).bind fun (r33_2_1, _) =>
              ok (sok s3 r33_2_1) <|
              some (.inr (((s3 ++ r33_2_1), (t2, ((), ()))), ((r9_8b, (r9_8c, ())), ())))
            else
            some (.inr ((s3, (t2, ((), ()))), ((r9_7b, (r9_7c, ())), ())))
          else
          some (.inr ((s3, (t2, ((), ()))), ((r9_3b, (r9_3c, ())), ())))) fun ((s3_2, (t2_2, (_, _))), ((o0a_2, (o0b_2, _)), _)) =>
      some (s3_2, (o0a_2, (o0b_2, ())))) n ((0, (r9_1, ((bs []), ((), ((bs []), ()))))), ((r9b, (r9c, ())), ()))
noncomputable def p_strings_Cut (R : Run) (n : Nat) (u0 : ByteArray) (u1 : ByteArray) : Option (ByteArray × (ByteArray × (Bool × Unit))) :=
  (c_internal_stringslite_Cut R u0 u1).bind fun (r34_1, (r34b, (r34c, _))) =>
  some (r34_1, (r34b, (r34c, ())))
noncomputable def p_i_signOf (R : Run) (n : Nat) (u0 : ByteArray) : Option (ByteArray × Unit) :=
  jb (P := (((Bool × (ByteArray × (ByteArray × Unit)))) × Unit)) (
      (c_strings_HasPrefix R u0 (bs [60, 61])).bind fun (r35_1, _) =>
      bif r35_1 then
        some (.inr ((true, (u0, ((bs []), ()))), ()))
      else
      (c_strings_HasPrefix R u0 (bs [62, 61])).bind fun (r35_2_1, _) =>
      some (.inr ((r35_2_1, (u0, ((bs []), ()))), ()))) fun ((t3, (s0, (t2, _))), _) =>
  bif t3 then
    ok (sliceOk 0 2 (slen s0)) <|
    some ((ByteArray.extract s0 (Int.toNat 0) (Int.toNat 2)), ())
  else
  ok (inB 0 (slen s0)) <|
  (c_strings_IndexByte R (bs [43, 45, 42, 47, 94, 40, 41, 44, 61]) (bt s0 0)).bind fun (r36_1, _) =>
  bif (ile 0 r36_1) then
    ok (sliceOk 0 1 (slen s0)) <|
    some ((ByteArray.extract s0 (Int.toNat 0) (Int.toNat 1)), ())
  else
  some ((bs []), ())
noncomputable def p_i_isLetter (R : Run) (n : Nat) (u0 : Int) : Option (Bool × Unit) :=
  jb (P := (((Bool × Unit)) × Unit)) (
      bif (ile 97 u0) then
        some (.inr (((ile u0 122), ()), ()))
      else
      some (.inr ((false, ()), ()))) fun ((t2, _), _) =>
  some (t2, ())
noncomputable def p_i_isFigure (R : Run) (n : Nat) (u0 : Int) : Option (Bool × Unit) :=
  jb (P := (((Bool × Unit)) × Unit)) (
      bif (ile 48 u0) then
        some (.inr (((ile u0 57), ()), ()))
      else
      some (.inr ((false, ()), ()))) fun ((t2, _), _) =>
  some (t2, ())
noncomputable def p_i_wordLength (R : Run) (n : Nat) (u0 : ByteArray) : Option (Int × Unit) :=
  iter (P := (((Int × (ByteArray × (Int × Unit)))) × Unit)) (fun rec ((n3, (s0, (t2, _))), _) =>
      jb (P := (((Bool × (Int × (ByteArray × (Int × Unit))))) × Unit)) (
          bif (ilt n3 (slen s0)) then
            ok (inB n3 (slen s0)) <|
            (c_i_isLetter R (bt s0 n3)).bind fun (r15_1, _) =>
            bif r15_1 then
              some (.inr ((true, (n3, (s0, (t2, ())))), ()))
            else
            ok (inB n3 (slen s0)) <|
            (c_i_isFigure R (bt s0 n3)).bind fun (r16_1, _) =>
            bif r16_1 then
              some (.inr ((true, (n3, (s0, (t2, ())))), ()))
            else
            ok (inB n3 (slen s0)) <|
            bif ((bt s0 n3) == 46) then
              some (.inr ((true, (n3, (s0, (t2, ())))), ()))
            else
            ok (inB n3 (slen s0)) <|
            bif ((bt s0 n3) == 45) then
              ok (inB 0 (slen s0)) <|
              (c_i_isFigure R (bt s0 0)).bind fun (r16_2_1, _) =>
              bif r16_2_1 then
                ok (inB (isub .i64 n3 1) (slen s0)) <|
                some (.inr ((((bt s0 (isub .i64 n3 1)) == 101), (n3, (s0, (t2, ())))), ()))
              else
              some (.inr ((false, (n3, (s0, (t2, ())))), ()))
            else
            some (.inr ((false, (n3, (s0, (t2, ())))), ()))
          else
          some (.inr ((false, (n3, (s0, (t2, ())))), ()))) fun ((t43, (n3_1, (s0_1, (t2_1, _)))), _) =>
      bif t43 then
        rec (((iadd .i64 n3_1 1), (s0_1, (t2_1, ()))), ())
      else
      some (n3_1, ())) n ((0, (u0, (0, ()))), ())
noncomputable def p_i_wordOk (R : Run) (n : Nat) (u0 : ByteArray) : Option (Bool × Unit) :=
  iter (P := (((Int × (Int × (ByteArray × (Bool × Unit))))) × Unit)) (fun rec ((t6, (t5, (s0, (t2, _)))), _) =>
      bif (ilt t6 t5) then
        jb (P := (((Bool × (Int × (Int × (ByteArray × (Bool × Unit)))))) × Unit)) (
            ok (inB t6 (slen s0)) <|
            (c_i_isLetter R (bt s0 t6)).bind fun (r15_1, _) =>
            bif (!r15_1) then
              ok (inB t6 (slen s0)) <|
              (c_i_isFigure R (bt s0 t6)).bind fun (r16_1, _) =>
              some (.inr (((!r16_1), (t6, (t5, (s0, (t2, ()))))), ()))
            else
            some (.inr ((false, (t6, (t5, (s0, (t2, ()))))), ()))) fun ((t20, (t6_1, (t5_1, (s0_1, (t2_1, _))))), _) =>
        bif t20 then
          some (false, ())
        else
        rec (((iadd .i64 t6_1 1), (t5_1, (s0_1, (t2_1, ())))), ())
      else
      jb (P := (((Bool × Unit)) × Unit)) (
          (c_i_in R (slen s0) 1 8).bind fun (r37_1, _) =>
          bif r37_1 then
            ok (inB 0 (slen s0)) <|
            (c_i_isLetter R (bt s0 0)).bind fun (r15_2_1, _) =>
            some (.inr ((r15_2_1, ()), ()))
          else
          some (.inr ((false, ()), ()))) fun ((t2_2, _), _) =>
      some (t2_2, ())) n ((0, ((slen u0), (u0, (false, ())))), ())
noncomputable def p_slices_Clip_impl_LangToken_impl_LangToken (R : Run) (n : Nat) (u0 : List ((Int × (ByteArray × Unit)))) : Option ((List ((Int × (ByteArray × Unit)))) × Unit) :=
  ok ((sliceOk 0 (len u0) (len u0)) && (ile (len u0) (len u0))) <|
  some ((List.drop (Int.toNat 0) (List.take (Int.toNat (len u0)) u0)), ())
noncomputable def p_s_l11Letter (R : Run) (n : Nat) (u0 : Int) : Option (Bool × Unit) :=
  jb (P := (((Bool × Unit)) × Unit)) (
      bif (ile 97 u0) then
        some (.inr (((ile u0 122), ()), ()))
      else
      some (.inr ((false, ()), ()))) fun ((t2, _), _) =>
  some (t2, ())
noncomputable def p_s_l11Digit (R : Run) (n : Nat) (u0 : Int) : Option (Bool × Unit) :=
  jb (P := (((Bool × Unit)) × Unit)) (
      bif (ile 48 u0) then
        some (.inr (((ile u0 57), ()), ()))
      else
      some (.inr ((false, ()), ()))) fun ((t2, _), _) =>
  some (t2, ())
noncomputable def p_s_l11End (R : Run) (n : Nat) (u0 : ByteArray) (u1 : Int) : Option (Int × Unit) :=
  iter (P := (((Int × (ByteArray × (Int × (Int × Unit))))) × Unit)) (fun rec ((i5, (line0, (at1, (t4, _)))), _) =>
      bif (ilt i5 (slen line0)) then
        ok (inB i5 (slen line0)) <|
        jb (P := (((Bool × (Int × (ByteArray × (Int × (Int × Unit)))))) × Unit)) (
            (c_s_l11Letter R (bt line0 i5)).bind fun (r20_1, _) =>
            bif (!r20_1) then
              (c_s_l11Digit R (bt line0 i5)).bind fun (r21_1, _) =>
              bif (!r21_1) then
                bif ((bt line0 i5) != 46) then
                  bif ((bt line0 i5) == 45) then
                    ok (inB at1 (slen line0)) <|
                    (c_s_l11Digit R (bt line0 at1)).bind fun (r21_2_1, _) =>
                    bif r21_2_1 then
                      ok (inB (isub .i64 i5 1) (slen line0)) <|
                      some (.inr (((!((bt line0 (isub .i64 i5 1)) == 101)), (i5, (line0, (at1, (t4, ()))))), ()))
                    else
                    some (.inr (((!false), (i5, (line0, (at1, (t4, ()))))), ()))
                  else
                  some (.inr (((!false), (i5, (line0, (at1, (t4, ()))))), ()))
                else
                some (.inr ((false, (i5, (line0, (at1, (t4, ()))))), ()))
              else
              some (.inr ((false, (i5, (line0, (at1, (t4, ()))))), ()))
            else
            some (.inr ((false, (i5, (line0, (at1, (t4, ()))))), ()))) fun ((t45, (i5_1, (line0_1, (at1_1, (t4_1, _))))), _) =>
        bif t45 then
          some (i5_1, ())
        else
        rec (((iadd .i64 i5_1 1), (line0_1, (at1_1, (t4_1, ())))), ())
      else
      some (i5, ())) n (((iadd .i64 u1 1), (u0, (u1, (0, ())))), ())
noncomputable def p_s_LangNumOk (R : Run) (n : Nat) (u0 : ByteArray) : Option (Bool × Unit) :=
  (c_s_l11Run R u0 0).bind fun (r38_1, _) =>
  jb (P := (((Bool × (Int × (ByteArray × (Bool × Unit))))) × Unit)) (
      bif (ilt 60 (slen u0)) then
        some (.inr ((true, (r38_1, (u0, (false, ())))), ()))
      else
      bif (r38_1 == 0) then
        some (.inr ((true, (r38_1, (u0, (false, ())))), ()))
      else
      bif (ilt 1 r38_1) then
        ok (inB 0 (slen u0)) <|
        some (.inr ((((bt u0 0) == 48), (r38_1, (u0, (false, ())))), ()))
      else
      some (.inr ((false, (r38_1, (u0, (false, ())))), ()))) fun ((t25, (n3, (s0, (t2, _)))), _) =>
  bif t25 then
    some (false, ())
  else
  jb (P := (((Int × (ByteArray × (Bool × Unit)))) × Unit)) (
      jb (P := (((Bool × (ByteArray × (Int × (Bool × Unit))))) × Unit)) (
          bif (ilt n3 (slen s0)) then
            ok (inB n3 (slen s0)) <|
            some (.inr ((((bt s0 n3) == 46), (s0, (n3, (t2, ())))), ()))
          else
          some (.inr ((false, (s0, (n3, (t2, ())))), ()))) fun ((t36, (s0_1, (at4, (t2_1, _)))), _) =>
      bif t36 then
        (c_s_l11Run R s0_1 (iadd .i64 at4 1)).bind fun (r38_2_1, _) =>
        bif (r38_2_1 == 0) then
          some (.inl (false, ()))
        else
        some (.inr (((iadd .i64 (iadd .i64 at4 1) r38_2_1), (s0_1, (t2_1, ()))), ()))
      else
      some (.inr ((at4, (s0_1, (t2_1, ()))), ()))) fun ((at4_1, (s0_2, (t2_2, _))), _) =>
  jb (P := (((Int × (ByteArray × (Bool × Unit)))) × Unit)) (
      jb (P := (((Bool × (Int × (ByteArray × (Bool × Unit))))) × Unit)) (
          bif (ilt at4_1 (slen s0_2)) then
            ok (inB at4_1 (slen s0_2)) <|
            some (.inr ((((bt s0_2 at4_1) == 101), (at4_1, (s0_2, (t2_2, ())))), ()))
          else
          some (.inr ((false, (at4_1, (s0_2, (t2_2, ())))), ()))) fun ((t56, (at4_2, (s0_3, (t2_3, _)))), _) =>
      bif t56 then
        jb (P := (((Bool × (Int × (ByteArray × (Bool × Unit))))) × Unit)) (
            bif (ilt (iadd .i64 at4_2 1) (slen s0_3)) then
              ok (inB (iadd .i64 at4_2 1) (slen s0_3)) <|
              some (.inr ((((bt s0_3 (iadd .i64 at4_2 1)) == 45), ((iadd .i64 at4_2 1), (s0_3, (t2_3, ())))), ()))
            else
            some (.inr ((false, ((iadd .i64 at4_2 1), (s0_3, (t2_3, ())))), ()))) fun ((minus6, (at4_3, (s0_4, (t2_4, _)))), _) =>
        jb (P := (((ByteArray × (Int × (Bool × (Bool × Unit))))) × Unit)) (
            bif minus6 then
              some (.inr ((s0_4, ((iadd .i64 at4_3 1), (minus6, (t2_4, ())))), ()))
            else
            some (.inr ((s0_4, (at4_3, (minus6, (t2_4, ())))), ()))) fun ((s0_5, (at4_4, (minus6_1, (t2_5, _)))), _) =>
        (c_s_l11Run R s0_5 at4_4).bind fun (r38_3_1, _) =>
        jb (P := (((Bool × (Int × (Int × (ByteArray × (Bool × Unit)))))) × Unit)) (
            bif (r38_3_1 == 0) then
              some (.inr ((true, (at4_4, (r38_3_1, (s0_5, (t2_5, ()))))), ()))
            else
            bif (ilt 3 r38_3_1) then
              some (.inr ((true, (at4_4, (r38_3_1, (s0_5, (t2_5, ()))))), ()))
            else
            ok (inB at4_4 (slen s0_5)) <|
            bif ((bt s0_5 at4_4) == 48) then
              bif (ilt 1 r38_3_1) then
                some (.inr ((true, (at4_4, (r38_3_1, (s0_5, (t2_5, ()))))), ()))
              else
              bif minus6_1 then
                some (.inr ((true, (at4_4, (r38_3_1, (s0_5, (t2_5, ()))))), ()))
              else
              bif (r38_3_1 == 3) then
                ok (sliceOk at4_4 (iadd .i64 at4_4 r38_3_1) (slen s0_5)) <|
                some (.inr (((!(slt (ByteArray.extract s0_5 (Int.toNat at4_4) (Int.toNat (iadd .i64 at4_4 r38_3_1))) (bs [52, 48, 48]) || seq (ByteArray.extract s0_5 (Int.toNat at4_4) (Int.toNat (iadd .i64 at4_4 r38_3_1))) (bs [52, 48, 48]))), (at4_4, (r38_3_1, (s0_5, (t2_5, ()))))), ()))
              else
              some (.inr ((false, (at4_4, (r38_3_1, (s0_5, (t2_5, ()))))), ()))
            else
            bif (r38_3_1 == 3) then
              ok (sliceOk at4_4 (iadd .i64 at4_4 r38_3_1) (slen s0_5)) <|
              some (.inr (((!(slt (ByteArray.extract s0_5 (Int.toNat at4_4) (Int.toNat (iadd .i64 at4_4 r38_3_1))) (bs [52, 48, 48]) || seq (ByteArray.extract s0_5 (Int.toNat at4_4) (Int.toNat (iadd .i64 at4_4 r38_3_1))) (bs [52, 48, 48]))), (at4_4, (r38_3_1, (s0_5, (t2_5, ()))))), ()))
            else
            some (.inr ((false, (at4_4, (r38_3_1, (s0_5, (t2_5, ()))))), ()))) fun ((t106, (at4_5, (k7, (s0_6, (t2_6, _))))), _) =>
        bif t106 then
          some (.inl (false, ()))
        else
        some (.inr (((iadd .i64 at4_5 k7), (s0_6, (t2_6, ()))), ()))
      else
      some (.inr ((at4_2, (s0_3, (t2_3, ()))), ()))) fun ((at4_6, (s0_7, (t2_7, _))), _) =>
  some ((at4_6 == (slen s0_7)), ())
noncomputable def p_s_l11Plain (R : Run) (n : Nat) (u0 : ByteArray) : Option (Bool × Unit) :=
  jb (P := (((Bool × (ByteArray × (Bool × Unit)))) × Unit)) (
      bif (ilt (slen u0) 1) then
        some (.inr ((true, (u0, (false, ()))), ()))
      else
      bif (ilt 8 (slen u0)) then
        some (.inr ((true, (u0, (false, ()))), ()))
      else
      ok (inB 0 (slen u0)) <|
      (c_s_l11Letter R (bt u0 0)).bind fun (r20_1, _) =>
      some (.inr (((!r20_1), (u0, (false, ()))), ()))) fun ((t17, (s0, (t2, _))), _) =>
  bif t17 then
    some (false, ())
  else
  iter (P := (((Int × (ByteArray × (Bool × Unit)))) × Unit)) (fun rec ((i3, (s0_1, (t2_1, _))), _) =>
      bif (ilt i3 (slen s0_1)) then
        jb (P := (((Bool × (Int × (ByteArray × (Bool × Unit))))) × Unit)) (
            ok (inB i3 (slen s0_1)) <|
            (c_s_l11Letter R (bt s0_1 i3)).bind fun (r20_2_1, _) =>
            bif (!r20_2_1) then
              ok (inB i3 (slen s0_1)) <|
              (c_s_l11Digit R (bt s0_1 i3)).bind fun (r21_1, _) =>
              some (.inr (((!r21_1), (i3, (s0_1, (t2_1, ())))), ()))
            else
            some (.inr ((false, (i3, (s0_1, (t2_1, ())))), ()))) fun ((t35, (i3_1, (s0_2, (t2_2, _)))), _) =>
        bif t35 then
          some (false, ())
        else
        rec (((iadd .i64 i3_1 1), (s0_2, (t2_2, ()))), ())
      else
      some (true, ())) n ((1, (s0, (t2, ()))), ())
noncomputable def p_s_l11Sign (R : Run) (n : Nat) (u0 : ByteArray) (u1 : Int) : Option (ByteArray × Unit) :=
  jb (P := (((Bool × (ByteArray × (Int × (ByteArray × Unit))))) × Unit)) (
      bif (ilt (iadd .i64 u1 1) (slen u0)) then
        ok (inB u1 (slen u0)) <|
        bif ((bt u0 u1) == 60) then
          ok (inB (iadd .i64 u1 1) (slen u0)) <|
          some (.inr ((((bt u0 (iadd .i64 u1 1)) == 61), (u0, (u1, ((bs []), ())))), ()))
        else
        ok (inB u1 (slen u0)) <|
        bif ((bt u0 u1) == 62) then
          ok (inB (iadd .i64 u1 1) (slen u0)) <|
          some (.inr ((((bt u0 (iadd .i64 u1 1)) == 61), (u0, (u1, ((bs []), ())))), ()))
        else
        some (.inr ((false, (u0, (u1, ((bs []), ())))), ()))
      else
      some (.inr ((false, (u0, (u1, ((bs []), ())))), ()))) fun ((t28, (line0, (at1, (t4, _)))), _) =>
  bif t28 then
    ok (sliceOk at1 (iadd .i64 at1 2) (slen line0)) <|
    some ((ByteArray.extract line0 (Int.toNat at1) (Int.toNat (iadd .i64 at1 2))), ())
  else
  ok (inB at1 (slen line0)) <|
  jb (P := (((Bool × (ByteArray × (Int × (ByteArray × Unit))))) × Unit)) (
      bif ((bt line0 at1) == 43) then
        some (.inr ((true, (line0, (at1, (t4, ())))), ()))
      else
      bif ((bt line0 at1) == 45) then
        some (.inr ((true, (line0, (at1, (t4, ())))), ()))
      else
      bif ((bt line0 at1) == 42) then
        some (.inr ((true, (line0, (at1, (t4, ())))), ()))
      else
      bif ((bt line0 at1) == 47) then
        some (.inr ((true, (line0, (at1, (t4, ())))), ()))
      else
      bif ((bt line0 at1) == 94) then
        some (.inr ((true, (line0, (at1, (t4, ())))), ()))
      else
      bif ((bt line0 at1) == 40) then
        some (.inr ((true, (line0, (at1, (t4, ())))), ()))
      else
      bif ((bt line0 at1) == 41) then
        some (.inr ((true, (line0, (at1, (t4, ())))), ()))
      else
      bif ((bt line0 at1) == 44) then
        some (.inr ((true, (line0, (at1, (t4, ())))), ()))
      else
      some (.inr ((((bt line0 at1) == 61), (line0, (at1, (t4, ())))), ()))) fun ((t37, (line0_1, (at1_1, (t4_1, _)))), _) =>
  bif t37 then
    ok (sliceOk at1_1 (iadd .i64 at1_1 1) (slen line0_1)) <|
    some ((ByteArray.extract line0_1 (Int.toNat at1_1) (Int.toNat (iadd .i64 at1_1 1))), ())
  else
  some ((bs []), ())
noncomputable def p_i_DecOk (R : Run) (n : Nat) (u0 : ByteArray) : Option (Bool × Unit) :=
  (c_i_literal R u0).bind fun (r39_1, (r39b, (r39c, (r39d, _)))) =>
  jb (P := (((Bool × Unit)) × Unit)) (
      bif r39d then
        some (.inr (((ile (slen u0) 60), ()), ()))
      else
      some (.inr ((false, ()), ()))) fun ((t2, _), _) =>
  some (t2, ())
noncomputable def p_s_TermOk (R : Run) (n : Nat) (u0 : List ((Int × (Int × (ByteArray × Unit))))) : Option (Bool × Unit) :=
  bif (ilt 100 (len u0)) then
    some (false, ())
  else
  iter (P := (((Int × (Unit × (Int × (Bool × Unit))))) × ((((List ((Int × (Int × (ByteArray × Unit))))) × Unit)) × Unit))) (fun rec ((i4, (_, (depth3, (t2, _)))), ((o0, _), _)) =>
      bif (ilt i4 (len o0)) then
        ok (inB i4 (len o0)) <|
        (c_s_l12Args R (List.getD o0 (Int.toNat i4) (0, (0, ((bs []), ())))).1 (List.getD o0 (Int.toNat i4) (0, (0, ((bs []), ())))).2.1 (List.getD o0 (Int.toNat i4) (0, (0, ((bs []), ())))).2.2.1).bind fun (r40_1, _) =>
        jb (P := (((Bool × (Int × (Int × (Int × (Unit × (Bool × Unit))))))) × ((((List ((Int × (Int × (ByteArray × Unit))))) × Unit)) × Unit))) (
            bif (ilt r40_1 0) then
              some (.inr ((true, (depth3, (r40_1, (i4, ((), (t2, ())))))), ((o0, ()), ())))
            else
            some (.inr (((ilt depth3 r40_1), (depth3, (r40_1, (i4, ((), (t2, ())))))), ((o0, ()), ())))) fun ((t29, (depth3_1, (k5, (i4_1, (_, (t2_1, _)))))), ((o0_1, _), _)) =>
        bif t29 then
          some (false, ())
        else
        rec (((iadd .i64 i4_1 1), ((), ((iadd .i64 (isub .i64 depth3_1 k5) 1), (t2_1, ())))), ((o0_1, ()), ()))
      else
      some ((depth3 == 1), ())) n ((0, ((), (0, (false, ())))), ((u0, ()), ()))
noncomputable def p_s_l12Show (R : Run) (n : Nat) (u0 : List ((Int × (Int × (ByteArray × Unit))))) (u1 : Int) (u2 : Int) : Option (ByteArray × Unit) :=
  ok (inB u1 (len u0)) <|
  (c_s_l12Level R (List.getD u0 (Int.toNat u1) (0, (0, ((bs []), ())))).1 (List.getD u0 (Int.toNat u1) (0, (0, ((bs []), ())))).2.1 (List.getD u0 (Int.toNat u1) (0, (0, ((bs []), ())))).2.2.1).bind fun (r41_1, _) =>
  bif (ilt r41_1 u2) then
    (c_s_l12Show R u0 u1 1).bind fun (r28_1, _) =>
    ok (sok (bs [40]) r28_1) <|
    ok (sok ((bs [40]) ++ r28_1) (bs [41])) <|
    some ((((bs [40]) ++ r28_1) ++ (bs [41])), ())
  else
  (c_s_l12Parts R u0 u1).bind fun (r42_1, _) =>
  jb (P := (((Bool × (Unit × (Int × (Unit × (List Int × (ByteArray × Unit))))))) × (((Int × (Int × (ByteArray × Unit)))) × ((((List ((Int × (Int × (ByteArray × Unit))))) × Unit)) × Unit)))) (
      bif ((List.getD u0 (Int.toNat u1) (0, (0, ((bs []), ())))).1 == 1) then
        some (.inr ((true, ((), ((List.getD u0 (Int.toNat u1) (0, (0, ((bs []), ())))).1, ((), (r42_1, ((bs []), ())))))), (((List.getD u0 (Int.toNat u1) (0, (0, ((bs []), ())))).1, ((List.getD u0 (Int.toNat u1) (0, (0, ((bs []), ())))).2.1, ((List.getD u0 (Int.toNat u1) (0, (0, ((bs []), ())))).2.2.1, ()))), ((u0, ()), ()))))
      else
      some (.inr ((((List.getD u0 (Int.toNat u1) (0, (0, ((bs []), ())))).1 == 2), ((), ((List.getD u0 (Int.toNat u1) (0, (0, ((bs []), ())))).1, ((), (r42_1, ((bs []), ())))))), (((List.getD u0 (Int.toNat u1) (0, (0, ((bs []), ())))).1, ((List.getD u0 (Int.toNat u1) (0, (0, ((bs []), ())))).2.1, ((List.getD u0 (Int.toNat u1) (0, (0, ((bs []), ())))).2.2.1, ()))), ((u0, ()), ()))))) fun ((t31, (_, (t30, (_, (parts8, (t6, _)))))), ((o0a, (o0b, (o0c, _))), ((o1, _), _))) =>
  bif t31 then
    some (o0c, ())
  else
  bif (t30 == 3) then
    ok (inB 0 (len parts8)) <|
    (c_s_l12Show R o1 (List.getD parts8 (Int.toNat 0) 0) 3).bind fun (r28_2_1, _) =>
    ok (sok (bs [45]) r28_2_1) <|
    some (((bs [45]) ++ r28_2_1), ())
  else
  bif (t30 == 4) then
    ok (inB 0 (len parts8)) <|
    (c_s_l12Show R o1 (List.getD parts8 (Int.toNat 0) 0) 1).bind fun (r28_3_1, _) =>
    ok (sok r28_3_1 (bs [32, 43, 32])) <|
    ok (inB 1 (len parts8)) <|
    (c_s_l12Show R o1 (List.getD parts8 (Int.toNat 1) 0) 2).bind fun (r28_4_1, _) =>
    ok (sok (r28_3_1 ++ (bs [32, 43, 32])) r28_4_1) <|
    some (((r28_3_1 ++ (bs [32, 43, 32])) ++ r28_4_1), ())
  else
  bif (t30 == 5) then
    ok (inB 0 (len parts8)) <|
    (c_s_l12Show R o1 (List.getD parts8 (Int.toNat 0) 0) 1).bind fun (r28_5_1, _) =>
    ok (sok r28_5_1 (bs [32, 45, 32])) <|
    ok (inB 1 (len parts8)) <|
    (c_s_l12Show R o1 (List.getD parts8 (Int.toNat 1) 0) 2).bind fun (r28_6_1, _) =>
    ok (sok (r28_5_1 ++ (bs [32, 45, 32])) r28_6_1) <|
    some (((r28_5_1 ++ (bs [32, 45, 32])) ++ r28_6_1), ())
  else
  bif (t30 == 6) then
    ok (inB 0 (len parts8)) <|
    (c_s_l12Show R o1 (List.getD parts8 (Int.toNat 0) 0) 2).bind fun (r28_7_1, _) =>
    ok (sok r28_7_1 (bs [32, 42, 32])) <|
    ok (inB 1 (len parts8)) <|
    (c_s_l12Show R o1 (List.getD parts8 (Int.toNat 1) 0) 3).bind fun (r28_8_1, _) =>
    ok (sok (r28_7_1 ++ (bs [32, 42, 32])) r28_8_1) <|
    some (((r28_7_1 ++ (bs [32, 42, 32])) ++ r28_8_1), ())
  else
  bif (t30 == 7) then
    ok (inB 0 (len parts8)) <|
    (c_s_l12Show R o1 (List.getD parts8 (Int.toNat 0) 0) 2).bind fun (r28_9_1, _) =>
    ok (sok r28_9_1 (bs [32, 47, 32])) <|
    ok (inB 1 (len parts8)) <|
    (c_s_l12Show R o1 (List.getD parts8 (Int.toNat 1) 0) 3).bind fun (r28_10_1, _) =>
    ok (sok (r28_9_1 ++ (bs [32, 47, 32])) r28_10_1) <|
    some (((r28_9_1 ++ (bs [32, 47, 32])) ++ r28_10_1), ())
  else
  bif (t30 == 8) then
    ok (inB 0 (len parts8)) <|
    (c_s_l12Show R o1 (List.getD parts8 (Int.toNat 0) 0) 5).bind fun (r28_11_1, _) =>
    ok (sok r28_11_1 (bs [94])) <|
    ok (sok (r28_11_1 ++ (bs [94])) (ofInts [(IntKind.wrap .u8 (iadd .i64 48 o0b))])) <|
    some (((r28_11_1 ++ (bs [94])) ++ (ofInts [(IntKind.wrap .u8 (iadd .i64 48 o0b))])), ())
  else
  jb (P := (((ByteArray × (List Int × (Unit × (ByteArray × Unit))))) × ((((List ((Int × (Int × (ByteArray × Unit))))) × Unit)) × Unit))) (
      bif (o0a == 9) then
        some (.inr (((bs [115, 113, 114, 116]), (parts8, ((), (t6, ())))), ((o1, ()), ())))
      else
      bif (o0a == 10) then
        some (.inr (((bs [97, 98, 115]), (parts8, ((), (t6, ())))), ((o1, ()), ())))
      else
      bif (o0a == 11) then
        some (.inr (((bs [109, 105, 110]), (parts8, ((), (t6, ())))), ((o1, ()), ())))
      else
      bif (o0a == 12) then
        some (.inr (((bs [109, 97, 120]), (parts8, ((), (t6, ())))), ((o1, ()), ())))
      else
      some (.inr ((o0c, (parts8, ((), (t6, ())))), ((o1, ()), ())))) fun ((name9, (parts8_1, (_, (t6_1, _)))), ((o0, _), _)) =>
  ok (sok name9 (bs [40])) <|
  iter (P := (((Int × (List Int × (ByteArray × (Unit × (ByteArray × Unit)))))) × ((((List ((Int × (Int × (ByteArray × Unit))))) × Unit)) × Unit))) (fun rec ((i11, (parts8_2, (out10, (_, (t6_2, _))))), ((o0_1, _), _)) =>
      bif (ilt i11 (len parts8_2)) then
        jb (P := (((ByteArray × (Unit × (List Int × (Int × (ByteArray × Unit)))))) × ((((List ((Int × (Int × (ByteArray × Unit))))) × Unit)) × Unit))) (
            bif (ilt 0 i11) then
              ok (sok out10 (bs [44, 32])) <|
              some (.inr (((out10 ++ (bs [44, 32])), ((), (parts8_2, (i11, (t6_2, ()))))), ((o0_1, ()), ())))
            else
            some (.inr ((out10, ((), (parts8_2, (i11, (t6_2, ()))))), ((o0_1, ()), ())))) fun ((out10_1, (_, (parts8_3, (i11_1, (t6_3, _))))), ((o0_2, _), _)) =>
        ok (inB i11_1 (len parts8_3)) <|
        (c_s_l12Show R o0_2 (List.getD parts8_3 (Int.toNat i11_1) 0) 1).bind fun (r28_12_1, _) =>
        ok (sok out10_1 r28_12_1) <|
        rec (((iadd .i64 i11_1 1), (parts8_3, ((out10_1 ++ r28_12_1), ((), (t6_3, ()))))), ((o0_2, ()), ()))
      else
      ok (sok out10 (bs [41])) <|
      some ((out10 ++ (bs [41])), ())) n ((0, (parts8_1, ((name9 ++ (bs [40])), ((), (t6_1, ()))))), ((o0, ()), ()))
noncomputable def p_s_l34Rd_chain (R : Run) (n : Nat) (u0 : List Int) (u1 : Int) (u2 : Int) : Option ((List ((Int × (Int × (ByteArray × Unit))))) × (List Int × (Int × Unit))) :=
  iter (P := (((Unit × (Int × (Unit × (Unit × Unit))))) × (((Unit × Unit)) × (((Unit × Unit)) × (((List Int × (Int × Unit))) × ((List ((Int × (Int × (ByteArray × Unit))))) × Unit)))))) (fun rec ((_, (n1, (_, (_, _)))), ((_, _), ((_, _), ((o2a, (o2b, _)), (o3, _))))) =>
      bif (ile (iadd .i64 (len o3) 2) n1) then
        ok (aok (o3 ++ [(1, (0, ((bs [49]), ())))]) 32) <|
        ok (aok ((o3 ++ [(1, (0, ((bs [49]), ())))]) ++ [(4, (0, ((bs []), ())))]) 32) <|
        rec (((), (n1, ((), ((), ())))), (((), ()), (((), ()), ((o2a, (o2b, ())), (((o3 ++ [(1, (0, ((bs [49]), ())))]) ++ [(4, (0, ((bs []), ())))]), ())))))
      else
      jb (P := (((Unit × (Unit × (Unit × Unit)))) × (((Unit × Unit)) × (((Unit × Unit)) × (((List Int × (Int × Unit))) × ((List ((Int × (Int × (ByteArray × Unit))))) × Unit)))))) (
          bif (ilt (len o3) n1) then
            ok (aok (o3 ++ [(3, (0, ((bs []), ())))]) 32) <|
            some (.inr (((), ((), ((), ()))), (((), ()), (((), ()), ((o2a, (o2b, ())), ((o3 ++ [(3, (0, ((bs []), ())))]), ()))))))
          else
          some (.inr (((), ((), ((), ()))), (((), ()), (((), ()), ((o2a, (o2b, ())), (o3, ()))))))) fun ((_, (_, (_, _))), ((_, _), ((_, _), ((o2a_1, (o2b_1, _)), (o3_1, _))))) =>
      some (o3_1, (o2a_1, (o2b_1, ())))) n (((), (u2, ((), ((), ())))), (((), ()), (((), ()), ((u0, (u1, ())), ([(2, (0, ((bs [120]), ())))], ())))))
noncomputable def p_s_l34Rd_term (R : Run) (n : Nat) (u0 : List Int) (u1 : Int) (u2 : List ByteArray) (u3 : List ((ByteArray × (Int × Unit)))) (u4 : Int) : Option ((List ((Int × (Int × (ByteArray × Unit))))) × (List Int × (Int × Unit))) :=
  (c_s_l34Rd_grow R u0 u1 [] u2 u3 u4).bind fun (r43_1, (r43b, (r43c, _))) =>
  bif (ilt 100 (len r43_1)) then
    some ([(1, (0, ((bs [49]), ())))], (r43b, (r43c, ())))
  else
  some (r43_1, (r43b, (r43c, ())))
noncomputable def p_s_l34Rd_word (R : Run) (n : Nat) (u0 : List Int) (u1 : Int) : Option (ByteArray × (List Int × (Int × Unit))) :=
  (c_s_l34Rd_pick R u0 u1 10).bind fun (r9_1, (r9b, (r9c, _))) =>
  bif (r9_1 == 0) then
    (c_s_l34Rd_number R r9b r9c).bind fun (r44_1, (r44b, (r44c, _))) =>
    some (r44_1, (r44b, (r44c, ())))
  else
  bif (r9_1 == 1) then
    (c_s_l34Rd_pick R r9b r9c 11).bind fun (r9_2_1, (r9_2b, (r9_2c, _))) =>
    ok (inB r9_2_1 (len [(bs [43]), (bs [45]), (bs [42]), (bs [47]), (bs [94]), (bs [40]), (bs [41]), (bs [44]), (bs [61]), (bs [60, 61]), (bs [62, 61])])) <|
    some ((List.getD [(bs [43]), (bs [45]), (bs [42]), (bs [47]), (bs [94]), (bs [40]), (bs [41]), (bs [44]), (bs [61]), (bs [60, 61]), (bs [62, 61])] (Int.toNat r9_2_1) (bs [])), (r9_2b, (r9_2c, ())))
  else
  bif (r9_1 == 2) then
    (c_s_l34Rd_pick R r9b r9c 6).bind fun (r9_3_1, (r9_3b, (r9_3c, _))) =>
    ok (inB r9_3_1 (len [(bs [115, 113, 114, 116]), (bs [97, 98, 115]), (bs [109, 105, 110]), (bs [109, 97, 120]), (bs [100, 101, 102]), (bs [118, 97, 114])])) <|
    some ((List.getD [(bs [115, 113, 114, 116]), (bs [97, 98, 115]), (bs [109, 105, 110]), (bs [109, 97, 120]), (bs [100, 101, 102]), (bs [118, 97, 114])] (Int.toNat r9_3_1) (bs [])), (r9_3b, (r9_3c, ())))
  else
  (c_s_l34Rd_name R r9b r9c).bind fun (r32_1, (r32b, (r32c, _))) =>
  some (r32_1, (r32b, (r32c, ())))
noncomputable def p_s_l34Rd_name (R : Run) (n : Nat) (u0 : List Int) (u1 : Int) : Option (ByteArray × (List Int × (Int × Unit))) :=
  (c_s_l34Rd_pick R u0 u1 12).bind fun (r9_1, (r9b, (r9c, _))) =>
  ok (inB r9_1 (len [(bs [97]), (bs [98]), (bs [99]), (bs [120]), (bs [121]), (bs [122]), (bs [102]), (bs [103]), (bs [104]), (bs [107, 49]), (bs [108, 111, 110, 103, 110, 97, 109, 101]), (bs [101])])) <|
  some ((List.getD [(bs [97]), (bs [98]), (bs [99]), (bs [120]), (bs [121]), (bs [122]), (bs [102]), (bs [103]), (bs [104]), (bs [107, 49]), (bs [108, 111, 110, 103, 110, 97, 109, 101]), (bs [101])] (Int.toNat r9_1) (bs [])), (r9b, (r9c, ())))
noncomputable def p_s_l14Times (R : Run) (n : Nat) (u0 : ByteArray) (u1 : Int) : Option (ByteArray × Unit) :=
  (c_s_l34Many R u0 u1).bind fun (r45_1, _) =>
  some (r45_1, ())
noncomputable def p_internal_stringslite_Cut (R : Run) (n : Nat) (u0 : ByteArray) (u1 : ByteArray) : Option (ByteArray × (ByteArray × (Bool × Unit))) :=
  (c_internal_stringslite_Index R u0 u1).bind fun (r46_1, _) =>
  bif (ile 0 r46_1) then
    ok (sliceOk 0 r46_1 (slen u0)) <|
    ok (sliceOk (iadd .i64 r46_1 (slen u1)) (slen u0) (slen u0)) <|
    some ((ByteArray.extract u0 (Int.toNat 0) (Int.toNat r46_1)), ((ByteArray.extract u0 (Int.toNat (iadd .i64 r46_1 (slen u1))) (Int.toNat (slen u0))), (true, ())))
  else
  some (u0, ((bs []), (false, ())))
noncomputable def p_strings_HasPrefix (R : Run) (n : Nat) (u0 : ByteArray) (u1 : ByteArray) : Option (Bool × Unit) :=
  (c_internal_stringslite_HasPrefix R u0 u1).bind fun (r47_1, _) =>
  some (r47_1, ())
noncomputable def p_strings_IndexByte (R : Run) (n : Nat) (u0 : ByteArray) (u1 : Int) : Option (Int × Unit) :=
  (c_internal_stringslite_IndexByte R u0 u1).bind fun (r48_1, _) =>
  some (r48_1, ())
noncomputable def p_i_in (R : Run) (n : Nat) (u0 : Int) (u1 : Int) (u2 : Int) : Option (Bool × Unit) :=
  jb (P := (((Bool × Unit)) × Unit)) (
      bif (ile u1 u0) then
        some (.inr (((ile u0 u2), ()), ()))
      else
      some (.inr ((false, ()), ()))) fun ((t6, _), _) =>
  some (t6, ())
noncomputable def p_s_l11Run (R : Run) (n : Nat) (u0 : ByteArray) (u1 : Int) : Option (Int × Unit) :=
  iter (P := (((Int × (Int × (ByteArray × (Int × Unit))))) × Unit)) (fun rec ((from1, (n5, (s0, (t4, _)))), _) =>
      jb (P := (((Bool × (Int × (Int × (ByteArray × (Int × Unit)))))) × Unit)) (
          bif (ilt (iadd .i64 from1 n5) (slen s0)) then
            ok (inB (iadd .i64 from1 n5) (slen s0)) <|
            (c_s_l11Digit R (bt s0 (iadd .i64 from1 n5))).bind fun (r21_1, _) =>
            some (.inr ((r21_1, (n5, (from1, (s0, (t4, ()))))), ()))
          else
          some (.inr ((false, (n5, (from1, (s0, (t4, ()))))), ()))) fun ((t19, (n5_1, (from1_1, (s0_1, (t4_1, _))))), _) =>
      bif t19 then
        rec ((from1_1, ((iadd .i64 n5_1 1), (s0_1, (t4_1, ())))), ())
      else
      some (n5_1, ())) n ((u1, (0, (u0, (0, ())))), ())
noncomputable def p_i_literal (R : Run) (n : Nat) (u0 : ByteArray) : Option (ByteArray × (ByteArray × (Int × (Bool × Unit)))) :=
  (c_strings_Cut R u0 (bs [101])).bind fun (r13_1, (r13b, (r13c, _))) =>
  (c_strings_Cut R r13_1 (bs [46])).bind fun (r13_2_1, (r13_2b, (r13_2c, _))) =>
  jb (P := (((Bool × (Bool × (ByteArray × (ByteArray × (ByteArray × (ByteArray × (ByteArray × (Int × (Bool × Unit)))))))))) × Unit)) (
      (c_i_wholeDigits R r13_2_1).bind fun (r49_1, _) =>
      bif (!r49_1) then
        some (.inr ((true, (r13c, (r13_2_1, (r13_2b, (r13b, ((bs []), ((bs []), (0, (false, ()))))))))), ()))
      else
      bif r13_2c then
        (c_i_isDigits R r13_2b).bind fun (r50_1, _) =>
        some (.inr (((!r50_1), (r13c, (r13_2_1, (r13_2b, (r13b, ((bs []), ((bs []), (0, (false, ()))))))))), ()))
      else
      some (.inr ((false, (r13c, (r13_2_1, (r13_2b, (r13b, ((bs []), ((bs []), (0, (false, ()))))))))), ()))) fun ((t38, (hasPower8, (ahead9, (behind10, (power7, (t2, (t3, (t4, (t5, _))))))))), _) =>
  bif t38 then
    some ((bs []), ((bs []), (0, (false, ()))))
  else
  bif (!hasPower8) then
    some (ahead9, (behind10, (0, (true, ()))))
  else
  (c_strings_CutPrefix R power7 (bs [45])).bind fun (r51_1, (r51b, _)) =>
  (c_strconv_Atoi R r51_1).bind fun (r52_1, (r52b, _)) =>
  jb (P := (((Bool × (Bool × (Int × (ByteArray × (ByteArray × (ByteArray × (ByteArray × (Int × (Bool × Unit)))))))))) × Unit)) (
      bif r52b then
        some (.inr ((true, (r51b, (r52_1, (ahead9, (behind10, (t2, (t3, (t4, (t5, ()))))))))), ()))
      else
      (c_i_wholeDigits R r51_1).bind fun (r49_2_1, _) =>
      bif (!r49_2_1) then
        some (.inr ((true, (r51b, (r52_1, (ahead9, (behind10, (t2, (t3, (t4, (t5, ()))))))))), ()))
      else
      bif (ilt 3 (slen r51_1)) then
        some (.inr ((true, (r51b, (r52_1, (ahead9, (behind10, (t2, (t3, (t4, (t5, ()))))))))), ()))
      else
      bif (ilt 400 r52_1) then
        some (.inr ((true, (r51b, (r52_1, (ahead9, (behind10, (t2, (t3, (t4, (t5, ()))))))))), ()))
      else
      bif r51b then
        some (.inr (((r52_1 == 0), (r51b, (r52_1, (ahead9, (behind10, (t2, (t3, (t4, (t5, ()))))))))), ()))
      else
      some (.inr ((false, (r51b, (r52_1, (ahead9, (behind10, (t2, (t3, (t4, (t5, ()))))))))), ()))) fun ((t75, (minus13, (n14, (ahead9_1, (behind10_1, (t2_1, (t3_1, (t4_1, (t5_1, _))))))))), _) =>
  bif t75 then
    some ((bs []), ((bs []), (0, (false, ()))))
  else
  jb (P := (((ByteArray × (ByteArray × (Int × (ByteArray × (ByteArray × (Int × (Bool × Unit)))))))) × Unit)) (
      bif minus13 then
        some (.inr ((ahead9_1, (behind10_1, ((ineg .i64 n14), (t2_1, (t3_1, (t4_1, (t5_1, ()))))))), ()))
      else
      some (.inr ((ahead9_1, (behind10_1, (n14, (t2_1, (t3_1, (t4_1, (t5_1, ()))))))), ()))) fun ((ahead9_2, (behind10_2, (n14_1, (t2_2, (t3_2, (t4_2, (t5_2, _))))))), _) =>
  some (ahead9_2, (behind10_2, (n14_1, (true, ()))))
noncomputable def p_s_l12Args (R : Run) (n : Nat) (u0 : Int) (u1 : Int) (u2 : ByteArray) : Option (Int × Unit) :=
  jb (P := (((Int × Unit)) × Unit)) (
      bif (u0 == 1) then
        jb (P := (((Bool × (Int × Unit))) × Unit)) (
            bif (u1 == 0) then
              (c_s_LangNumOk R u2).bind fun (r23_1, _) =>
              some (.inr ((r23_1, (0, ())), ()))
            else
            some (.inr ((false, (0, ())), ()))) fun ((t14, (t2, _)), _) =>
        bif t14 then
          some (.inl (0, ()))
        else
        some (.inr ((t2, ()), ()))
      else
      bif (u0 == 2) then
        jb (P := (((Bool × (Int × Unit))) × Unit)) (
            bif (u1 == 0) then
              (c_s_LangNameOk R u2).bind fun (r53_1, _) =>
              some (.inr ((r53_1, (0, ())), ()))
            else
            some (.inr ((false, (0, ())), ()))) fun ((t24, (t2_1, _)), _) =>
        bif t24 then
          some (.inl (0, ()))
        else
        some (.inr ((t2_1, ()), ()))
      else
      jb (P := (((Bool × (Unit × (Int × (Int × Unit))))) × (((Int × (Int × (ByteArray × Unit)))) × Unit))) (
          bif (u0 == 3) then
            some (.inr ((true, ((), (u0, (0, ())))), ((u0, (u1, (u2, ()))), ())))
          else
          bif (u0 == 9) then
            some (.inr ((true, ((), (u0, (0, ())))), ((u0, (u1, (u2, ()))), ())))
          else
          some (.inr (((u0 == 10), ((), (u0, (0, ())))), ((u0, (u1, (u2, ()))), ())))) fun ((t25, (_, (t4, (t2_2, _)))), ((o0a, (o0b, (o0c, _))), _)) =>
      bif t25 then
        jb (P := (((Bool × (Int × Unit))) × Unit)) (
            bif (o0b == 0) then
              some (.inr (((seq o0c (bs [])), (t2_2, ())), ()))
            else
            some (.inr ((false, (t2_2, ())), ()))) fun ((t36, (t2_3, _)), _) =>
        bif t36 then
          some (.inl (1, ()))
        else
        some (.inr ((t2_3, ()), ()))
      else
      jb (P := (((Bool × (Unit × (Int × (Int × Unit))))) × (((Int × (Int × (ByteArray × Unit)))) × Unit))) (
          bif (t4 == 4) then
            some (.inr ((true, ((), (t4, (t2_2, ())))), ((o0a, (o0b, (o0c, ()))), ())))
          else
          bif (t4 == 5) then
            some (.inr ((true, ((), (t4, (t2_2, ())))), ((o0a, (o0b, (o0c, ()))), ())))
          else
          bif (t4 == 6) then
            some (.inr ((true, ((), (t4, (t2_2, ())))), ((o0a, (o0b, (o0c, ()))), ())))
          else
          bif (t4 == 7) then
            some (.inr ((true, ((), (t4, (t2_2, ())))), ((o0a, (o0b, (o0c, ()))), ())))
          else
          bif (t4 == 11) then
            some (.inr ((true, ((), (t4, (t2_2, ())))), ((o0a, (o0b, (o0c, ()))), ())))
          else
          some (.inr (((t4 == 12), ((), (t4, (t2_2, ())))), ((o0a, (o0b, (o0c, ()))), ())))) fun ((t37, (_, (t4_1, (t2_4, _)))), ((o0a_1, (o0b_1, (o0c_1, _))), _)) =>
      bif t37 then
        jb (P := (((Bool × (Int × Unit))) × Unit)) (
            bif (o0b_1 == 0) then
              some (.inr (((seq o0c_1 (bs [])), (t2_4, ())), ()))
            else
            some (.inr ((false, (t2_4, ())), ()))) fun ((t51, (t2_5, _)), _) =>
        bif t51 then
          some (.inl (2, ()))
        else
        some (.inr ((t2_5, ()), ()))
      else
      bif (t4_1 == 8) then
        jb (P := (((Bool × (Int × Unit))) × Unit)) (
            bif (ile 0 o0b_1) then
              bif (ile o0b_1 8) then
                some (.inr (((seq o0c_1 (bs [])), (t2_4, ())), ()))
              else
              some (.inr ((false, (t2_4, ())), ()))
            else
            some (.inr ((false, (t2_4, ())), ()))) fun ((t66, (t2_6, _)), _) =>
        bif t66 then
          some (.inl (1, ()))
        else
        some (.inr ((t2_6, ()), ()))
      else
      bif (t4_1 == 13) then
        jb (P := (((Bool × (Unit × (Int × Unit)))) × (((Int × (Int × (ByteArray × Unit)))) × Unit))) (
            bif (ile 1 o0b_1) then
              bif (ile o0b_1 6) then
                (c_s_LangNameOk R o0c_1).bind fun (r53_2_1, _) =>
                some (.inr ((r53_2_1, ((), (t2_4, ()))), ((o0a_1, (o0b_1, (o0c_1, ()))), ())))
              else
              some (.inr ((false, ((), (t2_4, ()))), ((o0a_1, (o0b_1, (o0c_1, ()))), ())))
            else
            some (.inr ((false, ((), (t2_4, ()))), ((o0a_1, (o0b_1, (o0c_1, ()))), ())))) fun ((t81, (_, (t2_7, _))), ((o0a_2, (o0b_2, (o0c_2, _))), _)) =>
        bif t81 then
          some (.inl (o0b_2, ()))
        else
        some (.inr ((t2_7, ()), ()))
      else
      some (.inr ((t2_4, ()), ()))) fun ((t2_8, _), _) =>
  some ((-1), ())
noncomputable def p_s_l12Level (R : Run) (n : Nat) (u0 : Int) (u1 : Int) (u2 : ByteArray) : Option (Int × Unit) :=
  jb (P := (((Bool × (Int × (Int × Unit)))) × Unit)) (
      bif (u0 == 4) then
        some (.inr ((true, (u0, (0, ()))), ()))
      else
      some (.inr (((u0 == 5), (u0, (0, ()))), ()))) fun ((t5, (t4, (t2, _))), _) =>
  bif t5 then
    some (1, ())
  else
  jb (P := (((Bool × (Int × (Int × Unit)))) × Unit)) (
      bif (t4 == 6) then
        some (.inr ((true, (t4, (t2, ()))), ()))
      else
      some (.inr (((t4 == 7), (t4, (t2, ()))), ()))) fun ((t8, (t4_1, (t2_1, _))), _) =>
  bif t8 then
    some (2, ())
  else
  bif (t4_1 == 3) then
    some (3, ())
  else
  bif (t4_1 == 8) then
    some (4, ())
  else
  some (5, ())
noncomputable def p_s_l12Parts (R : Run) (n : Nat) (u0 : List ((Int × (Int × (ByteArray × Unit))))) (u1 : Int) : Option (List Int × Unit) :=
  ok (inB u1 (len u0)) <|
  (c_s_l12Args R (List.getD u0 (Int.toNat u1) (0, (0, ((bs []), ())))).1 (List.getD u0 (Int.toNat u1) (0, (0, ((bs []), ())))).2.1 (List.getD u0 (Int.toNat u1) (0, (0, ((bs []), ())))).2.2.1).bind fun (r40_1, _) =>
  iter (P := (((Int × (Unit × (Int × (Unit × (Unit × Unit)))))) × (List Int × ((((List ((Int × (Int × (ByteArray × Unit))))) × Unit)) × Unit)))) (fun rec ((k7, (_, (end6, (_, (_, _))))), (o0, ((o1, _), _))) =>
      bif (ilt 0 k7) then
        ok (aok (o0 ++ [end6]) 8) <|
        (c_s_l12Start R o1 end6).bind fun (r54_1, _) =>
        rec (((isub .i64 k7 1), ((), ((isub .i64 r54_1 1), ((), ((), ()))))), ((o0 ++ [end6]), ((o1, ()), ())))
      else
      iter (P := (((Int × (Unit × (Unit × (Unit × Unit))))) × (List Int × (List Int × Unit)))) (fun rec_1 ((i9, (_, (_, (_, _)))), (o0_1, (o1_1, _))) =>
          bif (ile 0 i9) then
            ok (inB i9 (len o1_1)) <|
            ok (aok (o0_1 ++ [(List.getD o1_1 (Int.toNat i9) 0)]) 8) <|
            rec_1 (((isub .i64 i9 1), ((), ((), ((), ())))), ((o0_1 ++ [(List.getD o1_1 (Int.toNat i9) 0)]), (o1_1, ())))
          else
          some (o0_1, ())) n (((isub .i64 (len o0) 1), ((), ((), ((), ())))), ([], (o0, ())))) n ((r40_1, ((), ((isub .i64 u1 1), ((), ((), ()))))), ([], ((u0, ()), ())))
noncomputable def p_s_l34Rd_grow (R : Run) (n : Nat) (u0 : List Int) (u1 : Int) (u2 : List ((Int × (Int × (ByteArray × Unit))))) (u3 : List ByteArray) (u4 : List ((ByteArray × (Int × Unit)))) (u5 : Int) : Option ((List ((Int × (Int × (ByteArray × Unit))))) × (List Int × (Int × Unit))) :=
  (c_s_l34Rd_pick R u0 u1 16).bind fun (r9_1, (r9b, (r9c, _))) =>
  jb (P := (((Bool × (List ByteArray × (Unit × (Unit × (Unit × (Int × ((List ((ByteArray × (Int × Unit)))) × (Int × Unit))))))))) × (((List Int × (Int × Unit))) × (((Unit × Unit)) × (((Unit × Unit)) × ((List ((Int × (Int × (ByteArray × Unit))))) × Unit)))))) (
      bif (ile u5 0) then
        some (.inr ((true, (u3, ((), ((), ((), (r9_1, (u4, (u5, ())))))))), ((r9b, (r9c, ())), (((), ()), (((), ()), (u2, ()))))))
      else
      some (.inr (((ilt r9_1 5), (u3, ((), ((), ((), (r9_1, (u4, (u5, ())))))))), ((r9b, (r9c, ())), (((), ()), (((), ()), (u2, ()))))))) fun ((t24, (names2, (_, (_, (_, (k11, (calls3, (left4, _)))))))), ((o0a, (o0b, _)), ((_, _), ((_, _), (o3, _))))) =>
  bif t24 then
    jb (P := (((Unit × (Unit × (Int × ((List ((ByteArray × (Int × Unit)))) × (Unit × (List ByteArray × (Int × Unit)))))))) × (((Unit × Unit)) × (((Unit × Unit)) × (((List Int × (Int × Unit))) × ((List ((Int × (Int × (ByteArray × Unit))))) × Unit)))))) (
        jb (P := (((Bool × (Unit × (List ByteArray × (Unit × (Unit × (Int × ((List ((ByteArray × (Int × Unit)))) × (Int × Unit))))))))) × (((Unit × Unit)) × (((List Int × (Int × Unit))) × (((Unit × Unit)) × ((List ((Int × (Int × (ByteArray × Unit))))) × Unit)))))) (
            bif (ilt 0 (len names2)) then
              (c_s_l34Rd_pick R o0a o0b 3).bind fun (r9_2_1, (r9_2b, (r9_2c, _))) =>
              some (.inr (((ilt 0 r9_2_1), ((), (names2, ((), ((), (k11, (calls3, (left4, ())))))))), (((), ()), ((r9_2b, (r9_2c, ())), (((), ()), (o3, ()))))))
            else
            some (.inr ((false, ((), (names2, ((), ((), (k11, (calls3, (left4, ())))))))), (((), ()), ((o0a, (o0b, ())), (((), ()), (o3, ()))))))) fun ((t32, (_, (names2_1, (_, (_, (k11_1, (calls3_1, (left4_1, _)))))))), ((_, _), ((o1a, (o1b, _)), ((_, _), (o3_1, _))))) =>
        bif t32 then
          (c_s_l34Rd_pick R o1a o1b (len names2_1)).bind fun (r9_3_1, (r9_3b, (r9_3c, _))) =>
          ok (inB r9_3_1 (len names2_1)) <|
          ok (aok (o3_1 ++ [(2, (0, ((List.getD names2_1 (Int.toNat r9_3_1) (bs [])), ())))]) 32) <|
          some (.inr (((), ((), (k11_1, (calls3_1, ((), (names2_1, (left4_1, ()))))))), (((), ()), (((), ()), ((r9_3b, (r9_3c, ())), ((o3_1 ++ [(2, (0, ((List.getD names2_1 (Int.toNat r9_3_1) (bs [])), ())))]), ()))))))
        else
        (c_s_l34Rd_number R o1a o1b).bind fun (r44_1, (r44b, (r44c, _))) =>
        ok (aok (o3_1 ++ [(1, (0, (r44_1, ())))]) 32) <|
        some (.inr (((), ((), (k11_1, (calls3_1, ((), (names2_1, (left4_1, ()))))))), (((), ()), (((), ()), ((r44b, (r44c, ())), ((o3_1 ++ [(1, (0, (r44_1, ())))]), ()))))))) fun ((_, (_, (k11_2, (calls3_2, (_, (names2_2, (left4_2, _))))))), ((_, _), ((_, _), ((o2a, (o2b, _)), (o3_2, _))))) =>
    some (o3_2, (o2a, (o2b, ())))
  else
  jb (P := (((Bool × ((List ((ByteArray × (Int × Unit)))) × (Unit × (Unit × (List ByteArray × (Int × (Unit × Unit)))))))) × (((List Int × (Int × Unit))) × (((Unit × Unit)) × (((Unit × Unit)) × ((List ((Int × (Int × (ByteArray × Unit))))) × Unit)))))) (
      bif (ilt k11 7) then
        some (.inr (((ilt 0 (len calls3)), (calls3, ((), ((), (names2, (left4, ((), ()))))))), ((o0a, (o0b, ())), (((), ()), (((), ()), (o3, ()))))))
      else
      some (.inr ((false, (calls3, ((), ((), (names2, (left4, ((), ()))))))), ((o0a, (o0b, ())), (((), ()), (((), ()), (o3, ()))))))) fun ((t61, (calls3_3, (_, (_, (names2_3, (left4_3, (_, _))))))), ((o0a_1, (o0b_1, _)), ((_, _), ((_, _), (o3_3, _))))) =>
  bif t61 then
    (c_s_l34Rd_pick R o0a_1 o0b_1 (len calls3_3)).bind fun (r9_4_1, (r9_4b, (r9_4c, _))) =>
    ok (inB r9_4_1 (len calls3_3)) <|
    iter (P := (((Int × (Unit × (Unit × (Unit × (List ByteArray × ((List ((ByteArray × (Int × Unit)))) × (Int × (Unit × Unit))))))))) × (((ByteArray × (Int × Unit))) × (((List Int × (Int × Unit))) × (((Unit × Unit)) × (((Unit × Unit)) × ((List ((Int × (Int × (ByteArray × Unit))))) × Unit))))))) (fun rec ((i13, (_, (_, (_, (names2_4, (calls3_4, (left4_4, (_, _)))))))), ((o0a_2, (o0b_2, _)), ((o1a_1, (o1b_1, _)), ((_, _), ((_, _), (o4, _)))))) =>
        bif (ilt i13 o0b_2) then
          (c_s_l34Rd_grow R o1a_1 o1b_1 o4 names2_4 calls3_4 (isub .i64 left4_4 2)).bind fun (r43_1, (r43b, (r43c, _))) =>
          rec (((iadd .i64 i13 1), ((), ((), ((), (names2_4, (calls3_4, (left4_4, ((), ())))))))), ((o0a_2, (o0b_2, ())), ((r43b, (r43c, ())), (((), ()), (((), ()), (r43_1, ()))))))
        else
        jb (P := (((Unit × (Unit × (Unit × (Unit × (List ByteArray × ((List ((ByteArray × (Int × Unit)))) × (Int × Unit)))))))) × (((Unit × Unit)) × (((Int × (Int × (ByteArray × Unit)))) × (((Unit × Unit)) × (((List Int × (Int × Unit))) × ((List ((Int × (Int × (ByteArray × Unit))))) × Unit))))))) (
            bif (o0b_2 == 0) then
              some (.inr (((), ((), ((), ((), (names2_4, (calls3_4, (left4_4, ()))))))), (((), ()), ((2, (o0b_2, (o0a_2, ()))), (((), ()), ((o1a_1, (o1b_1, ())), (o4, ())))))))
            else
            some (.inr (((), ((), ((), ((), (names2_4, (calls3_4, (left4_4, ()))))))), (((), ()), ((13, (o0b_2, (o0a_2, ()))), (((), ()), ((o1a_1, (o1b_1, ())), (o4, ())))))))) fun ((_, (_, (_, (_, (names2_5, (calls3_5, (left4_5, _))))))), ((_, _), ((o1a_2, (o1b_2, (o1c, _))), ((_, _), ((o3a, (o3b, _)), (o4_1, _)))))) =>
        ok (aok (o4_1 ++ [(o1a_2, (o1b_2, (o1c, ())))]) 32) <|
        some ((o4_1 ++ [(o1a_2, (o1b_2, (o1c, ())))]), (o3a, (o3b, ())))) n ((0, ((), ((), ((), (names2_3, (calls3_3, (left4_3, ((), ())))))))), (((List.getD calls3_3 (Int.toNat r9_4_1) ((bs []), (0, ()))).1, ((List.getD calls3_3 (Int.toNat r9_4_1) ((bs []), (0, ()))).2.1, ())), ((r9_4b, (r9_4c, ())), (((), ()), (((), ()), (o3_3, ()))))))
  else
  (c_s_l34Rd_pick R o0a_1 o0b_1 12).bind fun (r9_5_1, (r9_5b, (r9_5c, _))) =>
  ok (inB r9_5_1 (len [3, 4, 5, 6, 7, 8, 9, 10, 11, 12, 4, 6])) <|
  jb (P := (((Unit × (Unit × (List ByteArray × ((List ((ByteArray × (Int × Unit)))) × (Int × (Unit × (Unit × Unit)))))))) × (((List Int × (Int × Unit))) × (((Unit × Unit)) × (((Int × (Int × (ByteArray × Unit)))) × (((Unit × Unit)) × ((List ((Int × (Int × (ByteArray × Unit))))) × Unit))))))) (
      bif ((List.getD ([3, 4, 5, 6, 7, 8, 9, 10, 11, 12, 4, 6] : List Int) (Int.toNat r9_5_1) 0) == 8) then
        (c_s_l34Rd_pick R r9_5b r9_5c 9).bind fun (r9_6_1, (r9_6b, (r9_6c, _))) =>
        some (.inr (((), ((), (names2_3, (calls3_3, (left4_3, ((), ((), ()))))))), ((r9_6b, (r9_6c, ())), (((), ()), (((List.getD ([3, 4, 5, 6, 7, 8, 9, 10, 11, 12, 4, 6] : List Int) (Int.toNat r9_5_1) 0), (r9_6_1, ((bs []), ()))), (((), ()), (o3_3, ())))))))
      else
      some (.inr (((), ((), (names2_3, (calls3_3, (left4_3, ((), ((), ()))))))), ((r9_5b, (r9_5c, ())), (((), ()), (((List.getD ([3, 4, 5, 6, 7, 8, 9, 10, 11, 12, 4, 6] : List Int) (Int.toNat r9_5_1) 0), (0, ((bs []), ()))), (((), ()), (o3_3, ())))))))) fun ((_, (_, (names2_6, (calls3_6, (left4_6, (_, (_, _))))))), ((o0a_3, (o0b_3, _)), ((_, _), ((o2a_1, (o2b_1, (o2c, _))), ((_, _), (o4_2, _)))))) =>
  (c_s_l34Rd_grow R o0a_3 o0b_3 o4_2 names2_6 calls3_6 (isub .i64 left4_6 1)).bind fun (r43_2_1, (r43_2b, (r43_2c, _))) =>
  jb (P := (((Unit × (Unit × (Unit × (Unit × Unit))))) × (((Unit × Unit)) × (((Int × (Int × (ByteArray × Unit)))) × (((Unit × Unit)) × (((List Int × (Int × Unit))) × ((List ((Int × (Int × (ByteArray × Unit))))) × Unit))))))) (
      (c_s_l12Args R o2a_1 o2b_1 o2c).bind fun (r40_1, _) =>
      bif (r40_1 == 2) then
        (c_s_l34Rd_grow R r43_2b r43_2c r43_2_1 names2_6 calls3_6 (isub .i64 left4_6 1)).bind fun (r43_3_1, (r43_3b, (r43_3c, _))) =>
        some (.inr (((), ((), ((), ((), ())))), (((), ()), ((o2a_1, (o2b_1, (o2c, ()))), (((), ()), ((r43_3b, (r43_3c, ())), (r43_3_1, ())))))))
      else
      some (.inr (((), ((), ((), ((), ())))), (((), ()), ((o2a_1, (o2b_1, (o2c, ()))), (((), ()), ((r43_2b, (r43_2c, ())), (r43_2_1, ())))))))) fun ((_, (_, (_, (_, _)))), ((_, _), ((o1a_3, (o1b_3, (o1c_1, _))), ((_, _), ((o3a_1, (o3b_1, _)), (o4_3, _)))))) =>
  ok (aok (o4_3 ++ [(o1a_3, (o1b_3, (o1c_1, ())))]) 32) <|
  some ((o4_3 ++ [(o1a_3, (o1b_3, (o1c_1, ())))]), (o3a_1, (o3b_1, ())))
noncomputable def p_s_l34Rd_number (R : Run) (n : Nat) (u0 : List Int) (u1 : Int) : Option (ByteArray × (List Int × (Int × Unit))) :=
  (c_s_l34Rd_pick R u0 u1 12).bind fun (r9_1, (r9b, (r9c, _))) =>
  ok (inB r9_1 (len [(bs [48]), (bs [49]), (bs [50]), (bs [51]), (bs [49, 48]), (bs [48, 46, 53]), (bs [49, 46, 50, 53]), (bs [50, 101, 51]), (bs [50, 46, 53, 101, 45, 49]), (bs [49, 48, 48]), (bs [55]), (bs [49, 101, 45, 52, 48, 48])])) <|
  some ((List.getD [(bs [48]), (bs [49]), (bs [50]), (bs [51]), (bs [49, 48]), (bs [48, 46, 53]), (bs [49, 46, 50, 53]), (bs [50, 101, 51]), (bs [50, 46, 53, 101, 45, 49]), (bs [49, 48, 48]), (bs [55]), (bs [49, 101, 45, 52, 48, 48])] (Int.toNat r9_1) (bs [])), (r9b, (r9c, ())))
noncomputable def p_s_l34Many (R : Run) (n : Nat) (u0 : ByteArray) (u1 : Int) : Option (ByteArray × Unit) :=
  iter (P := (((Int × (ByteArray × (ByteArray × (ByteArray × Unit))))) × Unit)) (fun rec ((n1, (out5, (s0, (t4, _)))), _) =>
      bif (ilt 0 n1) then
        jb (P := (((ByteArray × (Int × (ByteArray × (ByteArray × Unit))))) × Unit)) (
            bif ((irem .i64 n1 2) == 1) then
              ok (sok out5 s0) <|
              some (.inr ((s0, (n1, ((out5 ++ s0), (t4, ())))), ()))
            else
            some (.inr ((s0, (n1, (out5, (t4, ())))), ()))) fun ((s0_1, (n1_1, (out5_1, (t4_1, _)))), _) =>
        ok (sok s0_1 s0_1) <|
        rec (((iquo .i64 n1_1 2), (out5_1, ((s0_1 ++ s0_1), (t4_1, ())))), ())
      else
      some (out5, ())) n ((u1, ((bs []), (u0, ((bs []), ())))), ())
noncomputable def p_internal_stringslite_HasPrefix (R : Run) (n : Nat) (u0 : ByteArray) (u1 : ByteArray) : Option (Bool × Unit) :=
  jb (P := (((Bool × Unit)) × Unit)) (
      bif (ile (slen u1) (slen u0)) then
        ok (sliceOk 0 (slen u1) (slen u0)) <|
        some (.inr (((seq (ByteArray.extract u0 (Int.toNat 0) (Int.toNat (slen u1))) u1), ()), ()))
      else
      some (.inr ((false, ()), ()))) fun ((t4, _), _) =>
  some (t4, ())
noncomputable def p_i_wholeDigits (R : Run) (n : Nat) (u0 : ByteArray) : Option (Bool × Unit) :=
  jb (P := (((Bool × Unit)) × Unit)) (
      (c_i_isDigits R u0).bind fun (r50_1, _) =>
      bif r50_1 then
        bif (seq u0 (bs [48])) then
          some (.inr ((true, ()), ()))
        else
        ok (inB 0 (slen u0)) <|
        some (.inr ((((bt u0 0) != 48), ()), ()))
      else
      some (.inr ((false, ()), ()))) fun ((t2, _), _) =>
  some (t2, ())
noncomputable def p_i_isDigits (R : Run) (n : Nat) (u0 : ByteArray) : Option (Bool × Unit) :=
  iter (P := (((Int × (Int × (ByteArray × (Bool × Unit))))) × Unit)) (fun rec ((t6, (t5, (s0, (t2, _)))), _) =>
      bif (ilt t6 t5) then
        jb (P := (((Bool × (Int × (Int × (ByteArray × (Bool × Unit)))))) × Unit)) (
            ok (inB t6 (slen s0)) <|
            bif (ilt (bt s0 t6) 48) then
              some (.inr ((true, (t6, (t5, (s0, (t2, ()))))), ()))
            else
            ok (inB t6 (slen s0)) <|
            some (.inr (((ilt 57 (bt s0 t6)), (t6, (t5, (s0, (t2, ()))))), ()))) fun ((t18, (t6_1, (t5_1, (s0_1, (t2_1, _))))), _) =>
        bif t18 then
          some (false, ())
        else
        rec (((iadd .i64 t6_1 1), (t5_1, (s0_1, (t2_1, ())))), ())
      else
      some ((!(seq s0 (bs []))), ())) n ((0, ((slen u0), (u0, (false, ())))), ())
noncomputable def p_strings_CutPrefix (R : Run) (n : Nat) (u0 : ByteArray) (u1 : ByteArray) : Option (ByteArray × (Bool × Unit)) :=
  (c_internal_stringslite_CutPrefix R u0 u1).bind fun (r59_1, (r59b, _)) =>
  some (r59_1, (r59b, ()))
noncomputable def p_s_LangNameOk (R : Run) (n : Nat) (u0 : ByteArray) : Option (Bool × Unit) :=
  jb (P := (((Bool × Unit)) × Unit)) (
      (c_s_l11Plain R u0).bind fun (r24_1, _) =>
      bif r24_1 then
        (c_s_l11Word R u0).bind fun (r62_1, _) =>
        some (.inr (((!r62_1), ()), ()))
      else
      some (.inr ((false, ()), ()))) fun ((t2, _), _) =>
  some (t2, ())
noncomputable def p_s_l12Start (R : Run) (n : Nat) (u0 : List ((Int × (Int × (ByteArray × Unit))))) (u1 : Int) : Option (Int × Unit) :=
  iter (P := (((Int × (Unit × (Int × (Int × Unit))))) × ((((List ((Int × (Int × (ByteArray × Unit))))) × Unit)) × Unit))) (fun rec ((missing5, (_, (i6, (t4, _)))), ((o0, _), _)) =>
      ok (inB i6 (len o0)) <|
      (c_s_l12Args R (List.getD o0 (Int.toNat i6) (0, (0, ((bs []), ())))).1 (List.getD o0 (Int.toNat i6) (0, (0, ((bs []), ())))).2.1 (List.getD o0 (Int.toNat i6) (0, (0, ((bs []), ())))).2.2.1).bind fun (r40_1, _) =>
      bif ((iadd .i64 (isub .i64 missing5 1) r40_1) == 0) then
        some (i6, ())
      else
      rec (((iadd .i64 (isub .i64 missing5 1) r40_1), ((), ((isub .i64 i6 1), (t4, ())))), ((o0, ()), ()))) n ((1, ((), (u1, (0, ())))), ((u0, ()), ()))
noncomputable def p_internal_stringslite_CutPrefix (R : Run) (n : Nat) (u0 : ByteArray) (u1 : ByteArray) : Option (ByteArray × (Bool × Unit)) :=
  (c_internal_stringslite_HasPrefix R u0 u1).bind fun (r47_1, _) =>
  bif (!r47_1) then
    some (u0, (false, ()))
  else
  ok (sliceOk (slen u1) (slen u0) (slen u0)) <|
  some ((ByteArray.extract u0 (Int.toNat (slen u1)) (Int.toNat (slen u0))), (true, ()))
noncomputable def p_s_l11Word (R : Run) (n : Nat) (u0 : ByteArray) : Option (Bool × Unit) :=
  jb (P := (((Bool × Unit)) × Unit)) (
      bif (seq u0 (bs [100, 101, 102])) then
        some (.inr ((true, ()), ()))
      else
      bif (seq u0 (bs [118, 97, 114])) then
        some (.inr ((true, ()), ()))
      else
      bif (seq u0 (bs [115, 113, 114, 116])) then
        some (.inr ((true, ()), ()))
      else
      bif (seq u0 (bs [97, 98, 115])) then
        some (.inr ((true, ()), ()))
      else
      bif (seq u0 (bs [109, 105, 110])) then
        some (.inr ((true, ()), ()))
      else
      some (.inr (((seq u0 (bs [109, 97, 120])), ()), ()))) fun ((t2, _), _) =>
  some (t2, ())
end Go.Px.Seat
