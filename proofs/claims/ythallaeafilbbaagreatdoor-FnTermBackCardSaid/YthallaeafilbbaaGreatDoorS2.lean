/- Own texts, part S2: PxFns. -/
import Derived.Test.YthallaeafilbbaaGreatDoorA5
import Derived.Test.YthallaeafilbbaaGreatDoorS1
set_option linter.unusedVariables false

namespace Go.Px.Seat
open Go
def c_slices_Clone_impl_TermNode_impl_TermNode (R : Run) (u0 : List (Int × (Int × (ByteArray × Unit)))) : Option ((List (Int × (Int × (ByteArray × Unit)))) × Unit) := R 125 [] sg_slices_Clone_impl_TermNode_impl_TermNode (u0, ())
def c_w_FnTermBack (R : Run) (u0 : List Int) (u1 : List Int) : Option (Bool × Unit) := R 4 [] sg_w_FnTermBack (u0, (u1, ()))
def c_s_GoodTerm (R : Run) (u0 : List Int) : Option ((List ((Int × (Int × (ByteArray × Unit))))) × Unit) := R 13 [] sg_s_GoodTerm (u0, ())
def c_i_TermText (R : Run) (u0 : List ((Int × (Int × (ByteArray × Unit))))) : Option (ByteArray × Unit) := R 14 [] sg_i_TermText (u0, ())
def c_s_TermText (R : Run) (u0 : List ((Int × (Int × (ByteArray × Unit))))) : Option (ByteArray × Unit) := R 15 [] sg_s_TermText (u0, ())
def c_w_ptShort (R : Run) (u0 : ByteArray) : Option (Bool × Unit) := R 16 [] sg_w_ptShort (u0, ())
def c_i_TermRead (R : Run) (u0 : ByteArray) : Option ((List ((Int × (Int × (ByteArray × Unit))))) × (Int × Unit)) := R 17 [] sg_i_TermRead (u0, ())
def c_w_ptTerm (R : Run) (u0 : List ((Int × (Int × (ByteArray × Unit))))) (u1 : List ((Int × (Int × (ByteArray × Unit))))) : Option (Bool × Unit) := R 18 [] sg_w_ptTerm (u0, (u1, ()))
def c_s_DrawTermRead (R : Run) (u0 : List Int) : Option (ByteArray × Unit) := R 19 [] sg_s_DrawTermRead (u0, ())
def c_s_TermRead (R : Run) (u0 : ByteArray) : Option ((List ((Int × (Int × (ByteArray × Unit))))) × (Int × Unit)) := R 20 [] sg_s_TermRead (u0, ())
def c_w_ptComment (R : Run) (u0 : ByteArray) : Option (Bool × Unit) := R 21 [] sg_w_ptComment (u0, ())
def c_i_LangNameOk (R : Run) (u0 : ByteArray) : Option (Bool × Unit) := R 31 [] sg_i_LangNameOk (u0, ())
def c_s_l34Open (R : Run) (u0 : List Int) : Option (List Int × (Int × Unit)) := R 34 [] sg_s_l34Open (u0, ())
def c_s_l34Rd_term (R : Run) (u0 : List Int) (u1 : Int) (u2 : List ByteArray) (u3 : List ((ByteArray × (Int × Unit)))) (u4 : Int) : Option ((List ((Int × (Int × (ByteArray × Unit))))) × (List Int × (Int × Unit))) := R 35 [] sg_s_l34Rd_term (u0, (u1, (u2, (u3, (u4, ())))))
def c_s_l34Rd_pick (R : Run) (u0 : List Int) (u1 : Int) (u2 : Int) : Option (Int × (List Int × (Int × Unit))) := R 36 [] sg_s_l34Rd_pick (u0, (u1, (u2, ())))
def c_i_TermOk (R : Run) (u0 : List ((Int × (Int × (ByteArray × Unit))))) : Option (Bool × Unit) := R 37 [] sg_i_TermOk (u0, ())
def c_i_Term_text (R : Run) (u0 : List ((Int × (Int × (ByteArray × Unit))))) : Option (ByteArray × Unit) := R 38 [] sg_i_Term_text (u0, ())
def c_s_TermOk (R : Run) (u0 : List ((Int × (Int × (ByteArray × Unit))))) : Option (Bool × Unit) := R 39 [] sg_s_TermOk (u0, ())
def c_s_l12Show (R : Run) (u0 : List ((Int × (Int × (ByteArray × Unit))))) (u1 : Int) (u2 : Int) : Option (ByteArray × Unit) := R 40 [] sg_s_l12Show (u0, (u1, (u2, ())))
def c_s_LangTokens (R : Run) (u0 : ByteArray) : Option ((List ((Int × (ByteArray × Unit)))) × (Int × Unit)) := R 41 [] sg_s_LangTokens (u0, ())
def c_i_LangTokens (R : Run) (u0 : ByteArray) : Option ((List ((Int × (ByteArray × Unit)))) × (Int × Unit)) := R 42 [] sg_i_LangTokens (u0, ())
def c_i_readTerm (R : Run) (u0 : List ((Int × (ByteArray × Unit)))) : Option ((List ((Int × (Int × (ByteArray × Unit))))) × (Int × Unit)) := R 43 [] sg_i_readTerm (u0, ())
def c_s_l34Rd_read (R : Run) (u0 : List Int) (u1 : Int) : Option (ByteArray × (List Int × (Int × Unit))) := R 44 [] sg_s_l34Rd_read (u0, (u1, ()))
def c_s_l12Whole (R : Run) (u0 : List ((Int × (ByteArray × Unit)))) : Option ((List ((Int × (Int × (ByteArray × Unit))))) × (Int × Unit)) := R 45 [] sg_s_l12Whole (u0, ())
def c_s_LangNameOk (R : Run) (u0 : ByteArray) : Option (Bool × Unit) := R 47 [] sg_s_LangNameOk (u0, ())
def c_i_in (R : Run) (u0 : Int) (u1 : Int) (u2 : Int) : Option (Bool × Unit) := R 54 [] sg_i_in (u0, (u1, (u2, ())))
def c_slices_Contains_string_string (R : Run) (u0 : List ByteArray) (u1 : ByteArray) : Option (Bool × Unit) := R 58 [] sg_slices_Contains_string_string (u0, (u1, ()))
def c_i_wordOk (R : Run) (u0 : ByteArray) : Option (Bool × Unit) := R 60 [] sg_i_wordOk (u0, ())
def c_strings_Join (R : Run) (u0 : List ByteArray) (u1 : ByteArray) : Option (ByteArray × Unit) := R 62 [] sg_strings_Join (u0, (u1, ()))
def c_s_l34Rd_grow (R : Run) (u0 : List Int) (u1 : Int) (u2 : List ((Int × (Int × (ByteArray × Unit))))) (u3 : List ByteArray) (u4 : List ((ByteArray × (Int × Unit)))) (u5 : Int) : Option ((List ((Int × (Int × (ByteArray × Unit))))) × (List Int × (Int × Unit))) := R 64 [] sg_s_l34Rd_grow (u0, (u1, (u2, (u3, (u4, (u5, ()))))))
def c_i_TermNode_parts (R : Run) (u0 : Int) (u1 : Int) (u2 : ByteArray) : Option (Int × Unit) := R 65 [] sg_i_TermNode_parts (u0, (u1, (u2, ())))
def c_i_fold_impl_written_i_write (R : Run) (u0 : List ((Int × (Int × (ByteArray × Unit))))) : Option (ByteArray × (Int × Unit)) := R 66 [67] sg_i_fold_impl_written_i_write (u0, ())
def c_i_write (R : Run) (u0 : Int) (u1 : Int) (u2 : ByteArray) (u3 : List ((ByteArray × (Int × Unit)))) : Option (ByteArray × (Int × Unit)) := R 67 [] sg_i_write (u0, (u1, (u2, (u3, ()))))
def c_s_l12Args (R : Run) (u0 : Int) (u1 : Int) (u2 : ByteArray) : Option (Int × Unit) := R 68 [] sg_s_l12Args (u0, (u1, (u2, ())))
def c_s_l12Level (R : Run) (u0 : Int) (u1 : Int) (u2 : ByteArray) : Option (Int × Unit) := R 69 [] sg_s_l12Level (u0, (u1, (u2, ())))
def c_s_l12Parts (R : Run) (u0 : List ((Int × (Int × (ByteArray × Unit))))) (u1 : Int) : Option (List Int × Unit) := R 70 [] sg_s_l12Parts (u0, (u1, ()))
def c_s_l11Letter (R : Run) (u0 : Int) : Option (Bool × Unit) := R 71 [] sg_s_l11Letter (u0, ())
def c_s_l11Digit (R : Run) (u0 : Int) : Option (Bool × Unit) := R 72 [] sg_s_l11Digit (u0, ())
def c_s_l11End (R : Run) (u0 : ByteArray) (u1 : Int) : Option (Int × Unit) := R 73 [] sg_s_l11End (u0, (u1, ()))
def c_s_LangNumOk (R : Run) (u0 : ByteArray) : Option (Bool × Unit) := R 74 [] sg_s_LangNumOk (u0, ())
def c_s_l11Plain (R : Run) (u0 : ByteArray) : Option (Bool × Unit) := R 75 [] sg_s_l11Plain (u0, ())
def c_s_l11Sign (R : Run) (u0 : ByteArray) (u1 : Int) : Option (ByteArray × Unit) := R 76 [] sg_s_l11Sign (u0, (u1, ()))
def c_strings_Cut (R : Run) (u0 : ByteArray) (u1 : ByteArray) : Option (ByteArray × (ByteArray × (Bool × Unit))) := R 77 [] sg_strings_Cut (u0, (u1, ()))
def c_i_signOf (R : Run) (u0 : ByteArray) : Option (ByteArray × Unit) := R 78 [] sg_i_signOf (u0, ())
def c_i_isLetter (R : Run) (u0 : Int) : Option (Bool × Unit) := R 79 [] sg_i_isLetter (u0, ())
def c_i_isFigure (R : Run) (u0 : Int) : Option (Bool × Unit) := R 80 [] sg_i_isFigure (u0, ())
def c_i_wordLength (R : Run) (u0 : ByteArray) : Option (Int × Unit) := R 81 [] sg_i_wordLength (u0, ())
def c_i_LangNumOk (R : Run) (u0 : ByteArray) : Option (Bool × Unit) := R 82 [] sg_i_LangNumOk (u0, ())
def c_slices_Clip_impl_LangToken_impl_LangToken (R : Run) (u0 : List ((Int × (ByteArray × Unit)))) : Option ((List ((Int × (ByteArray × Unit)))) × Unit) := R 83 [] sg_slices_Clip_impl_LangToken_impl_LangToken (u0, ())
def c_i_termReader_sum (R : Run) (u0 : List ((Int × (ByteArray × Unit)))) (u1 : List ((Int × (Int × (ByteArray × Unit))))) (u2 : Bool) (u3 : Bool) : Option ((List ((Int × (ByteArray × Unit)))) × ((List ((Int × (Int × (ByteArray × Unit))))) × (Bool × (Bool × Unit)))) := R 84 [] sg_i_termReader_sum (u0, (u1, (u2, (u3, ()))))
def c_i_clone_impl_TermNode (R : Run) (u0 : List ((Int × (Int × (ByteArray × Unit))))) : Option ((List ((Int × (Int × (ByteArray × Unit))))) × Unit) := R 85 [] sg_i_clone_impl_TermNode (u0, ())
def c_s_l34Rd_any (R : Run) (u0 : List Int) (u1 : Int) : Option ((List ((Int × (Int × (ByteArray × Unit))))) × (List Int × (Int × Unit))) := R 86 [] sg_s_l34Rd_any (u0, (u1, ()))
def c_s_l34Rd_line (R : Run) (u0 : List Int) (u1 : Int) : Option (ByteArray × (List Int × (Int × Unit))) := R 87 [] sg_s_l34Rd_line (u0, (u1, ()))
def c_s_l12Reader_sum (R : Run) (u0 : List ((Int × (ByteArray × Unit)))) (u1 : Int) (u2 : List ((Int × (Int × (ByteArray × Unit))))) (u3 : Bool) (u4 : Bool) : Option ((List ((Int × (ByteArray × Unit)))) × (Int × ((List ((Int × (Int × (ByteArray × Unit))))) × (Bool × (Bool × Unit))))) := R 88 [] sg_s_l12Reader_sum (u0, (u1, (u2, (u3, (u4, ())))))
def c_s_l11Word (R : Run) (u0 : ByteArray) : Option (Bool × Unit) := R 89 [] sg_s_l11Word (u0, ())
def c_slices_Index_string_string (R : Run) (u0 : List ByteArray) (u1 : ByteArray) : Option (Int × Unit) := R 104 [] sg_slices_Index_string_string (u0, (u1, ()))
def c_s_l34Rd_number (R : Run) (u0 : List Int) (u1 : Int) : Option (ByteArray × (List Int × (Int × Unit))) := R 110 [] sg_s_l34Rd_number (u0, (u1, ()))
def c_i_write_1 (R : Run) (u0 : ByteArray) (u1 : List ((ByteArray × (Int × Unit)))) : Option (ByteArray × (Int × ((List ((ByteArray × (Int × Unit)))) × Unit))) := R 111 [] sg_i_write_1 (u0, (u1, ()))
def c_i_written_in (R : Run) (u0 : ByteArray) (u1 : Int) (u2 : Int) : Option (ByteArray × Unit) := R 112 [] sg_i_written_in (u0, (u1, (u2, ())))
def c_strconv_Itoa (R : Run) (u0 : Int) : Option (ByteArray × Unit) := R 113 [] sg_strconv_Itoa (u0, ())
def c_s_l12Start (R : Run) (u0 : List ((Int × (Int × (ByteArray × Unit))))) (u1 : Int) : Option (Int × Unit) := R 114 [] sg_s_l12Start (u0, (u1, ()))
def c_s_l11Run (R : Run) (u0 : ByteArray) (u1 : Int) : Option (Int × Unit) := R 115 [] sg_s_l11Run (u0, (u1, ()))
def c_internal_stringslite_Cut (R : Run) (u0 : ByteArray) (u1 : ByteArray) : Option (ByteArray × (ByteArray × (Bool × Unit))) := R 116 [] sg_internal_stringslite_Cut (u0, (u1, ()))
def c_strings_HasPrefix (R : Run) (u0 : ByteArray) (u1 : ByteArray) : Option (Bool × Unit) := R 117 [] sg_strings_HasPrefix (u0, (u1, ()))
def c_strings_IndexByte (R : Run) (u0 : ByteArray) (u1 : Int) : Option (Int × Unit) := R 118 [] sg_strings_IndexByte (u0, (u1, ()))
def c_i_DecOk (R : Run) (u0 : ByteArray) : Option (Bool × Unit) := R 119 [] sg_i_DecOk (u0, ())
def c_i_termReader_product (R : Run) (u0 : List ((Int × (ByteArray × Unit)))) (u1 : List ((Int × (Int × (ByteArray × Unit))))) (u2 : Bool) (u3 : Bool) : Option ((List ((Int × (ByteArray × Unit)))) × ((List ((Int × (Int × (ByteArray × Unit))))) × (Bool × (Bool × Unit)))) := R 120 [] sg_i_termReader_product (u0, (u1, (u2, (u3, ()))))
def c_i_termReader_at (R : Run) (u0 : List ((Int × (ByteArray × Unit)))) (u1 : List ((Int × (Int × (ByteArray × Unit))))) (u2 : Bool) (u3 : Bool) (u4 : List ByteArray) : Option (Bool × ((List ((Int × (ByteArray × Unit)))) × ((List ((Int × (Int × (ByteArray × Unit))))) × (Bool × (Bool × Unit))))) := R 121 [] sg_i_termReader_at (u0, (u1, (u2, (u3, (u4, ())))))
def c_i_termReader_next (R : Run) (u0 : List ((Int × (ByteArray × Unit)))) (u1 : List ((Int × (Int × (ByteArray × Unit))))) (u2 : Bool) (u3 : Bool) : Option (Int × (ByteArray × ((List ((Int × (ByteArray × Unit)))) × ((List ((Int × (Int × (ByteArray × Unit))))) × (Bool × (Bool × Unit)))))) := R 122 [] sg_i_termReader_next (u0, (u1, (u2, (u3, ()))))
def c_i_termReader_put (R : Run) (u0 : List ((Int × (ByteArray × Unit)))) (u1 : List ((Int × (Int × (ByteArray × Unit))))) (u2 : Bool) (u3 : Bool) (u4 : Int) (u5 : Int) (u6 : ByteArray) : Option ((List ((Int × (ByteArray × Unit)))) × ((List ((Int × (Int × (ByteArray × Unit))))) × (Bool × (Bool × Unit)))) := R 123 [] sg_i_termReader_put (u0, (u1, (u2, (u3, (u4, (u5, (u6, ())))))))
def c_slices_Clip_impl_TermNode_impl_TermNode (R : Run) (u0 : List ((Int × (Int × (ByteArray × Unit))))) : Option ((List ((Int × (Int × (ByteArray × Unit))))) × Unit) := R 124 [] sg_slices_Clip_impl_TermNode_impl_TermNode (u0, ())
def c_s_l34Rd_chain (R : Run) (u0 : List Int) (u1 : Int) (u2 : Int) : Option ((List ((Int × (Int × (ByteArray × Unit))))) × (List Int × (Int × Unit))) := R 126 [] sg_s_l34Rd_chain (u0, (u1, (u2, ())))
def c_s_l34Rd_word (R : Run) (u0 : List Int) (u1 : Int) : Option (ByteArray × (List Int × (Int × Unit))) := R 127 [] sg_s_l34Rd_word (u0, (u1, ()))
def c_s_l34Rd_name (R : Run) (u0 : List Int) (u1 : Int) : Option (ByteArray × (List Int × (Int × Unit))) := R 128 [] sg_s_l34Rd_name (u0, (u1, ()))
def c_s_l14Times (R : Run) (u0 : ByteArray) (u1 : Int) : Option (ByteArray × Unit) := R 129 [] sg_s_l14Times (u0, (u1, ()))
def c_s_l12Reader_product (R : Run) (u0 : List ((Int × (ByteArray × Unit)))) (u1 : Int) (u2 : List ((Int × (Int × (ByteArray × Unit))))) (u3 : Bool) (u4 : Bool) : Option ((List ((Int × (ByteArray × Unit)))) × (Int × ((List ((Int × (Int × (ByteArray × Unit))))) × (Bool × (Bool × Unit))))) := R 130 [] sg_s_l12Reader_product (u0, (u1, (u2, (u3, (u4, ())))))
def c_s_l12Reader_sign (R : Run) (u0 : List ((Int × (ByteArray × Unit)))) (u1 : Int) (u2 : List ((Int × (Int × (ByteArray × Unit))))) (u3 : Bool) (u4 : Bool) (u5 : ByteArray) : Option (Bool × ((List ((Int × (ByteArray × Unit)))) × (Int × ((List ((Int × (Int × (ByteArray × Unit))))) × (Bool × (Bool × Unit)))))) := R 131 [] sg_s_l12Reader_sign (u0, (u1, (u2, (u3, (u4, (u5, ()))))))
def c_s_l12Reader_put (R : Run) (u0 : List ((Int × (ByteArray × Unit)))) (u1 : Int) (u2 : List ((Int × (Int × (ByteArray × Unit))))) (u3 : Bool) (u4 : Bool) (u5 : Int) (u6 : Int) (u7 : ByteArray) : Option ((List ((Int × (ByteArray × Unit)))) × (Int × ((List ((Int × (Int × (ByteArray × Unit))))) × (Bool × (Bool × Unit))))) := R 132 [] sg_s_l12Reader_put (u0, (u1, (u2, (u3, (u4, (u5, (u6, (u7, ()))))))))
def c_internal_stringslite_Index (R : Run) (u0 : ByteArray) (u1 : ByteArray) : Option (Int × Unit) := R 164 [] sg_internal_stringslite_Index (u0, (u1, ()))
def c_internal_stringslite_HasPrefix (R : Run) (u0 : ByteArray) (u1 : ByteArray) : Option (Bool × Unit) := R 165 [] sg_internal_stringslite_HasPrefix (u0, (u1, ()))
def c_internal_stringslite_IndexByte (R : Run) (u0 : ByteArray) (u1 : Int) : Option (Int × Unit) := R 166 [] sg_internal_stringslite_IndexByte (u0, (u1, ()))
def c_i_literal (R : Run) (u0 : ByteArray) : Option (ByteArray × (ByteArray × (Int × (Bool × Unit)))) := R 167 [] sg_i_literal (u0, ())
def c_i_termReader_signed (R : Run) (u0 : List ((Int × (ByteArray × Unit)))) (u1 : List ((Int × (Int × (ByteArray × Unit))))) (u2 : Bool) (u3 : Bool) : Option ((List ((Int × (ByteArray × Unit)))) × ((List ((Int × (Int × (ByteArray × Unit))))) × (Bool × (Bool × Unit)))) := R 168 [] sg_i_termReader_signed (u0, (u1, (u2, (u3, ()))))
def c_s_l34Many (R : Run) (u0 : ByteArray) (u1 : Int) : Option (ByteArray × Unit) := R 169 [] sg_s_l34Many (u0, (u1, ()))
def c_s_l12Reader_signed (R : Run) (u0 : List ((Int × (ByteArray × Unit)))) (u1 : Int) (u2 : List ((Int × (Int × (ByteArray × Unit))))) (u3 : Bool) (u4 : Bool) : Option ((List ((Int × (ByteArray × Unit)))) × (Int × ((List ((Int × (Int × (ByteArray × Unit))))) × (Bool × (Bool × Unit))))) := R 170 [] sg_s_l12Reader_signed (u0, (u1, (u2, (u3, (u4, ())))))
def c_i_wholeDigits (R : Run) (u0 : ByteArray) : Option (Bool × Unit) := R 190 [] sg_i_wholeDigits (u0, ())
def c_i_isDigits (R : Run) (u0 : ByteArray) : Option (Bool × Unit) := R 191 [] sg_i_isDigits (u0, ())
def c_strings_CutPrefix (R : Run) (u0 : ByteArray) (u1 : ByteArray) : Option (ByteArray × (Bool × Unit)) := R 192 [] sg_strings_CutPrefix (u0, (u1, ()))
def c_strconv_Atoi (R : Run) (u0 : ByteArray) : Option (Int × (Bool × Unit)) := R 193 [] sg_strconv_Atoi (u0, ())
def c_i_termReader_atom (R : Run) (u0 : List ((Int × (ByteArray × Unit)))) (u1 : List ((Int × (Int × (ByteArray × Unit))))) (u2 : Bool) (u3 : Bool) : Option ((List ((Int × (ByteArray × Unit)))) × ((List ((Int × (Int × (ByteArray × Unit))))) × (Bool × (Bool × Unit)))) := R 194 [] sg_i_termReader_atom (u0, (u1, (u2, (u3, ()))))
def c_s_l12Reader_atom (R : Run) (u0 : List ((Int × (ByteArray × Unit)))) (u1 : Int) (u2 : List ((Int × (Int × (ByteArray × Unit))))) (u3 : Bool) (u4 : Bool) : Option ((List ((Int × (ByteArray × Unit)))) × (Int × ((List ((Int × (Int × (ByteArray × Unit))))) × (Bool × (Bool × Unit))))) := R 195 [] sg_s_l12Reader_atom (u0, (u1, (u2, (u3, (u4, ())))))
def c_s_l12Power (R : Run) (u0 : List ((Int × (ByteArray × Unit)))) (u1 : Int) : Option (Int × Unit) := R 196 [] sg_s_l12Power (u0, (u1, ()))
def c_internal_stringslite_CutPrefix (R : Run) (u0 : ByteArray) (u1 : ByteArray) : Option (ByteArray × (Bool × Unit)) := R 210 [] sg_internal_stringslite_CutPrefix (u0, (u1, ()))
def c_i_termReader_arguments (R : Run) (u0 : List ((Int × (ByteArray × Unit)))) (u1 : List ((Int × (Int × (ByteArray × Unit))))) (u2 : Bool) (u3 : Bool) : Option (Int × ((List ((Int × (ByteArray × Unit)))) × ((List ((Int × (Int × (ByteArray × Unit))))) × (Bool × (Bool × Unit))))) := R 213 [] sg_i_termReader_arguments (u0, (u1, (u2, (u3, ()))))
def c_s_l12Reader_want (R : Run) (u0 : List ((Int × (ByteArray × Unit)))) (u1 : Int) (u2 : List ((Int × (Int × (ByteArray × Unit))))) (u3 : Bool) (u4 : Bool) (u5 : ByteArray) : Option ((List ((Int × (ByteArray × Unit)))) × (Int × ((List ((Int × (Int × (ByteArray × Unit))))) × (Bool × (Bool × Unit))))) := R 214 [] sg_s_l12Reader_want (u0, (u1, (u2, (u3, (u4, (u5, ()))))))
def c_s_l12Reader_call (R : Run) (u0 : List ((Int × (ByteArray × Unit)))) (u1 : Int) (u2 : List ((Int × (Int × (ByteArray × Unit))))) (u3 : Bool) (u4 : Bool) (u5 : ByteArray) (u6 : Int) : Option ((List ((Int × (ByteArray × Unit)))) × (Int × ((List ((Int × (Int × (ByteArray × Unit))))) × (Bool × (Bool × Unit))))) := R 215 [] sg_s_l12Reader_call (u0, (u1, (u2, (u3, (u4, (u5, (u6, ())))))))
def c_i_termReader_take (R : Run) (u0 : List ((Int × (ByteArray × Unit)))) (u1 : List ((Int × (Int × (ByteArray × Unit))))) (u2 : Bool) (u3 : Bool) (u4 : ByteArray) : Option ((List ((Int × (ByteArray × Unit)))) × ((List ((Int × (Int × (ByteArray × Unit))))) × (Bool × (Bool × Unit)))) := R 230 [] sg_i_termReader_take (u0, (u1, (u2, (u3, (u4, ())))))

noncomputable def p_w_FnTermBack (R : Run) (n : Nat) (u0 : List Int) (u1 : List Int) : Option (Bool × Unit) :=
  jb (P := (((Bool × (List Int × (List Int × (Bool × Unit))))) × Unit)) (
      bif (ilt 1048576 (len u0)) then
        some (.inr ((true, (u0, (u1, (false, ())))), ()))
      else
      some (.inr (((ilt 1048576 (len u1)), (u0, (u1, (false, ())))), ()))) fun ((t27, (code0, (more1, (t4, _)))), _) =>
  bif t27 then
    some (true, ())
  else
  (c_s_GoodTerm R code0).bind fun (r13_1, _) =>
  (c_i_TermText R r13_1).bind fun (r14_1, _) =>
  jb (P := (((Bool × (ByteArray × (Unit × (List Int × (Bool × Unit)))))) × ((((List ((Int × (Int × (ByteArray × Unit))))) × Unit)) × Unit))) (
      (c_s_TermText R r13_1).bind fun (r15_1, _) =>
      bif (!(seq r14_1 r15_1)) then
        some (.inr ((true, (r14_1, ((), (more1, (t4, ()))))), ((r13_1, ()), ())))
      else
      some (.inr (((seq r14_1 (bs [])), (r14_1, ((), (more1, (t4, ()))))), ((r13_1, ()), ())))) fun ((t39, (s6, (_, (more1_1, (t4_1, _))))), ((o0, _), _)) =>
  bif t39 then
    some (false, ())
  else
  jb (P := (((List Int × (Bool × Unit))) × Unit)) (
      (c_w_ptShort R s6).bind fun (r16_1, _) =>
      bif r16_1 then
        (c_i_TermRead R s6).bind fun (r17_1, (r17b, _)) =>
        jb (P := (((Bool × (List Int × (Bool × Unit)))) × Unit)) (
            bif (r17b != 0) then
              some (.inr ((true, (more1_1, (t4_1, ()))), ()))
            else
            (c_w_ptTerm R o0 r17_1).bind fun (r18_1, _) =>
            some (.inr (((!r18_1), (more1_1, (t4_1, ()))), ()))) fun ((t54, (more1_2, (t4_2, _))), _) =>
        bif t54 then
          some (.inl (false, ()))
        else
        some (.inr ((more1_2, (t4_2, ())), ()))
      else
      some (.inr ((more1_1, (t4_1, ())), ()))) fun ((more1_3, (t4_3, _)), _) =>
  (c_s_DrawTermRead R more1_3).bind fun (r19_1, _) =>
  (c_i_TermRead R r19_1).bind fun (r17_2_1, (r17_2b, _)) =>
  (c_s_TermRead R r19_1).bind fun (r20_1, (r20b, _)) =>
  bif (r17_2b != r20b) then
    some (false, ())
  else
  bif (r17_2b != 0) then
    some (((len r17_2_1) == 0), ())
  else
  (c_i_TermText R r17_2_1).bind fun (r14_2_1, _) =>
  jb (P := (((ByteArray × (Unit × (Bool × Unit)))) × ((((List ((Int × (Int × (ByteArray × Unit))))) × Unit)) × Unit))) (
      (c_w_ptShort R r14_2_1).bind fun (r16_2_1, _) =>
      bif r16_2_1 then
        (c_i_TermRead R r14_2_1).bind fun (r17_3_1, (r17_3b, _)) =>
        jb (P := (((Bool × (ByteArray × (Unit × (Bool × Unit))))) × ((((List ((Int × (Int × (ByteArray × Unit))))) × Unit)) × Unit))) (
            bif (r17_3b != 0) then
              some (.inr ((true, (r19_1, ((), (t4_3, ())))), ((r17_2_1, ()), ())))
            else
            (c_w_ptTerm R r17_2_1 r17_3_1).bind fun (r18_2_1, _) =>
            some (.inr (((!r18_2_1), (r19_1, ((), (t4_3, ())))), ((r17_2_1, ()), ())))) fun ((t92, (text9, (_, (t4_4, _)))), ((o0_1, _), _)) =>
        bif t92 then
          some (.inl (false, ()))
        else
        some (.inr ((text9, ((), (t4_4, ()))), ((o0_1, ()), ())))
      else
      some (.inr ((r19_1, ((), (t4_3, ()))), ((r17_2_1, ()), ())))) fun ((text9_1, (_, (t4_5, _))), ((o0_2, _), _)) =>
  (c_w_ptComment R text9_1).bind fun (r21_1, _) =>
  jb (P := (((Bool × (ByteArray × (Unit × (Bool × Unit))))) × ((((List ((Int × (Int × (ByteArray × Unit))))) × Unit)) × Unit))) (
      bif r21_1 then
        some (.inr ((true, (text9_1, ((), (t4_5, ())))), ((o0_2, ()), ())))
      else
      ok (sok (bs [40]) text9_1) <|
      ok (sok ((bs [40]) ++ text9_1) (bs [41])) <|
      (c_w_ptShort R (((bs [40]) ++ text9_1) ++ (bs [41]))).bind fun (r16_3_1, _) =>
      some (.inr (((!r16_3_1), (text9_1, ((), (t4_5, ())))), ((o0_2, ()), ())))) fun ((t102, (text9_2, (_, (t4_6, _)))), ((o0_3, _), _)) =>
  bif t102 then
    some (true, ())
  else
  ok (sok (bs [40]) text9_2) <|
  ok (sok ((bs [40]) ++ text9_2) (bs [41])) <|
  (c_i_TermRead R (((bs [40]) ++ text9_2) ++ (bs [41]))).bind fun (r17_4_1, (r17_4b, _)) =>
  jb (P := (((Bool × Unit)) × Unit)) (
      bif (r17_4b == 0) then
        (c_w_ptTerm R o0_3 r17_4_1).bind fun (r18_3_1, _) =>
        some (.inr ((r18_3_1, ()), ()))
      else
      some (.inr ((false, ()), ()))) fun ((t4_7, _), _) =>
  some (t4_7, ())
noncomputable def p_s_GoodTerm (R : Run) (n : Nat) (u0 : List Int) : Option ((List ((Int × (Int × (ByteArray × Unit))))) × Unit) :=
  (c_s_l34Open R u0).bind fun (r34_1, (r34b, _)) =>
  (c_s_l34Rd_pick R r34_1 r34b 5).bind fun (r36_1, (r36b, (r36c, _))) =>
  (c_s_l34Rd_term R r36b r36c [(bs [120]), (bs [121]), (bs [97])] [((bs [102]), (1, ())), ((bs [103]), (2, ()))] (iadd .i64 1 r36_1)).bind fun (r35_1, (r35b, (r35c, _))) =>
  some (r35_1, ())
noncomputable def p_i_TermText (R : Run) (n : Nat) (u0 : List ((Int × (Int × (ByteArray × Unit))))) : Option (ByteArray × Unit) :=
  (c_i_TermOk R u0).bind fun (r37_1, _) =>
  bif (!r37_1) then
    some ((bs []), ())
  else
  (c_i_Term_text R u0).bind fun (r38_1, _) =>
  some (r38_1, ())
noncomputable def p_s_TermText (R : Run) (n : Nat) (u0 : List ((Int × (Int × (ByteArray × Unit))))) : Option (ByteArray × Unit) :=
  (c_s_TermOk R u0).bind fun (r27_1, _) =>
  bif (!r27_1) then
    some ((bs []), ())
  else
  (c_s_l12Show R u0 (isub .i64 (len u0) 1) 1).bind fun (r28_1, _) =>
  some (r28_1, ())
noncomputable def p_w_ptShort (R : Run) (n : Nat) (u0 : ByteArray) : Option (Bool × Unit) :=
  bif (ilt 8000 (slen u0)) then
    some (false, ())
  else
  iter (P := (((Int × (ByteArray × (Int × (Bool × Unit))))) × Unit)) (fun rec ((i4, (text0, (from3, (t2, _)))), _) =>
      bif (ile i4 (slen text0)) then
        jb (P := (((Int × (ByteArray × (Int × (Bool × Unit))))) × Unit)) (
            jb (P := (((Bool × (ByteArray × (Int × (Int × (Bool × Unit)))))) × Unit)) (
                bif (i4 == (slen text0)) then
                  some (.inr ((true, (text0, (from3, (i4, (t2, ()))))), ()))
                else
                ok (inB i4 (slen text0)) <|
                some (.inr ((((bt text0 i4) == 10), (text0, (from3, (i4, (t2, ()))))), ()))) fun ((t25, (text0_1, (from3_1, (i4_1, (t2_1, _))))), _) =>
            bif t25 then
              ok (sliceOk from3_1 i4_1 (slen text0_1)) <|
              (c_s_LangTokens R (ByteArray.extract text0_1 (Int.toNat from3_1) (Int.toNat i4_1))).bind fun (r41_1, (r41b, _)) =>
              bif (r41b != 0) then
                some (.inl (false, ()))
              else
              some (.inr ((i4_1, (text0_1, ((iadd .i64 i4_1 1), (t2_1, ())))), ()))
            else
            some (.inr ((i4_1, (text0_1, (from3_1, (t2_1, ())))), ()))) fun ((i4_2, (text0_2, (from3_2, (t2_2, _)))), _) =>
        rec (((iadd .i64 i4_2 1), (text0_2, (from3_2, (t2_2, ())))), ())
      else
      some (true, ())) n ((0, (u0, (0, (false, ())))), ())
noncomputable def p_i_TermRead (R : Run) (n : Nat) (u0 : ByteArray) : Option ((List ((Int × (Int × (ByteArray × Unit))))) × (Int × Unit)) :=
  (c_i_LangTokens R u0).bind fun (r42_1, (r42b, _)) =>
  bif (r42b != 0) then
    some ([], (r42b, ()))
  else
  (c_i_readTerm R r42_1).bind fun (r43_1, (r43b, _)) =>
  some (r43_1, (r43b, ()))
noncomputable def p_w_ptTerm (R : Run) (n : Nat) (u0 : List ((Int × (Int × (ByteArray × Unit))))) (u1 : List ((Int × (Int × (ByteArray × Unit))))) : Option (Bool × Unit) :=
  bif ((len u0) != (len u1)) then
    some (false, ())
  else
  iter (P := (((Int × (Unit × (Unit × (Bool × Unit))))) × ((((List ((Int × (Int × (ByteArray × Unit))))) × Unit)) × ((((List ((Int × (Int × (ByteArray × Unit))))) × Unit)) × Unit)))) (fun rec ((i5, (_, (_, (t4, _)))), ((o0, _), ((o1, _), _))) =>
      bif (ilt i5 (len o0)) then
        ok (inB i5 (len o0)) <|
        ok (inB i5 (len o1)) <|
        bif (!(((List.getD o0 (Int.toNat i5) (0, (0, ((bs []), ())))).1 == (List.getD o1 (Int.toNat i5) (0, (0, ((bs []), ())))).1) && (((List.getD o0 (Int.toNat i5) (0, (0, ((bs []), ())))).2.1 == (List.getD o1 (Int.toNat i5) (0, (0, ((bs []), ())))).2.1) && ((seq (List.getD o0 (Int.toNat i5) (0, (0, ((bs []), ())))).2.2.1 (List.getD o1 (Int.toNat i5) (0, (0, ((bs []), ())))).2.2.1) && true)))) then
          some (false, ())
        else
        rec (((iadd .i64 i5 1), ((), ((), (t4, ())))), ((o0, ()), ((o1, ()), ())))
      else
      some (true, ())) n ((0, ((), ((), (false, ())))), ((u0, ()), ((u1, ()), ())))
noncomputable def p_s_DrawTermRead (R : Run) (n : Nat) (u0 : List Int) : Option (ByteArray × Unit) :=
  (c_s_l34Open R u0).bind fun (r34_1, (r34b, _)) =>
  (c_s_l34Rd_read R r34_1 r34b).bind fun (r44_1, (r44b, (r44c, _))) =>
  some (r44_1, ())
noncomputable def p_s_TermRead (R : Run) (n : Nat) (u0 : ByteArray) : Option ((List ((Int × (Int × (ByteArray × Unit))))) × (Int × Unit)) :=
  (c_s_LangTokens R u0).bind fun (r41_1, (r41b, _)) =>
  bif (r41b != 0) then
    some ([], (r41b, ()))
  else
  (c_s_l12Whole R r41_1).bind fun (r45_1, (r45b, _)) =>
  some (r45_1, (r45b, ()))
noncomputable def p_w_ptComment (R : Run) (n : Nat) (u0 : ByteArray) : Option (Bool × Unit) :=
  iter (P := (((Int × (ByteArray × (Bool × Unit)))) × Unit)) (fun rec ((i3, (s0, (t2, _))), _) =>
      bif (ilt i3 (slen s0)) then
        ok (inB i3 (slen s0)) <|
        bif ((bt s0 i3) == 35) then
          some (true, ())
        else
        rec (((iadd .i64 i3 1), (s0, (t2, ()))), ())
      else
      some (false, ())) n ((0, (u0, (false, ()))), ())
noncomputable def p_s_l34Open (R : Run) (n : Nat) (u0 : List Int) : Option (List Int × (Int × Unit)) :=
  jb (P := (((List Int × (Unit × Unit))) × Unit)) (
      bif (ilt 2000 (len u0)) then
        ok (sliceOk 0 2000 (len u0)) <|
        some (.inr (((List.drop (Int.toNat 0) (List.take (Int.toNat 2000) u0)), ((), ())), ()))
      else
      some (.inr ((u0, ((), ())), ()))) fun ((code0, (_, _)), _) =>
  some (code0, (0, ()))
noncomputable def p_s_l34Rd_term (R : Run) (n : Nat) (u0 : List Int) (u1 : Int) (u2 : List ByteArray) (u3 : List ((ByteArray × (Int × Unit)))) (u4 : Int) : Option ((List ((Int × (Int × (ByteArray × Unit))))) × (List Int × (Int × Unit))) :=
  (c_s_l34Rd_grow R u0 u1 [] u2 u3 u4).bind fun (r43_1, (r43b, (r43c, _))) =>
  bif (ilt 100 (len r43_1)) then
    some ([(1, (0, ((bs [49]), ())))], (r43b, (r43c, ())))
  else
  some (r43_1, (r43b, (r43c, ())))
noncomputable def p_s_l34Rd_pick (R : Run) (n : Nat) (u0 : List Int) (u1 : Int) (u2 : Int) : Option (Int × (List Int × (Int × Unit))) :=
  jb (P := (((Bool × (Unit × (Int × (Int × Unit))))) × (((List Int × (Int × Unit))) × Unit))) (
      bif (ilt u2 1) then
        some (.inr ((true, ((), (u2, (0, ())))), ((u0, ((iadd .i64 u1 1), ())), ())))
      else
      some (.inr ((((len u0) == 0), ((), (u2, (0, ())))), ((u0, ((iadd .i64 u1 1), ())), ())))) fun ((t24, (_, (n1, (t4, _)))), ((o0a, (o0b, _)), _)) =>
  bif t24 then
    some (0, (o0a, (o0b, ())))
  else
  bif (ilt (isub .i64 o0b 1) (len o0a)) then
    ok (inB (isub .i64 o0b 1) (len o0a)) <|
    ok (!(n1 == 0)) <|
    some ((irem .i64 (IntKind.wrap .i64 (List.getD o0a (Int.toNat (isub .i64 o0b 1)) 0)) n1), (o0a, (o0b, ())))
  else
  ok (!((len o0a) == 0)) <|
  ok (inB (irem .i64 (isub .i64 o0b 1) (len o0a)) (len o0a)) <|
  ok (!((len o0a) == 0)) <|
  ok (inB (irem .i64 (iadd .i64 (imul .i64 (isub .i64 o0b 1) 7) 3) (len o0a)) (len o0a)) <|
  ok (!((len o0a) == 0)) <|
  ok (!(n1 == 0)) <|
  some ((irem .i64 (ixor .i64 (iadd .i64 (iadd .i64 (iadd .i64 (imul .i64 (IntKind.wrap .i64 (List.getD o0a (Int.toNat (irem .i64 (isub .i64 o0b 1) (len o0a))) 0)) 131) (imul .i64 (IntKind.wrap .i64 (List.getD o0a (Int.toNat (irem .i64 (iadd .i64 (imul .i64 (isub .i64 o0b 1) 7) 3) (len o0a))) 0)) 1117)) (imul .i64 (isub .i64 o0b 1) 29)) (imul .i64 (iquo .i64 (isub .i64 o0b 1) (len o0a)) 53)) (iquo .i64 (iadd .i64 (iadd .i64 (iadd .i64 (imul .i64 (IntKind.wrap .i64 (List.getD o0a (Int.toNat (irem .i64 (isub .i64 o0b 1) (len o0a))) 0)) 131) (imul .i64 (IntKind.wrap .i64 (List.getD o0a (Int.toNat (irem .i64 (iadd .i64 (imul .i64 (isub .i64 o0b 1) 7) 3) (len o0a))) 0)) 1117)) (imul .i64 (isub .i64 o0b 1) 29)) (imul .i64 (iquo .i64 (isub .i64 o0b 1) (len o0a)) 53)) 64)) n1), (o0a, (o0b, ())))
noncomputable def p_i_TermOk (R : Run) (n : Nat) (u0 : List ((Int × (Int × (ByteArray × Unit))))) : Option (Bool × Unit) :=
  iter (P := (((Int × (Int × ((List ((Int × (Int × (ByteArray × Unit))))) × (Int × (Unit × (Bool × Unit))))))) × ((((List ((Int × (Int × (ByteArray × Unit))))) × Unit)) × Unit))) (fun rec ((t10, (t9, (t8, (depth3, (_, (t2, _)))))), ((o0, _), _)) =>
      bif (ilt t10 t9) then
        ok (inB t10 (len t8)) <|
        (c_i_TermNode_parts R (List.getD t8 (Int.toNat t10) (0, (0, ((bs []), ())))).1 (List.getD t8 (Int.toNat t10) (0, (0, ((bs []), ())))).2.1 (List.getD t8 (Int.toNat t10) (0, (0, ((bs []), ())))).2.2.1).bind fun (r65_1, _) =>
        jb (P := (((Bool × (Int × (Int × (Int × (Int × ((List ((Int × (Int × (ByteArray × Unit))))) × (Unit × (Bool × Unit))))))))) × ((((List ((Int × (Int × (ByteArray × Unit))))) × Unit)) × Unit))) (
            bif (ilt r65_1 0) then
              some (.inr ((true, (depth3, (r65_1, (t10, (t9, (t8, ((), (t2, ())))))))), ((o0, ()), ())))
            else
            some (.inr (((ilt depth3 r65_1), (depth3, (r65_1, (t10, (t9, (t8, ((), (t2, ())))))))), ((o0, ()), ())))) fun ((t22, (depth3_1, (parts6, (t10_1, (t9_1, (t8_1, (_, (t2_1, _)))))))), ((o0_1, _), _)) =>
        bif t22 then
          some (false, ())
        else
        rec (((iadd .i64 t10_1 1), (t9_1, (t8_1, ((iadd .i64 depth3_1 (isub .i64 1 parts6)), ((), (t2_1, ())))))), ((o0_1, ()), ()))
      else
      jb (P := (((Bool × Unit)) × Unit)) (
          bif (depth3 == 1) then
            some (.inr (((ile (len o0) 100), ()), ()))
          else
          some (.inr ((false, ()), ()))) fun ((t2_2, _), _) =>
      some (t2_2, ())) n ((0, ((len u0), (u0, (0, ((), (false, ())))))), ((u0, ()), ()))
noncomputable def p_i_Term_text (R : Run) (n : Nat) (u0 : List ((Int × (Int × (ByteArray × Unit))))) : Option (ByteArray × Unit) :=
  (c_i_fold_impl_written_i_write R u0).bind fun (r66_1, (r66b, _)) =>
  some (r66_1, ())
noncomputable def p_s_TermOk (R : Run) (n : Nat) (u0 : List ((Int × (Int × (ByteArray × Unit))))) : Option (Bool × Unit) :=
  bif (ilt 100 (len u0)) then
    some (false, ())
  else
  iter (P := (((Int × (Unit × (Int × (Bool × Unit))))) × ((((List ((Int × (Int × (ByteArray × Unit))))) × Unit)) × Unit))) (fun rec ((i4, (_, (depth3, (t2, _)))), ((o0, _), _)) =>
      bif (ilt i4 (len o0)) then
        ok (inB i4 (len o0)) <|
        (c_s_l12Args R (List.getD o0 (Int.toNat i4) (0, (0, ((bs []), ())))).1 (List.getD o0 (Int.toNat i4) (0, (0, ((bs []), ())))).2.1 (List.getD o0 (Int.toNat i4) (0, (0, ((bs []), ())))).2.2.1).bind fun (r40_1, _) =>
        jb (P := (((Bool × (Int × (Int × (Int × (Unit × (Bool × Unit))))))) × ((((List ((Int × (Int × (ByteArray × Unit))))) × Unit)) × Unit))) (
            bif (ilt r40_1 0) then
              some (.inr ((true, (depth3, (r40_1, (i4, ((), (t2, ())))))), ((o0, ()), ())))
            else
            some (.inr (((ilt depth3 r40_1), (depth3, (r40_1, (i4, ((), (t2, ())))))), ((o0, ()), ())))) fun ((t29, (depth3_1, (k5, (i4_1, (_, (t2_1, _)))))), ((o0_1, _), _)) =>
        bif t29 then
          some (false, ())
        else
        rec (((iadd .i64 i4_1 1), ((), ((iadd .i64 (isub .i64 depth3_1 k5) 1), (t2_1, ())))), ((o0_1, ()), ()))
      else
      some ((depth3 == 1), ())) n ((0, ((), (0, (false, ())))), ((u0, ()), ()))
noncomputable def p_s_l12Show (R : Run) (n : Nat) (u0 : List ((Int × (Int × (ByteArray × Unit))))) (u1 : Int) (u2 : Int) : Option (ByteArray × Unit) :=
  ok (inB u1 (len u0)) <|
  (c_s_l12Level R (List.getD u0 (Int.toNat u1) (0, (0, ((bs []), ())))).1 (List.getD u0 (Int.toNat u1) (0, (0, ((bs []), ())))).2.1 (List.getD u0 (Int.toNat u1) (0, (0, ((bs []), ())))).2.2.1).bind fun (r41_1, _) =>
  bif (ilt r41_1 u2) then
    (c_s_l12Show R u0 u1 1).bind fun (r28_1, _) =>
    ok (sok (bs [40]) r28_1) <|
    ok (sok ((bs [40]) ++ r28_1) (bs [41])) <|
    some ((((bs [40]) ++ r28_1) ++ (bs [41])), ())
  else
  (c_s_l12Parts R u0 u1).bind fun (r42_1, _) =>
  jb (P := (((Bool × (Unit × (Int × (Unit × (List Int × (ByteArray × Unit))))))) × (((Int × (Int × (ByteArray × Unit)))) × ((((List ((Int × (Int × (ByteArray × Unit))))) × Unit)) × Unit)))) (
      bif ((List.getD u0 (Int.toNat u1) (0, (0, ((bs []), ())))).1 == 1) then
        some (.inr ((true, ((), ((List.getD u0 (Int.toNat u1) (0, (0, ((bs []), ())))).1, ((), (r42_1, ((bs []), ())))))), (((List.getD u0 (Int.toNat u1) (0, (0, ((bs []), ())))).1, ((List.getD u0 (Int.toNat u1) (0, (0, ((bs []), ())))).2.1, ((List.getD u0 (Int.toNat u1) (0, (0, ((bs []), ())))).2.2.1, ()))), ((u0, ()), ()))))
      else
      some (.inr ((((List.getD u0 (Int.toNat u1) (0, (0, ((bs []), ())))).1 == 2), ((), ((List.getD u0 (Int.toNat u1) (0, (0, ((bs []), ())))).1, ((), (r42_1, ((bs []), ())))))), (((List.getD u0 (Int.toNat u1) (0, (0, ((bs []), ())))).1, ((List.getD u0 (Int.toNat u1) (0, (0, ((bs []), ())))).2.1, ((List.getD u0 (Int.toNat u1) (0, (0, ((bs []), ())))).2.2.1, ()))), ((u0, ()), ()))))) fun ((t31, (_, (t30, (_, (parts8, (t6, _)))))), ((o0a, (o0b, (o0c, _))), ((o1, _), _))) =>
  bif t31 then
    some (o0c, ())
  else
  bif (t30 == 3) then
    ok (inB 0 (len parts8)) <|
    (c_s_l12Show R o1 (List.getD parts8 (Int.toNat 0) 0) 3).bind fun (r28_2_1, _) =>
    ok (sok (bs [45]) r28_2_1) <|
    some (((bs [45]) ++ r28_2_1), ())
  else
  bif (t30 == 4) then
    ok (inB 0 (len parts8)) <|
    (c_s_l12Show R o1 (List.getD parts8 (Int.toNat 0) 0) 1).bind fun (r28_3_1, _) =>
    ok (sok r28_3_1 (bs [32, 43, 32])) <|
    ok (inB 1 (len parts8)) <|
    (c_s_l12Show R o1 (List.getD parts8 (Int.toNat 1) 0) 2).bind fun (r28_4_1, _) =>
    ok (sok (r28_3_1 ++ (bs [32, 43, 32])) r28_4_1) <|
    some (((r28_3_1 ++ (bs [32, 43, 32])) ++ r28_4_1), ())
  else
  bif (t30 == 5) then
    ok (inB 0 (len parts8)) <|
    (c_s_l12Show R o1 (List.getD parts8 (Int.toNat 0) 0) 1).bind fun (r28_5_1, _) =>
    ok (sok r28_5_1 (bs [32, 45, 32])) <|
    ok (inB 1 (len parts8)) <|
    (c_s_l12Show R o1 (List.getD parts8 (Int.toNat 1) 0) 2).bind fun (r28_6_1, _) =>
    ok (sok (r28_5_1 ++ (bs [32, 45, 32])) r28_6_1) <|
    some (((r28_5_1 ++ (bs [32, 45, 32])) ++ r28_6_1), ())
  else
  bif (t30 == 6) then
    ok (inB 0 (len parts8)) <|
    (c_s_l12Show R o1 (List.getD parts8 (Int.toNat 0) 0) 2).bind fun (r28_7_1, _) =>
    ok (sok r28_7_1 (bs [32, 42, 32])) <|
    ok (inB 1 (len parts8)) <|
    (c_s_l12Show R o1 (List.getD parts8 (Int.toNat 1) 0) 3).bind fun (r28_8_1, _) =>
    ok (sok (r28_7_1 ++ (bs [32, 42, 32])) r28_8_1) <|
    some (((r28_7_1 ++ (bs [32, 42, 32])) ++ r28_8_1), ())
  else
  bif (t30 == 7) then
    ok (inB 0 (len parts8)) <|
    (c_s_l12Show R o1 (List.getD parts8 (Int.toNat 0) 0) 2).bind fun (r28_9_1, _) =>
    ok (sok r28_9_1 (bs [32, 47, 32])) <|
    ok (inB 1 (len parts8)) <|
    (c_s_l12Show R o1 (List.getD parts8 (Int.toNat 1) 0) 3).bind fun (r28_10_1, _) =>
    ok (sok (r28_9_1 ++ (bs [32, 47, 32])) r28_10_1) <|
    some (((r28_9_1 ++ (bs [32, 47, 32])) ++ r28_10_1), ())
  else
  bif (t30 == 8) then
    ok (inB 0 (len parts8)) <|
    (c_s_l12Show R o1 (List.getD parts8 (Int.toNat 0) 0) 5).bind fun (r28_11_1, _) =>
    ok (sok r28_11_1 (bs [94])) <|
    ok (sok (r28_11_1 ++ (bs [94])) (ofInts [(IntKind.wrap .u8 (iadd .i64 48 o0b))])) <|
    some (((r28_11_1 ++ (bs [94])) ++ (ofInts [(IntKind.wrap .u8 (iadd .i64 48 o0b))])), ())
  else
  jb (P := (((ByteArray × (List Int × (Unit × (ByteArray × Unit))))) × ((((List ((Int × (Int × (ByteArray × Unit))))) × Unit)) × Unit))) (
      bif (o0a == 9) then
        some (.inr (((bs [115, 113, 114, 116]), (parts8, ((), (t6, ())))), ((o1, ()), ())))
      else
      bif (o0a == 10) then
        some (.inr (((bs [97, 98, 115]), (parts8, ((), (t6, ())))), ((o1, ()), ())))
      else
      bif (o0a == 11) then
        some (.inr (((bs [109, 105, 110]), (parts8, ((), (t6, ())))), ((o1, ()), ())))
      else
      bif (o0a == 12) then
        some (.inr (((bs [109, 97, 120]), (parts8, ((), (t6, ())))), ((o1, ()), ())))
      else
      some (.inr ((o0c, (parts8, ((), (t6, ())))), ((o1, ()), ())))) fun ((name9, (parts8_1, (_, (t6_1, _)))), ((o0, _), _)) =>
  ok (sok name9 (bs [40])) <|
  iter (P := (((Int × (List Int × (ByteArray × (Unit × (ByteArray × Unit)))))) × ((((List ((Int × (Int × (ByteArray × Unit))))) × Unit)) × Unit))) (fun rec ((i11, (parts8_2, (out10, (_, (t6_2, _))))), ((o0_1, _), _)) =>
      bif (ilt i11 (len parts8_2)) then
        jb (P := (((ByteArray × (Unit × (List Int × (Int × (ByteArray × Unit)))))) × ((((List ((Int × (Int × (ByteArray × Unit))))) × Unit)) × Unit))) (
            bif (ilt 0 i11) then
              ok (sok out10 (bs [44, 32])) <|
              some (.inr (((out10 ++ (bs [44, 32])), ((), (parts8_2, (i11, (t6_2, ()))))), ((o0_1, ()), ())))
            else
            some (.inr ((out10, ((), (parts8_2, (i11, (t6_2, ()))))), ((o0_1, ()), ())))) fun ((out10_1, (_, (parts8_3, (i11_1, (t6_3, _))))), ((o0_2, _), _)) =>
        ok (inB i11_1 (len parts8_3)) <|
        (c_s_l12Show R o0_2 (List.getD parts8_3 (Int.toNat i11_1) 0) 1).bind fun (r28_12_1, _) =>
        ok (sok out10_1 r28_12_1) <|
        rec (((iadd .i64 i11_1 1), (parts8_3, ((out10_1 ++ r28_12_1), ((), (t6_3, ()))))), ((o0_2, ()), ()))
      else
      ok (sok out10 (bs [41])) <|
      some ((out10 ++ (bs [41])), ())) n ((0, (parts8_1, ((name9 ++ (bs [40])), ((), (t6_1, ()))))), ((o0, ()), ()))
noncomputable def p_s_LangTokens (R : Run) (n : Nat) (u0 : ByteArray) : Option ((List ((Int × (ByteArray × Unit)))) × (Int × Unit)) :=
  bif (ilt 1000 (slen u0)) then
    some ([], (1, ()))
  else
  iter (P := (((Int × (ByteArray × (Int × (Unit × (Unit × (Int × Unit))))))) × ((List ((Int × (ByteArray × Unit)))) × Unit))) (fun rec ((at6, (line0, (bad5, (_, (_, (t3, _)))))), (o0, _)) =>
      jb (P := (((Bool × (ByteArray × (Int × (Int × (Unit × (Unit × (Int × Unit)))))))) × ((List ((Int × (ByteArray × Unit)))) × Unit))) (
          bif (ilt at6 (slen line0)) then
            ok (inB at6 (slen line0)) <|
            some (.inr ((((bt line0 at6) != 35), (line0, (at6, (bad5, ((), ((), (t3, ()))))))), (o0, ())))
          else
          some (.inr ((false, (line0, (at6, (bad5, ((), ((), (t3, ()))))))), (o0, ())))) fun ((t23, (line0_1, (at6_1, (bad5_1, (_, (_, (t3_1, _))))))), (o0_1, _)) =>
      bif t23 then
        ok (inB at6_1 (slen line0_1)) <|
        bif ((bt line0_1 at6_1) == 32) then
          rec (((iadd .i64 at6_1 1), (line0_1, (bad5_1, ((), ((), (t3_1, ())))))), (o0_1, ()))
        else
        jb (P := (((Bool × (ByteArray × (Int × (Int × (Int × (Unit × (Unit × (Int × Unit))))))))) × ((List ((Int × (ByteArray × Unit)))) × Unit))) (
            (c_s_l11Letter R (bt line0_1 at6_1)).bind fun (r20_1, _) =>
            bif r20_1 then
              some (.inr ((true, (line0_1, (at6_1, ((bt line0_1 at6_1), (bad5_1, ((), ((), (t3_1, ())))))))), (o0_1, ())))
            else
            (c_s_l11Digit R (bt line0_1 at6_1)).bind fun (r21_1, _) =>
            some (.inr ((r21_1, (line0_1, (at6_1, ((bt line0_1 at6_1), (bad5_1, ((), ((), (t3_1, ())))))))), (o0_1, ())))) fun ((t36, (line0_2, (at6_2, (c7, (bad5_2, (_, (_, (t3_2, _)))))))), (o0_2, _)) =>
        bif t36 then
          (c_s_l11End R line0_2 at6_2).bind fun (r22_1, _) =>
          ok (sliceOk at6_2 r22_1 (slen line0_2)) <|
          jb (P := (((Unit × (Unit × (Int × (ByteArray × (Int × (Int × (Unit × (Int × Unit))))))))) × ((List ((Int × (ByteArray × Unit)))) × (((Int × (ByteArray × Unit))) × Unit)))) (
              (c_s_l11Digit R c7).bind fun (r21_2_1, _) =>
              bif r21_2_1 then
                jb (P := (((Bool × (Unit × (Unit × (Int × (ByteArray × (Int × (Int × (Unit × (Int × Unit)))))))))) × ((List ((Int × (ByteArray × Unit)))) × (((Int × (ByteArray × Unit))) × Unit)))) (
                    bif (bad5_2 == 0) then
                      (c_s_LangNumOk R (ByteArray.extract line0_2 (Int.toNat at6_2) (Int.toNat r22_1))).bind fun (r23_1, _) =>
                      some (.inr (((!r23_1), ((), ((), (r22_1, (line0_2, (at6_2, (bad5_2, ((), (t3_2, ()))))))))), (o0_2, ((2, ((ByteArray.extract line0_2 (Int.toNat at6_2) (Int.toNat r22_1)), ())), ()))))
                    else
                    some (.inr ((false, ((), ((), (r22_1, (line0_2, (at6_2, (bad5_2, ((), (t3_2, ()))))))))), (o0_2, ((2, ((ByteArray.extract line0_2 (Int.toNat at6_2) (Int.toNat r22_1)), ())), ()))))) fun ((t55, (_, (_, (end8, (line0_3, (at6_3, (bad5_3, (_, (t3_3, _))))))))), (o0_3, ((o1a, (o1b, _)), _))) =>
                bif t55 then
                  some (.inr (((), ((), (end8, (line0_3, (at6_3, (3, ((), (t3_3, ())))))))), (o0_3, ((o1a, (o1b, ())), ()))))
                else
                some (.inr (((), ((), (end8, (line0_3, (at6_3, (bad5_3, ((), (t3_3, ())))))))), (o0_3, ((o1a, (o1b, ())), ()))))
              else
              (c_s_l11Plain R (ByteArray.extract line0_2 (Int.toNat at6_2) (Int.toNat r22_1))).bind fun (r24_1, _) =>
              bif (!r24_1) then
                some (.inl ([], (2, ())))
              else
              some (.inr (((), ((), (r22_1, (line0_2, (at6_2, (bad5_2, ((), (t3_2, ())))))))), (o0_2, ((1, ((ByteArray.extract line0_2 (Int.toNat at6_2) (Int.toNat r22_1)), ())), ()))))) fun ((_, (_, (end8_1, (line0_4, (at6_4, (bad5_4, (_, (t3_4, _)))))))), (o0_4, ((o1a_1, (o1b_1, _)), _))) =>
          ok (aok (o0_4 ++ [(o1a_1, (o1b_1, ()))]) 24) <|
          rec ((end8_1, (line0_4, (bad5_4, ((), ((), (t3_4, ())))))), ((o0_4 ++ [(o1a_1, (o1b_1, ()))]), ()))
        else
        (c_s_l11Sign R line0_2 at6_2).bind fun (r25_1, _) =>
        bif (seq r25_1 (bs [])) then
          some ([], (2, ()))
        else
        ok (aok (o0_2 ++ [(3, (r25_1, ()))]) 24) <|
        rec (((iadd .i64 at6_2 (slen r25_1)), (line0_2, (bad5_2, ((), ((), (t3_2, ())))))), ((o0_2 ++ [(3, (r25_1, ()))]), ()))
      else
      bif (bad5_1 != 0) then
        some ([], (bad5_1, ()))
      else
      bif (ilt 300 (len o0_1)) then
        some ([], (5, ()))
      else
      some (o0_1, (0, ()))) n ((0, (u0, (0, ((), ((), (0, ())))))), ([], ()))
noncomputable def p_i_LangTokens (R : Run) (n : Nat) (u0 : ByteArray) : Option ((List ((Int × (ByteArray × Unit)))) × (Int × Unit)) :=
  bif (ilt 1000 (slen u0)) then
    some ([], (1, ()))
  else
  (c_strings_Cut R u0 (bs [35])).bind fun (r13_1, (r13b, (r13c, _))) =>
  iter (P := (((ByteArray × (Bool × (Unit × (Unit × (Int × Unit)))))) × ((List ((Int × (ByteArray × Unit)))) × Unit))) (fun rec ((rest4, (badNumber8, (_, (_, (t3, _))))), (o0, _)) =>
      bif (!(seq rest4 (bs []))) then
        ok (inB 0 (slen rest4)) <|
        bif ((bt rest4 0) == 32) then
          ok (sliceOk 1 (slen rest4) (slen rest4)) <|
          rec (((ByteArray.extract rest4 (Int.toNat 1) (Int.toNat (slen rest4))), (badNumber8, ((), ((), (t3, ()))))), (o0, ()))
        else
        (c_i_signOf R rest4).bind fun (r14_1, _) =>
        jb (P := (((Unit × (Unit × (ByteArray × (Bool × (Unit × (Int × Unit))))))) × (((Int × (ByteArray × Unit))) × ((List ((Int × (ByteArray × Unit)))) × Unit)))) (
            jb (P := (((Bool × (ByteArray × (Unit × (Bool × (Unit × (Unit × (Int × Unit)))))))) × (((Int × (ByteArray × Unit))) × ((List ((Int × (ByteArray × Unit)))) × Unit)))) (
                ok (inB 0 (slen rest4)) <|
                (c_i_isLetter R (bt rest4 0)).bind fun (r15_1, _) =>
                bif r15_1 then
                  some (.inr ((true, (rest4, ((), (badNumber8, ((), ((), (t3, ()))))))), ((3, (r14_1, ())), (o0, ()))))
                else
                ok (inB 0 (slen rest4)) <|
                (c_i_isFigure R (bt rest4 0)).bind fun (r16_1, _) =>
                some (.inr ((r16_1, (rest4, ((), (badNumber8, ((), ((), (t3, ()))))))), ((3, (r14_1, ())), (o0, ()))))) fun ((t36, (rest4_1, (_, (badNumber8_1, (_, (_, (t3_1, _))))))), ((o0a, (o0b, _)), (o1, _))) =>
            bif t36 then
              (c_i_wordLength R rest4_1).bind fun (r17_1, _) =>
              ok (sliceOk 0 r17_1 (slen rest4_1)) <|
              ok (inB 0 (slen rest4_1)) <|
              (c_i_isFigure R (bt rest4_1 0)).bind fun (r16_2_1, _) =>
              bif r16_2_1 then
                bif badNumber8_1 then
                  some (.inr (((), ((), (rest4_1, (true, ((), (t3_1, ())))))), ((2, ((ByteArray.extract rest4_1 (Int.toNat 0) (Int.toNat r17_1)), ())), (o1, ()))))
                else
                (c_i_LangNumOk R (ByteArray.extract rest4_1 (Int.toNat 0) (Int.toNat r17_1))).bind fun (r7_1, _) =>
                some (.inr (((), ((), (rest4_1, ((!r7_1), ((), (t3_1, ())))))), ((2, ((ByteArray.extract rest4_1 (Int.toNat 0) (Int.toNat r17_1)), ())), (o1, ()))))
              else
              some (.inr (((), ((), (rest4_1, (badNumber8_1, ((), (t3_1, ())))))), ((1, ((ByteArray.extract rest4_1 (Int.toNat 0) (Int.toNat r17_1)), ())), (o1, ()))))
            else
            some (.inr (((), ((), (rest4_1, (badNumber8_1, ((), (t3_1, ())))))), ((o0a, (o0b, ())), (o1, ()))))) fun ((_, (_, (rest4_2, (badNumber8_2, (_, (t3_2, _)))))), ((o0a_1, (o0b_1, _)), (o1_1, _))) =>
        jb (P := (((Bool × (Unit × (Unit × (ByteArray × (Bool × (Unit × (Int × Unit)))))))) × ((List ((Int × (ByteArray × Unit)))) × (((Int × (ByteArray × Unit))) × Unit)))) (
            bif (seq o0b_1 (bs [])) then
              some (.inr ((true, ((), ((), (rest4_2, (badNumber8_2, ((), (t3_2, ()))))))), (o1_1, ((o0a_1, (o0b_1, ())), ()))))
            else
            bif (o0a_1 == 1) then
              (c_i_wordOk R o0b_1).bind fun (r18_1, _) =>
              some (.inr (((!r18_1), ((), ((), (rest4_2, (badNumber8_2, ((), (t3_2, ()))))))), (o1_1, ((o0a_1, (o0b_1, ())), ()))))
            else
            some (.inr ((false, ((), ((), (rest4_2, (badNumber8_2, ((), (t3_2, ()))))))), (o1_1, ((o0a_1, (o0b_1, ())), ()))))) fun ((t66, (_, (_, (rest4_3, (badNumber8_3, (_, (t3_3, _))))))), (o0_1, ((o1a, (o1b, _)), _))) =>
        bif t66 then
          some ([], (2, ()))
        else
        ok (aok (o0_1 ++ [(o1a, (o1b, ()))]) 24) <|
        ok (sliceOk (slen o1b) (slen rest4_3) (slen rest4_3)) <|
        rec (((ByteArray.extract rest4_3 (Int.toNat (slen o1b)) (Int.toNat (slen rest4_3))), (badNumber8_3, ((), ((), (t3_3, ()))))), ((o0_1 ++ [(o1a, (o1b, ()))]), ()))
      else
      bif badNumber8 then
        some ([], (3, ()))
      else
      bif (ilt 300 (len o0)) then
        some ([], (5, ()))
      else
      (c_slices_Clip_impl_LangToken_impl_LangToken R o0).bind fun (r19_1, _) =>
      some (r19_1, (0, ()))) n ((r13_1, (false, ((), ((), (0, ()))))), ([], ()))
noncomputable def p_i_readTerm (R : Run) (n : Nat) (u0 : List ((Int × (ByteArray × Unit)))) : Option ((List ((Int × (Int × (ByteArray × Unit))))) × (Int × Unit)) :=
  (c_i_termReader_sum R u0 [] false false).bind fun (r84_1, (r84b, (r84c, (r84d, _)))) =>
  jb (P := (((Bool × (Unit × (Unit × (Int × Unit))))) × (((Unit × Unit)) × ((((List ((Int × (ByteArray × Unit)))) × (Unit × (Bool × (Bool × Unit))))) × ((List ((Int × (Int × (ByteArray × Unit))))) × Unit))))) (
      bif r84c then
        some (.inr ((true, ((), ((), (0, ())))), (((), ()), ((r84_1, ((), (r84c, (r84d, ())))), (r84b, ())))))
      else
      some (.inr (((ilt 0 (len r84_1)), ((), ((), (0, ())))), (((), ()), ((r84_1, ((), (r84c, (r84d, ())))), (r84b, ())))))) fun ((t10, (_, (_, (t3, _)))), ((_, _), ((o1a, (_, (o1b, (o1c, _)))), (o2, _)))) =>
  bif t10 then
    some ([], (4, ()))
  else
  jb (P := (((Bool × (Unit × (Unit × (Int × Unit))))) × (((Unit × Unit)) × ((((List ((Int × (ByteArray × Unit)))) × (Unit × (Bool × (Bool × Unit))))) × ((List ((Int × (Int × (ByteArray × Unit))))) × Unit))))) (
      bif o1c then
        some (.inr ((true, ((), ((), (t3, ())))), (((), ()), ((o1a, ((), (o1b, (o1c, ())))), (o2, ())))))
      else
      some (.inr (((ilt 100 (len o2)), ((), ((), (t3, ())))), (((), ()), ((o1a, ((), (o1b, (o1c, ())))), (o2, ())))))) fun ((t24, (_, (_, (t3_1, _)))), ((_, _), ((o1a_1, (_, (o1b_1, (o1c_1, _)))), (o2_1, _)))) =>
  bif t24 then
    some ([], (5, ()))
  else
  (c_i_clone_impl_TermNode R o2_1).bind fun (r85_1, _) =>
  some (r85_1, (0, ()))
noncomputable def p_s_l34Rd_read (R : Run) (n : Nat) (u0 : List Int) (u1 : Int) : Option (ByteArray × (List Int × (Int × Unit))) :=
  (c_s_l34Rd_any R u0 u1).bind fun (r86_1, (r86b, (r86c, _))) =>
  (c_s_TermText R r86_1).bind fun (r15_1, _) =>
  jb (P := (((ByteArray × (ByteArray × (Unit × Unit)))) × (((List Int × (Int × Unit))) × Unit))) (
      (c_s_l34Rd_pick R r86b r86c 8).bind fun (r36_1, (r36b, (r36c, _))) =>
      bif (r36_1 == 0) then
        (c_s_l34Rd_line R r36b r36c).bind fun (r87_1, (r87b, (r87c, _))) =>
        some (.inr ((r87_1, ((bs []), ((), ()))), ((r87b, (r87c, ())), ())))
      else
      bif (r36_1 == 1) then
        ok (sok (bs [40]) r15_1) <|
        ok (sok ((bs [40]) ++ r15_1) (bs [41])) <|
        some (.inr (((((bs [40]) ++ r15_1) ++ (bs [41])), ((bs []), ((), ()))), ((r36b, (r36c, ())), ())))
      else
      bif (r36_1 == 2) then
        (c_s_l34Rd_pick R r36b r36c 8).bind fun (r36_2_1, (r36_2b, (r36_2c, _))) =>
        ok (inB r36_2_1 (len [(bs [94, 50]), (bs [94, 57]), (bs [32, 43]), (bs [41]), (bs [44, 32, 120]), (bs [32, 61, 32, 49]), (bs [94, 50, 94, 51]), (bs [32, 53])])) <|
        ok (sok r15_1 (List.getD [(bs [94, 50]), (bs [94, 57]), (bs [32, 43]), (bs [41]), (bs [44, 32, 120]), (bs [32, 61, 32, 49]), (bs [94, 50, 94, 51]), (bs [32, 53])] (Int.toNat r36_2_1) (bs []))) <|
        some (.inr (((r15_1 ++ (List.getD [(bs [94, 50]), (bs [94, 57]), (bs [32, 43]), (bs [41]), (bs [44, 32, 120]), (bs [32, 61, 32, 49]), (bs [94, 50, 94, 51]), (bs [32, 53])] (Int.toNat r36_2_1) (bs []))), ((bs []), ((), ()))), ((r36_2b, (r36_2c, ())), ())))
      else
      bif (r36_1 == 3) then
        ok (sok (bs [102, 40, 120, 44, 32, 120, 44, 32, 120, 44, 32, 120, 44, 32, 120, 44, 32, 120, 44, 32]) r15_1) <|
        ok (sok ((bs [102, 40, 120, 44, 32, 120, 44, 32, 120, 44, 32, 120, 44, 32, 120, 44, 32, 120, 44, 32]) ++ r15_1) (bs [41])) <|
        some (.inr (((((bs [102, 40, 120, 44, 32, 120, 44, 32, 120, 44, 32, 120, 44, 32, 120, 44, 32, 120, 44, 32]) ++ r15_1) ++ (bs [41])), ((bs []), ((), ()))), ((r36b, (r36c, ())), ())))
      else
      some (.inr ((r15_1, ((bs []), ((), ()))), ((r36b, (r36c, ())), ())))) fun ((s3, (t2, (_, _))), ((o0a, (o0b, _)), _)) =>
  some (s3, (o0a, (o0b, ())))
noncomputable def p_s_l12Whole (R : Run) (n : Nat) (u0 : List ((Int × (ByteArray × Unit)))) : Option ((List ((Int × (Int × (ByteArray × Unit))))) × (Int × Unit)) :=
  (c_s_l12Reader_sum R u0 0 [] false false).bind fun (r88_1, (r88b, (r88c, (r88d, (r88e, _))))) =>
  jb (P := (((Bool × (Unit × (Unit × (Int × Unit))))) × (((Unit × Unit)) × ((((List ((Int × (ByteArray × Unit)))) × (Int × (Unit × (Bool × (Bool × Unit)))))) × ((List ((Int × (Int × (ByteArray × Unit))))) × Unit))))) (
      bif r88d then
        some (.inr ((true, ((), ((), (0, ())))), (((), ()), ((r88_1, (r88b, ((), (r88d, (r88e, ()))))), (r88c, ())))))
      else
      some (.inr (((ilt r88b (len u0)), ((), ((), (0, ())))), (((), ()), ((r88_1, (r88b, ((), (r88d, (r88e, ()))))), (r88c, ())))))) fun ((t22, (_, (_, (t3, _)))), ((_, _), ((o1a, (o1b, (_, (o1c, (o1d, _))))), (o2, _)))) =>
  bif t22 then
    some ([], (4, ()))
  else
  jb (P := (((Bool × (Unit × (Unit × (Int × Unit))))) × (((Unit × Unit)) × ((((List ((Int × (ByteArray × Unit)))) × (Int × (Unit × (Bool × (Bool × Unit)))))) × ((List ((Int × (Int × (ByteArray × Unit))))) × Unit))))) (
      bif o1d then
        some (.inr ((true, ((), ((), (t3, ())))), (((), ()), ((o1a, (o1b, ((), (o1c, (o1d, ()))))), (o2, ())))))
      else
      some (.inr (((ilt 100 (len o2)), ((), ((), (t3, ())))), (((), ()), ((o1a, (o1b, ((), (o1c, (o1d, ()))))), (o2, ())))))) fun ((t35, (_, (_, (t3_1, _)))), ((_, _), ((o1a_1, (o1b_1, (_, (o1c_1, (o1d_1, _))))), (o2_1, _)))) =>
  bif t35 then
    some ([], (5, ()))
  else
  some (o2_1, (0, ()))
noncomputable def p_s_LangNameOk (R : Run) (n : Nat) (u0 : ByteArray) : Option (Bool × Unit) :=
  jb (P := (((Bool × Unit)) × Unit)) (
      (c_s_l11Plain R u0).bind fun (r24_1, _) =>
      bif r24_1 then
        (c_s_l11Word R u0).bind fun (r62_1, _) =>
        some (.inr (((!r62_1), ()), ()))
      else
      some (.inr ((false, ()), ()))) fun ((t2, _), _) =>
  some (t2, ())
noncomputable def p_i_in (R : Run) (n : Nat) (u0 : Int) (u1 : Int) (u2 : Int) : Option (Bool × Unit) :=
  jb (P := (((Bool × Unit)) × Unit)) (
      bif (ile u1 u0) then
        some (.inr (((ile u0 u2), ()), ()))
      else
      some (.inr ((false, ()), ()))) fun ((t6, _), _) =>
  some (t6, ())
noncomputable def p_slices_Contains_string_string (R : Run) (n : Nat) (u0 : List ByteArray) (u1 : ByteArray) : Option (Bool × Unit) :=
  (c_slices_Index_string_string R u0 u1).bind fun (r104_1, _) =>
  some ((ile 0 r104_1), ())
noncomputable def p_i_wordOk (R : Run) (n : Nat) (u0 : ByteArray) : Option (Bool × Unit) :=
  iter (P := (((Int × (Int × (ByteArray × (Bool × Unit))))) × Unit)) (fun rec ((t6, (t5, (s0, (t2, _)))), _) =>
      bif (ilt t6 t5) then
        jb (P := (((Bool × (Int × (Int × (ByteArray × (Bool × Unit)))))) × Unit)) (
            ok (inB t6 (slen s0)) <|
            (c_i_isLetter R (bt s0 t6)).bind fun (r15_1, _) =>
            bif (!r15_1) then
              ok (inB t6 (slen s0)) <|
              (c_i_isFigure R (bt s0 t6)).bind fun (r16_1, _) =>
              some (.inr (((!r16_1), (t6, (t5, (s0, (t2, ()))))), ()))
            else
            some (.inr ((false, (t6, (t5, (s0, (t2, ()))))), ()))) fun ((t20, (t6_1, (t5_1, (s0_1, (t2_1, _))))), _) =>
        bif t20 then
          some (false, ())
        else
        rec (((iadd .i64 t6_1 1), (t5_1, (s0_1, (t2_1, ())))), ())
      else
      jb (P := (((Bool × Unit)) × Unit)) (
          (c_i_in R (slen s0) 1 8).bind fun (r37_1, _) =>
          bif r37_1 then
            ok (inB 0 (slen s0)) <|
            (c_i_isLetter R (bt s0 0)).bind fun (r15_2_1, _) =>
            some (.inr ((r15_2_1, ()), ()))
          else
          some (.inr ((false, ()), ()))) fun ((t2_2, _), _) =>
      some (t2_2, ())) n ((0, ((slen u0), (u0, (false, ())))), ())
noncomputable def p_s_l34Rd_grow (R : Run) (n : Nat) (u0 : List Int) (u1 : Int) (u2 : List ((Int × (Int × (ByteArray × Unit))))) (u3 : List ByteArray) (u4 : List ((ByteArray × (Int × Unit)))) (u5 : Int) : Option ((List ((Int × (Int × (ByteArray × Unit))))) × (List Int × (Int × Unit))) :=
  (c_s_l34Rd_pick R u0 u1 16).bind fun (r9_1, (r9b, (r9c, _))) =>
  jb (P := (((Bool × (List ByteArray × (Unit × (Unit × (Unit × (Int × ((List ((ByteArray × (Int × Unit)))) × (Int × Unit))))))))) × (((List Int × (Int × Unit))) × (((Unit × Unit)) × (((Unit × Unit)) × ((List ((Int × (Int × (ByteArray × Unit))))) × Unit)))))) (
      bif (ile u5 0) then
        some (.inr ((true, (u3, ((), ((), ((), (r9_1, (u4, (u5, ())))))))), ((r9b, (r9c, ())), (((), ()), (((), ()), (u2, ()))))))
      else
      some (.inr (((ilt r9_1 5), (u3, ((), ((), ((), (r9_1, (u4, (u5, ())))))))), ((r9b, (r9c, ())), (((), ()), (((), ()), (u2, ()))))))) fun ((t24, (names2, (_, (_, (_, (k11, (calls3, (left4, _)))))))), ((o0a, (o0b, _)), ((_, _), ((_, _), (o3, _))))) =>
  bif t24 then
    jb (P := (((Unit × (Unit × (Int × ((List ((ByteArray × (Int × Unit)))) × (Unit × (List ByteArray × (Int × Unit)))))))) × (((Unit × Unit)) × (((Unit × Unit)) × (((List Int × (Int × Unit))) × ((List ((Int × (Int × (ByteArray × Unit))))) × Unit)))))) (
        jb (P := (((Bool × (Unit × (List ByteArray × (Unit × (Unit × (Int × ((List ((ByteArray × (Int × Unit)))) × (Int × Unit))))))))) × (((Unit × Unit)) × (((List Int × (Int × Unit))) × (((Unit × Unit)) × ((List ((Int × (Int × (ByteArray × Unit))))) × Unit)))))) (
            bif (ilt 0 (len names2)) then
              (c_s_l34Rd_pick R o0a o0b 3).bind fun (r9_2_1, (r9_2b, (r9_2c, _))) =>
              some (.inr (((ilt 0 r9_2_1), ((), (names2, ((), ((), (k11, (calls3, (left4, ())))))))), (((), ()), ((r9_2b, (r9_2c, ())), (((), ()), (o3, ()))))))
            else
            some (.inr ((false, ((), (names2, ((), ((), (k11, (calls3, (left4, ())))))))), (((), ()), ((o0a, (o0b, ())), (((), ()), (o3, ()))))))) fun ((t32, (_, (names2_1, (_, (_, (k11_1, (calls3_1, (left4_1, _)))))))), ((_, _), ((o1a, (o1b, _)), ((_, _), (o3_1, _))))) =>
        bif t32 then
          (c_s_l34Rd_pick R o1a o1b (len names2_1)).bind fun (r9_3_1, (r9_3b, (r9_3c, _))) =>
          ok (inB r9_3_1 (len names2_1)) <|
          ok (aok (o3_1 ++ [(2, (0, ((List.getD names2_1 (Int.toNat r9_3_1) (bs [])), ())))]) 32) <|
          some (.inr (((), ((), (k11_1, (calls3_1, ((), (names2_1, (left4_1, ()))))))), (((), ()), (((), ()), ((r9_3b, (r9_3c, ())), ((o3_1 ++ [(2, (0, ((List.getD names2_1 (Int.toNat r9_3_1) (bs [])), ())))]), ()))))))
        else
        (c_s_l34Rd_number R o1a o1b).bind fun (r44_1, (r44b, (r44c, _))) =>
        ok (aok (o3_1 ++ [(1, (0, (r44_1, ())))]) 32) <|
        some (.inr (((), ((), (k11_1, (calls3_1, ((), (names2_1, (left4_1, ()))))))), (((), ()), (((), ()), ((r44b, (r44c, ())), ((o3_1 ++ [(1, (0, (r44_1, ())))]), ()))))))) fun ((_, (_, (k11_2, (calls3_2, (_, (names2_2, (left4_2, _))))))), ((_, _), ((_, _), ((o2a, (o2b, _)), (o3_2, _))))) =>
    some (o3_2, (o2a, (o2b, ())))
  else
  jb (P := (((Bool × ((List ((ByteArray × (Int × Unit)))) × (Unit × (Unit × (List ByteArray × (Int × (Unit × Unit)))))))) × (((List Int × (Int × Unit))) × (((Unit × Unit)) × (((Unit × Unit)) × ((List ((Int × (Int × (ByteArray × Unit))))) × Unit)))))) (
      bif (ilt k11 7) then
        some (.inr (((ilt 0 (len calls3)), (calls3, ((), ((), (names2, (left4, ((), ()))))))), ((o0a, (o0b, ())), (((), ()), (((), ()), (o3, ()))))))
      else
      some (.inr ((false, (calls3, ((), ((), (names2, (left4, ((), ()))))))), ((o0a, (o0b, ())), (((), ()), (((), ()), (o3, ()))))))) fun ((t61, (calls3_3, (_, (_, (names2_3, (left4_3, (_, _))))))), ((o0a_1, (o0b_1, _)), ((_, _), ((_, _), (o3_3, _))))) =>
  bif t61 then
    (c_s_l34Rd_pick R o0a_1 o0b_1 (len calls3_3)).bind fun (r9_4_1, (r9_4b, (r9_4c, _))) =>
    ok (inB r9_4_1 (len calls3_3)) <|
    iter (P := (((Int × (Unit × (Unit × (Unit × (List ByteArray × ((List ((ByteArray × (Int × Unit)))) × (Int × (Unit × Unit))))))))) × (((ByteArray × (Int × Unit))) × (((List Int × (Int × Unit))) × (((Unit × Unit)) × (((Unit × Unit)) × ((List ((Int × (Int × (ByteArray × Unit))))) × Unit))))))) (fun rec ((i13, (_, (_, (_, (names2_4, (calls3_4, (left4_4, (_, _)))))))), ((o0a_2, (o0b_2, _)), ((o1a_1, (o1b_1, _)), ((_, _), ((_, _), (o4, _)))))) =>
        bif (ilt i13 o0b_2) then
          (c_s_l34Rd_grow R o1a_1 o1b_1 o4 names2_4 calls3_4 (isub .i64 left4_4 2)).bind fun (r43_1, (r43b, (r43c, _))) =>
          rec (((iadd .i64 i13 1), ((), ((), ((), (names2_4, (calls3_4, (left4_4, ((), ())))))))), ((o0a_2, (o0b_2, ())), ((r43b, (r43c, ())), (((), ()), (((), ()), (r43_1, ()))))))
        else
        jb (P := (((Unit × (Unit × (Unit × (Unit × (List ByteArray × ((List ((ByteArray × (Int × Unit)))) × (Int × Unit)))))))) × (((Unit × Unit)) × (((Int × (Int × (ByteArray × Unit)))) × (((Unit × Unit)) × (((List Int × (Int × Unit))) × ((List ((Int × (Int × (ByteArray × Unit))))) × Unit))))))) (
            bif (o0b_2 == 0) then
              some (.inr (((), ((), ((), ((), (names2_4, (calls3_4, (left4_4, ()))))))), (((), ()), ((2, (o0b_2, (o0a_2, ()))), (((), ()), ((o1a_1, (o1b_1, ())), (o4, ())))))))
            else
            some (.inr (((), ((), ((), ((), (names2_4, (calls3_4, (left4_4, ()))))))), (((), ()), ((13, (o0b_2, (o0a_2, ()))), (((), ()), ((o1a_1, (o1b_1, ())), (o4, ())))))))) fun ((_, (_, (_, (_, (names2_5, (calls3_5, (left4_5, _))))))), ((_, _), ((o1a_2, (o1b_2, (o1c, _))), ((_, _), ((o3a, (o3b, _)), (o4_1, _)))))) =>
        ok (aok (o4_1 ++ [(o1a_2, (o1b_2, (o1c, ())))]) 32) <|
        some ((o4_1 ++ [(o1a_2, (o1b_2, (o1c, ())))]), (o3a, (o3b, ())))) n ((0, ((), ((), ((), (names2_3, (calls3_3, (left4_3, ((), ())))))))), (((List.getD calls3_3 (Int.toNat r9_4_1) ((bs []), (0, ()))).1, ((List.getD calls3_3 (Int.toNat r9_4_1) ((bs []), (0, ()))).2.1, ())), ((r9_4b, (r9_4c, ())), (((), ()), (((), ()), (o3_3, ()))))))
  else
  (c_s_l34Rd_pick R o0a_1 o0b_1 12).bind fun (r9_5_1, (r9_5b, (r9_5c, _))) =>
  ok (inB r9_5_1 (len [3, 4, 5, 6, 7, 8, 9, 10, 11, 12, 4, 6])) <|
  jb (P := (((Unit × (Unit × (List ByteArray × ((List ((ByteArray × (Int × Unit)))) × (Int × (Unit × (Unit × Unit)))))))) × (((List Int × (Int × Unit))) × (((Unit × Unit)) × (((Int × (Int × (ByteArray × Unit)))) × (((Unit × Unit)) × ((List ((Int × (Int × (ByteArray × Unit))))) × Unit))))))) (
      bif ((List.getD ([3, 4, 5, 6, 7, 8, 9, 10, 11, 12, 4, 6] : List Int) (Int.toNat r9_5_1) 0) == 8) then
        (c_s_l34Rd_pick R r9_5b r9_5c 9).bind fun (r9_6_1, (r9_6b, (r9_6c, _))) =>
        some (.inr (((), ((), (names2_3, (calls3_3, (left4_3, ((), ((), ()))))))), ((r9_6b, (r9_6c, ())), (((), ()), (((List.getD ([3, 4, 5, 6, 7, 8, 9, 10, 11, 12, 4, 6] : List Int) (Int.toNat r9_5_1) 0), (r9_6_1, ((bs []), ()))), (((), ()), (o3_3, ())))))))
      else
      some (.inr (((), ((), (names2_3, (calls3_3, (left4_3, ((), ((), ()))))))), ((r9_5b, (r9_5c, ())), (((), ()), (((List.getD ([3, 4, 5, 6, 7, 8, 9, 10, 11, 12, 4, 6] : List Int) (Int.toNat r9_5_1) 0), (0, ((bs []), ()))), (((), ()), (o3_3, ())))))))) fun ((_, (_, (names2_6, (calls3_6, (left4_6, (_, (_, _))))))), ((o0a_3, (o0b_3, _)), ((_, _), ((o2a_1, (o2b_1, (o2c, _))), ((_, _), (o4_2, _)))))) =>
  (c_s_l34Rd_grow R o0a_3 o0b_3 o4_2 names2_6 calls3_6 (isub .i64 left4_6 1)).bind fun (r43_2_1, (r43_2b, (r43_2c, _))) =>
  jb (P := (((Unit × (Unit × (Unit × (Unit × Unit))))) × (((Unit × Unit)) × (((Int × (Int × (ByteArray × Unit)))) × (((Unit × Unit)) × (((List Int × (Int × Unit))) × ((List ((Int × (Int × (ByteArray × Unit))))) × Unit))))))) (
      (c_s_l12Args R o2a_1 o2b_1 o2c).bind fun (r40_1, _) =>
      bif (r40_1 == 2) then
        (c_s_l34Rd_grow R r43_2b r43_2c r43_2_1 names2_6 calls3_6 (isub .i64 left4_6 1)).bind fun (r43_3_1, (r43_3b, (r43_3c, _))) =>
        some (.inr (((), ((), ((), ((), ())))), (((), ()), ((o2a_1, (o2b_1, (o2c, ()))), (((), ()), ((r43_3b, (r43_3c, ())), (r43_3_1, ())))))))
      else
      some (.inr (((), ((), ((), ((), ())))), (((), ()), ((o2a_1, (o2b_1, (o2c, ()))), (((), ()), ((r43_2b, (r43_2c, ())), (r43_2_1, ())))))))) fun ((_, (_, (_, (_, _)))), ((_, _), ((o1a_3, (o1b_3, (o1c_1, _))), ((_, _), ((o3a_1, (o3b_1, _)), (o4_3, _)))))) =>
  ok (aok (o4_3 ++ [(o1a_3, (o1b_3, (o1c_1, ())))]) 32) <|
  some ((o4_3 ++ [(o1a_3, (o1b_3, (o1c_1, ())))]), (o3a_1, (o3b_1, ())))
noncomputable def p_i_TermNode_parts (R : Run) (n : Nat) (u0 : Int) (u1 : Int) (u2 : ByteArray) : Option (Int × Unit) :=
  jb (P := (((Unit × (Bool × (Int × Unit)))) × (((Int × (Int × (ByteArray × Unit)))) × Unit))) (
      bif (u1 == 0) then
        some (.inr (((), ((seq u2 (bs [])), (0, ()))), ((u0, (u1, (u2, ()))), ())))
      else
      some (.inr (((), (false, (0, ()))), ((u0, (u1, (u2, ()))), ())))) fun ((_, (bare3, (t2, _))), ((o0a, (o0b, (o0c, _))), _)) =>
  jb (P := (((Int × Unit)) × Unit)) (
      bif (o0a == 1) then
        jb (P := (((Bool × (Int × Unit))) × Unit)) (
            bif (o0b == 0) then
              (c_i_LangNumOk R o0c).bind fun (r82_1, _) =>
              some (.inr ((r82_1, (t2, ())), ()))
            else
            some (.inr ((false, (t2, ())), ()))) fun ((t23, (t2_1, _)), _) =>
        bif t23 then
          some (.inl (0, ()))
        else
        some (.inr ((t2_1, ()), ()))
      else
      bif (o0a == 2) then
        jb (P := (((Bool × (Int × Unit))) × Unit)) (
            bif (o0b == 0) then
              (c_i_LangNameOk R o0c).bind fun (r31_1, _) =>
              some (.inr ((r31_1, (t2, ())), ()))
            else
            some (.inr ((false, (t2, ())), ()))) fun ((t33, (t2_2, _)), _) =>
        bif t33 then
          some (.inl (0, ()))
        else
        some (.inr ((t2_2, ()), ()))
      else
      jb (P := (((Bool × (Bool × (Int × (Unit × (Int × Unit)))))) × (((Int × (Int × (ByteArray × Unit)))) × Unit))) (
          bif (o0a == 3) then
            some (.inr ((true, (bare3, (o0a, ((), (t2, ()))))), ((o0a, (o0b, (o0c, ()))), ())))
          else
          bif (o0a == 9) then
            some (.inr ((true, (bare3, (o0a, ((), (t2, ()))))), ((o0a, (o0b, (o0c, ()))), ())))
          else
          some (.inr (((o0a == 10), (bare3, (o0a, ((), (t2, ()))))), ((o0a, (o0b, (o0c, ()))), ())))) fun ((t34, (bare3_1, (t13, (_, (t2_3, _))))), ((o0a_1, (o0b_1, (o0c_1, _))), _)) =>
      bif t34 then
        bif bare3_1 then
          some (.inl (1, ()))
        else
        some (.inr ((t2_3, ()), ()))
      else
      jb (P := (((Bool × (Bool × (Int × (Unit × (Int × Unit)))))) × (((Int × (Int × (ByteArray × Unit)))) × Unit))) (
          bif (t13 == 4) then
            some (.inr ((true, (bare3_1, (t13, ((), (t2_3, ()))))), ((o0a_1, (o0b_1, (o0c_1, ()))), ())))
          else
          bif (t13 == 5) then
            some (.inr ((true, (bare3_1, (t13, ((), (t2_3, ()))))), ((o0a_1, (o0b_1, (o0c_1, ()))), ())))
          else
          bif (t13 == 6) then
            some (.inr ((true, (bare3_1, (t13, ((), (t2_3, ()))))), ((o0a_1, (o0b_1, (o0c_1, ()))), ())))
          else
          bif (t13 == 7) then
            some (.inr ((true, (bare3_1, (t13, ((), (t2_3, ()))))), ((o0a_1, (o0b_1, (o0c_1, ()))), ())))
          else
          bif (t13 == 11) then
            some (.inr ((true, (bare3_1, (t13, ((), (t2_3, ()))))), ((o0a_1, (o0b_1, (o0c_1, ()))), ())))
          else
          some (.inr (((t13 == 12), (bare3_1, (t13, ((), (t2_3, ()))))), ((o0a_1, (o0b_1, (o0c_1, ()))), ())))) fun ((t39, (bare3_2, (t13_1, (_, (t2_4, _))))), ((o0a_2, (o0b_2, (o0c_2, _))), _)) =>
      bif t39 then
        bif bare3_2 then
          some (.inl (2, ()))
        else
        some (.inr ((t2_4, ()), ()))
      else
      bif (t13_1 == 8) then
        jb (P := (((Bool × (Int × Unit))) × Unit)) (
            (c_i_in R o0b_2 0 8).bind fun (r54_1, _) =>
            bif r54_1 then
              some (.inr (((seq o0c_2 (bs [])), (t2_4, ())), ()))
            else
            some (.inr ((false, (t2_4, ())), ()))) fun ((t56, (t2_5, _)), _) =>
        bif t56 then
          some (.inl (1, ()))
        else
        some (.inr ((t2_5, ()), ()))
      else
      bif (t13_1 == 13) then
        jb (P := (((Bool × (Unit × (Int × Unit)))) × (((Int × (Int × (ByteArray × Unit)))) × Unit))) (
            (c_i_in R o0b_2 1 6).bind fun (r54_2_1, _) =>
            bif r54_2_1 then
              (c_i_LangNameOk R o0c_2).bind fun (r31_2_1, _) =>
              some (.inr ((r31_2_1, ((), (t2_4, ()))), ((o0a_2, (o0b_2, (o0c_2, ()))), ())))
            else
            some (.inr ((false, ((), (t2_4, ()))), ((o0a_2, (o0b_2, (o0c_2, ()))), ())))) fun ((t66, (_, (t2_6, _))), ((o0a_3, (o0b_3, (o0c_3, _))), _)) =>
        bif t66 then
          some (.inl (o0b_3, ()))
        else
        some (.inr ((t2_6, ()), ()))
      else
      some (.inr ((t2_4, ()), ()))) fun ((t2_7, _), _) =>
  some ((-1), ())
noncomputable def p_i_fold_impl_written_i_write (R : Run) (n : Nat) (u0 : List ((Int × (Int × (ByteArray × Unit))))) : Option (ByteArray × (Int × Unit)) :=
  iter (P := (((Int × (Int × ((List ((Int × (Int × (ByteArray × Unit))))) × (Unit × (Unit × (Unit × Unit))))))) × ((List ((ByteArray × (Int × Unit)))) × (((ByteArray × (Int × Unit))) × Unit)))) (fun rec ((t12, (t11, (t10, (_, (_, (_, _)))))), (o0, ((o1a, (o1b, _)), _))) =>
      bif (ilt t12 t11) then
        ok (inB t12 (len t10)) <|
        (c_i_TermNode_parts R (List.getD t10 (Int.toNat t12) (0, (0, ((bs []), ())))).1 (List.getD t10 (Int.toNat t12) (0, (0, ((bs []), ())))).2.1 (List.getD t10 (Int.toNat t12) (0, (0, ((bs []), ())))).2.2.1).bind fun (r65_1, _) =>
        ok (sliceOk 0 (isub .i64 (len o0) r65_1) (len o0)) <|
        ok (sliceOk (isub .i64 (len o0) r65_1) (len o0) (len o0)) <|
        (c_i_write R (List.getD t10 (Int.toNat t12) (0, (0, ((bs []), ())))).1 (List.getD t10 (Int.toNat t12) (0, (0, ((bs []), ())))).2.1 (List.getD t10 (Int.toNat t12) (0, (0, ((bs []), ())))).2.2.1 (part o0 (Int.toNat (isub .i64 (len o0) r65_1)) ((Int.toNat (len o0)) - (Int.toNat (isub .i64 (len o0) r65_1))))).bind fun (r67_1, (r67b, _)) =>
        ok (aok ((part o0 0 (Int.toNat (isub .i64 (len o0) r65_1))) ++ [(r67_1, (r67b, ()))]) 24) <|
        rec (((iadd .i64 t12 1), (t11, (t10, ((), ((), ((), ())))))), (((part o0 0 (Int.toNat (isub .i64 (len o0) r65_1))) ++ [(r67_1, (r67b, ()))]), ((o1a, (o1b, ())), ())))
      else
      ok (inB 0 (len o0)) <|
      some ((List.getD o0 (Int.toNat 0) ((bs []), (0, ()))).1, ((List.getD o0 (Int.toNat 0) ((bs []), (0, ()))).2.1, ()))) n ((0, ((len u0), (u0, ((), ((), ((), ())))))), ([], (((bs []), (0, ())), ())))
noncomputable def p_i_write (R : Run) (n : Nat) (u0 : Int) (u1 : Int) (u2 : ByteArray) (u3 : List ((ByteArray × (Int × Unit)))) : Option (ByteArray × (Int × Unit)) :=
  bif (u0 == 3) then
    ok (inB 0 (len u3)) <|
    (c_i_written_in R (List.getD u3 (Int.toNat 0) ((bs []), (0, ()))).1 (List.getD u3 (Int.toNat 0) ((bs []), (0, ()))).2.1 3).bind fun (r112_1, _) =>
    ok (sok (bs [45]) r112_1) <|
    some (((bs [45]) ++ r112_1), (3, ()))
  else
  bif (u0 == 4) then
    ok (inB 0 (len u3)) <|
    (c_i_written_in R (List.getD u3 (Int.toNat 0) ((bs []), (0, ()))).1 (List.getD u3 (Int.toNat 0) ((bs []), (0, ()))).2.1 1).bind fun (r112_2_1, _) =>
    ok (sok r112_2_1 (bs [32, 43, 32])) <|
    ok (inB 1 (len u3)) <|
    (c_i_written_in R (List.getD u3 (Int.toNat 1) ((bs []), (0, ()))).1 (List.getD u3 (Int.toNat 1) ((bs []), (0, ()))).2.1 2).bind fun (r112_3_1, _) =>
    ok (sok (r112_2_1 ++ (bs [32, 43, 32])) r112_3_1) <|
    some (((r112_2_1 ++ (bs [32, 43, 32])) ++ r112_3_1), (1, ()))
  else
  bif (u0 == 5) then
    ok (inB 0 (len u3)) <|
    (c_i_written_in R (List.getD u3 (Int.toNat 0) ((bs []), (0, ()))).1 (List.getD u3 (Int.toNat 0) ((bs []), (0, ()))).2.1 1).bind fun (r112_4_1, _) =>
    ok (sok r112_4_1 (bs [32, 45, 32])) <|
    ok (inB 1 (len u3)) <|
    (c_i_written_in R (List.getD u3 (Int.toNat 1) ((bs []), (0, ()))).1 (List.getD u3 (Int.toNat 1) ((bs []), (0, ()))).2.1 2).bind fun (r112_5_1, _) =>
    ok (sok (r112_4_1 ++ (bs [32, 45, 32])) r112_5_1) <|
    some (((r112_4_1 ++ (bs [32, 45, 32])) ++ r112_5_1), (1, ()))
  else
  bif (u0 == 6) then
    ok (inB 0 (len u3)) <|
    (c_i_written_in R (List.getD u3 (Int.toNat 0) ((bs []), (0, ()))).1 (List.getD u3 (Int.toNat 0) ((bs []), (0, ()))).2.1 2).bind fun (r112_6_1, _) =>
    ok (sok r112_6_1 (bs [32, 42, 32])) <|
    ok (inB 1 (len u3)) <|
    (c_i_written_in R (List.getD u3 (Int.toNat 1) ((bs []), (0, ()))).1 (List.getD u3 (Int.toNat 1) ((bs []), (0, ()))).2.1 3).bind fun (r112_7_1, _) =>
    ok (sok (r112_6_1 ++ (bs [32, 42, 32])) r112_7_1) <|
    some (((r112_6_1 ++ (bs [32, 42, 32])) ++ r112_7_1), (2, ()))
  else
  bif (u0 == 7) then
    ok (inB 0 (len u3)) <|
    (c_i_written_in R (List.getD u3 (Int.toNat 0) ((bs []), (0, ()))).1 (List.getD u3 (Int.toNat 0) ((bs []), (0, ()))).2.1 2).bind fun (r112_8_1, _) =>
    ok (sok r112_8_1 (bs [32, 47, 32])) <|
    ok (inB 1 (len u3)) <|
    (c_i_written_in R (List.getD u3 (Int.toNat 1) ((bs []), (0, ()))).1 (List.getD u3 (Int.toNat 1) ((bs []), (0, ()))).2.1 3).bind fun (r112_9_1, _) =>
    ok (sok (r112_8_1 ++ (bs [32, 47, 32])) r112_9_1) <|
    some (((r112_8_1 ++ (bs [32, 47, 32])) ++ r112_9_1), (2, ()))
  else
  bif (u0 == 8) then
    ok (inB 0 (len u3)) <|
    (c_i_written_in R (List.getD u3 (Int.toNat 0) ((bs []), (0, ()))).1 (List.getD u3 (Int.toNat 0) ((bs []), (0, ()))).2.1 5).bind fun (r112_10_1, _) =>
    ok (sok r112_10_1 (bs [94])) <|
    (c_strconv_Itoa R u1).bind fun (r113_1, _) =>
    ok (sok (r112_10_1 ++ (bs [94])) r113_1) <|
    some (((r112_10_1 ++ (bs [94])) ++ r113_1), (4, ()))
  else
  bif (u0 == 9) then
    (c_i_write_1 R (bs [115, 113, 114, 116]) u3).bind fun (r111_1, (r111b, (r111c, _))) =>
    some (r111_1, (r111b, ()))
  else
  bif (u0 == 10) then
    (c_i_write_1 R (bs [97, 98, 115]) u3).bind fun (r111_2_1, (r111_2b, (r111_2c, _))) =>
    some (r111_2_1, (r111_2b, ()))
  else
  bif (u0 == 11) then
    (c_i_write_1 R (bs [109, 105, 110]) u3).bind fun (r111_3_1, (r111_3b, (r111_3c, _))) =>
    some (r111_3_1, (r111_3b, ()))
  else
  bif (u0 == 12) then
    (c_i_write_1 R (bs [109, 97, 120]) u3).bind fun (r111_4_1, (r111_4b, (r111_4c, _))) =>
    some (r111_4_1, (r111_4b, ()))
  else
  bif (u0 == 13) then
    (c_i_write_1 R u2 u3).bind fun (r111_5_1, (r111_5b, (r111_5c, _))) =>
    some (r111_5_1, (r111_5b, ()))
  else
  some (u2, (5, ()))
noncomputable def p_s_l12Args (R : Run) (n : Nat) (u0 : Int) (u1 : Int) (u2 : ByteArray) : Option (Int × Unit) :=
  jb (P := (((Int × Unit)) × Unit)) (
      bif (u0 == 1) then
        jb (P := (((Bool × (Int × Unit))) × Unit)) (
            bif (u1 == 0) then
              (c_s_LangNumOk R u2).bind fun (r23_1, _) =>
              some (.inr ((r23_1, (0, ())), ()))
            else
            some (.inr ((false, (0, ())), ()))) fun ((t14, (t2, _)), _) =>
        bif t14 then
          some (.inl (0, ()))
        else
        some (.inr ((t2, ()), ()))
      else
      bif (u0 == 2) then
        jb (P := (((Bool × (Int × Unit))) × Unit)) (
            bif (u1 == 0) then
              (c_s_LangNameOk R u2).bind fun (r53_1, _) =>
              some (.inr ((r53_1, (0, ())), ()))
            else
            some (.inr ((false, (0, ())), ()))) fun ((t24, (t2_1, _)), _) =>
        bif t24 then
          some (.inl (0, ()))
        else
        some (.inr ((t2_1, ()), ()))
      else
      jb (P := (((Bool × (Unit × (Int × (Int × Unit))))) × (((Int × (Int × (ByteArray × Unit)))) × Unit))) (
          bif (u0 == 3) then
            some (.inr ((true, ((), (u0, (0, ())))), ((u0, (u1, (u2, ()))), ())))
          else
          bif (u0 == 9) then
            some (.inr ((true, ((), (u0, (0, ())))), ((u0, (u1, (u2, ()))), ())))
          else
          some (.inr (((u0 == 10), ((), (u0, (0, ())))), ((u0, (u1, (u2, ()))), ())))) fun ((t25, (_, (t4, (t2_2, _)))), ((o0a, (o0b, (o0c, _))), _)) =>
      bif t25 then
        jb (P := (((Bool × (Int × Unit))) × Unit)) (
            bif (o0b == 0) then
              some (.inr (((seq o0c (bs [])), (t2_2, ())), ()))
            else
            some (.inr ((false, (t2_2, ())), ()))) fun ((t36, (t2_3, _)), _) =>
        bif t36 then
          some (.inl (1, ()))
        else
        some (.inr ((t2_3, ()), ()))
      else
      jb (P := (((Bool × (Unit × (Int × (Int × Unit))))) × (((Int × (Int × (ByteArray × Unit)))) × Unit))) (
          bif (t4 == 4) then
            some (.inr ((true, ((), (t4, (t2_2, ())))), ((o0a, (o0b, (o0c, ()))), ())))
          else
          bif (t4 == 5) then
            some (.inr ((true, ((), (t4, (t2_2, ())))), ((o0a, (o0b, (o0c, ()))), ())))
          else
          bif (t4 == 6) then
            some (.inr ((true, ((), (t4, (t2_2, ())))), ((o0a, (o0b, (o0c, ()))), ())))
          else
          bif (t4 == 7) then
            some (.inr ((true, ((), (t4, (t2_2, ())))), ((o0a, (o0b, (o0c, ()))), ())))
          else
          bif (t4 == 11) then
            some (.inr ((true, ((), (t4, (t2_2, ())))), ((o0a, (o0b, (o0c, ()))), ())))
          else
          some (.inr (((t4 == 12), ((), (t4, (t2_2, ())))), ((o0a, (o0b, (o0c, ()))), ())))) fun ((t37, (_, (t4_1, (t2_4, _)))), ((o0a_1, (o0b_1, (o0c_1, _))), _)) =>
      bif t37 then
        jb (P := (((Bool × (Int × Unit))) × Unit)) (
            bif (o0b_1 == 0) then
              some (.inr (((seq o0c_1 (bs [])), (t2_4, ())), ()))
            else
            some (.inr ((false, (t2_4, ())), ()))) fun ((t51, (t2_5, _)), _) =>
        bif t51 then
          some (.inl (2, ()))
        else
        some (.inr ((t2_5, ()), ()))
      else
      bif (t4_1 == 8) then
        jb (P := (((Bool × (Int × Unit))) × Unit)) (
            bif (ile 0 o0b_1) then
              bif (ile o0b_1 8) then
                some (.inr (((seq o0c_1 (bs [])), (t2_4, ())), ()))
              else
              some (.inr ((false, (t2_4, ())), ()))
            else
            some (.inr ((false, (t2_4, ())), ()))) fun ((t66, (t2_6, _)), _) =>
        bif t66 then
          some (.inl (1, ()))
        else
        some (.inr ((t2_6, ()), ()))
      else
      bif (t4_1 == 13) then
        jb (P := (((Bool × (Unit × (Int × Unit)))) × (((Int × (Int × (ByteArray × Unit)))) × Unit))) (
            bif (ile 1 o0b_1) then
              bif (ile o0b_1 6) then
                (c_s_LangNameOk R o0c_1).bind fun (r53_2_1, _) =>
                some (.inr ((r53_2_1, ((), (t2_4, ()))), ((o0a_1, (o0b_1, (o0c_1, ()))), ())))
              else
              some (.inr ((false, ((), (t2_4, ()))), ((o0a_1, (o0b_1, (o0c_1, ()))), ())))
            else
            some (.inr ((false, ((), (t2_4, ()))), ((o0a_1, (o0b_1, (o0c_1, ()))), ())))) fun ((t81, (_, (t2_7, _))), ((o0a_2, (o0b_2, (o0c_2, _))), _)) =>
        bif t81 then
          some (.inl (o0b_2, ()))
        else
        some (.inr ((t2_7, ()), ()))
      else
      some (.inr ((t2_4, ()), ()))) fun ((t2_8, _), _) =>
  some ((-1), ())
noncomputable def p_s_l12Level (R : Run) (n : Nat) (u0 : Int) (u1 : Int) (u2 : ByteArray) : Option (Int × Unit) :=
  jb (P := (((Bool × (Int × (Int × Unit)))) × Unit)) (
      bif (u0 == 4) then
        some (.inr ((true, (u0, (0, ()))), ()))
      else
      some (.inr (((u0 == 5), (u0, (0, ()))), ()))) fun ((t5, (t4, (t2, _))), _) =>
  bif t5 then
    some (1, ())
  else
  jb (P := (((Bool × (Int × (Int × Unit)))) × Unit)) (
      bif (t4 == 6) then
        some (.inr ((true, (t4, (t2, ()))), ()))
      else
      some (.inr (((t4 == 7), (t4, (t2, ()))), ()))) fun ((t8, (t4_1, (t2_1, _))), _) =>
  bif t8 then
    some (2, ())
  else
  bif (t4_1 == 3) then
    some (3, ())
  else
  bif (t4_1 == 8) then
    some (4, ())
  else
  some (5, ())
noncomputable def p_s_l12Parts (R : Run) (n : Nat) (u0 : List ((Int × (Int × (ByteArray × Unit))))) (u1 : Int) : Option (List Int × Unit) :=
  ok (inB u1 (len u0)) <|
  (c_s_l12Args R (List.getD u0 (Int.toNat u1) (0, (0, ((bs []), ())))).1 (List.getD u0 (Int.toNat u1) (0, (0, ((bs []), ())))).2.1 (List.getD u0 (Int.toNat u1) (0, (0, ((bs []), ())))).2.2.1).bind fun (r40_1, _) =>
  iter (P := (((Int × (Unit × (Int × (Unit × (Unit × Unit)))))) × (List Int × ((((List ((Int × (Int × (ByteArray × Unit))))) × Unit)) × Unit)))) (fun rec ((k7, (_, (end6, (_, (_, _))))), (o0, ((o1, _), _))) =>
      bif (ilt 0 k7) then
        ok (aok (o0 ++ [end6]) 8) <|
        (c_s_l12Start R o1 end6).bind fun (r54_1, _) =>
        rec (((isub .i64 k7 1), ((), ((isub .i64 r54_1 1), ((), ((), ()))))), ((o0 ++ [end6]), ((o1, ()), ())))
      else
      iter (P := (((Int × (Unit × (Unit × (Unit × Unit))))) × (List Int × (List Int × Unit)))) (fun rec_1 ((i9, (_, (_, (_, _)))), (o0_1, (o1_1, _))) =>
          bif (ile 0 i9) then
            ok (inB i9 (len o1_1)) <|
            ok (aok (o0_1 ++ [(List.getD o1_1 (Int.toNat i9) 0)]) 8) <|
            rec_1 (((isub .i64 i9 1), ((), ((), ((), ())))), ((o0_1 ++ [(List.getD o1_1 (Int.toNat i9) 0)]), (o1_1, ())))
          else
          some (o0_1, ())) n (((isub .i64 (len o0) 1), ((), ((), ((), ())))), ([], (o0, ())))) n ((r40_1, ((), ((isub .i64 u1 1), ((), ((), ()))))), ([], ((u0, ()), ())))
noncomputable def p_s_l11Letter (R : Run) (n : Nat) (u0 : Int) : Option (Bool × Unit) :=
  jb (P := (((Bool × Unit)) × Unit)) (
      bif (ile 97 u0) then
        some (.inr (((ile u0 122), ()), ()))
      else
      some (.inr ((false, ()), ()))) fun ((t2, _), _) =>
  some (t2, ())
noncomputable def p_s_l11Digit (R : Run) (n : Nat) (u0 : Int) : Option (Bool × Unit) :=
  jb (P := (((Bool × Unit)) × Unit)) (
      bif (ile 48 u0) then
        some (.inr (((ile u0 57), ()), ()))
      else
      some (.inr ((false, ()), ()))) fun ((t2, _), _) =>
  some (t2, ())
noncomputable def p_s_l11End (R : Run) (n : Nat) (u0 : ByteArray) (u1 : Int) : Option (Int × Unit) :=
  iter (P := (((Int × (ByteArray × (Int × (Int × Unit))))) × Unit)) (fun rec ((i5, (line0, (at1, (t4, _)))), _) =>
      bif (ilt i5 (slen line0)) then
        ok (inB i5 (slen line0)) <|
        jb (P := (((Bool × (Int × (ByteArray × (Int × (Int × Unit)))))) × Unit)) (
            (c_s_l11Letter R (bt line0 i5)).bind fun (r20_1, _) =>
            bif (!r20_1) then
              (c_s_l11Digit R (bt line0 i5)).bind fun (r21_1, _) =>
              bif (!r21_1) then
                bif ((bt line0 i5) != 46) then
                  bif ((bt line0 i5) == 45) then
                    ok (inB at1 (slen line0)) <|
                    (c_s_l11Digit R (bt line0 at1)).bind fun (r21_2_1, _) =>
                    bif r21_2_1 then
                      ok (inB (isub .i64 i5 1) (slen line0)) <|
                      some (.inr (((!((bt line0 (isub .i64 i5 1)) == 101)), (i5, (line0, (at1, (t4, ()))))), ()))
                    else
                    some (.inr (((!false), (i5, (line0, (at1, (t4, ()))))), ()))
                  else
                  some (.inr (((!false), (i5, (line0, (at1, (t4, ()))))), ()))
                else
                some (.inr ((false, (i5, (line0, (at1, (t4, ()))))), ()))
              else
              some (.inr ((false, (i5, (line0, (at1, (t4, ()))))), ()))
            else
            some (.inr ((false, (i5, (line0, (at1, (t4, ()))))), ()))) fun ((t45, (i5_1, (line0_1, (at1_1, (t4_1, _))))), _) =>
        bif t45 then
          some (i5_1, ())
        else
        rec (((iadd .i64 i5_1 1), (line0_1, (at1_1, (t4_1, ())))), ())
      else
      some (i5, ())) n (((iadd .i64 u1 1), (u0, (u1, (0, ())))), ())
noncomputable def p_s_LangNumOk (R : Run) (n : Nat) (u0 : ByteArray) : Option (Bool × Unit) :=
  (c_s_l11Run R u0 0).bind fun (r38_1, _) =>
  jb (P := (((Bool × (Int × (ByteArray × (Bool × Unit))))) × Unit)) (
      bif (ilt 60 (slen u0)) then
        some (.inr ((true, (r38_1, (u0, (false, ())))), ()))
      else
      bif (r38_1 == 0) then
        some (.inr ((true, (r38_1, (u0, (false, ())))), ()))
      else
      bif (ilt 1 r38_1) then
        ok (inB 0 (slen u0)) <|
        some (.inr ((((bt u0 0) == 48), (r38_1, (u0, (false, ())))), ()))
      else
      some (.inr ((false, (r38_1, (u0, (false, ())))), ()))) fun ((t25, (n3, (s0, (t2, _)))), _) =>
  bif t25 then
    some (false, ())
  else
  jb (P := (((Int × (ByteArray × (Bool × Unit)))) × Unit)) (
      jb (P := (((Bool × (ByteArray × (Int × (Bool × Unit))))) × Unit)) (
          bif (ilt n3 (slen s0)) then
            ok (inB n3 (slen s0)) <|
            some (.inr ((((bt s0 n3) == 46), (s0, (n3, (t2, ())))), ()))
          else
          some (.inr ((false, (s0, (n3, (t2, ())))), ()))) fun ((t36, (s0_1, (at4, (t2_1, _)))), _) =>
      bif t36 then
        (c_s_l11Run R s0_1 (iadd .i64 at4 1)).bind fun (r38_2_1, _) =>
        bif (r38_2_1 == 0) then
          some (.inl (false, ()))
        else
        some (.inr (((iadd .i64 (iadd .i64 at4 1) r38_2_1), (s0_1, (t2_1, ()))), ()))
      else
      some (.inr ((at4, (s0_1, (t2_1, ()))), ()))) fun ((at4_1, (s0_2, (t2_2, _))), _) =>
  jb (P := (((Int × (ByteArray × (Bool × Unit)))) × Unit)) (
      jb (P := (((Bool × (Int × (ByteArray × (Bool × Unit))))) × Unit)) (
          bif (ilt at4_1 (slen s0_2)) then
            ok (inB at4_1 (slen s0_2)) <|
            some (.inr ((((bt s0_2 at4_1) == 101), (at4_1, (s0_2, (t2_2, ())))), ()))
          else
          some (.inr ((false, (at4_1, (s0_2, (t2_2, ())))), ()))) fun ((t56, (at4_2, (s0_3, (t2_3, _)))), _) =>
      bif t56 then
        jb (P := (((Bool × (Int × (ByteArray × (Bool × Unit))))) × Unit)) (
            bif (ilt (iadd .i64 at4_2 1) (slen s0_3)) then
              ok (inB (iadd .i64 at4_2 1) (slen s0_3)) <|
              some (.inr ((((bt s0_3 (iadd .i64 at4_2 1)) == 45), ((iadd .i64 at4_2 1), (s0_3, (t2_3, ())))), ()))
            else
            some (.inr ((false, ((iadd .i64 at4_2 1), (s0_3, (t2_3, ())))), ()))) fun ((minus6, (at4_3, (s0_4, (t2_4, _)))), _) =>
        jb (P := (((ByteArray × (Int × (Bool × (Bool × Unit))))) × Unit)) (
            bif minus6 then
              some (.inr ((s0_4, ((iadd .i64 at4_3 1), (minus6, (t2_4, ())))), ()))
            else
            some (.inr ((s0_4, (at4_3, (minus6, (t2_4, ())))), ()))) fun ((s0_5, (at4_4, (minus6_1, (t2_5, _)))), _) =>
        (c_s_l11Run R s0_5 at4_4).bind fun (r38_3_1, _) =>
        jb (P := (((Bool × (Int × (Int × (ByteArray × (Bool × Unit)))))) × Unit)) (
            bif (r38_3_1 == 0) then
              some (.inr ((true, (at4_4, (r38_3_1, (s0_5, (t2_5, ()))))), ()))
            else
            bif (ilt 3 r38_3_1) then
              some (.inr ((true, (at4_4, (r38_3_1, (s0_5, (t2_5, ()))))), ()))
            else
            ok (inB at4_4 (slen s0_5)) <|
            bif ((bt s0_5 at4_4) == 48) then
              bif (ilt 1 r38_3_1) then
                some (.inr ((true, (at4_4, (r38_3_1, (s0_5, (t2_5, ()))))), ()))
              else
              bif minus6_1 then
                some (.inr ((true, (at4_4, (r38_3_1, (s0_5, (t2_5, ()))))), ()))
              else
              bif (r38_3_1 == 3) then
                ok (sliceOk at4_4 (iadd .i64 at4_4 r38_3_1) (slen s0_5)) <|
                some (.inr (((!(slt (ByteArray.extract s0_5 (Int.toNat at4_4) (Int.toNat (iadd .i64 at4_4 r38_3_1))) (bs [52, 48, 48]) || seq (ByteArray.extract s0_5 (Int.toNat at4_4) (Int.toNat (iadd .i64 at4_4 r38_3_1))) (bs [52, 48, 48]))), (at4_4, (r38_3_1, (s0_5, (t2_5, ()))))), ()))
              else
              some (.inr ((false, (at4_4, (r38_3_1, (s0_5, (t2_5, ()))))), ()))
            else
            bif (r38_3_1 == 3) then
              ok (sliceOk at4_4 (iadd .i64 at4_4 r38_3_1) (slen s0_5)) <|
              some (.inr (((!(slt (ByteArray.extract s0_5 (Int.toNat at4_4) (Int.toNat (iadd .i64 at4_4 r38_3_1))) (bs [52, 48, 48]) || seq (ByteArray.extract s0_5 (Int.toNat at4_4) (Int.toNat (iadd .i64 at4_4 r38_3_1))) (bs [52, 48, 48]))), (at4_4, (r38_3_1, (s0_5, (t2_5, ()))))), ()))
            else
            some (.inr ((false, (at4_4, (r38_3_1, (s0_5, (t2_5, ()))))), ()))) fun ((t106, (at4_5, (k7, (s0_6, (t2_6, _))))), _) =>
        bif t106 then
          some (.inl (false, ()))
        else
        some (.inr (((iadd .i64 at4_5 k7), (s0_6, (t2_6, ()))), ()))
      else
      some (.inr ((at4_2, (s0_3, (t2_3, ()))), ()))) fun ((at4_6, (s0_7, (t2_7, _))), _) =>
  some ((at4_6 == (slen s0_7)), ())
noncomputable def p_s_l11Plain (R : Run) (n : Nat) (u0 : ByteArray) : Option (Bool × Unit) :=
  jb (P := (((Bool × (ByteArray × (Bool × Unit)))) × Unit)) (
      bif (ilt (slen u0) 1) then
        some (.inr ((true, (u0, (false, ()))), ()))
      else
      bif (ilt 8 (slen u0)) then
        some (.inr ((true, (u0, (false, ()))), ()))
      else
      ok (inB 0 (slen u0)) <|
      (c_s_l11Letter R (bt u0 0)).bind fun (r20_1, _) =>
      some (.inr (((!r20_1), (u0, (false, ()))), ()))) fun ((t17, (s0, (t2, _))), _) =>
  bif t17 then
    some (false, ())
  else
  iter (P := (((Int × (ByteArray × (Bool × Unit)))) × Unit)) (fun rec ((i3, (s0_1, (t2_1, _))), _) =>
      bif (ilt i3 (slen s0_1)) then
        jb (P := (((Bool × (Int × (ByteArray × (Bool × Unit))))) × Unit)) (
            ok (inB i3 (slen s0_1)) <|
            (c_s_l11Letter R (bt s0_1 i3)).bind fun (r20_2_1, _) =>
            bif (!r20_2_1) then
              ok (inB i3 (slen s0_1)) <|
              (c_s_l11Digit R (bt s0_1 i3)).bind fun (r21_1, _) =>
              some (.inr (((!r21_1), (i3, (s0_1, (t2_1, ())))), ()))
            else
            some (.inr ((false, (i3, (s0_1, (t2_1, ())))), ()))) fun ((t35, (i3_1, (s0_2, (t2_2, _)))), _) =>
        bif t35 then
          some (false, ())
        else
        rec (((iadd .i64 i3_1 1), (s0_2, (t2_2, ()))), ())
      else
      some (true, ())) n ((1, (s0, (t2, ()))), ())
noncomputable def p_s_l11Sign (R : Run) (n : Nat) (u0 : ByteArray) (u1 : Int) : Option (ByteArray × Unit) :=
  jb (P := (((Bool × (ByteArray × (Int × (ByteArray × Unit))))) × Unit)) (
      bif (ilt (iadd .i64 u1 1) (slen u0)) then
        ok (inB u1 (slen u0)) <|
        bif ((bt u0 u1) == 60) then
          ok (inB (iadd .i64 u1 1) (slen u0)) <|
          some (.inr ((((bt u0 (iadd .i64 u1 1)) == 61), (u0, (u1, ((bs []), ())))), ()))
        else
        ok (inB u1 (slen u0)) <|
        bif ((bt u0 u1) == 62) then
          ok (inB (iadd .i64 u1 1) (slen u0)) <|
          some (.inr ((((bt u0 (iadd .i64 u1 1)) == 61), (u0, (u1, ((bs []), ())))), ()))
        else
        some (.inr ((false, (u0, (u1, ((bs []), ())))), ()))
      else
      some (.inr ((false, (u0, (u1, ((bs []), ())))), ()))) fun ((t28, (line0, (at1, (t4, _)))), _) =>
  bif t28 then
    ok (sliceOk at1 (iadd .i64 at1 2) (slen line0)) <|
    some ((ByteArray.extract line0 (Int.toNat at1) (Int.toNat (iadd .i64 at1 2))), ())
  else
  ok (inB at1 (slen line0)) <|
  jb (P := (((Bool × (ByteArray × (Int × (ByteArray × Unit))))) × Unit)) (
      bif ((bt line0 at1) == 43) then
        some (.inr ((true, (line0, (at1, (t4, ())))), ()))
      else
      bif ((bt line0 at1) == 45) then
        some (.inr ((true, (line0, (at1, (t4, ())))), ()))
      else
      bif ((bt line0 at1) == 42) then
        some (.inr ((true, (line0, (at1, (t4, ())))), ()))
      else
      bif ((bt line0 at1) == 47) then
        some (.inr ((true, (line0, (at1, (t4, ())))), ()))
      else
      bif ((bt line0 at1) == 94) then
        some (.inr ((true, (line0, (at1, (t4, ())))), ()))
      else
      bif ((bt line0 at1) == 40) then
        some (.inr ((true, (line0, (at1, (t4, ())))), ()))
      else
      bif ((bt line0 at1) == 41) then
        some (.inr ((true, (line0, (at1, (t4, ())))), ()))
      else
      bif ((bt line0 at1) == 44) then
        some (.inr ((true, (line0, (at1, (t4, ())))), ()))
      else
      some (.inr ((((bt line0 at1) == 61), (line0, (at1, (t4, ())))), ()))) fun ((t37, (line0_1, (at1_1, (t4_1, _)))), _) =>
  bif t37 then
    ok (sliceOk at1_1 (iadd .i64 at1_1 1) (slen line0_1)) <|
    some ((ByteArray.extract line0_1 (Int.toNat at1_1) (Int.toNat (iadd .i64 at1_1 1))), ())
  else
  some ((bs []), ())
noncomputable def p_strings_Cut (R : Run) (n : Nat) (u0 : ByteArray) (u1 : ByteArray) : Option (ByteArray × (ByteArray × (Bool × Unit))) :=
  (c_internal_stringslite_Cut R u0 u1).bind fun (r34_1, (r34b, (r34c, _))) =>
  some (r34_1, (r34b, (r34c, ())))
noncomputable def p_i_signOf (R : Run) (n : Nat) (u0 : ByteArray) : Option (ByteArray × Unit) :=
  jb (P := (((Bool × (ByteArray × (ByteArray × Unit)))) × Unit)) (
      (c_strings_HasPrefix R u0 (bs [60, 61])).bind fun (r35_1, _) =>
      bif r35_1 then
        some (.inr ((true, (u0, ((bs []), ()))), ()))
      else
      (c_strings_HasPrefix R u0 (bs [62, 61])).bind fun (r35_2_1, _) =>
      some (.inr ((r35_2_1, (u0, ((bs []), ()))), ()))) fun ((t3, (s0, (t2, _))), _) =>
  bif t3 then
    ok (sliceOk 0 2 (slen s0)) <|
    some ((ByteArray.extract s0 (Int.toNat 0) (Int.toNat 2)), ())
  else
  ok (inB 0 (slen s0)) <|
  (c_strings_IndexByte R (bs [43, 45, 42, 47, 94, 40, 41, 44, 61]) (bt s0 0)).bind fun (r36_1, _) =>
  bif (ile 0 r36_1) then
    ok (sliceOk 0 1 (slen s0)) <|
    some ((ByteArray.extract s0 (Int.toNat 0) (Int.toNat 1)), ())
  else
  some ((bs []), ())
noncomputable def p_i_isLetter (R : Run) (n : Nat) (u0 : Int) : Option (Bool × Unit) :=
  jb (P := (((Bool × Unit)) × Unit)) (
      bif (ile 97 u0) then
        some (.inr (((ile u0 122), ()), ()))
      else
      some (.inr ((false, ()), ()))) fun ((t2, _), _) =>
  some (t2, ())
noncomputable def p_i_isFigure (R : Run) (n : Nat) (u0 : Int) : Option (Bool × Unit) :=
  jb (P := (((Bool × Unit)) × Unit)) (
      bif (ile 48 u0) then
        some (.inr (((ile u0 57), ()), ()))
      else
      some (.inr ((false, ()), ()))) fun ((t2, _), _) =>
  some (t2, ())
noncomputable def p_i_wordLength (R : Run) (n : Nat) (u0 : ByteArray) : Option (Int × Unit) :=
  iter (P := (((Int × (ByteArray × (Int × Unit)))) × Unit)) (fun rec ((n3, (s0, (t2, _))), _) =>
      jb (P := (((Bool × (Int × (ByteArray × (Int × Unit))))) × Unit)) (
          bif (ilt n3 (slen s0)) then
            ok (inB n3 (slen s0)) <|
            (c_i_isLetter R (bt s0 n3)).bind fun (r15_1, _) =>
            bif r15_1 then
              some (.inr ((true, (n3, (s0, (t2, ())))), ()))
            else
            ok (inB n3 (slen s0)) <|
            (c_i_isFigure R (bt s0 n3)).bind fun (r16_1, _) =>
            bif r16_1 then
              some (.inr ((true, (n3, (s0, (t2, ())))), ()))
            else
            ok (inB n3 (slen s0)) <|
            bif ((bt s0 n3) == 46) then
              some (.inr ((true, (n3, (s0, (t2, ())))), ()))
            else
            ok (inB n3 (slen s0)) <|
            bif ((bt s0 n3) == 45) then
              ok (inB 0 (slen s0)) <|
              (c_i_isFigure R (bt s0 0)).bind fun (r16_2_1, _) =>
              bif r16_2_1 then
                ok (inB (isub .i64 n3 1) (slen s0)) <|
                some (.inr ((((bt s0 (isub .i64 n3 1)) == 101), (n3, (s0, (t2, ())))), ()))
              else
              some (.inr ((false, (n3, (s0, (t2, ())))), ()))
            else
            some (.inr ((false, (n3, (s0, (t2, ())))), ()))
          else
          some (.inr ((false, (n3, (s0, (t2, ())))), ()))) fun ((t43, (n3_1, (s0_1, (t2_1, _)))), _) =>
      bif t43 then
        rec (((iadd .i64 n3_1 1), (s0_1, (t2_1, ()))), ())
      else
      some (n3_1, ())) n ((0, (u0, (0, ()))), ())
noncomputable def p_i_LangNumOk (R : Run) (n : Nat) (u0 : ByteArray) : Option (Bool × Unit) :=
  jb (P := (((Bool × Unit)) × Unit)) (
      (c_i_DecOk R u0).bind fun (r26_1, _) =>
      bif r26_1 then
        some (.inr (((ile (slen u0) 60), ()), ()))
      else
      some (.inr ((false, ()), ()))) fun ((t2, _), _) =>
  some (t2, ())
noncomputable def p_slices_Clip_impl_LangToken_impl_LangToken (R : Run) (n : Nat) (u0 : List ((Int × (ByteArray × Unit)))) : Option ((List ((Int × (ByteArray × Unit)))) × Unit) :=
  ok ((sliceOk 0 (len u0) (len u0)) && (ile (len u0) (len u0))) <|
  some ((List.drop (Int.toNat 0) (List.take (Int.toNat (len u0)) u0)), ())
noncomputable def p_i_termReader_sum (R : Run) (n : Nat) (u0 : List ((Int × (ByteArray × Unit)))) (u1 : List ((Int × (Int × (ByteArray × Unit))))) (u2 : Bool) (u3 : Bool) : Option ((List ((Int × (ByteArray × Unit)))) × ((List ((Int × (Int × (ByteArray × Unit))))) × (Bool × (Bool × Unit)))) :=
  (c_i_termReader_product R u0 u1 u2 u3).bind fun (r120_1, (r120b, (r120c, (r120d, _)))) =>
  iter (P := (((Unit × Unit)) × ((((List ((Int × (ByteArray × Unit)))) × (Unit × (Bool × (Bool × Unit))))) × ((List ((Int × (Int × (ByteArray × Unit))))) × Unit)))) (fun rec ((_, _), ((o0a, (_, (o0b, (o0c, _)))), (o1, _))) =>
      jb (P := (((Bool × (Unit × Unit))) × ((((List ((Int × (ByteArray × Unit)))) × (Unit × (Bool × (Bool × Unit))))) × ((List ((Int × (Int × (ByteArray × Unit))))) × Unit)))) (
          bif (!o0b) then
            (c_i_termReader_at R o0a o1 o0b o0c [(bs [43]), (bs [45])]).bind fun (r121_1, (r121b, (r121c, (r121d, (r121e, _))))) =>
            some (.inr ((r121_1, ((), ())), ((r121b, ((), (r121d, (r121e, ())))), (r121c, ()))))
          else
          some (.inr ((false, ((), ())), ((o0a, ((), (o0b, (o0c, ())))), (o1, ()))))) fun ((t14, (_, _)), ((o0a_1, (_, (o0b_1, (o0c_1, _)))), (o1_1, _))) =>
      bif t14 then
        jb (P := (((Unit × (Int × Unit))) × ((((List ((Int × (ByteArray × Unit)))) × (Unit × (Bool × (Bool × Unit))))) × ((List ((Int × (Int × (ByteArray × Unit))))) × Unit)))) (
            (c_i_termReader_next R o0a_1 o1_1 o0b_1 o0c_1).bind fun (r122_1, (r122b, (r122c, (r122d, (r122e, (r122f, _)))))) =>
            bif (seq r122b (bs [45])) then
              some (.inr (((), (5, ())), ((r122c, ((), (r122e, (r122f, ())))), (r122d, ()))))
            else
            some (.inr (((), (4, ())), ((r122c, ((), (r122e, (r122f, ())))), (r122d, ()))))) fun ((_, (kind2, _)), ((o0a_2, (_, (o0b_2, (o0c_2, _)))), (o1_2, _))) =>
        (c_i_termReader_product R o0a_2 o1_2 o0b_2 o0c_2).bind fun (r120_2_1, (r120_2b, (r120_2c, (r120_2d, _)))) =>
        (c_i_termReader_put R r120_2_1 r120_2b r120_2c r120_2d kind2 0 (bs [])).bind fun (r123_1, (r123b, (r123c, (r123d, _)))) =>
        rec (((), ()), ((r123_1, ((), (r123c, (r123d, ())))), (r123b, ())))
      else
      some (o0a_1, (o1_1, (o0b_1, (o0c_1, ()))))) n (((), ()), ((r120_1, ((), (r120c, (r120d, ())))), (r120b, ())))
noncomputable def p_i_clone_impl_TermNode (R : Run) (n : Nat) (u0 : List ((Int × (Int × (ByteArray × Unit))))) : Option ((List ((Int × (Int × (ByteArray × Unit))))) × Unit) :=
  (c_slices_Clone_impl_TermNode_impl_TermNode R u0).bind fun (r125_1, _) =>
  (c_slices_Clip_impl_TermNode_impl_TermNode R r125_1).bind fun (r124_1, _) =>
  some (r124_1, ())
noncomputable def p_s_l34Rd_any (R : Run) (n : Nat) (u0 : List Int) (u1 : Int) : Option ((List ((Int × (Int × (ByteArray × Unit))))) × (List Int × (Int × Unit))) :=
  (c_s_l34Rd_pick R u0 u1 20).bind fun (r9_1, (r9b, (r9c, _))) =>
  bif (r9_1 == 0) then
    (c_s_l34Rd_pick R r9b r9c 4).bind fun (r9_2_1, (r9_2b, (r9_2c, _))) =>
    (c_s_l34Rd_chain R r9_2b r9_2c (iadd .i64 99 r9_2_1)).bind fun (r29_1, (r29b, (r29c, _))) =>
    some (r29_1, (r29b, (r29c, ())))
  else
  (c_s_l34Rd_pick R r9b r9c 5).bind fun (r9_3_1, (r9_3b, (r9_3c, _))) =>
  (c_s_l34Rd_term R r9_3b r9_3c [(bs [120]), (bs [121]), (bs [97])] [((bs [102]), (1, ())), ((bs [103]), (2, ())), ((bs [104]), (6, ()))] (iadd .i64 1 r9_3_1)).bind fun (r30_1, (r30b, (r30c, _))) =>
  (c_s_l34Rd_pick R r30b r30c 15).bind fun (r9_4_1, (r9_4b, (r9_4c, _))) =>
  bif (ilt 0 r9_4_1) then
    some (r30_1, (r9_4b, (r9_4c, ())))
  else
  (c_s_l34Rd_pick R r9_4b r9_4c (len r30_1)).bind fun (r9_5_1, (r9_5b, (r9_5c, _))) =>
  jb (P := (((Unit × (Unit × (Unit × Unit)))) × ((((List ((Int × (Int × (ByteArray × Unit))))) × Unit)) × (((Unit × Unit)) × (((List Int × (Int × Unit))) × Unit))))) (
      (c_s_l34Rd_pick R r9_5b r9_5c 7).bind fun (r9_6_1, (r9_6b, (r9_6c, _))) =>
      bif (r9_6_1 == 0) then
        (c_s_l34Rd_pick R r9_6b r9_6c 16).bind fun (r9_7_1, (r9_7b, (r9_7c, _))) =>
        ok (inB r9_5_1 (len r30_1)) <|
        some (.inr (((), ((), ((), ()))), (((List.set r30_1 (Int.toNat r9_5_1) ((isub .i64 r9_7_1 1), ((List.getD r30_1 (Int.toNat r9_5_1) (0, (0, ((bs []), ())))).2.1, ((List.getD r30_1 (Int.toNat r9_5_1) (0, (0, ((bs []), ())))).2.2.1, ())))), ()), (((), ()), ((r9_7b, (r9_7c, ())), ())))))
      else
      bif (r9_6_1 == 1) then
        (c_s_l34Rd_pick R r9_6b r9_6c 11).bind fun (r9_8_1, (r9_8b, (r9_8c, _))) =>
        ok (inB r9_5_1 (len r30_1)) <|
        some (.inr (((), ((), ((), ()))), (((List.set r30_1 (Int.toNat r9_5_1) ((List.getD r30_1 (Int.toNat r9_5_1) (0, (0, ((bs []), ())))).1, ((isub .i64 r9_8_1 1), ((List.getD r30_1 (Int.toNat r9_5_1) (0, (0, ((bs []), ())))).2.2.1, ())))), ()), (((), ()), ((r9_8b, (r9_8c, ())), ())))))
      else
      bif (r9_6_1 == 2) then
        (c_s_l34Rd_pick R r9_6b r9_6c 5).bind fun (r9_9_1, (r9_9b, (r9_9c, _))) =>
        ok (inB r9_9_1 (len [(bs []), (bs [120]), (bs [49]), (bs [115, 113, 114, 116]), (bs [48, 49])])) <|
        ok (inB r9_5_1 (len r30_1)) <|
        some (.inr (((), ((), ((), ()))), (((List.set r30_1 (Int.toNat r9_5_1) ((List.getD r30_1 (Int.toNat r9_5_1) (0, (0, ((bs []), ())))).1, ((List.getD r30_1 (Int.toNat r9_5_1) (0, (0, ((bs []), ())))).2.1, ((List.getD [(bs []), (bs [120]), (bs [49]), (bs [115, 113, 114, 116]), (bs [48, 49])] (Int.toNat r9_9_1) (bs [])), ())))), ()), (((), ()), ((r9_9b, (r9_9c, ())), ())))))
      else
      bif (r9_6_1 == 3) then
        ok (aok (r30_1 ++ [(2, (0, ((bs [120]), ())))]) 32) <|
        some (.inr (((), ((), ((), ()))), (((r30_1 ++ [(2, (0, ((bs [120]), ())))]), ()), (((), ()), ((r9_6b, (r9_6c, ())), ())))))
      else
      bif (r9_6_1 == 4) then
        ok (sliceOk 0 r9_5_1 (len r30_1)) <|
        some (.inr (((), ((), ((), ()))), (((part r30_1 (Int.toNat 0) ((Int.toNat r9_5_1) - (Int.toNat 0))), ()), (((), ()), ((r9_6b, (r9_6c, ())), ())))))
      else
      bif (r9_6_1 == 5) then
        ok (aok (r30_1 ++ [(4, (0, ((bs []), ())))]) 32) <|
        some (.inr (((), ((), ((), ()))), (((r30_1 ++ [(4, (0, ((bs []), ())))]), ()), (((), ()), ((r9_6b, (r9_6c, ())), ())))))
      else
      bif (r9_6_1 == 6) then
        ok (inB r9_5_1 (len r30_1)) <|
        some (.inr (((), ((), ((), ()))), (((List.set r30_1 (Int.toNat r9_5_1) (13, (7, ((bs [102]), ())))), ()), (((), ()), ((r9_6b, (r9_6c, ())), ())))))
      else
      some (.inr (((), ((), ((), ()))), ((r30_1, ()), (((), ()), ((r9_6b, (r9_6c, ())), ())))))) fun ((_, (_, (_, _))), ((o0, _), ((_, _), ((o2a, (o2b, _)), _)))) =>
  some (o0, (o2a, (o2b, ())))
noncomputable def p_s_l34Rd_line (R : Run) (n : Nat) (u0 : List Int) (u1 : Int) : Option (ByteArray × (List Int × (Int × Unit))) :=
  (c_s_l34Rd_pick R u0 u1 8).bind fun (r9_1, (r9b, (r9c, _))) =>
  iter (P := (((Int × (Int × (ByteArray × (Unit × (ByteArray × Unit)))))) × (((List Int × (Int × Unit))) × Unit))) (fun rec ((i5, (n4, (s3, (_, (t2, _))))), ((o0a, (o0b, _)), _)) =>
      bif (ilt i5 n4) then
        jb (P := (((Int × (Int × (ByteArray × (Unit × (ByteArray × Unit)))))) × (((List Int × (Int × Unit))) × Unit))) (
            (c_s_l34Rd_word R o0a o0b).bind fun (r31_1, (r31b, (r31c, _))) =>
            ok (sok s3 r31_1) <|
            (c_s_l34Rd_pick R r31b r31c 4).bind fun (r9_2_1, (r9_2b, (r9_2c, _))) =>
            bif (ilt 0 r9_2_1) then
              ok (sok (s3 ++ r31_1) (bs [32])) <|
              some (.inr ((i5, (n4, (((s3 ++ r31_1) ++ (bs [32])), ((), (t2, ()))))), ((r9_2b, (r9_2c, ())), ())))
            else
            some (.inr ((i5, (n4, ((s3 ++ r31_1), ((), (t2, ()))))), ((r9_2b, (r9_2c, ())), ())))) fun ((i5_1, (n4_1, (s3_1, (_, (t2_1, _))))), ((o0a_1, (o0b_1, _)), _)) =>
        rec (((iadd .i64 i5_1 1), (n4_1, (s3_1, ((), (t2_1, ()))))), ((o0a_1, (o0b_1, ())), ()))
      else
      jb (P := (((ByteArray × (ByteArray × (Unit × Unit)))) × (((List Int × (Int × Unit))) × Unit))) (
          (c_s_l34Rd_pick R o0a o0b 16).bind fun (r9_3_1, (r9_3b, (r9_3c, _))) =>
          bif (r9_3_1 == 0) then
            (c_s_l34Rd_pick R r9_3b r9_3c 11).bind fun (r9_4_1, (r9_4b, (r9_4c, _))) =>
            ok (inB r9_4_1 (len [(bs [50, 101, 45, 120]), (bs [48, 49]), (bs [49, 46]), (bs [120, 46, 53]), (bs [116, 111, 111, 108, 111, 110, 103, 110, 97, 109, 101]), (bs [50, 120]), (bs [65]), (bs [9]), (bs [60]), (bs [49, 101, 52, 48, 49]), (bs [95])])) <|
            ok (sok s3 (List.getD [(bs [50, 101, 45, 120]), (bs [48, 49]), (bs [49, 46]), (bs [120, 46, 53]), (bs [116, 111, 111, 108, 111, 110, 103, 110, 97, 109, 101]), (bs [50, 120]), (bs [65]), (bs [9]), (bs [60]), (bs [49, 101, 52, 48, 49]), (bs [95])] (Int.toNat r9_4_1) (bs []))) <|
            some (.inr (((s3 ++ (List.getD [(bs [50, 101, 45, 120]), (bs [48, 49]), (bs [49, 46]), (bs [120, 46, 53]), (bs [116, 111, 111, 108, 111, 110, 103, 110, 97, 109, 101]), (bs [50, 120]), (bs [65]), (bs [9]), (bs [60]), (bs [49, 101, 52, 48, 49]), (bs [95])] (Int.toNat r9_4_1) (bs []))), (t2, ((), ()))), ((r9_4b, (r9_4c, ())), ())))
          else
          bif (r9_3_1 == 1) then
            ok (sok s3 (bs [35, 32])) <|
            (c_s_l34Rd_name R r9_3b r9_3c).bind fun (r32_1, (r32b, (r32c, _))) =>
            ok (sok (s3 ++ (bs [35, 32])) r32_1) <|
            ok (sok ((s3 ++ (bs [35, 32])) ++ r32_1) (bs [32, 123])) <|
            some (.inr (((((s3 ++ (bs [35, 32])) ++ r32_1) ++ (bs [32, 123])), (t2, ((), ()))), ((r32b, (r32c, ())), ())))
          else
          bif (r9_3_1 == 2) then
            (c_s_l34Rd_pick R r9_3b r9_3c 8).bind fun (r9_5_1, (r9_5b, (r9_5c, _))) =>
            bif (r9_5_1 == 0) then
              (c_s_l34Rd_pick R r9_5b r9_5c 15).bind fun (r9_6_1, (r9_6b, (r9_6c, _))) =>
              (c_s_l14Times R (bs [45]) (iadd .i64 290 r9_6_1)).bind fun (r33_1, _) =>
              ok (sok r33_1 (bs [49])) <|
              some (.inr (((r33_1 ++ (bs [49])), (t2, ((), ()))), ((r9_6b, (r9_6c, ())), ())))
            else
            some (.inr ((s3, (t2, ((), ()))), ((r9_5b, (r9_5c, ())), ())))
          else
          bif (r9_3_1 == 3) then
            (c_s_l34Rd_pick R r9_3b r9_3c 8).bind fun (r9_7_1, (r9_7b, (r9_7c, _))) =>
            bif (r9_7_1 == 0) then
              (c_s_l34Rd_pick R r9_7b r9_7c 12).bind fun (r9_8_1, (r9_8b, (r9_8c, _))) =>
              (c_s_l14Times R (bs [32]) (iadd .i64 990 r9_8_1)).bind fun (r33_2_1, _) =>
              ok (sok s3 r33_2_1) <|
              some (.inr (((s3 ++ r33_2_1), (t2, ((), ()))), ((r9_8b, (r9_8c, ())), ())))
            else
            some (.inr ((s3, (t2, ((), ()))), ((r9_7b, (r9_7c, ())), ())))
          else
          some (.inr ((s3, (t2, ((), ()))), ((r9_3b, (r9_3c, ())), ())))) fun ((s3_2, (t2_2, (_, _))), ((o0a_2, (o0b_2, _)), _)) =>
      some (s3_2, (o0a_2, (o0b_2, ())))) n ((0, (r9_1, ((bs []), ((), ((bs []), ()))))), ((r9b, (r9c, ())), ()))
noncomputable def p_s_l12Reader_sum (R : Run) (n : Nat) (u0 : List ((Int × (ByteArray × Unit)))) (u1 : Int) (u2 : List ((Int × (Int × (ByteArray × Unit))))) (u3 : Bool) (u4 : Bool) : Option ((List ((Int × (ByteArray × Unit)))) × (Int × ((List ((Int × (Int × (ByteArray × Unit))))) × (Bool × (Bool × Unit))))) :=
  (c_s_l12Reader_product R u0 u1 u2 u3 u4).bind fun (r130_1, (r130b, (r130c, (r130d, (r130e, _))))) =>
  iter (P := (((Unit × Unit)) × ((((List ((Int × (ByteArray × Unit)))) × (Int × (Unit × (Bool × (Bool × Unit)))))) × ((List ((Int × (Int × (ByteArray × Unit))))) × Unit)))) (fun rec ((_, _), ((o0a, (o0b, (_, (o0c, (o0d, _))))), (o1, _))) =>
      bif (!o0c) then
        (c_s_l12Reader_sign R o0a o0b o1 o0c o0d (bs [43])).bind fun (r131_1, (r131b, (r131c, (r131d, (r131e, (r131f, _)))))) =>
        bif r131_1 then
          (c_s_l12Reader_product R r131b r131c r131d r131e r131f).bind fun (r130_2_1, (r130_2b, (r130_2c, (r130_2d, (r130_2e, _))))) =>
          (c_s_l12Reader_put R r130_2_1 r130_2b r130_2c r130_2d r130_2e 4 0 (bs [])).bind fun (r132_1, (r132b, (r132c, (r132d, (r132e, _))))) =>
          rec (((), ()), ((r132_1, (r132b, ((), (r132d, (r132e, ()))))), (r132c, ())))
        else
        (c_s_l12Reader_sign R r131b r131c r131d r131e r131f (bs [45])).bind fun (r131_2_1, (r131_2b, (r131_2c, (r131_2d, (r131_2e, (r131_2f, _)))))) =>
        bif r131_2_1 then
          (c_s_l12Reader_product R r131_2b r131_2c r131_2d r131_2e r131_2f).bind fun (r130_3_1, (r130_3b, (r130_3c, (r130_3d, (r130_3e, _))))) =>
          (c_s_l12Reader_put R r130_3_1 r130_3b r130_3c r130_3d r130_3e 5 0 (bs [])).bind fun (r132_2_1, (r132_2b, (r132_2c, (r132_2d, (r132_2e, _))))) =>
          rec (((), ()), ((r132_2_1, (r132_2b, ((), (r132_2d, (r132_2e, ()))))), (r132_2c, ())))
        else
        some (r131_2b, (r131_2c, (r131_2d, (r131_2e, (r131_2f, ())))))
      else
      some (o0a, (o0b, (o1, (o0c, (o0d, ())))))) n (((), ()), ((r130_1, (r130b, ((), (r130d, (r130e, ()))))), (r130c, ())))
noncomputable def p_s_l11Word (R : Run) (n : Nat) (u0 : ByteArray) : Option (Bool × Unit) :=
  jb (P := (((Bool × Unit)) × Unit)) (
      bif (seq u0 (bs [100, 101, 102])) then
        some (.inr ((true, ()), ()))
      else
      bif (seq u0 (bs [118, 97, 114])) then
        some (.inr ((true, ()), ()))
      else
      bif (seq u0 (bs [115, 113, 114, 116])) then
        some (.inr ((true, ()), ()))
      else
      bif (seq u0 (bs [97, 98, 115])) then
        some (.inr ((true, ()), ()))
      else
      bif (seq u0 (bs [109, 105, 110])) then
        some (.inr ((true, ()), ()))
      else
      some (.inr (((seq u0 (bs [109, 97, 120])), ()), ()))) fun ((t2, _), _) =>
  some (t2, ())
noncomputable def p_slices_Index_string_string (R : Run) (n : Nat) (u0 : List ByteArray) (u1 : ByteArray) : Option (Int × Unit) :=
  iter (P := (((Int × (Int × (ByteArray × (List ByteArray × (Int × Unit)))))) × Unit)) (fun rec ((t8, (t7, (v1, (s0, (t4, _))))), _) =>
      bif (ilt t8 t7) then
        ok (inB t8 (len s0)) <|
        bif (seq v1 (List.getD s0 (Int.toNat t8) (bs []))) then
          some (t8, ())
        else
        rec (((iadd .i64 t8 1), (t7, (v1, (s0, (t4, ()))))), ())
      else
      some ((-1), ())) n ((0, ((len u0), (u1, (u0, (0, ()))))), ())
noncomputable def p_s_l34Rd_number (R : Run) (n : Nat) (u0 : List Int) (u1 : Int) : Option (ByteArray × (List Int × (Int × Unit))) :=
  (c_s_l34Rd_pick R u0 u1 12).bind fun (r9_1, (r9b, (r9c, _))) =>
  ok (inB r9_1 (len [(bs [48]), (bs [49]), (bs [50]), (bs [51]), (bs [49, 48]), (bs [48, 46, 53]), (bs [49, 46, 50, 53]), (bs [50, 101, 51]), (bs [50, 46, 53, 101, 45, 49]), (bs [49, 48, 48]), (bs [55]), (bs [49, 101, 45, 52, 48, 48])])) <|
  some ((List.getD [(bs [48]), (bs [49]), (bs [50]), (bs [51]), (bs [49, 48]), (bs [48, 46, 53]), (bs [49, 46, 50, 53]), (bs [50, 101, 51]), (bs [50, 46, 53, 101, 45, 49]), (bs [49, 48, 48]), (bs [55]), (bs [49, 101, 45, 52, 48, 48])] (Int.toNat r9_1) (bs [])), (r9b, (r9c, ())))
noncomputable def p_i_write_1 (R : Run) (n : Nat) (u0 : ByteArray) (u1 : List ((ByteArray × (Int × Unit)))) : Option (ByteArray × (Int × ((List ((ByteArray × (Int × Unit)))) × Unit))) :=
  iter (P := (((Int × (Int × ((List ((ByteArray × (Int × Unit)))) × (Unit × (ByteArray × (Unit × (Unit × Unit)))))))) × (List ByteArray × (((ByteArray × (Int × Unit))) × ((((List ((ByteArray × (Int × Unit)))) × Unit)) × Unit))))) (fun rec ((t9, (t8, (t7, (_, (name0, (_, (_, _))))))), (o0, ((o1a, (o1b, _)), ((o2, _), _)))) =>
      bif (ilt t9 t8) then
        ok (inB t9 (len t7)) <|
        ok (aok (o0 ++ [(List.getD t7 (Int.toNat t9) ((bs []), (0, ()))).1]) 16) <|
        rec (((iadd .i64 t9 1), (t8, (t7, ((), (name0, ((), ((), ()))))))), ((o0 ++ [(List.getD t7 (Int.toNat t9) ((bs []), (0, ()))).1]), ((o1a, (o1b, ())), ((o2, ()), ()))))
      else
      ok (sok name0 (bs [40])) <|
      (c_strings_Join R o0 (bs [44, 32])).bind fun (r62_1, _) =>
      ok (sok (name0 ++ (bs [40])) r62_1) <|
      ok (sok ((name0 ++ (bs [40])) ++ r62_1) (bs [41])) <|
      some ((((name0 ++ (bs [40])) ++ r62_1) ++ (bs [41])), (5, (o2, ())))) n ((0, ((len u1), (u1, ((), (u0, ((), ((), ()))))))), ([], (((bs []), (0, ())), ((u1, ()), ()))))
noncomputable def p_i_written_in (R : Run) (n : Nat) (u0 : ByteArray) (u1 : Int) (u2 : Int) : Option (ByteArray × Unit) :=
  bif (ilt u1 u2) then
    ok (sok (bs [40]) u0) <|
    ok (sok ((bs [40]) ++ u0) (bs [41])) <|
    some ((((bs [40]) ++ u0) ++ (bs [41])), ())
  else
  some (u0, ())
noncomputable def p_s_l12Start (R : Run) (n : Nat) (u0 : List ((Int × (Int × (ByteArray × Unit))))) (u1 : Int) : Option (Int × Unit) :=
  iter (P := (((Int × (Unit × (Int × (Int × Unit))))) × ((((List ((Int × (Int × (ByteArray × Unit))))) × Unit)) × Unit))) (fun rec ((missing5, (_, (i6, (t4, _)))), ((o0, _), _)) =>
      ok (inB i6 (len o0)) <|
      (c_s_l12Args R (List.getD o0 (Int.toNat i6) (0, (0, ((bs []), ())))).1 (List.getD o0 (Int.toNat i6) (0, (0, ((bs []), ())))).2.1 (List.getD o0 (Int.toNat i6) (0, (0, ((bs []), ())))).2.2.1).bind fun (r40_1, _) =>
      bif ((iadd .i64 (isub .i64 missing5 1) r40_1) == 0) then
        some (i6, ())
      else
      rec (((iadd .i64 (isub .i64 missing5 1) r40_1), ((), ((isub .i64 i6 1), (t4, ())))), ((o0, ()), ()))) n ((1, ((), (u1, (0, ())))), ((u0, ()), ()))
noncomputable def p_s_l11Run (R : Run) (n : Nat) (u0 : ByteArray) (u1 : Int) : Option (Int × Unit) :=
  iter (P := (((Int × (Int × (ByteArray × (Int × Unit))))) × Unit)) (fun rec ((from1, (n5, (s0, (t4, _)))), _) =>
      jb (P := (((Bool × (Int × (Int × (ByteArray × (Int × Unit)))))) × Unit)) (
          bif (ilt (iadd .i64 from1 n5) (slen s0)) then
            ok (inB (iadd .i64 from1 n5) (slen s0)) <|
            (c_s_l11Digit R (bt s0 (iadd .i64 from1 n5))).bind fun (r21_1, _) =>
            some (.inr ((r21_1, (n5, (from1, (s0, (t4, ()))))), ()))
          else
          some (.inr ((false, (n5, (from1, (s0, (t4, ()))))), ()))) fun ((t19, (n5_1, (from1_1, (s0_1, (t4_1, _))))), _) =>
      bif t19 then
        rec ((from1_1, ((iadd .i64 n5_1 1), (s0_1, (t4_1, ())))), ())
      else
      some (n5_1, ())) n ((u1, (0, (u0, (0, ())))), ())
noncomputable def p_internal_stringslite_Cut (R : Run) (n : Nat) (u0 : ByteArray) (u1 : ByteArray) : Option (ByteArray × (ByteArray × (Bool × Unit))) :=
  (c_internal_stringslite_Index R u0 u1).bind fun (r46_1, _) =>
  bif (ile 0 r46_1) then
    ok (sliceOk 0 r46_1 (slen u0)) <|
    ok (sliceOk (iadd .i64 r46_1 (slen u1)) (slen u0) (slen u0)) <|
    some ((ByteArray.extract u0 (Int.toNat 0) (Int.toNat r46_1)), ((ByteArray.extract u0 (Int.toNat (iadd .i64 r46_1 (slen u1))) (Int.toNat (slen u0))), (true, ())))
  else
  some (u0, ((bs []), (false, ())))
noncomputable def p_strings_HasPrefix (R : Run) (n : Nat) (u0 : ByteArray) (u1 : ByteArray) : Option (Bool × Unit) :=
  (c_internal_stringslite_HasPrefix R u0 u1).bind fun (r47_1, _) =>
  some (r47_1, ())
noncomputable def p_strings_IndexByte (R : Run) (n : Nat) (u0 : ByteArray) (u1 : Int) : Option (Int × Unit) :=
  (c_internal_stringslite_IndexByte R u0 u1).bind fun (r48_1, _) =>
  some (r48_1, ())
noncomputable def p_i_DecOk (R : Run) (n : Nat) (u0 : ByteArray) : Option (Bool × Unit) :=
  (c_i_literal R u0).bind fun (r39_1, (r39b, (r39c, (r39d, _)))) =>
  jb (P := (((Bool × Unit)) × Unit)) (
      bif r39d then
        some (.inr (((ile (slen u0) 60), ()), ()))
      else
      some (.inr ((false, ()), ()))) fun ((t2, _), _) =>
  some (t2, ())
noncomputable def p_i_termReader_product (R : Run) (n : Nat) (u0 : List ((Int × (ByteArray × Unit)))) (u1 : List ((Int × (Int × (ByteArray × Unit))))) (u2 : Bool) (u3 : Bool) : Option ((List ((Int × (ByteArray × Unit)))) × ((List ((Int × (Int × (ByteArray × Unit))))) × (Bool × (Bool × Unit)))) :=
  (c_i_termReader_signed R u0 u1 u2 u3).bind fun (r168_1, (r168b, (r168c, (r168d, _)))) =>
  iter (P := (((Unit × Unit)) × ((((List ((Int × (ByteArray × Unit)))) × (Unit × (Bool × (Bool × Unit))))) × ((List ((Int × (Int × (ByteArray × Unit))))) × Unit)))) (fun rec ((_, _), ((o0a, (_, (o0b, (o0c, _)))), (o1, _))) =>
      jb (P := (((Bool × (Unit × Unit))) × ((((List ((Int × (ByteArray × Unit)))) × (Unit × (Bool × (Bool × Unit))))) × ((List ((Int × (Int × (ByteArray × Unit))))) × Unit)))) (
          bif (!o0b) then
            (c_i_termReader_at R o0a o1 o0b o0c [(bs [42]), (bs [47])]).bind fun (r121_1, (r121b, (r121c, (r121d, (r121e, _))))) =>
            some (.inr ((r121_1, ((), ())), ((r121b, ((), (r121d, (r121e, ())))), (r121c, ()))))
          else
          some (.inr ((false, ((), ())), ((o0a, ((), (o0b, (o0c, ())))), (o1, ()))))) fun ((t14, (_, _)), ((o0a_1, (_, (o0b_1, (o0c_1, _)))), (o1_1, _))) =>
      bif t14 then
        jb (P := (((Unit × (Int × Unit))) × ((((List ((Int × (ByteArray × Unit)))) × (Unit × (Bool × (Bool × Unit))))) × ((List ((Int × (Int × (ByteArray × Unit))))) × Unit)))) (
            (c_i_termReader_next R o0a_1 o1_1 o0b_1 o0c_1).bind fun (r122_1, (r122b, (r122c, (r122d, (r122e, (r122f, _)))))) =>
            bif (seq r122b (bs [47])) then
              some (.inr (((), (7, ())), ((r122c, ((), (r122e, (r122f, ())))), (r122d, ()))))
            else
            some (.inr (((), (6, ())), ((r122c, ((), (r122e, (r122f, ())))), (r122d, ()))))) fun ((_, (kind2, _)), ((o0a_2, (_, (o0b_2, (o0c_2, _)))), (o1_2, _))) =>
        (c_i_termReader_signed R o0a_2 o1_2 o0b_2 o0c_2).bind fun (r168_2_1, (r168_2b, (r168_2c, (r168_2d, _)))) =>
        (c_i_termReader_put R r168_2_1 r168_2b r168_2c r168_2d kind2 0 (bs [])).bind fun (r123_1, (r123b, (r123c, (r123d, _)))) =>
        rec (((), ()), ((r123_1, ((), (r123c, (r123d, ())))), (r123b, ())))
      else
      some (o0a_1, (o1_1, (o0b_1, (o0c_1, ()))))) n (((), ()), ((r168_1, ((), (r168c, (r168d, ())))), (r168b, ())))
noncomputable def p_i_termReader_at (R : Run) (n : Nat) (u0 : List ((Int × (ByteArray × Unit)))) (u1 : List ((Int × (Int × (ByteArray × Unit))))) (u2 : Bool) (u3 : Bool) (u4 : List ByteArray) : Option (Bool × ((List ((Int × (ByteArray × Unit)))) × ((List ((Int × (Int × (ByteArray × Unit))))) × (Bool × (Bool × Unit))))) :=
  jb (P := (((Bool × (Unit × Unit))) × ((((List ((Int × (ByteArray × Unit)))) × (Unit × (Bool × (Bool × Unit))))) × ((List ((Int × (Int × (ByteArray × Unit))))) × Unit)))) (
      bif (ilt 0 (len u0)) then
        ok (inB 0 (len u0)) <|
        bif ((List.getD u0 (Int.toNat 0) (0, ((bs []), ()))).1 == 3) then
          ok (inB 0 (len u0)) <|
          (c_slices_Contains_string_string R u4 (List.getD u0 (Int.toNat 0) (0, ((bs []), ()))).2.1).bind fun (r58_1, _) =>
          some (.inr ((r58_1, ((), ())), ((u0, ((), (u2, (u3, ())))), (u1, ()))))
        else
        some (.inr ((false, ((), ())), ((u0, ((), (u2, (u3, ())))), (u1, ()))))
      else
      some (.inr ((false, ((), ())), ((u0, ((), (u2, (u3, ())))), (u1, ()))))) fun ((t4, (_, _)), ((o0a, (_, (o0b, (o0c, _)))), (o1, _))) =>
  some (t4, (o0a, (o1, (o0b, (o0c, ())))))
noncomputable def p_i_termReader_next (R : Run) (n : Nat) (u0 : List ((Int × (ByteArray × Unit)))) (u1 : List ((Int × (Int × (ByteArray × Unit))))) (u2 : Bool) (u3 : Bool) : Option (Int × (ByteArray × ((List ((Int × (ByteArray × Unit)))) × ((List ((Int × (Int × (ByteArray × Unit))))) × (Bool × (Bool × Unit)))))) :=
  bif ((len u0) == 0) then
    some (0, ((bs []), (u0, (u1, (true, (u3, ()))))))
  else
  ok (inB 0 (len u0)) <|
  ok (sliceOk 1 (len u0) (len u0)) <|
  some ((List.getD u0 (Int.toNat 0) (0, ((bs []), ()))).1, ((List.getD u0 (Int.toNat 0) (0, ((bs []), ()))).2.1, ((List.drop (Int.toNat 1) (List.take (Int.toNat (len u0)) u0)), (u1, (u2, (u3, ()))))))
noncomputable def p_i_termReader_put (R : Run) (n : Nat) (u0 : List ((Int × (ByteArray × Unit)))) (u1 : List ((Int × (Int × (ByteArray × Unit))))) (u2 : Bool) (u3 : Bool) (u4 : Int) (u5 : Int) (u6 : ByteArray) : Option ((List ((Int × (ByteArray × Unit)))) × ((List ((Int × (Int × (ByteArray × Unit))))) × (Bool × (Bool × Unit)))) :=
  ok (aok (u1 ++ [(u4, (u5, (u6, ())))]) 32) <|
  some (u0, ((u1 ++ [(u4, (u5, (u6, ())))]), (u2, (u3, ()))))
noncomputable def p_slices_Clip_impl_TermNode_impl_TermNode (R : Run) (n : Nat) (u0 : List ((Int × (Int × (ByteArray × Unit))))) : Option ((List ((Int × (Int × (ByteArray × Unit))))) × Unit) :=
  ok ((sliceOk 0 (len u0) (len u0)) && (ile (len u0) (len u0))) <|
  some ((List.drop (Int.toNat 0) (List.take (Int.toNat (len u0)) u0)), ())
noncomputable def p_s_l34Rd_chain (R : Run) (n : Nat) (u0 : List Int) (u1 : Int) (u2 : Int) : Option ((List ((Int × (Int × (ByteArray × Unit))))) × (List Int × (Int × Unit))) :=
  iter (P := (((Unit × (Int × (Unit × (Unit × Unit))))) × (((Unit × Unit)) × (((Unit × Unit)) × (((List Int × (Int × Unit))) × ((List ((Int × (Int × (ByteArray × Unit))))) × Unit)))))) (fun rec ((_, (n1, (_, (_, _)))), ((_, _), ((_, _), ((o2a, (o2b, _)), (o3, _))))) =>
      bif (ile (iadd .i64 (len o3) 2) n1) then
        ok (aok (o3 ++ [(1, (0, ((bs [49]), ())))]) 32) <|
        ok (aok ((o3 ++ [(1, (0, ((bs [49]), ())))]) ++ [(4, (0, ((bs []), ())))]) 32) <|
        rec (((), (n1, ((), ((), ())))), (((), ()), (((), ()), ((o2a, (o2b, ())), (((o3 ++ [(1, (0, ((bs [49]), ())))]) ++ [(4, (0, ((bs []), ())))]), ())))))
      else
      jb (P := (((Unit × (Unit × (Unit × Unit)))) × (((Unit × Unit)) × (((Unit × Unit)) × (((List Int × (Int × Unit))) × ((List ((Int × (Int × (ByteArray × Unit))))) × Unit)))))) (
          bif (ilt (len o3) n1) then
            ok (aok (o3 ++ [(3, (0, ((bs []), ())))]) 32) <|
            some (.inr (((), ((), ((), ()))), (((), ()), (((), ()), ((o2a, (o2b, ())), ((o3 ++ [(3, (0, ((bs []), ())))]), ()))))))
          else
          some (.inr (((), ((), ((), ()))), (((), ()), (((), ()), ((o2a, (o2b, ())), (o3, ()))))))) fun ((_, (_, (_, _))), ((_, _), ((_, _), ((o2a_1, (o2b_1, _)), (o3_1, _))))) =>
      some (o3_1, (o2a_1, (o2b_1, ())))) n (((), (u2, ((), ((), ())))), (((), ()), (((), ()), ((u0, (u1, ())), ([(2, (0, ((bs [120]), ())))], ())))))
noncomputable def p_s_l34Rd_word (R : Run) (n : Nat) (u0 : List Int) (u1 : Int) : Option (ByteArray × (List Int × (Int × Unit))) :=
  (c_s_l34Rd_pick R u0 u1 10).bind fun (r9_1, (r9b, (r9c, _))) =>
  bif (r9_1 == 0) then
    (c_s_l34Rd_number R r9b r9c).bind fun (r44_1, (r44b, (r44c, _))) =>
    some (r44_1, (r44b, (r44c, ())))
  else
  bif (r9_1 == 1) then
    (c_s_l34Rd_pick R r9b r9c 11).bind fun (r9_2_1, (r9_2b, (r9_2c, _))) =>
    ok (inB r9_2_1 (len [(bs [43]), (bs [45]), (bs [42]), (bs [47]), (bs [94]), (bs [40]), (bs [41]), (bs [44]), (bs [61]), (bs [60, 61]), (bs [62, 61])])) <|
    some ((List.getD [(bs [43]), (bs [45]), (bs [42]), (bs [47]), (bs [94]), (bs [40]), (bs [41]), (bs [44]), (bs [61]), (bs [60, 61]), (bs [62, 61])] (Int.toNat r9_2_1) (bs [])), (r9_2b, (r9_2c, ())))
  else
  bif (r9_1 == 2) then
    (c_s_l34Rd_pick R r9b r9c 6).bind fun (r9_3_1, (r9_3b, (r9_3c, _))) =>
    ok (inB r9_3_1 (len [(bs [115, 113, 114, 116]), (bs [97, 98, 115]), (bs [109, 105, 110]), (bs [109, 97, 120]), (bs [100, 101, 102]), (bs [118, 97, 114])])) <|
    some ((List.getD [(bs [115, 113, 114, 116]), (bs [97, 98, 115]), (bs [109, 105, 110]), (bs [109, 97, 120]), (bs [100, 101, 102]), (bs [118, 97, 114])] (Int.toNat r9_3_1) (bs [])), (r9_3b, (r9_3c, ())))
  else
  (c_s_l34Rd_name R r9b r9c).bind fun (r32_1, (r32b, (r32c, _))) =>
  some (r32_1, (r32b, (r32c, ())))
noncomputable def p_s_l34Rd_name (R : Run) (n : Nat) (u0 : List Int) (u1 : Int) : Option (ByteArray × (List Int × (Int × Unit))) :=
  (c_s_l34Rd_pick R u0 u1 12).bind fun (r9_1, (r9b, (r9c, _))) =>
  ok (inB r9_1 (len [(bs [97]), (bs [98]), (bs [99]), (bs [120]), (bs [121]), (bs [122]), (bs [102]), (bs [103]), (bs [104]), (bs [107, 49]), (bs [108, 111, 110, 103, 110, 97, 109, 101]), (bs [101])])) <|
  some ((List.getD [(bs [97]), (bs [98]), (bs [99]), (bs [120]), (bs [121]), (bs [122]), (bs [102]), (bs [103]), (bs [104]), (bs [107, 49]), (bs [108, 111, 110, 103, 110, 97, 109, 101]), (bs [101])] (Int.toNat r9_1) (bs [])), (r9b, (r9c, ())))
noncomputable def p_s_l14Times (R : Run) (n : Nat) (u0 : ByteArray) (u1 : Int) : Option (ByteArray × Unit) :=
  (c_s_l34Many R u0 u1).bind fun (r45_1, _) =>
  some (r45_1, ())
noncomputable def p_s_l12Reader_product (R : Run) (n : Nat) (u0 : List ((Int × (ByteArray × Unit)))) (u1 : Int) (u2 : List ((Int × (Int × (ByteArray × Unit))))) (u3 : Bool) (u4 : Bool) : Option ((List ((Int × (ByteArray × Unit)))) × (Int × ((List ((Int × (Int × (ByteArray × Unit))))) × (Bool × (Bool × Unit))))) :=
  (c_s_l12Reader_signed R u0 u1 u2 u3 u4).bind fun (r170_1, (r170b, (r170c, (r170d, (r170e, _))))) =>
  iter (P := (((Unit × Unit)) × ((((List ((Int × (ByteArray × Unit)))) × (Int × (Unit × (Bool × (Bool × Unit)))))) × ((List ((Int × (Int × (ByteArray × Unit))))) × Unit)))) (fun rec ((_, _), ((o0a, (o0b, (_, (o0c, (o0d, _))))), (o1, _))) =>
      bif (!o0c) then
        (c_s_l12Reader_sign R o0a o0b o1 o0c o0d (bs [42])).bind fun (r131_1, (r131b, (r131c, (r131d, (r131e, (r131f, _)))))) =>
        bif r131_1 then
          (c_s_l12Reader_signed R r131b r131c r131d r131e r131f).bind fun (r170_2_1, (r170_2b, (r170_2c, (r170_2d, (r170_2e, _))))) =>
          (c_s_l12Reader_put R r170_2_1 r170_2b r170_2c r170_2d r170_2e 6 0 (bs [])).bind fun (r132_1, (r132b, (r132c, (r132d, (r132e, _))))) =>
          rec (((), ()), ((r132_1, (r132b, ((), (r132d, (r132e, ()))))), (r132c, ())))
        else
        (c_s_l12Reader_sign R r131b r131c r131d r131e r131f (bs [47])).bind fun (r131_2_1, (r131_2b, (r131_2c, (r131_2d, (r131_2e, (r131_2f, _)))))) =>
        bif r131_2_1 then
          (c_s_l12Reader_signed R r131_2b r131_2c r131_2d r131_2e r131_2f).bind fun (r170_3_1, (r170_3b, (r170_3c, (r170_3d, (r170_3e, _))))) =>
          (c_s_l12Reader_put R r170_3_1 r170_3b r170_3c r170_3d r170_3e 7 0 (bs [])).bind fun (r132_2_1, (r132_2b, (r132_2c, (r132_2d, (r132_2e, _))))) =>
          rec (((), ()), ((r132_2_1, (r132_2b, ((), (r132_2d, (r132_2e, ()))))), (r132_2c, ())))
        else
        some (r131_2b, (r131_2c, (r131_2d, (r131_2e, (r131_2f, ())))))
      else
      some (o0a, (o0b, (o1, (o0c, (o0d, ())))))) n (((), ()), ((r170_1, (r170b, ((), (r170d, (r170e, ()))))), (r170c, ())))
noncomputable def p_s_l12Reader_sign (R : Run) (n : Nat) (u0 : List ((Int × (ByteArray × Unit)))) (u1 : Int) (u2 : List ((Int × (Int × (ByteArray × Unit))))) (u3 : Bool) (u4 : Bool) (u5 : ByteArray) : Option (Bool × ((List ((Int × (ByteArray × Unit)))) × (Int × ((List ((Int × (Int × (ByteArray × Unit))))) × (Bool × (Bool × Unit)))))) :=
  jb (P := (((Bool × (Unit × (Bool × Unit)))) × ((((List ((Int × (ByteArray × Unit)))) × (Int × (Unit × (Bool × (Bool × Unit)))))) × ((List ((Int × (Int × (ByteArray × Unit))))) × Unit)))) (
      bif (ilt u1 (len u0)) then
        ok (inB u1 (len u0)) <|
        bif ((List.getD u0 (Int.toNat u1) (0, ((bs []), ()))).1 == 3) then
          ok (inB u1 (len u0)) <|
          some (.inr (((seq (List.getD u0 (Int.toNat u1) (0, ((bs []), ()))).2.1 u5), ((), (false, ()))), ((u0, (u1, ((), (u3, (u4, ()))))), (u2, ()))))
        else
        some (.inr ((false, ((), (false, ()))), ((u0, (u1, ((), (u3, (u4, ()))))), (u2, ()))))
      else
      some (.inr ((false, ((), (false, ()))), ((u0, (u1, ((), (u3, (u4, ()))))), (u2, ()))))) fun ((t43, (_, (t4, _))), ((o0a, (o0b, (_, (o0c, (o0d, _))))), (o1, _))) =>
  bif t43 then
    some (true, (o0a, ((iadd .i64 o0b 1), (o1, (o0c, (o0d, ()))))))
  else
  some (false, (o0a, (o0b, (o1, (o0c, (o0d, ()))))))
noncomputable def p_s_l12Reader_put (R : Run) (n : Nat) (u0 : List ((Int × (ByteArray × Unit)))) (u1 : Int) (u2 : List ((Int × (Int × (ByteArray × Unit))))) (u3 : Bool) (u4 : Bool) (u5 : Int) (u6 : Int) (u7 : ByteArray) : Option ((List ((Int × (ByteArray × Unit)))) × (Int × ((List ((Int × (Int × (ByteArray × Unit))))) × (Bool × (Bool × Unit))))) :=
  ok (aok (u2 ++ [(u5, (u6, (u7, ())))]) 32) <|
  some (u0, (u1, ((u2 ++ [(u5, (u6, (u7, ())))]), (u3, (u4, ())))))
noncomputable def p_internal_stringslite_HasPrefix (R : Run) (n : Nat) (u0 : ByteArray) (u1 : ByteArray) : Option (Bool × Unit) :=
  jb (P := (((Bool × Unit)) × Unit)) (
      bif (ile (slen u1) (slen u0)) then
        ok (sliceOk 0 (slen u1) (slen u0)) <|
        some (.inr (((seq (ByteArray.extract u0 (Int.toNat 0) (Int.toNat (slen u1))) u1), ()), ()))
      else
      some (.inr ((false, ()), ()))) fun ((t4, _), _) =>
  some (t4, ())
noncomputable def p_i_literal (R : Run) (n : Nat) (u0 : ByteArray) : Option (ByteArray × (ByteArray × (Int × (Bool × Unit)))) :=
  (c_strings_Cut R u0 (bs [101])).bind fun (r13_1, (r13b, (r13c, _))) =>
  (c_strings_Cut R r13_1 (bs [46])).bind fun (r13_2_1, (r13_2b, (r13_2c, _))) =>
  jb (P := (((Bool × (Bool × (ByteArray × (ByteArray × (ByteArray × (ByteArray × (ByteArray × (Int × (Bool × Unit)))))))))) × Unit)) (
      (c_i_wholeDigits R r13_2_1).bind fun (r49_1, _) =>
      bif (!r49_1) then
        some (.inr ((true, (r13c, (r13_2_1, (r13_2b, (r13b, ((bs []), ((bs []), (0, (false, ()))))))))), ()))
      else
      bif r13_2c then
        (c_i_isDigits R r13_2b).bind fun (r50_1, _) =>
        some (.inr (((!r50_1), (r13c, (r13_2_1, (r13_2b, (r13b, ((bs []), ((bs []), (0, (false, ()))))))))), ()))
      else
      some (.inr ((false, (r13c, (r13_2_1, (r13_2b, (r13b, ((bs []), ((bs []), (0, (false, ()))))))))), ()))) fun ((t38, (hasPower8, (ahead9, (behind10, (power7, (t2, (t3, (t4, (t5, _))))))))), _) =>
  bif t38 then
    some ((bs []), ((bs []), (0, (false, ()))))
  else
  bif (!hasPower8) then
    some (ahead9, (behind10, (0, (true, ()))))
  else
  (c_strings_CutPrefix R power7 (bs [45])).bind fun (r51_1, (r51b, _)) =>
  (c_strconv_Atoi R r51_1).bind fun (r52_1, (r52b, _)) =>
  jb (P := (((Bool × (Bool × (Int × (ByteArray × (ByteArray × (ByteArray × (ByteArray × (Int × (Bool × Unit)))))))))) × Unit)) (
      bif r52b then
        some (.inr ((true, (r51b, (r52_1, (ahead9, (behind10, (t2, (t3, (t4, (t5, ()))))))))), ()))
      else
      (c_i_wholeDigits R r51_1).bind fun (r49_2_1, _) =>
      bif (!r49_2_1) then
        some (.inr ((true, (r51b, (r52_1, (ahead9, (behind10, (t2, (t3, (t4, (t5, ()))))))))), ()))
      else
      bif (ilt 3 (slen r51_1)) then
        some (.inr ((true, (r51b, (r52_1, (ahead9, (behind10, (t2, (t3, (t4, (t5, ()))))))))), ()))
      else
      bif (ilt 400 r52_1) then
        some (.inr ((true, (r51b, (r52_1, (ahead9, (behind10, (t2, (t3, (t4, (t5, ()))))))))), ()))
      else
      bif r51b then
        some (.inr (((r52_1 == 0), (r51b, (r52_1, (ahead9, (behind10, (t2, (t3, (t4, (t5, ()))))))))), ()))
      else
      some (.inr ((false, (r51b, (r52_1, (ahead9, (behind10, (t2, (t3, (t4, (t5, ()))))))))), ()))) fun ((t75, (minus13, (n14, (ahead9_1, (behind10_1, (t2_1, (t3_1, (t4_1, (t5_1, _))))))))), _) =>
  bif t75 then
    some ((bs []), ((bs []), (0, (false, ()))))
  else
  jb (P := (((ByteArray × (ByteArray × (Int × (ByteArray × (ByteArray × (Int × (Bool × Unit)))))))) × Unit)) (
      bif minus13 then
        some (.inr ((ahead9_1, (behind10_1, ((ineg .i64 n14), (t2_1, (t3_1, (t4_1, (t5_1, ()))))))), ()))
      else
      some (.inr ((ahead9_1, (behind10_1, (n14, (t2_1, (t3_1, (t4_1, (t5_1, ()))))))), ()))) fun ((ahead9_2, (behind10_2, (n14_1, (t2_2, (t3_2, (t4_2, (t5_2, _))))))), _) =>
  some (ahead9_2, (behind10_2, (n14_1, (true, ()))))
noncomputable def p_i_termReader_signed (R : Run) (n : Nat) (u0 : List ((Int × (ByteArray × Unit)))) (u1 : List ((Int × (Int × (ByteArray × Unit))))) (u2 : Bool) (u3 : Bool) : Option ((List ((Int × (ByteArray × Unit)))) × ((List ((Int × (Int × (ByteArray × Unit))))) × (Bool × (Bool × Unit)))) :=
  (c_i_termReader_at R u0 u1 u2 u3 [(bs [45])]).bind fun (r121_1, (r121b, (r121c, (r121d, (r121e, _))))) =>
  bif r121_1 then
    (c_i_termReader_next R r121b r121c r121d r121e).bind fun (r122_1, (r122b, (r122c, (r122d, (r122e, (r122f, _)))))) =>
    (c_i_termReader_signed R r122c r122d r122e r122f).bind fun (r168_1, (r168b, (r168c, (r168d, _)))) =>
    (c_i_termReader_put R r168_1 r168b r168c r168d 3 0 (bs [])).bind fun (r123_1, (r123b, (r123c, (r123d, _)))) =>
    some (r123_1, (r123b, (r123c, (r123d, ()))))
  else
  (c_i_termReader_atom R r121b r121c r121d r121e).bind fun (r194_1, (r194b, (r194c, (r194d, _)))) =>
  jb (P := (((Bool × (Unit × Unit))) × ((((List ((Int × (ByteArray × Unit)))) × (Unit × (Bool × (Bool × Unit))))) × ((List ((Int × (Int × (ByteArray × Unit))))) × Unit)))) (
      bif r194c then
        some (.inr ((true, ((), ())), ((r194_1, ((), (r194c, (r194d, ())))), (r194b, ()))))
      else
      (c_i_termReader_at R r194_1 r194b r194c r194d [(bs [94])]).bind fun (r121_2_1, (r121_2b, (r121_2c, (r121_2d, (r121_2e, _))))) =>
      some (.inr (((!r121_2_1), ((), ())), ((r121_2b, ((), (r121_2d, (r121_2e, ())))), (r121_2c, ()))))) fun ((t23, (_, _)), ((o0a, (_, (o0b, (o0c, _)))), (o1, _))) =>
  bif t23 then
    some (o0a, (o1, (o0b, (o0c, ()))))
  else
  (c_i_termReader_next R o0a o1 o0b o0c).bind fun (r122_2_1, (r122_2b, (r122_2c, (r122_2d, (r122_2e, (r122_2f, _)))))) =>
  (c_i_termReader_next R r122_2c r122_2d r122_2e r122_2f).bind fun (r122_3_1, (r122_3b, (r122_3c, (r122_3d, (r122_3e, (r122_3f, _)))))) =>
  jb (P := (((Bool × (Unit × (Unit × Unit)))) × ((((List ((Int × (ByteArray × Unit)))) × (Unit × (Bool × (Bool × Unit))))) × (((Int × (ByteArray × Unit))) × ((List ((Int × (Int × (ByteArray × Unit))))) × Unit))))) (
      bif (r122_3_1 != 2) then
        some (.inr ((true, ((), ((), ()))), ((r122_3c, ((), (r122_3e, (r122_3f, ())))), ((r122_3_1, (r122_3b, ())), (r122_3d, ())))))
      else
      bif ((slen r122_3b) != 1) then
        some (.inr ((true, ((), ((), ()))), ((r122_3c, ((), (r122_3e, (r122_3f, ())))), ((r122_3_1, (r122_3b, ())), (r122_3d, ())))))
      else
      some (.inr (((!(slt r122_3b (bs [56]) || seq r122_3b (bs [56]))), ((), ((), ()))), ((r122_3c, ((), (r122_3e, (r122_3f, ())))), ((r122_3_1, (r122_3b, ())), (r122_3d, ())))))) fun ((t41, (_, (_, _))), ((o0a_1, (_, (o0b_1, (o0c_1, _)))), ((o1a, (o1b, _)), (o2, _)))) =>
  bif t41 then
    some (o0a_1, (o2, (true, (o0c_1, ()))))
  else
  ok (inB 0 (slen o1b)) <|
  (c_i_termReader_put R o0a_1 o2 o0b_1 o0c_1 8 (IntKind.wrap .i64 (isub .u8 (bt o1b 0) 48)) (bs [])).bind fun (r123_2_1, (r123_2b, (r123_2c, (r123_2d, _)))) =>
  some (r123_2_1, (r123_2b, (r123_2c, (r123_2d, ()))))
noncomputable def p_s_l34Many (R : Run) (n : Nat) (u0 : ByteArray) (u1 : Int) : Option (ByteArray × Unit) :=
  iter (P := (((Int × (ByteArray × (ByteArray × (ByteArray × Unit))))) × Unit)) (fun rec ((n1, (out5, (s0, (t4, _)))), _) =>
      bif (ilt 0 n1) then
        jb (P := (((ByteArray × (Int × (ByteArray × (ByteArray × Unit))))) × Unit)) (
            bif ((irem .i64 n1 2) == 1) then
              ok (sok out5 s0) <|
              some (.inr ((s0, (n1, ((out5 ++ s0), (t4, ())))), ()))
            else
            some (.inr ((s0, (n1, (out5, (t4, ())))), ()))) fun ((s0_1, (n1_1, (out5_1, (t4_1, _)))), _) =>
        ok (sok s0_1 s0_1) <|
        rec (((iquo .i64 n1_1 2), (out5_1, ((s0_1 ++ s0_1), (t4_1, ())))), ())
      else
      some (out5, ())) n ((u1, ((bs []), (u0, ((bs []), ())))), ())
noncomputable def p_s_l12Reader_signed (R : Run) (n : Nat) (u0 : List ((Int × (ByteArray × Unit)))) (u1 : Int) (u2 : List ((Int × (Int × (ByteArray × Unit))))) (u3 : Bool) (u4 : Bool) : Option ((List ((Int × (ByteArray × Unit)))) × (Int × ((List ((Int × (Int × (ByteArray × Unit))))) × (Bool × (Bool × Unit))))) :=
  bif u3 then
    some (u0, (u1, (u2, (u3, (u4, ())))))
  else
  (c_s_l12Reader_sign R u0 u1 u2 u3 u4 (bs [45])).bind fun (r131_1, (r131b, (r131c, (r131d, (r131e, (r131f, _)))))) =>
  bif r131_1 then
    (c_s_l12Reader_signed R r131b r131c r131d r131e r131f).bind fun (r170_1, (r170b, (r170c, (r170d, (r170e, _))))) =>
    (c_s_l12Reader_put R r170_1 r170b r170c r170d r170e 3 0 (bs [])).bind fun (r132_1, (r132b, (r132c, (r132d, (r132e, _))))) =>
    some (r132_1, (r132b, (r132c, (r132d, (r132e, ())))))
  else
  (c_s_l12Reader_atom R r131b r131c r131d r131e r131f).bind fun (r195_1, (r195b, (r195c, (r195d, (r195e, _))))) =>
  jb (P := (((Bool × (Unit × Unit))) × ((((List ((Int × (ByteArray × Unit)))) × (Int × (Unit × (Bool × (Bool × Unit)))))) × ((List ((Int × (Int × (ByteArray × Unit))))) × Unit)))) (
      bif (!r195d) then
        (c_s_l12Reader_sign R r195_1 r195b r195c r195d r195e (bs [94])).bind fun (r131_2_1, (r131_2b, (r131_2c, (r131_2d, (r131_2e, (r131_2f, _)))))) =>
        some (.inr ((r131_2_1, ((), ())), ((r131_2b, (r131_2c, ((), (r131_2e, (r131_2f, ()))))), (r131_2d, ()))))
      else
      some (.inr ((false, ((), ())), ((r195_1, (r195b, ((), (r195d, (r195e, ()))))), (r195c, ()))))) fun ((t23, (_, _)), ((o0a, (o0b, (_, (o0c, (o0d, _))))), (o1, _))) =>
  bif t23 then
    (c_s_l12Power R o0a o0b).bind fun (r196_1, _) =>
    bif (ilt r196_1 0) then
      some (o0a, (o0b, (o1, (true, (o0d, ())))))
    else
    (c_s_l12Reader_put R o0a (iadd .i64 o0b 1) o1 o0c o0d 8 r196_1 (bs [])).bind fun (r132_2_1, (r132_2b, (r132_2c, (r132_2d, (r132_2e, _))))) =>
    some (r132_2_1, (r132_2b, (r132_2c, (r132_2d, (r132_2e, ())))))
  else
  some (o0a, (o0b, (o1, (o0c, (o0d, ())))))
noncomputable def p_i_wholeDigits (R : Run) (n : Nat) (u0 : ByteArray) : Option (Bool × Unit) :=
  jb (P := (((Bool × Unit)) × Unit)) (
      (c_i_isDigits R u0).bind fun (r50_1, _) =>
      bif r50_1 then
        bif (seq u0 (bs [48])) then
          some (.inr ((true, ()), ()))
        else
        ok (inB 0 (slen u0)) <|
        some (.inr ((((bt u0 0) != 48), ()), ()))
      else
      some (.inr ((false, ()), ()))) fun ((t2, _), _) =>
  some (t2, ())
noncomputable def p_i_isDigits (R : Run) (n : Nat) (u0 : ByteArray) : Option (Bool × Unit) :=
  iter (P := (((Int × (Int × (ByteArray × (Bool × Unit))))) × Unit)) (fun rec ((t6, (t5, (s0, (t2, _)))), _) =>
      bif (ilt t6 t5) then
        jb (P := (((Bool × (Int × (Int × (ByteArray × (Bool × Unit)))))) × Unit)) (
            ok (inB t6 (slen s0)) <|
            bif (ilt (bt s0 t6) 48) then
              some (.inr ((true, (t6, (t5, (s0, (t2, ()))))), ()))
            else
            ok (inB t6 (slen s0)) <|
            some (.inr (((ilt 57 (bt s0 t6)), (t6, (t5, (s0, (t2, ()))))), ()))) fun ((t18, (t6_1, (t5_1, (s0_1, (t2_1, _))))), _) =>
        bif t18 then
          some (false, ())
        else
        rec (((iadd .i64 t6_1 1), (t5_1, (s0_1, (t2_1, ())))), ())
      else
      some ((!(seq s0 (bs []))), ())) n ((0, ((slen u0), (u0, (false, ())))), ())
noncomputable def p_strings_CutPrefix (R : Run) (n : Nat) (u0 : ByteArray) (u1 : ByteArray) : Option (ByteArray × (Bool × Unit)) :=
  (c_internal_stringslite_CutPrefix R u0 u1).bind fun (r59_1, (r59b, _)) =>
  some (r59_1, (r59b, ()))
noncomputable def p_i_termReader_atom (R : Run) (n : Nat) (u0 : List ((Int × (ByteArray × Unit)))) (u1 : List ((Int × (Int × (ByteArray × Unit))))) (u2 : Bool) (u3 : Bool) : Option ((List ((Int × (ByteArray × Unit)))) × ((List ((Int × (Int × (ByteArray × Unit))))) × (Bool × (Bool × Unit)))) :=
  (c_i_termReader_at R u0 u1 u2 u3 [(bs [40])]).bind fun (r121_1, (r121b, (r121c, (r121d, (r121e, _))))) =>
  bif r121_1 then
    jb (P := (((Unit × Unit)) × ((((List ((Int × (ByteArray × Unit)))) × (Unit × (Bool × (Bool × Unit))))) × ((List ((Int × (Int × (ByteArray × Unit))))) × Unit)))) (
        (c_i_termReader_arguments R r121b r121c r121d r121e).bind fun (r213_1, (r213b, (r213c, (r213d, (r213e, _))))) =>
        bif (r213_1 != 1) then
          some (.inr (((), ()), ((r213b, ((), (true, (r213e, ())))), (r213c, ()))))
        else
        some (.inr (((), ()), ((r213b, ((), (r213d, (r213e, ())))), (r213c, ()))))) fun ((_, _), ((o0a, (_, (o0b, (o0c, _)))), (o1, _))) =>
    some (o0a, (o1, (o0b, (o0c, ()))))
  else
  (c_i_termReader_next R r121b r121c r121d r121e).bind fun (r122_1, (r122b, (r122c, (r122d, (r122e, (r122f, _)))))) =>
  bif (r122_1 == 2) then
    (c_i_termReader_put R r122c r122d r122e r122f 1 0 r122b).bind fun (r123_1, (r123b, (r123c, (r123d, _)))) =>
    some (r123_1, (r123b, (r123c, (r123d, ()))))
  else
  bif (r122_1 != 1) then
    some (r122c, (r122d, (true, (r122f, ()))))
  else
  jb (P := (((Bool × (Unit × (Unit × Unit)))) × (((Int × (ByteArray × Unit))) × ((((List ((Int × (ByteArray × Unit)))) × (Unit × (Bool × (Bool × Unit))))) × ((List ((Int × (Int × (ByteArray × Unit))))) × Unit))))) (
      bif (seq r122b (bs [115, 113, 114, 116])) then
        some (.inr ((true, ((), ((), ()))), ((r122_1, (r122b, ())), ((r122c, ((), (r122e, (r122f, ())))), (r122d, ())))))
      else
      bif (seq r122b (bs [97, 98, 115])) then
        some (.inr ((true, ((), ((), ()))), ((r122_1, (r122b, ())), ((r122c, ((), (r122e, (r122f, ())))), (r122d, ())))))
      else
      bif (seq r122b (bs [109, 105, 110])) then
        some (.inr ((true, ((), ((), ()))), ((r122_1, (r122b, ())), ((r122c, ((), (r122e, (r122f, ())))), (r122d, ())))))
      else
      some (.inr (((seq r122b (bs [109, 97, 120])), ((), ((), ()))), ((r122_1, (r122b, ())), ((r122c, ((), (r122e, (r122f, ())))), (r122d, ())))))) fun ((t36, (_, (_, _))), ((o0a_1, (o0b_1, _)), ((o1a, (_, (o1b, (o1c, _)))), (o2, _)))) =>
  bif t36 then
    ok (mhas (mput (mput (mput (mput [] (bs [115, 113, 114, 116]) 9) (bs [97, 98, 115]) 10) (bs [109, 105, 110]) 11) (bs [109, 97, 120]) 12) o0b_1) <|
    jb (P := (((Unit × (Int × Unit))) × ((((List ((Int × (ByteArray × Unit)))) × (Unit × (Bool × (Bool × Unit))))) × ((List ((Int × (Int × (ByteArray × Unit))))) × Unit)))) (
        (c_i_termReader_arguments R o1a o2 o1b o1c).bind fun (r213_2_1, (r213_2b, (r213_2c, (r213_2d, (r213_2e, _))))) =>
        (c_i_TermNode_parts R (mget (mput (mput (mput (mput [] (bs [115, 113, 114, 116]) 9) (bs [97, 98, 115]) 10) (bs [109, 105, 110]) 11) (bs [109, 97, 120]) 12) o0b_1) 0 (bs [])).bind fun (r65_1, _) =>
        bif (r213_2_1 != r65_1) then
          some (.inr (((), ((mget (mput (mput (mput (mput [] (bs [115, 113, 114, 116]) 9) (bs [97, 98, 115]) 10) (bs [109, 105, 110]) 11) (bs [109, 97, 120]) 12) o0b_1), ())), ((r213_2b, ((), (true, (r213_2e, ())))), (r213_2c, ()))))
        else
        some (.inr (((), ((mget (mput (mput (mput (mput [] (bs [115, 113, 114, 116]) 9) (bs [97, 98, 115]) 10) (bs [109, 105, 110]) 11) (bs [109, 97, 120]) 12) o0b_1), ())), ((r213_2b, ((), (r213_2d, (r213_2e, ())))), (r213_2c, ()))))) fun ((_, (kind4, _)), ((o0a_2, (_, (o0b_2, (o0c_1, _)))), (o1_1, _))) =>
    (c_i_termReader_put R o0a_2 o1_1 o0b_2 o0c_1 kind4 0 (bs [])).bind fun (r123_2_1, (r123_2b, (r123_2c, (r123_2d, _)))) =>
    some (r123_2_1, (r123_2b, (r123_2c, (r123_2d, ()))))
  else
  (c_i_LangNameOk R o0b_1).bind fun (r31_1, _) =>
  bif (!r31_1) then
    some (o1a, (o2, (true, (o1c, ()))))
  else
  (c_i_termReader_at R o1a o2 o1b o1c [(bs [40])]).bind fun (r121_2_1, (r121_2b, (r121_2c, (r121_2d, (r121_2e, _))))) =>
  bif r121_2_1 then
    (c_i_termReader_arguments R r121_2b r121_2c r121_2d r121_2e).bind fun (r213_3_1, (r213_3b, (r213_3c, (r213_3d, (r213_3e, _))))) =>
    jb (P := (((Unit × (Int × (Unit × Unit)))) × ((((List ((Int × (ByteArray × Unit)))) × (Unit × (Bool × (Bool × Unit))))) × (((Int × (ByteArray × Unit))) × ((List ((Int × (Int × (ByteArray × Unit))))) × Unit))))) (
        bif r213_3e then
          some (.inr (((), (r213_3_1, ((), ()))), ((r213_3b, ((), (r213_3d, (true, ())))), ((o0a_1, (o0b_1, ())), (r213_3c, ())))))
        else
        some (.inr (((), (r213_3_1, ((), ()))), ((r213_3b, ((), (r213_3d, ((ilt 6 r213_3_1), ())))), ((o0a_1, (o0b_1, ())), (r213_3c, ())))))) fun ((_, (n5, (_, _))), ((o0a_3, (_, (o0b_3, (o0c_2, _)))), ((o1a_1, (o1b_1, _)), (o2_1, _)))) =>
    (c_i_termReader_put R o0a_3 o2_1 o0b_3 o0c_2 13 n5 o1b_1).bind fun (r123_3_1, (r123_3b, (r123_3c, (r123_3d, _)))) =>
    some (r123_3_1, (r123_3b, (r123_3c, (r123_3d, ()))))
  else
  (c_i_termReader_put R r121_2b r121_2c r121_2d r121_2e 2 0 o0b_1).bind fun (r123_4_1, (r123_4b, (r123_4c, (r123_4d, _)))) =>
  some (r123_4_1, (r123_4b, (r123_4c, (r123_4d, ()))))
noncomputable def p_s_l12Reader_atom (R : Run) (n : Nat) (u0 : List ((Int × (ByteArray × Unit)))) (u1 : Int) (u2 : List ((Int × (Int × (ByteArray × Unit))))) (u3 : Bool) (u4 : Bool) : Option ((List ((Int × (ByteArray × Unit)))) × (Int × ((List ((Int × (Int × (ByteArray × Unit))))) × (Bool × (Bool × Unit))))) :=
  (c_s_l12Reader_sign R u0 u1 u2 u3 u4 (bs [40])).bind fun (r131_1, (r131b, (r131c, (r131d, (r131e, (r131f, _)))))) =>
  bif r131_1 then
    (c_s_l12Reader_sum R r131b r131c r131d r131e r131f).bind fun (r88_1, (r88b, (r88c, (r88d, (r88e, _))))) =>
    (c_s_l12Reader_want R r88_1 r88b r88c r88d r88e (bs [41])).bind fun (r214_1, (r214b, (r214c, (r214d, (r214e, _))))) =>
    some (r214_1, (r214b, (r214c, (r214d, (r214e, ())))))
  else
  jb (P := (((Bool × (Unit × Unit))) × ((((List ((Int × (ByteArray × Unit)))) × (Int × (Unit × (Bool × (Bool × Unit)))))) × ((List ((Int × (Int × (ByteArray × Unit))))) × Unit)))) (
      bif (ile (len r131b) r131c) then
        some (.inr ((true, ((), ())), ((r131b, (r131c, ((), (r131e, (r131f, ()))))), (r131d, ()))))
      else
      ok (inB r131c (len r131b)) <|
      some (.inr ((((List.getD r131b (Int.toNat r131c) (0, ((bs []), ()))).1 == 3), ((), ())), ((r131b, (r131c, ((), (r131e, (r131f, ()))))), (r131d, ()))))) fun ((t33, (_, _)), ((o0a, (o0b, (_, (o0c, (o0d, _))))), (o1, _))) =>
  bif t33 then
    some (o0a, (o0b, (o1, (true, (o0d, ())))))
  else
  ok (inB o0b (len o0a)) <|
  bif ((List.getD o0a (Int.toNat o0b) (0, ((bs []), ()))).1 == 2) then
    (c_s_l12Reader_put R o0a (iadd .i64 o0b 1) o1 o0c o0d 1 0 (List.getD o0a (Int.toNat o0b) (0, ((bs []), ()))).2.1).bind fun (r132_1, (r132b, (r132c, (r132d, (r132e, _))))) =>
    some (r132_1, (r132b, (r132c, (r132d, (r132e, ())))))
  else
  (c_s_l12Reader_sign R o0a (iadd .i64 o0b 1) o1 o0c o0d (bs [40])).bind fun (r131_2_1, (r131_2b, (r131_2c, (r131_2d, (r131_2e, (r131_2f, _)))))) =>
  bif (!r131_2_1) then
    (c_s_l11Word R (List.getD o0a (Int.toNat o0b) (0, ((bs []), ()))).2.1).bind fun (r89_1, _) =>
    bif r89_1 then
      some (r131_2b, (r131_2c, (r131_2d, (true, (r131_2f, ())))))
    else
    (c_s_l12Reader_put R r131_2b r131_2c r131_2d r131_2e r131_2f 2 0 (List.getD o0a (Int.toNat o0b) (0, ((bs []), ()))).2.1).bind fun (r132_2_1, (r132_2b, (r132_2c, (r132_2d, (r132_2e, _))))) =>
    some (r132_2_1, (r132_2b, (r132_2c, (r132_2d, (r132_2e, ())))))
  else
  (c_s_l12Reader_sum R r131_2b r131_2c r131_2d r131_2e r131_2f).bind fun (r88_2_1, (r88_2b, (r88_2c, (r88_2d, (r88_2e, _))))) =>
  iter (P := (((Unit × (Int × (Unit × Unit)))) × ((((List ((Int × (ByteArray × Unit)))) × (Int × (Unit × (Bool × (Bool × Unit)))))) × (((Int × (ByteArray × Unit))) × ((List ((Int × (Int × (ByteArray × Unit))))) × Unit))))) (fun rec ((_, (n3, (_, _))), ((o0a_1, (o0b_1, (_, (o0c_1, (o0d_1, _))))), ((o1a, (o1b, _)), (o2, _)))) =>
      jb (P := (((Bool × (Unit × (Int × (Unit × Unit))))) × ((((List ((Int × (ByteArray × Unit)))) × (Int × (Unit × (Bool × (Bool × Unit)))))) × (((Int × (ByteArray × Unit))) × ((List ((Int × (Int × (ByteArray × Unit))))) × Unit))))) (
          bif (!o0c_1) then
            (c_s_l12Reader_sign R o0a_1 o0b_1 o2 o0c_1 o0d_1 (bs [44])).bind fun (r131_3_1, (r131_3b, (r131_3c, (r131_3d, (r131_3e, (r131_3f, _)))))) =>
            some (.inr ((r131_3_1, ((), (n3, ((), ())))), ((r131_3b, (r131_3c, ((), (r131_3e, (r131_3f, ()))))), ((o1a, (o1b, ())), (r131_3d, ())))))
          else
          some (.inr ((false, ((), (n3, ((), ())))), ((o0a_1, (o0b_1, ((), (o0c_1, (o0d_1, ()))))), ((o1a, (o1b, ())), (o2, ())))))) fun ((t85, (_, (n3_1, (_, _)))), ((o0a_2, (o0b_2, (_, (o0c_2, (o0d_2, _))))), ((o1a_1, (o1b_1, _)), (o2_1, _)))) =>
      bif t85 then
        (c_s_l12Reader_sum R o0a_2 o0b_2 o2_1 o0c_2 o0d_2).bind fun (r88_3_1, (r88_3b, (r88_3c, (r88_3d, (r88_3e, _))))) =>
        rec (((), ((iadd .i64 n3_1 1), ((), ()))), ((r88_3_1, (r88_3b, ((), (r88_3d, (r88_3e, ()))))), ((o1a_1, (o1b_1, ())), (r88_3c, ()))))
      else
      (c_s_l12Reader_want R o0a_2 o0b_2 o2_1 o0c_2 o0d_2 (bs [41])).bind fun (r214_2_1, (r214_2b, (r214_2c, (r214_2d, (r214_2e, _))))) =>
      bif r214_2d then
        some (r214_2_1, (r214_2b, (r214_2c, (r214_2d, (r214_2e, ())))))
      else
      (c_s_l12Reader_call R r214_2_1 r214_2b r214_2c r214_2d r214_2e o1b_1 n3_1).bind fun (r215_1, (r215b, (r215c, (r215d, (r215e, _))))) =>
      some (r215_1, (r215b, (r215c, (r215d, (r215e, ())))))) n (((), (1, ((), ()))), ((r88_2_1, (r88_2b, ((), (r88_2d, (r88_2e, ()))))), (((List.getD o0a (Int.toNat o0b) (0, ((bs []), ()))).1, ((List.getD o0a (Int.toNat o0b) (0, ((bs []), ()))).2.1, ())), (r88_2c, ()))))
noncomputable def p_s_l12Power (R : Run) (n : Nat) (u0 : List ((Int × (ByteArray × Unit)))) (u1 : Int) : Option (Int × Unit) :=
  jb (P := (((Bool × ((List ((Int × (ByteArray × Unit)))) × (Int × (Int × Unit))))) × Unit)) (
      bif (ile (len u0) u1) then
        some (.inr ((true, (u0, (u1, (0, ())))), ()))
      else
      ok (inB u1 (len u0)) <|
      bif ((List.getD u0 (Int.toNat u1) (0, ((bs []), ()))).1 != 2) then
        some (.inr ((true, (u0, (u1, (0, ())))), ()))
      else
      ok (inB u1 (len u0)) <|
      bif ((slen (List.getD u0 (Int.toNat u1) (0, ((bs []), ()))).2.1) != 1) then
        some (.inr ((true, (u0, (u1, (0, ())))), ()))
      else
      ok (inB u1 (len u0)) <|
      some (.inr (((!(slt (List.getD u0 (Int.toNat u1) (0, ((bs []), ()))).2.1 (bs [56]) || seq (List.getD u0 (Int.toNat u1) (0, ((bs []), ()))).2.1 (bs [56]))), (u0, (u1, (0, ())))), ()))) fun ((t33, (tokens0, (at1, (t4, _)))), _) =>
  bif t33 then
    some ((-1), ())
  else
  ok (inB at1 (len tokens0)) <|
  ok (inB 0 (slen (List.getD tokens0 (Int.toNat at1) (0, ((bs []), ()))).2.1)) <|
  some ((IntKind.wrap .i64 (isub .u8 (bt (List.getD tokens0 (Int.toNat at1) (0, ((bs []), ()))).2.1 0) 48)), ())
noncomputable def p_internal_stringslite_CutPrefix (R : Run) (n : Nat) (u0 : ByteArray) (u1 : ByteArray) : Option (ByteArray × (Bool × Unit)) :=
  (c_internal_stringslite_HasPrefix R u0 u1).bind fun (r47_1, _) =>
  bif (!r47_1) then
    some (u0, (false, ()))
  else
  ok (sliceOk (slen u1) (slen u0) (slen u0)) <|
  some ((ByteArray.extract u0 (Int.toNat (slen u1)) (Int.toNat (slen u0))), (true, ()))
noncomputable def p_i_termReader_arguments (R : Run) (n : Nat) (u0 : List ((Int × (ByteArray × Unit)))) (u1 : List ((Int × (Int × (ByteArray × Unit))))) (u2 : Bool) (u3 : Bool) : Option (Int × ((List ((Int × (ByteArray × Unit)))) × ((List ((Int × (Int × (ByteArray × Unit))))) × (Bool × (Bool × Unit))))) :=
  (c_i_termReader_take R u0 u1 u2 u3 (bs [40])).bind fun (r230_1, (r230b, (r230c, (r230d, _)))) =>
  jb (P := (((Unit × (Int × (Int × Unit)))) × ((((List ((Int × (ByteArray × Unit)))) × (Unit × (Bool × (Bool × Unit))))) × ((List ((Int × (Int × (ByteArray × Unit))))) × Unit)))) (
      iter (P := (((Unit × (Int × (Int × Unit)))) × ((((List ((Int × (ByteArray × Unit)))) × (Unit × (Bool × (Bool × Unit))))) × ((List ((Int × (Int × (ByteArray × Unit))))) × Unit)))) (fun rec ((_, (n3, (t2, _))), ((o0a, (_, (o0b, (o0c, _)))), (o1, _))) =>
          bif (!o0b) then
            (c_i_termReader_sum R o0a o1 o0b o0c).bind fun (r84_1, (r84b, (r84c, (r84d, _)))) =>
            (c_i_termReader_at R r84_1 r84b r84c r84d [(bs [44])]).bind fun (r121_1, (r121b, (r121c, (r121d, (r121e, _))))) =>
            bif (!r121_1) then
              some (.inr (((), ((iadd .i64 n3 1), (t2, ()))), ((r121b, ((), (r121d, (r121e, ())))), (r121c, ()))))
            else
            (c_i_termReader_next R r121b r121c r121d r121e).bind fun (r122_1, (r122b, (r122c, (r122d, (r122e, (r122f, _)))))) =>
            rec (((), ((iadd .i64 n3 1), (t2, ()))), ((r122c, ((), (r122e, (r122f, ())))), (r122d, ())))
          else
          some (.inr (((), (n3, (t2, ()))), ((o0a, ((), (o0b, (o0c, ())))), (o1, ()))))) n (((), (0, (0, ()))), ((r230_1, ((), (r230c, (r230d, ())))), (r230b, ())))) fun ((_, (n3_1, (t2_1, _))), ((o0a_1, (_, (o0b_1, (o0c_1, _)))), (o1_1, _))) =>
  (c_i_termReader_take R o0a_1 o1_1 o0b_1 o0c_1 (bs [41])).bind fun (r230_2_1, (r230_2b, (r230_2c, (r230_2d, _)))) =>
  some (n3_1, (r230_2_1, (r230_2b, (r230_2c, (r230_2d, ())))))
noncomputable def p_s_l12Reader_want (R : Run) (n : Nat) (u0 : List ((Int × (ByteArray × Unit)))) (u1 : Int) (u2 : List ((Int × (Int × (ByteArray × Unit))))) (u3 : Bool) (u4 : Bool) (u5 : ByteArray) : Option ((List ((Int × (ByteArray × Unit)))) × (Int × ((List ((Int × (Int × (ByteArray × Unit))))) × (Bool × (Bool × Unit))))) :=
  (c_s_l12Reader_sign R u0 u1 u2 u3 u4 u5).bind fun (r131_1, (r131b, (r131c, (r131d, (r131e, (r131f, _)))))) =>
  bif (!r131_1) then
    some (r131b, (r131c, (r131d, (true, (r131f, ())))))
  else
  some (r131b, (r131c, (r131d, (r131e, (r131f, ())))))
noncomputable def p_s_l12Reader_call (R : Run) (n : Nat) (u0 : List ((Int × (ByteArray × Unit)))) (u1 : Int) (u2 : List ((Int × (Int × (ByteArray × Unit))))) (u3 : Bool) (u4 : Bool) (u5 : ByteArray) (u6 : Int) : Option ((List ((Int × (ByteArray × Unit)))) × (Int × ((List ((Int × (Int × (ByteArray × Unit))))) × (Bool × (Bool × Unit))))) :=
  (c_s_l11Word R u5).bind fun (r89_1, _) =>
  bif (!r89_1) then
    jb (P := (((Unit × (Int × (ByteArray × Unit)))) × ((((List ((Int × (ByteArray × Unit)))) × (Int × (Unit × (Bool × (Bool × Unit)))))) × ((List ((Int × (Int × (ByteArray × Unit))))) × Unit)))) (
        bif (ilt 6 u6) then
          some (.inr (((), (u6, (u5, ()))), ((u0, (u1, ((), (u3, (true, ()))))), (u2, ()))))
        else
        some (.inr (((), (u6, (u5, ()))), ((u0, (u1, ((), (u3, (u4, ()))))), (u2, ()))))) fun ((_, (n2, (name1, _))), ((o0a, (o0b, (_, (o0c, (o0d, _))))), (o1, _))) =>
    (c_s_l12Reader_put R o0a o0b o1 o0c o0d 13 n2 name1).bind fun (r132_1, (r132b, (r132c, (r132d, (r132e, _))))) =>
    some (r132_1, (r132b, (r132c, (r132d, (r132e, ())))))
  else
  jb (P := (((Bool × (Unit × (ByteArray × (Int × Unit))))) × ((((List ((Int × (ByteArray × Unit)))) × (Int × (Unit × (Bool × (Bool × Unit)))))) × ((List ((Int × (Int × (ByteArray × Unit))))) × Unit)))) (
      bif (seq u5 (bs [115, 113, 114, 116])) then
        some (.inr (((u6 == 1), ((), (u5, (u6, ())))), ((u0, (u1, ((), (u3, (u4, ()))))), (u2, ()))))
      else
      some (.inr ((false, ((), (u5, (u6, ())))), ((u0, (u1, ((), (u3, (u4, ()))))), (u2, ()))))) fun ((t21, (_, (name1_1, (n2_1, _)))), ((o0a_1, (o0b_1, (_, (o0c_1, (o0d_1, _))))), (o1_1, _))) =>
  bif t21 then
    (c_s_l12Reader_put R o0a_1 o0b_1 o1_1 o0c_1 o0d_1 9 0 (bs [])).bind fun (r132_2_1, (r132_2b, (r132_2c, (r132_2d, (r132_2e, _))))) =>
    some (r132_2_1, (r132_2b, (r132_2c, (r132_2d, (r132_2e, ())))))
  else
  jb (P := (((Bool × (Unit × (ByteArray × (Int × Unit))))) × ((((List ((Int × (ByteArray × Unit)))) × (Int × (Unit × (Bool × (Bool × Unit)))))) × ((List ((Int × (Int × (ByteArray × Unit))))) × Unit)))) (
      bif (seq name1_1 (bs [97, 98, 115])) then
        some (.inr (((n2_1 == 1), ((), (name1_1, (n2_1, ())))), ((o0a_1, (o0b_1, ((), (o0c_1, (o0d_1, ()))))), (o1_1, ()))))
      else
      some (.inr ((false, ((), (name1_1, (n2_1, ())))), ((o0a_1, (o0b_1, ((), (o0c_1, (o0d_1, ()))))), (o1_1, ()))))) fun ((t30, (_, (name1_2, (n2_2, _)))), ((o0a_2, (o0b_2, (_, (o0c_2, (o0d_2, _))))), (o1_2, _))) =>
  bif t30 then
    (c_s_l12Reader_put R o0a_2 o0b_2 o1_2 o0c_2 o0d_2 10 0 (bs [])).bind fun (r132_3_1, (r132_3b, (r132_3c, (r132_3d, (r132_3e, _))))) =>
    some (r132_3_1, (r132_3b, (r132_3c, (r132_3d, (r132_3e, ())))))
  else
  jb (P := (((Bool × (Unit × (ByteArray × (Int × Unit))))) × ((((List ((Int × (ByteArray × Unit)))) × (Int × (Unit × (Bool × (Bool × Unit)))))) × ((List ((Int × (Int × (ByteArray × Unit))))) × Unit)))) (
      bif (seq name1_2 (bs [109, 105, 110])) then
        some (.inr (((n2_2 == 2), ((), (name1_2, (n2_2, ())))), ((o0a_2, (o0b_2, ((), (o0c_2, (o0d_2, ()))))), (o1_2, ()))))
      else
      some (.inr ((false, ((), (name1_2, (n2_2, ())))), ((o0a_2, (o0b_2, ((), (o0c_2, (o0d_2, ()))))), (o1_2, ()))))) fun ((t39, (_, (name1_3, (n2_3, _)))), ((o0a_3, (o0b_3, (_, (o0c_3, (o0d_3, _))))), (o1_3, _))) =>
  bif t39 then
    (c_s_l12Reader_put R o0a_3 o0b_3 o1_3 o0c_3 o0d_3 11 0 (bs [])).bind fun (r132_4_1, (r132_4b, (r132_4c, (r132_4d, (r132_4e, _))))) =>
    some (r132_4_1, (r132_4b, (r132_4c, (r132_4d, (r132_4e, ())))))
  else
  jb (P := (((Bool × (Unit × Unit))) × ((((List ((Int × (ByteArray × Unit)))) × (Int × (Unit × (Bool × (Bool × Unit)))))) × ((List ((Int × (Int × (ByteArray × Unit))))) × Unit)))) (
      bif (seq name1_3 (bs [109, 97, 120])) then
        some (.inr (((n2_3 == 2), ((), ())), ((o0a_3, (o0b_3, ((), (o0c_3, (o0d_3, ()))))), (o1_3, ()))))
      else
      some (.inr ((false, ((), ())), ((o0a_3, (o0b_3, ((), (o0c_3, (o0d_3, ()))))), (o1_3, ()))))) fun ((t48, (_, _)), ((o0a_4, (o0b_4, (_, (o0c_4, (o0d_4, _))))), (o1_4, _))) =>
  bif t48 then
    (c_s_l12Reader_put R o0a_4 o0b_4 o1_4 o0c_4 o0d_4 12 0 (bs [])).bind fun (r132_5_1, (r132_5b, (r132_5c, (r132_5d, (r132_5e, _))))) =>
    some (r132_5_1, (r132_5b, (r132_5c, (r132_5d, (r132_5e, ())))))
  else
  some (o0a_4, (o0b_4, (o1_4, (true, (o0d_4, ())))))
noncomputable def p_i_termReader_take (R : Run) (n : Nat) (u0 : List ((Int × (ByteArray × Unit)))) (u1 : List ((Int × (Int × (ByteArray × Unit))))) (u2 : Bool) (u3 : Bool) (u4 : ByteArray) : Option ((List ((Int × (ByteArray × Unit)))) × ((List ((Int × (Int × (ByteArray × Unit))))) × (Bool × (Bool × Unit)))) :=
  (c_i_termReader_next R u0 u1 u2 u3).bind fun (r122_1, (r122b, (r122c, (r122d, (r122e, (r122f, _)))))) =>
  jb (P := (((Bool × (Unit × Unit))) × ((((List ((Int × (ByteArray × Unit)))) × (Unit × (Bool × (Bool × Unit))))) × ((List ((Int × (Int × (ByteArray × Unit))))) × Unit)))) (
      bif (r122_1 != 3) then
        some (.inr ((true, ((), ())), ((r122c, ((), (r122e, (r122f, ())))), (r122d, ()))))
      else
      some (.inr (((!(seq r122b u4)), ((), ())), ((r122c, ((), (r122e, (r122f, ())))), (r122d, ()))))) fun ((t15, (_, _)), ((o0a, (_, (o0b, (o0c, _)))), (o1, _))) =>
  bif t15 then
    some (o0a, (o1, (true, (o0c, ()))))
  else
  some (o0a, (o1, (o0b, (o0c, ()))))
end Go.Px.Seat
