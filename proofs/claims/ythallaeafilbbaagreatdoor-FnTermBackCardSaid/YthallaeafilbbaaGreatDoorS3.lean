/- Own texts, part S3: PxEqs. -/
import Derived.Test.YthallaeafilbbaaGreatDoorS2
set_option linter.unusedVariables false

namespace Go.Px.Seat
open Go
set_option linter.unusedVariables false
noncomputable def C (B : Run) : Prog := ⟨T, F, S, B⟩
variable {B : Run}
theorem e_w_FnTermBack (R : Run) (n : Nat) (u0 : List Int) (u1 : List Int) : c_w_FnTermBack ((C B).step R n) u0 u1 = p_w_FnTermBack R n u0 u1 := by kernel_rfl
theorem e_s_GoodTerm (R : Run) (n : Nat) (u0 : List Int) : c_s_GoodTerm ((C B).step R n) u0 = p_s_GoodTerm R n u0 := by kernel_rfl
theorem e_i_TermText (R : Run) (n : Nat) (u0 : List ((Int × (Int × (ByteArray × Unit))))) : c_i_TermText ((C B).step R n) u0 = p_i_TermText R n u0 := by kernel_rfl
theorem e_s_TermText (R : Run) (n : Nat) (u0 : List ((Int × (Int × (ByteArray × Unit))))) : c_s_TermText ((C B).step R n) u0 = p_s_TermText R n u0 := by kernel_rfl
theorem e_w_ptShort (R : Run) (n : Nat) (u0 : ByteArray) : c_w_ptShort ((C B).step R n) u0 = p_w_ptShort R n u0 := by kernel_rfl
theorem e_i_TermRead (R : Run) (n : Nat) (u0 : ByteArray) : c_i_TermRead ((C B).step R n) u0 = p_i_TermRead R n u0 := by kernel_rfl
theorem e_w_ptTerm (R : Run) (n : Nat) (u0 : List ((Int × (Int × (ByteArray × Unit))))) (u1 : List ((Int × (Int × (ByteArray × Unit))))) : c_w_ptTerm ((C B).step R n) u0 u1 = p_w_ptTerm R n u0 u1 := by kernel_rfl
theorem e_s_DrawTermRead (R : Run) (n : Nat) (u0 : List Int) : c_s_DrawTermRead ((C B).step R n) u0 = p_s_DrawTermRead R n u0 := by kernel_rfl
theorem e_s_TermRead (R : Run) (n : Nat) (u0 : ByteArray) : c_s_TermRead ((C B).step R n) u0 = p_s_TermRead R n u0 := by kernel_rfl
theorem e_w_ptComment (R : Run) (n : Nat) (u0 : ByteArray) : c_w_ptComment ((C B).step R n) u0 = p_w_ptComment R n u0 := by kernel_rfl
theorem e_s_l34Open (R : Run) (n : Nat) (u0 : List Int) : c_s_l34Open ((C B).step R n) u0 = p_s_l34Open R n u0 := by kernel_rfl
theorem e_s_l34Rd_term (R : Run) (n : Nat) (u0 : List Int) (u1 : Int) (u2 : List ByteArray) (u3 : List ((ByteArray × (Int × Unit)))) (u4 : Int) : c_s_l34Rd_term ((C B).step R n) u0 u1 u2 u3 u4 = p_s_l34Rd_term R n u0 u1 u2 u3 u4 := by kernel_rfl
theorem e_s_l34Rd_pick (R : Run) (n : Nat) (u0 : List Int) (u1 : Int) (u2 : Int) : c_s_l34Rd_pick ((C B).step R n) u0 u1 u2 = p_s_l34Rd_pick R n u0 u1 u2 := by kernel_rfl
theorem e_i_TermOk (R : Run) (n : Nat) (u0 : List ((Int × (Int × (ByteArray × Unit))))) : c_i_TermOk ((C B).step R n) u0 = p_i_TermOk R n u0 := by kernel_rfl
theorem e_i_Term_text (R : Run) (n : Nat) (u0 : List ((Int × (Int × (ByteArray × Unit))))) : c_i_Term_text ((C B).step R n) u0 = p_i_Term_text R n u0 := by kernel_rfl
theorem e_s_TermOk (R : Run) (n : Nat) (u0 : List ((Int × (Int × (ByteArray × Unit))))) : c_s_TermOk ((C B).step R n) u0 = p_s_TermOk R n u0 := by kernel_rfl
theorem e_s_l12Show (R : Run) (n : Nat) (u0 : List ((Int × (Int × (ByteArray × Unit))))) (u1 : Int) (u2 : Int) : c_s_l12Show ((C B).step R n) u0 u1 u2 = p_s_l12Show R n u0 u1 u2 := by kernel_rfl
theorem e_s_LangTokens (R : Run) (n : Nat) (u0 : ByteArray) : c_s_LangTokens ((C B).step R n) u0 = p_s_LangTokens R n u0 := by kernel_rfl
theorem e_i_LangTokens (R : Run) (n : Nat) (u0 : ByteArray) : c_i_LangTokens ((C B).step R n) u0 = p_i_LangTokens R n u0 := by kernel_rfl
theorem e_i_readTerm (R : Run) (n : Nat) (u0 : List ((Int × (ByteArray × Unit)))) : c_i_readTerm ((C B).step R n) u0 = p_i_readTerm R n u0 := by kernel_rfl
theorem e_s_l34Rd_read (R : Run) (n : Nat) (u0 : List Int) (u1 : Int) : c_s_l34Rd_read ((C B).step R n) u0 u1 = p_s_l34Rd_read R n u0 u1 := by kernel_rfl
theorem e_s_l12Whole (R : Run) (n : Nat) (u0 : List ((Int × (ByteArray × Unit)))) : c_s_l12Whole ((C B).step R n) u0 = p_s_l12Whole R n u0 := by kernel_rfl
theorem e_s_LangNameOk (R : Run) (n : Nat) (u0 : ByteArray) : c_s_LangNameOk ((C B).step R n) u0 = p_s_LangNameOk R n u0 := by kernel_rfl
theorem e_i_in (R : Run) (n : Nat) (u0 : Int) (u1 : Int) (u2 : Int) : c_i_in ((C B).step R n) u0 u1 u2 = p_i_in R n u0 u1 u2 := by kernel_rfl
theorem e_slices_Contains_string_string (R : Run) (n : Nat) (u0 : List ByteArray) (u1 : ByteArray) : c_slices_Contains_string_string ((C B).step R n) u0 u1 = p_slices_Contains_string_string R n u0 u1 := by kernel_rfl
theorem e_i_wordOk (R : Run) (n : Nat) (u0 : ByteArray) : c_i_wordOk ((C B).step R n) u0 = p_i_wordOk R n u0 := by kernel_rfl
theorem e_s_l34Rd_grow (R : Run) (n : Nat) (u0 : List Int) (u1 : Int) (u2 : List ((Int × (Int × (ByteArray × Unit))))) (u3 : List ByteArray) (u4 : List ((ByteArray × (Int × Unit)))) (u5 : Int) : c_s_l34Rd_grow ((C B).step R n) u0 u1 u2 u3 u4 u5 = p_s_l34Rd_grow R n u0 u1 u2 u3 u4 u5 := by kernel_rfl
theorem e_i_TermNode_parts (R : Run) (n : Nat) (u0 : Int) (u1 : Int) (u2 : ByteArray) : c_i_TermNode_parts ((C B).step R n) u0 u1 u2 = p_i_TermNode_parts R n u0 u1 u2 := by kernel_rfl
theorem e_i_fold_impl_written_i_write (R : Run) (n : Nat) (u0 : List ((Int × (Int × (ByteArray × Unit))))) : c_i_fold_impl_written_i_write ((C B).step R n) u0 = p_i_fold_impl_written_i_write R n u0 := by kernel_rfl
theorem e_i_write (R : Run) (n : Nat) (u0 : Int) (u1 : Int) (u2 : ByteArray) (u3 : List ((ByteArray × (Int × Unit)))) : c_i_write ((C B).step R n) u0 u1 u2 u3 = p_i_write R n u0 u1 u2 u3 := by kernel_rfl
theorem e_s_l12Args (R : Run) (n : Nat) (u0 : Int) (u1 : Int) (u2 : ByteArray) : c_s_l12Args ((C B).step R n) u0 u1 u2 = p_s_l12Args R n u0 u1 u2 := by kernel_rfl
theorem e_s_l12Level (R : Run) (n : Nat) (u0 : Int) (u1 : Int) (u2 : ByteArray) : c_s_l12Level ((C B).step R n) u0 u1 u2 = p_s_l12Level R n u0 u1 u2 := by kernel_rfl
theorem e_s_l12Parts (R : Run) (n : Nat) (u0 : List ((Int × (Int × (ByteArray × Unit))))) (u1 : Int) : c_s_l12Parts ((C B).step R n) u0 u1 = p_s_l12Parts R n u0 u1 := by kernel_rfl
theorem e_s_l11Letter (R : Run) (n : Nat) (u0 : Int) : c_s_l11Letter ((C B).step R n) u0 = p_s_l11Letter R n u0 := by kernel_rfl
theorem e_s_l11Digit (R : Run) (n : Nat) (u0 : Int) : c_s_l11Digit ((C B).step R n) u0 = p_s_l11Digit R n u0 := by kernel_rfl
theorem e_s_l11End (R : Run) (n : Nat) (u0 : ByteArray) (u1 : Int) : c_s_l11End ((C B).step R n) u0 u1 = p_s_l11End R n u0 u1 := by kernel_rfl
theorem e_s_LangNumOk (R : Run) (n : Nat) (u0 : ByteArray) : c_s_LangNumOk ((C B).step R n) u0 = p_s_LangNumOk R n u0 := by kernel_rfl
theorem e_s_l11Plain (R : Run) (n : Nat) (u0 : ByteArray) : c_s_l11Plain ((C B).step R n) u0 = p_s_l11Plain R n u0 := by kernel_rfl
theorem e_s_l11Sign (R : Run) (n : Nat) (u0 : ByteArray) (u1 : Int) : c_s_l11Sign ((C B).step R n) u0 u1 = p_s_l11Sign R n u0 u1 := by kernel_rfl
theorem e_strings_Cut (R : Run) (n : Nat) (u0 : ByteArray) (u1 : ByteArray) : c_strings_Cut ((C B).step R n) u0 u1 = p_strings_Cut R n u0 u1 := by kernel_rfl
theorem e_i_signOf (R : Run) (n : Nat) (u0 : ByteArray) : c_i_signOf ((C B).step R n) u0 = p_i_signOf R n u0 := by kernel_rfl
theorem e_i_isLetter (R : Run) (n : Nat) (u0 : Int) : c_i_isLetter ((C B).step R n) u0 = p_i_isLetter R n u0 := by kernel_rfl
theorem e_i_isFigure (R : Run) (n : Nat) (u0 : Int) : c_i_isFigure ((C B).step R n) u0 = p_i_isFigure R n u0 := by kernel_rfl
theorem e_i_wordLength (R : Run) (n : Nat) (u0 : ByteArray) : c_i_wordLength ((C B).step R n) u0 = p_i_wordLength R n u0 := by kernel_rfl
theorem e_i_LangNumOk (R : Run) (n : Nat) (u0 : ByteArray) : c_i_LangNumOk ((C B).step R n) u0 = p_i_LangNumOk R n u0 := by kernel_rfl
theorem e_slices_Clip_impl_LangToken_impl_LangToken (R : Run) (n : Nat) (u0 : List ((Int × (ByteArray × Unit)))) : c_slices_Clip_impl_LangToken_impl_LangToken ((C B).step R n) u0 = p_slices_Clip_impl_LangToken_impl_LangToken R n u0 := by kernel_rfl
theorem e_i_termReader_sum (R : Run) (n : Nat) (u0 : List ((Int × (ByteArray × Unit)))) (u1 : List ((Int × (Int × (ByteArray × Unit))))) (u2 : Bool) (u3 : Bool) : c_i_termReader_sum ((C B).step R n) u0 u1 u2 u3 = p_i_termReader_sum R n u0 u1 u2 u3 := by kernel_rfl
theorem e_i_clone_impl_TermNode (R : Run) (n : Nat) (u0 : List ((Int × (Int × (ByteArray × Unit))))) : c_i_clone_impl_TermNode ((C B).step R n) u0 = p_i_clone_impl_TermNode R n u0 := by kernel_rfl
theorem e_s_l34Rd_any (R : Run) (n : Nat) (u0 : List Int) (u1 : Int) : c_s_l34Rd_any ((C B).step R n) u0 u1 = p_s_l34Rd_any R n u0 u1 := by kernel_rfl
theorem e_s_l34Rd_line (R : Run) (n : Nat) (u0 : List Int) (u1 : Int) : c_s_l34Rd_line ((C B).step R n) u0 u1 = p_s_l34Rd_line R n u0 u1 := by kernel_rfl
theorem e_s_l12Reader_sum (R : Run) (n : Nat) (u0 : List ((Int × (ByteArray × Unit)))) (u1 : Int) (u2 : List ((Int × (Int × (ByteArray × Unit))))) (u3 : Bool) (u4 : Bool) : c_s_l12Reader_sum ((C B).step R n) u0 u1 u2 u3 u4 = p_s_l12Reader_sum R n u0 u1 u2 u3 u4 := by kernel_rfl
theorem e_s_l11Word (R : Run) (n : Nat) (u0 : ByteArray) : c_s_l11Word ((C B).step R n) u0 = p_s_l11Word R n u0 := by kernel_rfl
theorem e_slices_Index_string_string (R : Run) (n : Nat) (u0 : List ByteArray) (u1 : ByteArray) : c_slices_Index_string_string ((C B).step R n) u0 u1 = p_slices_Index_string_string R n u0 u1 := by kernel_rfl
theorem e_s_l34Rd_number (R : Run) (n : Nat) (u0 : List Int) (u1 : Int) : c_s_l34Rd_number ((C B).step R n) u0 u1 = p_s_l34Rd_number R n u0 u1 := by kernel_rfl
theorem e_i_write_1 (R : Run) (n : Nat) (u0 : ByteArray) (u1 : List ((ByteArray × (Int × Unit)))) : c_i_write_1 ((C B).step R n) u0 u1 = p_i_write_1 R n u0 u1 := by kernel_rfl
theorem e_i_written_in (R : Run) (n : Nat) (u0 : ByteArray) (u1 : Int) (u2 : Int) : c_i_written_in ((C B).step R n) u0 u1 u2 = p_i_written_in R n u0 u1 u2 := by kernel_rfl
theorem e_s_l12Start (R : Run) (n : Nat) (u0 : List ((Int × (Int × (ByteArray × Unit))))) (u1 : Int) : c_s_l12Start ((C B).step R n) u0 u1 = p_s_l12Start R n u0 u1 := by kernel_rfl
theorem e_s_l11Run (R : Run) (n : Nat) (u0 : ByteArray) (u1 : Int) : c_s_l11Run ((C B).step R n) u0 u1 = p_s_l11Run R n u0 u1 := by kernel_rfl
theorem e_internal_stringslite_Cut (R : Run) (n : Nat) (u0 : ByteArray) (u1 : ByteArray) : c_internal_stringslite_Cut ((C B).step R n) u0 u1 = p_internal_stringslite_Cut R n u0 u1 := by kernel_rfl
theorem e_strings_HasPrefix (R : Run) (n : Nat) (u0 : ByteArray) (u1 : ByteArray) : c_strings_HasPrefix ((C B).step R n) u0 u1 = p_strings_HasPrefix R n u0 u1 := by kernel_rfl
theorem e_strings_IndexByte (R : Run) (n : Nat) (u0 : ByteArray) (u1 : Int) : c_strings_IndexByte ((C B).step R n) u0 u1 = p_strings_IndexByte R n u0 u1 := by kernel_rfl
theorem e_i_DecOk (R : Run) (n : Nat) (u0 : ByteArray) : c_i_DecOk ((C B).step R n) u0 = p_i_DecOk R n u0 := by kernel_rfl
theorem e_i_termReader_product (R : Run) (n : Nat) (u0 : List ((Int × (ByteArray × Unit)))) (u1 : List ((Int × (Int × (ByteArray × Unit))))) (u2 : Bool) (u3 : Bool) : c_i_termReader_product ((C B).step R n) u0 u1 u2 u3 = p_i_termReader_product R n u0 u1 u2 u3 := by kernel_rfl
theorem e_i_termReader_at (R : Run) (n : Nat) (u0 : List ((Int × (ByteArray × Unit)))) (u1 : List ((Int × (Int × (ByteArray × Unit))))) (u2 : Bool) (u3 : Bool) (u4 : List ByteArray) : c_i_termReader_at ((C B).step R n) u0 u1 u2 u3 u4 = p_i_termReader_at R n u0 u1 u2 u3 u4 := by kernel_rfl
theorem e_i_termReader_next (R : Run) (n : Nat) (u0 : List ((Int × (ByteArray × Unit)))) (u1 : List ((Int × (Int × (ByteArray × Unit))))) (u2 : Bool) (u3 : Bool) : c_i_termReader_next ((C B).step R n) u0 u1 u2 u3 = p_i_termReader_next R n u0 u1 u2 u3 := by kernel_rfl
theorem e_i_termReader_put (R : Run) (n : Nat) (u0 : List ((Int × (ByteArray × Unit)))) (u1 : List ((Int × (Int × (ByteArray × Unit))))) (u2 : Bool) (u3 : Bool) (u4 : Int) (u5 : Int) (u6 : ByteArray) : c_i_termReader_put ((C B).step R n) u0 u1 u2 u3 u4 u5 u6 = p_i_termReader_put R n u0 u1 u2 u3 u4 u5 u6 := by kernel_rfl
theorem e_slices_Clip_impl_TermNode_impl_TermNode (R : Run) (n : Nat) (u0 : List ((Int × (Int × (ByteArray × Unit))))) : c_slices_Clip_impl_TermNode_impl_TermNode ((C B).step R n) u0 = p_slices_Clip_impl_TermNode_impl_TermNode R n u0 := by kernel_rfl
theorem e_s_l34Rd_chain (R : Run) (n : Nat) (u0 : List Int) (u1 : Int) (u2 : Int) : c_s_l34Rd_chain ((C B).step R n) u0 u1 u2 = p_s_l34Rd_chain R n u0 u1 u2 := by kernel_rfl
theorem e_s_l34Rd_word (R : Run) (n : Nat) (u0 : List Int) (u1 : Int) : c_s_l34Rd_word ((C B).step R n) u0 u1 = p_s_l34Rd_word R n u0 u1 := by kernel_rfl
theorem e_s_l34Rd_name (R : Run) (n : Nat) (u0 : List Int) (u1 : Int) : c_s_l34Rd_name ((C B).step R n) u0 u1 = p_s_l34Rd_name R n u0 u1 := by kernel_rfl
theorem e_s_l14Times (R : Run) (n : Nat) (u0 : ByteArray) (u1 : Int) : c_s_l14Times ((C B).step R n) u0 u1 = p_s_l14Times R n u0 u1 := by kernel_rfl
theorem e_s_l12Reader_product (R : Run) (n : Nat) (u0 : List ((Int × (ByteArray × Unit)))) (u1 : Int) (u2 : List ((Int × (Int × (ByteArray × Unit))))) (u3 : Bool) (u4 : Bool) : c_s_l12Reader_product ((C B).step R n) u0 u1 u2 u3 u4 = p_s_l12Reader_product R n u0 u1 u2 u3 u4 := by kernel_rfl
theorem e_s_l12Reader_sign (R : Run) (n : Nat) (u0 : List ((Int × (ByteArray × Unit)))) (u1 : Int) (u2 : List ((Int × (Int × (ByteArray × Unit))))) (u3 : Bool) (u4 : Bool) (u5 : ByteArray) : c_s_l12Reader_sign ((C B).step R n) u0 u1 u2 u3 u4 u5 = p_s_l12Reader_sign R n u0 u1 u2 u3 u4 u5 := by kernel_rfl
theorem e_s_l12Reader_put (R : Run) (n : Nat) (u0 : List ((Int × (ByteArray × Unit)))) (u1 : Int) (u2 : List ((Int × (Int × (ByteArray × Unit))))) (u3 : Bool) (u4 : Bool) (u5 : Int) (u6 : Int) (u7 : ByteArray) : c_s_l12Reader_put ((C B).step R n) u0 u1 u2 u3 u4 u5 u6 u7 = p_s_l12Reader_put R n u0 u1 u2 u3 u4 u5 u6 u7 := by kernel_rfl
theorem e_internal_stringslite_HasPrefix (R : Run) (n : Nat) (u0 : ByteArray) (u1 : ByteArray) : c_internal_stringslite_HasPrefix ((C B).step R n) u0 u1 = p_internal_stringslite_HasPrefix R n u0 u1 := by kernel_rfl
theorem e_i_literal (R : Run) (n : Nat) (u0 : ByteArray) : c_i_literal ((C B).step R n) u0 = p_i_literal R n u0 := by kernel_rfl
theorem e_i_termReader_signed (R : Run) (n : Nat) (u0 : List ((Int × (ByteArray × Unit)))) (u1 : List ((Int × (Int × (ByteArray × Unit))))) (u2 : Bool) (u3 : Bool) : c_i_termReader_signed ((C B).step R n) u0 u1 u2 u3 = p_i_termReader_signed R n u0 u1 u2 u3 := by kernel_rfl
theorem e_s_l34Many (R : Run) (n : Nat) (u0 : ByteArray) (u1 : Int) : c_s_l34Many ((C B).step R n) u0 u1 = p_s_l34Many R n u0 u1 := by kernel_rfl
theorem e_s_l12Reader_signed (R : Run) (n : Nat) (u0 : List ((Int × (ByteArray × Unit)))) (u1 : Int) (u2 : List ((Int × (Int × (ByteArray × Unit))))) (u3 : Bool) (u4 : Bool) : c_s_l12Reader_signed ((C B).step R n) u0 u1 u2 u3 u4 = p_s_l12Reader_signed R n u0 u1 u2 u3 u4 := by kernel_rfl
theorem e_i_wholeDigits (R : Run) (n : Nat) (u0 : ByteArray) : c_i_wholeDigits ((C B).step R n) u0 = p_i_wholeDigits R n u0 := by kernel_rfl
theorem e_i_isDigits (R : Run) (n : Nat) (u0 : ByteArray) : c_i_isDigits ((C B).step R n) u0 = p_i_isDigits R n u0 := by kernel_rfl
theorem e_strings_CutPrefix (R : Run) (n : Nat) (u0 : ByteArray) (u1 : ByteArray) : c_strings_CutPrefix ((C B).step R n) u0 u1 = p_strings_CutPrefix R n u0 u1 := by kernel_rfl
theorem e_i_termReader_atom (R : Run) (n : Nat) (u0 : List ((Int × (ByteArray × Unit)))) (u1 : List ((Int × (Int × (ByteArray × Unit))))) (u2 : Bool) (u3 : Bool) : c_i_termReader_atom ((C B).step R n) u0 u1 u2 u3 = p_i_termReader_atom R n u0 u1 u2 u3 := by kernel_rfl
theorem e_s_l12Reader_atom (R : Run) (n : Nat) (u0 : List ((Int × (ByteArray × Unit)))) (u1 : Int) (u2 : List ((Int × (Int × (ByteArray × Unit))))) (u3 : Bool) (u4 : Bool) : c_s_l12Reader_atom ((C B).step R n) u0 u1 u2 u3 u4 = p_s_l12Reader_atom R n u0 u1 u2 u3 u4 := by kernel_rfl
theorem e_s_l12Power (R : Run) (n : Nat) (u0 : List ((Int × (ByteArray × Unit)))) (u1 : Int) : c_s_l12Power ((C B).step R n) u0 u1 = p_s_l12Power R n u0 u1 := by kernel_rfl
theorem e_internal_stringslite_CutPrefix (R : Run) (n : Nat) (u0 : ByteArray) (u1 : ByteArray) : c_internal_stringslite_CutPrefix ((C B).step R n) u0 u1 = p_internal_stringslite_CutPrefix R n u0 u1 := by kernel_rfl
theorem e_i_termReader_arguments (R : Run) (n : Nat) (u0 : List ((Int × (ByteArray × Unit)))) (u1 : List ((Int × (Int × (ByteArray × Unit))))) (u2 : Bool) (u3 : Bool) : c_i_termReader_arguments ((C B).step R n) u0 u1 u2 u3 = p_i_termReader_arguments R n u0 u1 u2 u3 := by kernel_rfl
theorem e_s_l12Reader_want (R : Run) (n : Nat) (u0 : List ((Int × (ByteArray × Unit)))) (u1 : Int) (u2 : List ((Int × (Int × (ByteArray × Unit))))) (u3 : Bool) (u4 : Bool) (u5 : ByteArray) : c_s_l12Reader_want ((C B).step R n) u0 u1 u2 u3 u4 u5 = p_s_l12Reader_want R n u0 u1 u2 u3 u4 u5 := by kernel_rfl
theorem e_s_l12Reader_call (R : Run) (n : Nat) (u0 : List ((Int × (ByteArray × Unit)))) (u1 : Int) (u2 : List ((Int × (Int × (ByteArray × Unit))))) (u3 : Bool) (u4 : Bool) (u5 : ByteArray) (u6 : Int) : c_s_l12Reader_call ((C B).step R n) u0 u1 u2 u3 u4 u5 u6 = p_s_l12Reader_call R n u0 u1 u2 u3 u4 u5 u6 := by kernel_rfl
theorem e_i_termReader_take (R : Run) (n : Nat) (u0 : List ((Int × (ByteArray × Unit)))) (u1 : List ((Int × (Int × (ByteArray × Unit))))) (u2 : Bool) (u3 : Bool) (u4 : ByteArray) : c_i_termReader_take ((C B).step R n) u0 u1 u2 u3 u4 = p_i_termReader_take R n u0 u1 u2 u3 u4 := by kernel_rfl
end Go.Px.Seat
