/- Own texts, part S3: PxEqs. -/
import Derived.Test.YtmmggkldldbomaaGreatDoorS2
set_option linter.unusedVariables false

namespace Go.Px.Seat
open Go
set_option linter.unusedVariables false
noncomputable def C (B : Run) : Prog := ⟨T, F, S, B, md, L⟩
variable {B : Run}
theorem e_w_FnExactProgShift_deep (R : Run) (n : Nat) (u0 : Mem Dh) (u1 : Mem Rh) (u2 : Mem ByteArray) (u3 : Mem Tn) (u4 : List Df) (u5 : List ByteArray) (u6 : List Rl) (u7 : Int) : c_w_FnExactProgShift_deep ((C B).step R n) u0 u1 u2 u3 u4 u5 u6 u7 = p_w_FnExactProgShift_deep R n u0 u1 u2 u3 u4 u5 u6 u7 := by kernel_rfl
theorem e_i_ProgCode (R : Run) (n : Nat) (u0 : List Df) (u1 : List ByteArray) (u2 : List Rl) : c_i_ProgCode ((C B).step R n) u0 u1 u2 = p_i_ProgCode R n u0 u1 u2 := by kernel_rfl
theorem e_i_ProgShift_deep (R : Run) (n : Nat) (u0 : Mem Dh) (u1 : Mem Rh) (u2 : Mem ByteArray) (u3 : Mem Tn) (u4 : Hd) (u5 : Hd) (u6 : Hd) (u7 : Int) : c_i_ProgShift_deep ((C B).step R n) u0 u1 u2 u3 u4 u5 u6 u7 = p_i_ProgShift_deep R n u0 u1 u2 u3 u4 u5 u6 u7 := by kernel_rfl
theorem e_s_ProgShift (R : Run) (n : Nat) (u0 : List Df) (u1 : List ByteArray) (u2 : List Rl) (u3 : Int) : c_s_ProgShift ((C B).step R n) u0 u1 u2 u3 = p_s_ProgShift R n u0 u1 u2 u3 := by kernel_rfl
theorem e_w_szProg (R : Run) (n : Nat) (u0 : List Df) (u1 : List ByteArray) (u2 : List Rl) (u3 : Int) : c_w_szProg ((C B).step R n) u0 u1 u2 u3 = p_w_szProg R n u0 u1 u2 u3 := by kernel_rfl
theorem e_w_toProg_deep (R : Run) (n : Nat) (u0 : Mem Dh) (u1 : Mem Rh) (u2 : Mem ByteArray) (u3 : Mem Tn) (u4 : List Df) (u5 : List ByteArray) (u6 : List Rl) : c_w_toProg_deep ((C B).step R n) u0 u1 u2 u3 u4 u5 u6 = p_w_toProg_deep R n u0 u1 u2 u3 u4 u5 u6 := by kernel_rfl
theorem e_w_eqProg (R : Run) (n : Nat) (u0 : List Df) (u1 : List ByteArray) (u2 : List Rl) (u3 : List Df) (u4 : List ByteArray) (u5 : List Rl) : c_w_eqProg ((C B).step R n) u0 u1 u2 u3 u4 u5 = p_w_eqProg R n u0 u1 u2 u3 u4 u5 := by kernel_rfl
theorem e_w_markProg_deep (R : Run) (n : Nat) (u0 : Mem Dh) (u1 : Mem Rh) (u2 : Mem ByteArray) (u3 : Mem Tn) (u4 : Hd) (u5 : Hd) (u6 : Hd) (u7 : Int) : c_w_markProg_deep ((C B).step R n) u0 u1 u2 u3 u4 u5 u6 u7 = p_w_markProg_deep R n u0 u1 u2 u3 u4 u5 u6 u7 := by kernel_rfl
theorem e_w_heldProg (R : Run) (n : Nat) (u0 : List Df) (u1 : List ByteArray) (u2 : List Rl) (u3 : Int) : c_w_heldProg ((C B).step R n) u0 u1 u2 u3 = p_w_heldProg R n u0 u1 u2 u3 := by kernel_rfl
theorem e_slices_Index_string_string (R : Run) (n : Nat) (u0 : List ByteArray) (u1 : ByteArray) : c_slices_Index_string_string ((C B).step R n) u0 u1 = p_slices_Index_string_string R n u0 u1 := by kernel_rfl
theorem e_slices_Contains_string_string (R : Run) (n : Nat) (u0 : List ByteArray) (u1 : ByteArray) : c_slices_Contains_string_string ((C B).step R n) u0 u1 = p_slices_Contains_string_string R n u0 u1 := by kernel_rfl
theorem e_i_Prog_namesOf (R : Run) (n : Nat) (u0 : List Df) (u1 : List ByteArray) (u2 : List Rl) : c_i_Prog_namesOf ((C B).step R n) u0 u1 u2 = p_i_Prog_namesOf R n u0 u1 u2 := by kernel_rfl
theorem e_i_Prog_copyOf_deep (R : Run) (n : Nat) (u0 : Mem Dh) (u1 : Mem Rh) (u2 : Mem ByteArray) (u3 : Mem Tn) (u4 : Hd) (u5 : Hd) (u6 : Hd) : c_i_Prog_copyOf_deep ((C B).step R n) u0 u1 u2 u3 u4 u5 u6 = p_i_Prog_copyOf_deep R n u0 u1 u2 u3 u4 u5 u6 := by kernel_rfl
theorem e_s_l12Find (R : Run) (n : Nat) (u0 : List ByteArray) (u1 : ByteArray) : c_s_l12Find ((C B).step R n) u0 u1 = p_s_l12Find R n u0 u1 := by kernel_rfl
theorem e_s_ProgCode (R : Run) (n : Nat) (u0 : List Df) (u1 : List ByteArray) (u2 : List Rl) : c_s_ProgCode ((C B).step R n) u0 u1 u2 = p_s_ProgCode R n u0 u1 u2 := by kernel_rfl
theorem e_s_LangNameOk (R : Run) (n : Nat) (u0 : ByteArray) : c_s_LangNameOk ((C B).step R n) u0 = p_s_LangNameOk R n u0 := by kernel_rfl
theorem e_s_l14Own (R : Run) (n : Nat) (u0 : List Df) (u1 : List ByteArray) (u2 : List Rl) : c_s_l14Own ((C B).step R n) u0 u1 u2 = p_s_l14Own R n u0 u1 u2 := by kernel_rfl
theorem e_i_Prog_formed (R : Run) (n : Nat) (u0 : List Df) (u1 : List ByteArray) (u2 : List Rl) : c_i_Prog_formed ((C B).step R n) u0 u1 u2 = p_i_Prog_formed R n u0 u1 u2 := by kernel_rfl
theorem e_i_Prog_many (R : Run) (n : Nat) (u0 : List Df) (u1 : List ByteArray) (u2 : List Rl) : c_i_Prog_many ((C B).step R n) u0 u1 u2 = p_i_Prog_many R n u0 u1 u2 := by kernel_rfl
theorem e_i_Prog_again (R : Run) (n : Nat) (u0 : List Df) (u1 : List ByteArray) (u2 : List Rl) : c_i_Prog_again ((C B).step R n) u0 u1 u2 = p_i_Prog_again R n u0 u1 u2 := by kernel_rfl
theorem e_i_Prog_defCode (R : Run) (n : Nat) (u0 : List Df) (u1 : List ByteArray) (u2 : List Rl) (u3 : ByteArray) (u4 : List ByteArray) (u5 : List Tn) : c_i_Prog_defCode ((C B).step R n) u0 u1 u2 u3 u4 u5 = p_i_Prog_defCode R n u0 u1 u2 u3 u4 u5 := by kernel_rfl
theorem e_i_Prog_relCode (R : Run) (n : Nat) (u0 : List Df) (u1 : List ByteArray) (u2 : List Rl) (u3 : Int) (u4 : List Tn) (u5 : List Tn) : c_i_Prog_relCode ((C B).step R n) u0 u1 u2 u3 u4 u5 = p_i_Prog_relCode R n u0 u1 u2 u3 u4 u5 := by kernel_rfl
theorem e_i_Prog_loop (R : Run) (n : Nat) (u0 : List Df) (u1 : List ByteArray) (u2 : List Rl) : c_i_Prog_loop ((C B).step R n) u0 u1 u2 = p_i_Prog_loop R n u0 u1 u2 := by kernel_rfl
theorem e_i_in (R : Run) (n : Nat) (u0 : Int) (u1 : Int) (u2 : Int) : c_i_in ((C B).step R n) u0 u1 u2 = p_i_in R n u0 u1 u2 := by kernel_rfl
theorem e_slices_Clip_string_string (R : Run) (n : Nat) (u0 : List ByteArray) : c_slices_Clip_string_string ((C B).step R n) u0 = p_slices_Clip_string_string R n u0 := by kernel_rfl
theorem e_slices_Concat_string_string (R : Run) (n : Nat) (u0 : List (List ByteArray)) : c_slices_Concat_string_string ((C B).step R n) u0 = p_slices_Concat_string_string R n u0 := by kernel_rfl
theorem e_w_szProgDefS (R : Run) (n : Nat) (u0 : List Df) (u1 : Int) : c_w_szProgDefS ((C B).step R n) u0 u1 = p_w_szProgDefS R n u0 u1 := by kernel_rfl
theorem e_w_szStringS (R : Run) (n : Nat) (u0 : List ByteArray) (u1 : Int) : c_w_szStringS ((C B).step R n) u0 u1 = p_w_szStringS R n u0 u1 := by kernel_rfl
theorem e_w_szProgRelS (R : Run) (n : Nat) (u0 : List Rl) (u1 : Int) : c_w_szProgRelS ((C B).step R n) u0 u1 = p_w_szProgRelS R n u0 u1 := by kernel_rfl
theorem e_w_toProgDefS_deep (R : Run) (n : Nat) (u0 : Mem Dh) (u1 : Mem Rh) (u2 : Mem ByteArray) (u3 : Mem Tn) (u4 : List Df) : c_w_toProgDefS_deep ((C B).step R n) u0 u1 u2 u3 u4 = p_w_toProgDefS_deep R n u0 u1 u2 u3 u4 := by kernel_rfl
theorem e_w_toStringS_deep (R : Run) (n : Nat) (u0 : Mem Dh) (u1 : Mem Rh) (u2 : Mem ByteArray) (u3 : Mem Tn) (u4 : List ByteArray) : c_w_toStringS_deep ((C B).step R n) u0 u1 u2 u3 u4 = p_w_toStringS_deep R n u0 u1 u2 u3 u4 := by kernel_rfl
theorem e_w_toProgRelS_deep (R : Run) (n : Nat) (u0 : Mem Dh) (u1 : Mem Rh) (u2 : Mem ByteArray) (u3 : Mem Tn) (u4 : List Rl) : c_w_toProgRelS_deep ((C B).step R n) u0 u1 u2 u3 u4 = p_w_toProgRelS_deep R n u0 u1 u2 u3 u4 := by kernel_rfl
theorem e_w_eqProgDefS (R : Run) (n : Nat) (u0 : List Df) (u1 : List Df) : c_w_eqProgDefS ((C B).step R n) u0 u1 = p_w_eqProgDefS R n u0 u1 := by kernel_rfl
theorem e_w_eqStringS (R : Run) (n : Nat) (u0 : List ByteArray) (u1 : List ByteArray) : c_w_eqStringS ((C B).step R n) u0 u1 = p_w_eqStringS R n u0 u1 := by kernel_rfl
theorem e_w_eqProgRelS (R : Run) (n : Nat) (u0 : List Rl) (u1 : List Rl) : c_w_eqProgRelS ((C B).step R n) u0 u1 = p_w_eqProgRelS R n u0 u1 := by kernel_rfl
theorem e_w_markProgDefS_deep (R : Run) (n : Nat) (u0 : Mem Dh) (u1 : Mem Rh) (u2 : Mem ByteArray) (u3 : Mem Tn) (u4 : Hd) (u5 : Int) : c_w_markProgDefS_deep ((C B).step R n) u0 u1 u2 u3 u4 u5 = p_w_markProgDefS_deep R n u0 u1 u2 u3 u4 u5 := by kernel_rfl
theorem e_w_markStringS_deep (R : Run) (n : Nat) (u0 : Mem Dh) (u1 : Mem Rh) (u2 : Mem ByteArray) (u3 : Mem Tn) (u4 : Hd) (u5 : Int) : c_w_markStringS_deep ((C B).step R n) u0 u1 u2 u3 u4 u5 = p_w_markStringS_deep R n u0 u1 u2 u3 u4 u5 := by kernel_rfl
theorem e_w_markProgRelS_deep (R : Run) (n : Nat) (u0 : Mem Dh) (u1 : Mem Rh) (u2 : Mem ByteArray) (u3 : Mem Tn) (u4 : Hd) (u5 : Int) : c_w_markProgRelS_deep ((C B).step R n) u0 u1 u2 u3 u4 u5 = p_w_markProgRelS_deep R n u0 u1 u2 u3 u4 u5 := by kernel_rfl
theorem e_w_heldProgDefS (R : Run) (n : Nat) (u0 : List Df) (u1 : Int) : c_w_heldProgDefS ((C B).step R n) u0 u1 = p_w_heldProgDefS R n u0 u1 := by kernel_rfl
theorem e_w_heldStringS (R : Run) (n : Nat) (u0 : List ByteArray) (u1 : Int) : c_w_heldStringS ((C B).step R n) u0 u1 = p_w_heldStringS R n u0 u1 := by kernel_rfl
theorem e_w_heldProgRelS (R : Run) (n : Nat) (u0 : List Rl) (u1 : Int) : c_w_heldProgRelS ((C B).step R n) u0 u1 = p_w_heldProgRelS R n u0 u1 := by kernel_rfl
theorem e_i_Prog_defAt (R : Run) (n : Nat) (u0 : List Df) (u1 : List ByteArray) (u2 : List Rl) (u3 : ByteArray) : c_i_Prog_defAt ((C B).step R n) u0 u1 u2 u3 = p_i_Prog_defAt R n u0 u1 u2 u3 := by kernel_rfl
theorem e_s_l13Def (R : Run) (n : Nat) (u0 : List Df) (u1 : List ByteArray) (u2 : List Rl) (u3 : ByteArray) : c_s_l13Def ((C B).step R n) u0 u1 u2 u3 = p_s_l13Def R n u0 u1 u2 u3 := by kernel_rfl
theorem e_s_l14Copy (R : Run) (n : Nat) (u0 : List ByteArray) : c_s_l14Copy ((C B).step R n) u0 = p_s_l14Copy R n u0 := by kernel_rfl
theorem e_s_TermOk (R : Run) (n : Nat) (u0 : List Tn) : c_s_TermOk ((C B).step R n) u0 = p_s_TermOk R n u0 := by kernel_rfl
theorem e_i_wordOk (R : Run) (n : Nat) (u0 : ByteArray) : c_i_wordOk ((C B).step R n) u0 = p_i_wordOk R n u0 := by kernel_rfl
theorem e_i_clone_impl_ProgDef_deep (R : Run) (n : Nat) (u0 : Mem Dh) (u1 : Mem Rh) (u2 : Mem ByteArray) (u3 : Mem Tn) (u4 : Hd) : c_i_clone_impl_ProgDef_deep ((C B).step R n) u0 u1 u2 u3 u4 = p_i_clone_impl_ProgDef_deep R n u0 u1 u2 u3 u4 := by kernel_rfl
theorem e_i_clone_string (R : Run) (n : Nat) (u0 : List ByteArray) : c_i_clone_string ((C B).step R n) u0 = p_i_clone_string R n u0 := by kernel_rfl
theorem e_i_clone_impl_ProgRel_deep (R : Run) (n : Nat) (u0 : Mem Dh) (u1 : Mem Rh) (u2 : Mem ByteArray) (u3 : Mem Tn) (u4 : Hd) : c_i_clone_impl_ProgRel_deep ((C B).step R n) u0 u1 u2 u3 u4 = p_i_clone_impl_ProgRel_deep R n u0 u1 u2 u3 u4 := by kernel_rfl
theorem e_i_clone_impl_TermNode (R : Run) (n : Nat) (u0 : List Tn) : c_i_clone_impl_TermNode ((C B).step R n) u0 = p_i_clone_impl_TermNode R n u0 := by kernel_rfl
theorem e_s_l13Shape (R : Run) (n : Nat) (u0 : List Df) (u1 : List ByteArray) (u2 : List Rl) : c_s_l13Shape ((C B).step R n) u0 u1 u2 = p_s_l13Shape R n u0 u1 u2 := by kernel_rfl
theorem e_s_l13DefCode (R : Run) (n : Nat) (u0 : List Df) (u1 : List ByteArray) (u2 : List Rl) (u3 : ByteArray) (u4 : List ByteArray) (u5 : List Tn) : c_s_l13DefCode ((C B).step R n) u0 u1 u2 u3 u4 u5 = p_s_l13DefCode R n u0 u1 u2 u3 u4 u5 := by kernel_rfl
theorem e_s_l13RelCode (R : Run) (n : Nat) (u0 : List Df) (u1 : List ByteArray) (u2 : List Rl) (u3 : Int) (u4 : List Tn) (u5 : List Tn) : c_s_l13RelCode ((C B).step R n) u0 u1 u2 u3 u4 u5 = p_s_l13RelCode R n u0 u1 u2 u3 u4 u5 := by kernel_rfl
theorem e_s_l13Table_k778 (R : Run) (n : Nat) (u0 : Mem Bool) (u1 : List Df) (u2 : List ByteArray) (u3 : List Rl) : c_s_l13Table_k778 ((C B).step R n) u0 u1 u2 u3 = p_s_l13Table_k778 R n u0 u1 u2 u3 := by kernel_rfl
theorem e_s_l11Plain (R : Run) (n : Nat) (u0 : ByteArray) : c_s_l11Plain ((C B).step R n) u0 = p_s_l11Plain R n u0 := by kernel_rfl
theorem e_s_l11Word (R : Run) (n : Nat) (u0 : ByteArray) : c_s_l11Word ((C B).step R n) u0 = p_s_l11Word R n u0 := by kernel_rfl
theorem e_s_l14Same (R : Run) (n : Nat) (u0 : List Tn) : c_s_l14Same ((C B).step R n) u0 = p_s_l14Same R n u0 := by kernel_rfl
theorem e_i_TermOk (R : Run) (n : Nat) (u0 : List Tn) : c_i_TermOk ((C B).step R n) u0 = p_i_TermOk R n u0 := by kernel_rfl
theorem e_slices_ContainsFunc_string_string_i_Prog_formed_1 (R : Run) (n : Nat) (u0 : List ByteArray) : c_slices_ContainsFunc_string_string_i_Prog_formed_1 ((C B).step R n) u0 = p_slices_ContainsFunc_string_string_i_Prog_formed_1 R n u0 := by kernel_rfl
theorem e_slices_ContainsFunc_string_string_i_Prog_formed_2 (R : Run) (n : Nat) (u0 : List ByteArray) : c_slices_ContainsFunc_string_string_i_Prog_formed_2 ((C B).step R n) u0 = p_slices_ContainsFunc_string_string_i_Prog_formed_2 R n u0 := by kernel_rfl
theorem e_slices_ContainsFunc_string_string_i_Prog_defCode_1 (R : Run) (n : Nat) (u0 : List ByteArray) (u1 : List Df) (u2 : List ByteArray) (u3 : List Rl) : c_slices_ContainsFunc_string_string_i_Prog_defCode_1 ((C B).step R n) u0 u1 u2 u3 = p_slices_ContainsFunc_string_string_i_Prog_defCode_1 R n u0 u1 u2 u3 := by kernel_rfl
theorem e_i_Prog_formed_1 (R : Run) (n : Nat) (u0 : ByteArray) : c_i_Prog_formed_1 ((C B).step R n) u0 = p_i_Prog_formed_1 R n u0 := by kernel_rfl
theorem e_i_Prog_formed_2 (R : Run) (n : Nat) (u0 : ByteArray) : c_i_Prog_formed_2 ((C B).step R n) u0 = p_i_Prog_formed_2 R n u0 := by kernel_rfl
theorem e_slices_ContainsFunc_impl_ProgDef_impl_ProgDef_i_Prog_many_1 (R : Run) (n : Nat) (u0 : List Df) : c_slices_ContainsFunc_impl_ProgDef_impl_ProgDef_i_Prog_many_1 ((C B).step R n) u0 = p_slices_ContainsFunc_impl_ProgDef_impl_ProgDef_i_Prog_many_1 R n u0 := by kernel_rfl
theorem e_slices_ContainsFunc_impl_ProgDef_impl_ProgDef_i_Prog_again_1 (R : Run) (n : Nat) (u0 : List Df) : c_slices_ContainsFunc_impl_ProgDef_impl_ProgDef_i_Prog_again_1 ((C B).step R n) u0 = p_slices_ContainsFunc_impl_ProgDef_impl_ProgDef_i_Prog_again_1 R n u0 := by kernel_rfl
theorem e_i_Prog_many_1 (R : Run) (n : Nat) (u0 : ByteArray) (u1 : List ByteArray) (u2 : List Tn) : c_i_Prog_many_1 ((C B).step R n) u0 u1 u2 = p_i_Prog_many_1 R n u0 u1 u2 := by kernel_rfl
theorem e_i_twice (R : Run) (n : Nat) (u0 : List ByteArray) : c_i_twice ((C B).step R n) u0 = p_i_twice R n u0 := by kernel_rfl
theorem e_i_Prog_again_1 (R : Run) (n : Nat) (u0 : ByteArray) (u1 : List ByteArray) (u2 : List Tn) : c_i_Prog_again_1 ((C B).step R n) u0 u1 u2 = p_i_Prog_again_1 R n u0 u1 u2 := by kernel_rfl
theorem e_i_Prog_defCode_1 (R : Run) (n : Nat) (u0 : ByteArray) (u1 : List Df) (u2 : List ByteArray) (u3 : List Rl) : c_i_Prog_defCode_1 ((C B).step R n) u0 u1 u2 u3 = p_i_Prog_defCode_1 R n u0 u1 u2 u3 := by kernel_rfl
theorem e_i_Prog_fits (R : Run) (n : Nat) (u0 : List Df) (u1 : List ByteArray) (u2 : List Rl) (u3 : List Tn) (u4 : List ByteArray) : c_i_Prog_fits ((C B).step R n) u0 u1 u2 u3 u4 = p_i_Prog_fits R n u0 u1 u2 u3 u4 := by kernel_rfl
theorem e_slices_Concat_impl_TermNode_impl_TermNode (R : Run) (n : Nat) (u0 : List (List Tn)) : c_slices_Concat_impl_TermNode_impl_TermNode ((C B).step R n) u0 = p_slices_Concat_impl_TermNode_impl_TermNode R n u0 := by kernel_rfl
theorem e_i_Prog_uses (R : Run) (n : Nat) (u0 : List Df) (u1 : List ByteArray) (u2 : List Rl) (u3 : Int) : c_i_Prog_uses ((C B).step R n) u0 u1 u2 u3 = p_i_Prog_uses R n u0 u1 u2 u3 := by kernel_rfl
theorem e_w_szProgDef (R : Run) (n : Nat) (u0 : ByteArray) (u1 : List ByteArray) (u2 : List Tn) (u3 : Int) : c_w_szProgDef ((C B).step R n) u0 u1 u2 u3 = p_w_szProgDef R n u0 u1 u2 u3 := by kernel_rfl
theorem e_w_szProgRel (R : Run) (n : Nat) (u0 : Int) (u1 : List Tn) (u2 : List Tn) (u3 : Int) : c_w_szProgRel ((C B).step R n) u0 u1 u2 u3 = p_w_szProgRel R n u0 u1 u2 u3 := by kernel_rfl
theorem e_w_toProgDef_deep (R : Run) (n : Nat) (u0 : Mem Dh) (u1 : Mem Rh) (u2 : Mem ByteArray) (u3 : Mem Tn) (u4 : ByteArray) (u5 : List ByteArray) (u6 : List Tn) : c_w_toProgDef_deep ((C B).step R n) u0 u1 u2 u3 u4 u5 u6 = p_w_toProgDef_deep R n u0 u1 u2 u3 u4 u5 u6 := by kernel_rfl
theorem e_w_toProgRel_deep (R : Run) (n : Nat) (u0 : Mem Dh) (u1 : Mem Rh) (u2 : Mem ByteArray) (u3 : Mem Tn) (u4 : Int) (u5 : List Tn) (u6 : List Tn) : c_w_toProgRel_deep ((C B).step R n) u0 u1 u2 u3 u4 u5 u6 = p_w_toProgRel_deep R n u0 u1 u2 u3 u4 u5 u6 := by kernel_rfl
theorem e_w_eqProgDef (R : Run) (n : Nat) (u0 : ByteArray) (u1 : List ByteArray) (u2 : List Tn) (u3 : ByteArray) (u4 : List ByteArray) (u5 : List Tn) : c_w_eqProgDef ((C B).step R n) u0 u1 u2 u3 u4 u5 = p_w_eqProgDef R n u0 u1 u2 u3 u4 u5 := by kernel_rfl
theorem e_w_eqProgRel (R : Run) (n : Nat) (u0 : Int) (u1 : List Tn) (u2 : List Tn) (u3 : Int) (u4 : List Tn) (u5 : List Tn) : c_w_eqProgRel ((C B).step R n) u0 u1 u2 u3 u4 u5 = p_w_eqProgRel R n u0 u1 u2 u3 u4 u5 := by kernel_rfl
theorem e_w_markText (R : Run) (n : Nat) (u0 : Int) : c_w_markText ((C B).step R n) u0 = p_w_markText R n u0 := by kernel_rfl
theorem e_w_markTermNodeS_deep (R : Run) (n : Nat) (u0 : Mem Dh) (u1 : Mem Rh) (u2 : Mem ByteArray) (u3 : Mem Tn) (u4 : Hd) (u5 : Int) : c_w_markTermNodeS_deep ((C B).step R n) u0 u1 u2 u3 u4 u5 = p_w_markTermNodeS_deep R n u0 u1 u2 u3 u4 u5 := by kernel_rfl
theorem e_w_heldTermNodeS (R : Run) (n : Nat) (u0 : List Tn) (u1 : Int) : c_w_heldTermNodeS ((C B).step R n) u0 u1 = p_w_heldTermNodeS R n u0 u1 := by kernel_rfl
theorem e_slices_IndexFunc_impl_ProgDef_impl_ProgDef_i_Prog_many_1 (R : Run) (n : Nat) (u0 : List Df) : c_slices_IndexFunc_impl_ProgDef_impl_ProgDef_i_Prog_many_1 ((C B).step R n) u0 = p_slices_IndexFunc_impl_ProgDef_impl_ProgDef_i_Prog_many_1 R n u0 := by kernel_rfl
theorem e_slices_IndexFunc_impl_ProgDef_impl_ProgDef_i_Prog_again_1 (R : Run) (n : Nat) (u0 : List Df) : c_slices_IndexFunc_impl_ProgDef_impl_ProgDef_i_Prog_again_1 ((C B).step R n) u0 = p_slices_IndexFunc_impl_ProgDef_impl_ProgDef_i_Prog_again_1 R n u0 := by kernel_rfl
theorem e_slices_IndexFunc_impl_ProgDef_impl_ProgDef_i_Prog_defAt_1 (R : Run) (n : Nat) (u0 : List Df) (u1 : ByteArray) : c_slices_IndexFunc_impl_ProgDef_impl_ProgDef_i_Prog_defAt_1 ((C B).step R n) u0 u1 = p_slices_IndexFunc_impl_ProgDef_impl_ProgDef_i_Prog_defAt_1 R n u0 u1 := by kernel_rfl
theorem e_i_Prog_defAt_1 (R : Run) (n : Nat) (u0 : ByteArray) (u1 : List ByteArray) (u2 : List Tn) (u3 : ByteArray) : c_i_Prog_defAt_1 ((C B).step R n) u0 u1 u2 u3 = p_i_Prog_defAt_1 R n u0 u1 u2 u3 := by kernel_rfl
theorem e_s_l12Args (R : Run) (n : Nat) (u0 : Int) (u1 : Int) (u2 : ByteArray) : c_s_l12Args ((C B).step R n) u0 u1 u2 = p_s_l12Args R n u0 u1 u2 := by kernel_rfl
theorem e_i_isLetter (R : Run) (n : Nat) (u0 : Int) : c_i_isLetter ((C B).step R n) u0 = p_i_isLetter R n u0 := by kernel_rfl
theorem e_i_isFigure (R : Run) (n : Nat) (u0 : Int) : c_i_isFigure ((C B).step R n) u0 = p_i_isFigure R n u0 := by kernel_rfl
theorem e_slices_Clip_impl_ProgDef_impl_ProgDef_deep (R : Run) (n : Nat) (u0 : Mem Dh) (u1 : Mem Rh) (u2 : Mem ByteArray) (u3 : Mem Tn) (u4 : Hd) : c_slices_Clip_impl_ProgDef_impl_ProgDef_deep ((C B).step R n) u0 u1 u2 u3 u4 = p_slices_Clip_impl_ProgDef_impl_ProgDef_deep R n u0 u1 u2 u3 u4 := by kernel_rfl
theorem e_slices_Clip_impl_ProgRel_impl_ProgRel_deep (R : Run) (n : Nat) (u0 : Mem Dh) (u1 : Mem Rh) (u2 : Mem ByteArray) (u3 : Mem Tn) (u4 : Hd) : c_slices_Clip_impl_ProgRel_impl_ProgRel_deep ((C B).step R n) u0 u1 u2 u3 u4 = p_slices_Clip_impl_ProgRel_impl_ProgRel_deep R n u0 u1 u2 u3 u4 := by kernel_rfl
theorem e_slices_Clip_impl_TermNode_impl_TermNode (R : Run) (n : Nat) (u0 : List Tn) : c_slices_Clip_impl_TermNode_impl_TermNode ((C B).step R n) u0 = p_slices_Clip_impl_TermNode_impl_TermNode R n u0 := by kernel_rfl
theorem e_s_l13Formed (R : Run) (n : Nat) (u0 : List Df) (u1 : List ByteArray) (u2 : List Rl) : c_s_l13Formed ((C B).step R n) u0 u1 u2 = p_s_l13Formed R n u0 u1 u2 := by kernel_rfl
theorem e_s_l13Distinct (R : Run) (n : Nat) (u0 : List ByteArray) : c_s_l13Distinct ((C B).step R n) u0 = p_s_l13Distinct R n u0 := by kernel_rfl
theorem e_s_l13Known (R : Run) (n : Nat) (u0 : List Df) (u1 : List ByteArray) (u2 : List Rl) (u3 : List Tn) (u4 : List ByteArray) : c_s_l13Known ((C B).step R n) u0 u1 u2 u3 u4 = p_s_l13Known R n u0 u1 u2 u3 u4 := by kernel_rfl
theorem e_s_l13Reaches (R : Run) (n : Nat) (u0 : List Df) (u1 : List ByteArray) (u2 : List Rl) (u3 : Int) (u4 : Int) (u5 : Int) : c_s_l13Reaches ((C B).step R n) u0 u1 u2 u3 u4 u5 = p_s_l13Reaches R n u0 u1 u2 u3 u4 u5 := by kernel_rfl
theorem e_s_l11Letter (R : Run) (n : Nat) (u0 : Int) : c_s_l11Letter ((C B).step R n) u0 = p_s_l11Letter R n u0 := by kernel_rfl
theorem e_s_l11Digit (R : Run) (n : Nat) (u0 : Int) : c_s_l11Digit ((C B).step R n) u0 = p_s_l11Digit R n u0 := by kernel_rfl
theorem e_i_TermNode_parts (R : Run) (n : Nat) (u0 : Int) (u1 : Int) (u2 : ByteArray) : c_i_TermNode_parts ((C B).step R n) u0 u1 u2 = p_i_TermNode_parts R n u0 u1 u2 := by kernel_rfl
theorem e_slices_IndexFunc_string_string_i_Prog_formed_1 (R : Run) (n : Nat) (u0 : List ByteArray) : c_slices_IndexFunc_string_string_i_Prog_formed_1 ((C B).step R n) u0 = p_slices_IndexFunc_string_string_i_Prog_formed_1 R n u0 := by kernel_rfl
theorem e_slices_IndexFunc_string_string_i_Prog_formed_2 (R : Run) (n : Nat) (u0 : List ByteArray) : c_slices_IndexFunc_string_string_i_Prog_formed_2 ((C B).step R n) u0 = p_slices_IndexFunc_string_string_i_Prog_formed_2 R n u0 := by kernel_rfl
theorem e_slices_IndexFunc_string_string_i_Prog_defCode_1 (R : Run) (n : Nat) (u0 : List ByteArray) (u1 : List Df) (u2 : List ByteArray) (u3 : List Rl) : c_slices_IndexFunc_string_string_i_Prog_defCode_1 ((C B).step R n) u0 u1 u2 u3 = p_slices_IndexFunc_string_string_i_Prog_defCode_1 R n u0 u1 u2 u3 := by kernel_rfl
theorem e_i_Term_names (R : Run) (n : Nat) (u0 : List Tn) : c_i_Term_names ((C B).step R n) u0 = p_i_Term_names R n u0 := by kernel_rfl
theorem e_w_szTerm (R : Run) (n : Nat) (u0 : List Tn) (u1 : Int) : c_w_szTerm ((C B).step R n) u0 u1 = p_w_szTerm R n u0 u1 := by kernel_rfl
theorem e_w_toTerm_deep (R : Run) (n : Nat) (u0 : Mem Dh) (u1 : Mem Rh) (u2 : Mem ByteArray) (u3 : Mem Tn) (u4 : List Tn) : c_w_toTerm_deep ((C B).step R n) u0 u1 u2 u3 u4 = p_w_toTerm_deep R n u0 u1 u2 u3 u4 := by kernel_rfl
theorem e_w_eqTerm (R : Run) (n : Nat) (u0 : List Tn) (u1 : List Tn) : c_w_eqTerm ((C B).step R n) u0 u1 = p_w_eqTerm R n u0 u1 := by kernel_rfl
theorem e_s_LangNumOk (R : Run) (n : Nat) (u0 : ByteArray) : c_s_LangNumOk ((C B).step R n) u0 = p_s_LangNumOk R n u0 := by kernel_rfl
theorem e_s_l13Names (R : Run) (n : Nat) (u0 : List ByteArray) : c_s_l13Names ((C B).step R n) u0 = p_s_l13Names R n u0 := by kernel_rfl
theorem e_s_l13Kind (R : Run) (n : Nat) (u0 : Int) : c_s_l13Kind ((C B).step R n) u0 = p_s_l13Kind R n u0 := by kernel_rfl
theorem e_i_LangNumOk (R : Run) (n : Nat) (u0 : ByteArray) : c_i_LangNumOk ((C B).step R n) u0 = p_i_LangNumOk R n u0 := by kernel_rfl
theorem e_w_szTermNodeS (R : Run) (n : Nat) (u0 : List Tn) (u1 : Int) : c_w_szTermNodeS ((C B).step R n) u0 u1 = p_w_szTermNodeS R n u0 u1 := by kernel_rfl
theorem e_w_toTermNodeS_deep (R : Run) (n : Nat) (u0 : Mem Dh) (u1 : Mem Rh) (u2 : Mem ByteArray) (u3 : Mem Tn) (u4 : List Tn) : c_w_toTermNodeS_deep ((C B).step R n) u0 u1 u2 u3 u4 = p_w_toTermNodeS_deep R n u0 u1 u2 u3 u4 := by kernel_rfl
theorem e_w_eqTermNodeS (R : Run) (n : Nat) (u0 : List Tn) (u1 : List Tn) : c_w_eqTermNodeS ((C B).step R n) u0 u1 = p_w_eqTermNodeS R n u0 u1 := by kernel_rfl
theorem e_s_l11Run (R : Run) (n : Nat) (u0 : ByteArray) (u1 : Int) : c_s_l11Run ((C B).step R n) u0 u1 = p_s_l11Run R n u0 u1 := by kernel_rfl
theorem e_i_DecOk (R : Run) (n : Nat) (u0 : ByteArray) : c_i_DecOk ((C B).step R n) u0 = p_i_DecOk R n u0 := by kernel_rfl
theorem e_w_szTermNode (R : Run) (n : Nat) (u0 : Int) (u1 : Int) (u2 : ByteArray) (u3 : Int) : c_w_szTermNode ((C B).step R n) u0 u1 u2 u3 = p_w_szTermNode R n u0 u1 u2 u3 := by kernel_rfl
theorem e_w_toTermNode (R : Run) (n : Nat) (u0 : Int) (u1 : Int) (u2 : ByteArray) : c_w_toTermNode ((C B).step R n) u0 u1 u2 = p_w_toTermNode R n u0 u1 u2 := by kernel_rfl
theorem e_w_eqTermNode (R : Run) (n : Nat) (u0 : Int) (u1 : Int) (u2 : ByteArray) (u3 : Int) (u4 : Int) (u5 : ByteArray) : c_w_eqTermNode ((C B).step R n) u0 u1 u2 u3 u4 u5 = p_w_eqTermNode R n u0 u1 u2 u3 u4 u5 := by kernel_rfl
theorem e_i_literal (R : Run) (n : Nat) (u0 : ByteArray) : c_i_literal ((C B).step R n) u0 = p_i_literal R n u0 := by kernel_rfl
theorem e_strings_Cut (R : Run) (n : Nat) (u0 : ByteArray) (u1 : ByteArray) : c_strings_Cut ((C B).step R n) u0 u1 = p_strings_Cut R n u0 u1 := by kernel_rfl
theorem e_i_wholeDigits (R : Run) (n : Nat) (u0 : ByteArray) : c_i_wholeDigits ((C B).step R n) u0 = p_i_wholeDigits R n u0 := by kernel_rfl
theorem e_i_isDigits (R : Run) (n : Nat) (u0 : ByteArray) : c_i_isDigits ((C B).step R n) u0 = p_i_isDigits R n u0 := by kernel_rfl
theorem e_strings_CutPrefix (R : Run) (n : Nat) (u0 : ByteArray) (u1 : ByteArray) : c_strings_CutPrefix ((C B).step R n) u0 u1 = p_strings_CutPrefix R n u0 u1 := by kernel_rfl
theorem e_internal_stringslite_Cut (R : Run) (n : Nat) (u0 : ByteArray) (u1 : ByteArray) : c_internal_stringslite_Cut ((C B).step R n) u0 u1 = p_internal_stringslite_Cut R n u0 u1 := by kernel_rfl
theorem e_internal_stringslite_CutPrefix (R : Run) (n : Nat) (u0 : ByteArray) (u1 : ByteArray) : c_internal_stringslite_CutPrefix ((C B).step R n) u0 u1 = p_internal_stringslite_CutPrefix R n u0 u1 := by kernel_rfl
theorem e_internal_stringslite_HasPrefix (R : Run) (n : Nat) (u0 : ByteArray) (u1 : ByteArray) : c_internal_stringslite_HasPrefix ((C B).step R n) u0 u1 = p_internal_stringslite_HasPrefix R n u0 u1 := by kernel_rfl
end Go.Px.Seat
