/- Own texts, part S2: PxFns. -/
import Derived.Test.YtmmggkldldbomaaGreatDoorA5
import Derived.Test.YtmmggkldldbomaaGreatDoorS1
set_option linter.unusedVariables false

namespace Go.Px.Seat
open Go
abbrev Tn := Int × (Int × (ByteArray × Unit))
abbrev Hd := Nat × (Nat × Nat)
abbrev Mem (α : Type) := List (Option (List α))
abbrev Df := ByteArray × (List ByteArray × ((List Tn × Unit) × Unit))
abbrev Rl := Int × ((List Tn × Unit) × ((List Tn × Unit) × Unit))
abbrev Dh := ByteArray × (Hd × ((Hd × Unit) × Unit))
abbrev Rh := Int × ((Hd × Unit) × ((Hd × Unit) × Unit))
abbrev dDf : Df := ((bs []), ([], (([], ()), ())))
abbrev dRl : Rl := (0, (([], ()), (([], ()), ())))
abbrev dDh : Dh := ((bs []), ((0, (0, 0)), (((0, (0, 0)), ()), ())))
abbrev dRh : Rh := (0, (((0, (0, 0)), ()), (((0, (0, 0)), ()), ())))
abbrev idT : Tn → Tn := fun y => (y.1, (y.2.1, (y.2.2.1, y.2.2.2)))
def c_w_FnExactProgShift_deep (R : Run) (u0 : Mem Dh) (u1 : Mem Rh) (u2 : Mem ByteArray) (u3 : Mem Tn) (u4 : List Df) (u5 : List ByteArray) (u6 : List Rl) (u7 : Int) : Option (Mem Dh × Mem Rh × Mem ByteArray × Mem Tn × Bool × Unit) := R 4 [777] sg_w_FnExactProgShift_deep (u0, (u1, (u2, (u3, (u4, (u5, (u6, (u7, ()))))))))
def c_i_ProgCode (R : Run) (u0 : List Df) (u1 : List ByteArray) (u2 : List Rl) : Option (Int × Unit) := R 13 [] sg_i_ProgCode (u0, (u1, (u2, ())))
def c_i_ProgShift_deep (R : Run) (u0 : Mem Dh) (u1 : Mem Rh) (u2 : Mem ByteArray) (u3 : Mem Tn) (u4 : Hd) (u5 : Hd) (u6 : Hd) (u7 : Int) : Option (Mem Dh × Mem Rh × Mem ByteArray × Mem Tn × Hd × Hd × Hd × Bool × Unit) := R 16 [777] sg_i_ProgShift_deep (u0, (u1, (u2, (u3, (u4, (u5, (u6, (u7, ()))))))))
def c_s_ProgShift (R : Run) (u0 : List Df) (u1 : List ByteArray) (u2 : List Rl) (u3 : Int) : Option (List Df × List ByteArray × List Rl × Bool × Unit) := R 17 [] sg_s_ProgShift (u0, (u1, (u2, (u3, ()))))
def c_w_szProg (R : Run) (u0 : List Df) (u1 : List ByteArray) (u2 : List Rl) (u3 : Int) : Option (Int × Unit) := R 18 [] sg_w_szProg (u0, (u1, (u2, (u3, ()))))
def c_w_toProg_deep (R : Run) (u0 : Mem Dh) (u1 : Mem Rh) (u2 : Mem ByteArray) (u3 : Mem Tn) (u4 : List Df) (u5 : List ByteArray) (u6 : List Rl) : Option (Mem Dh × Mem Rh × Mem ByteArray × Mem Tn × Hd × Hd × Hd × Unit) := R 19 [777] sg_w_toProg_deep (u0, (u1, (u2, (u3, (u4, (u5, (u6, ())))))))
def c_w_eqProg (R : Run) (u0 : List Df) (u1 : List ByteArray) (u2 : List Rl) (u3 : List Df) (u4 : List ByteArray) (u5 : List Rl) : Option (Bool × Unit) := R 20 [] sg_w_eqProg (u0, (u1, (u2, (u3, (u4, (u5, ()))))))
def c_w_markProg_deep (R : Run) (u0 : Mem Dh) (u1 : Mem Rh) (u2 : Mem ByteArray) (u3 : Mem Tn) (u4 : Hd) (u5 : Hd) (u6 : Hd) (u7 : Int) : Option (Mem Dh × Mem Rh × Mem ByteArray × Mem Tn × Int × Unit) := R 21 [777] sg_w_markProg_deep (u0, (u1, (u2, (u3, (u4, (u5, (u6, (u7, ()))))))))
def c_w_heldProg (R : Run) (u0 : List Df) (u1 : List ByteArray) (u2 : List Rl) (u3 : Int) : Option (Int × Unit) := R 22 [] sg_w_heldProg (u0, (u1, (u2, (u3, ()))))
def c_slices_Index_string_string (R : Run) (u0 : List ByteArray) (u1 : ByteArray) : Option (Int × Unit) := R 35 [] sg_slices_Index_string_string (u0, (u1, ()))
def c_i_LangNameOk (R : Run) (u0 : ByteArray) : Option (Bool × Unit) := R 36 [] sg_i_LangNameOk (u0, ())
def c_slices_Contains_string_string (R : Run) (u0 : List ByteArray) (u1 : ByteArray) : Option (Bool × Unit) := R 37 [] sg_slices_Contains_string_string (u0, (u1, ()))
def c_i_Prog_namesOf (R : Run) (u0 : List Df) (u1 : List ByteArray) (u2 : List Rl) : Option (List ByteArray × Unit) := R 38 [] sg_i_Prog_namesOf (u0, (u1, (u2, ())))
def c_i_Prog_copyOf_deep (R : Run) (u0 : Mem Dh) (u1 : Mem Rh) (u2 : Mem ByteArray) (u3 : Mem Tn) (u4 : Hd) (u5 : Hd) (u6 : Hd) : Option (Mem Dh × Mem Rh × Mem ByteArray × Mem Tn × Hd × Hd × Hd × Unit) := R 39 [777] sg_i_Prog_copyOf_deep (u0, (u1, (u2, (u3, (u4, (u5, (u6, ())))))))
def c_s_l12Find (R : Run) (u0 : List ByteArray) (u1 : ByteArray) : Option (Int × Unit) := R 40 [] sg_s_l12Find (u0, (u1, ()))
def c_s_ProgCode (R : Run) (u0 : List Df) (u1 : List ByteArray) (u2 : List Rl) : Option (Int × Unit) := R 41 [] sg_s_ProgCode (u0, (u1, (u2, ())))
def c_s_LangNameOk (R : Run) (u0 : ByteArray) : Option (Bool × Unit) := R 42 [] sg_s_LangNameOk (u0, ())
def c_s_l14Own (R : Run) (u0 : List Df) (u1 : List ByteArray) (u2 : List Rl) : Option (List Df × List ByteArray × List Rl × Unit) := R 44 [] sg_s_l14Own (u0, (u1, (u2, ())))
def c_i_Prog_formed (R : Run) (u0 : List Df) (u1 : List ByteArray) (u2 : List Rl) : Option (Bool × Unit) := R 47 [] sg_i_Prog_formed (u0, (u1, (u2, ())))
def c_i_Prog_many (R : Run) (u0 : List Df) (u1 : List ByteArray) (u2 : List Rl) : Option (Bool × Unit) := R 48 [] sg_i_Prog_many (u0, (u1, (u2, ())))
def c_i_Prog_again (R : Run) (u0 : List Df) (u1 : List ByteArray) (u2 : List Rl) : Option (Bool × Unit) := R 49 [] sg_i_Prog_again (u0, (u1, (u2, ())))
def c_i_Prog_defCode (R : Run) (u0 : List Df) (u1 : List ByteArray) (u2 : List Rl) (u3 : ByteArray) (u4 : List ByteArray) (u5 : List Tn) : Option (Int × Unit) := R 50 [] sg_i_Prog_defCode (u0, (u1, (u2, (u3, (u4, (u5, ()))))))
def c_i_Prog_relCode (R : Run) (u0 : List Df) (u1 : List ByteArray) (u2 : List Rl) (u3 : Int) (u4 : List Tn) (u5 : List Tn) : Option (Int × Unit) := R 51 [] sg_i_Prog_relCode (u0, (u1, (u2, (u3, (u4, (u5, ()))))))
def c_i_Prog_loop (R : Run) (u0 : List Df) (u1 : List ByteArray) (u2 : List Rl) : Option (Int × Unit) := R 52 [] sg_i_Prog_loop (u0, (u1, (u2, ())))
def c_i_in (R : Run) (u0 : Int) (u1 : Int) (u2 : Int) : Option (Bool × Unit) := R 53 [] sg_i_in (u0, (u1, (u2, ())))
def c_slices_Clip_string_string (R : Run) (u0 : List ByteArray) : Option (List ByteArray × Unit) := R 54 [] sg_slices_Clip_string_string (u0, ())
def c_slices_Concat_string_string (R : Run) (u0 : List (List ByteArray)) : Option (List ByteArray × Unit) := R 55 [] sg_slices_Concat_string_string (u0, ())
def c_w_szProgDefS (R : Run) (u0 : List Df) (u1 : Int) : Option (Int × Unit) := R 56 [] sg_w_szProgDefS (u0, (u1, ()))
def c_w_szStringS (R : Run) (u0 : List ByteArray) (u1 : Int) : Option (Int × Unit) := R 57 [] sg_w_szStringS (u0, (u1, ()))
def c_w_szProgRelS (R : Run) (u0 : List Rl) (u1 : Int) : Option (Int × Unit) := R 58 [] sg_w_szProgRelS (u0, (u1, ()))
def c_w_toProgDefS_deep (R : Run) (u0 : Mem Dh) (u1 : Mem Rh) (u2 : Mem ByteArray) (u3 : Mem Tn) (u4 : List Df) : Option (Mem Dh × Mem Rh × Mem ByteArray × Mem Tn × Hd × Unit) := R 59 [777] sg_w_toProgDefS_deep (u0, (u1, (u2, (u3, (u4, ())))))
def c_w_toStringS_deep (R : Run) (u0 : Mem Dh) (u1 : Mem Rh) (u2 : Mem ByteArray) (u3 : Mem Tn) (u4 : List ByteArray) : Option (Mem Dh × Mem Rh × Mem ByteArray × Mem Tn × Hd × Unit) := R 60 [777] sg_w_toStringS_deep (u0, (u1, (u2, (u3, (u4, ())))))
def c_w_toProgRelS_deep (R : Run) (u0 : Mem Dh) (u1 : Mem Rh) (u2 : Mem ByteArray) (u3 : Mem Tn) (u4 : List Rl) : Option (Mem Dh × Mem Rh × Mem ByteArray × Mem Tn × Hd × Unit) := R 61 [777] sg_w_toProgRelS_deep (u0, (u1, (u2, (u3, (u4, ())))))
def c_w_eqProgDefS (R : Run) (u0 : List Df) (u1 : List Df) : Option (Bool × Unit) := R 62 [] sg_w_eqProgDefS (u0, (u1, ()))
def c_w_eqStringS (R : Run) (u0 : List ByteArray) (u1 : List ByteArray) : Option (Bool × Unit) := R 63 [] sg_w_eqStringS (u0, (u1, ()))
def c_w_eqProgRelS (R : Run) (u0 : List Rl) (u1 : List Rl) : Option (Bool × Unit) := R 64 [] sg_w_eqProgRelS (u0, (u1, ()))
def c_w_markProgDefS_deep (R : Run) (u0 : Mem Dh) (u1 : Mem Rh) (u2 : Mem ByteArray) (u3 : Mem Tn) (u4 : Hd) (u5 : Int) : Option (Mem Dh × Mem Rh × Mem ByteArray × Mem Tn × Int × Unit) := R 65 [777] sg_w_markProgDefS_deep (u0, (u1, (u2, (u3, (u4, (u5, ()))))))
def c_w_markStringS_deep (R : Run) (u0 : Mem Dh) (u1 : Mem Rh) (u2 : Mem ByteArray) (u3 : Mem Tn) (u4 : Hd) (u5 : Int) : Option (Mem Dh × Mem Rh × Mem ByteArray × Mem Tn × Int × Unit) := R 66 [777] sg_w_markStringS_deep (u0, (u1, (u2, (u3, (u4, (u5, ()))))))
def c_w_markProgRelS_deep (R : Run) (u0 : Mem Dh) (u1 : Mem Rh) (u2 : Mem ByteArray) (u3 : Mem Tn) (u4 : Hd) (u5 : Int) : Option (Mem Dh × Mem Rh × Mem ByteArray × Mem Tn × Int × Unit) := R 67 [777] sg_w_markProgRelS_deep (u0, (u1, (u2, (u3, (u4, (u5, ()))))))
def c_w_heldProgDefS (R : Run) (u0 : List Df) (u1 : Int) : Option (Int × Unit) := R 68 [] sg_w_heldProgDefS (u0, (u1, ()))
def c_w_heldStringS (R : Run) (u0 : List ByteArray) (u1 : Int) : Option (Int × Unit) := R 69 [] sg_w_heldStringS (u0, (u1, ()))
def c_w_heldProgRelS (R : Run) (u0 : List Rl) (u1 : Int) : Option (Int × Unit) := R 70 [] sg_w_heldProgRelS (u0, (u1, ()))
def c_i_Prog_defAt (R : Run) (u0 : List Df) (u1 : List ByteArray) (u2 : List Rl) (u3 : ByteArray) : Option (Int × Unit) := R 72 [] sg_i_Prog_defAt (u0, (u1, (u2, (u3, ()))))
def c_s_l13Def (R : Run) (u0 : List Df) (u1 : List ByteArray) (u2 : List Rl) (u3 : ByteArray) : Option (Int × Unit) := R 74 [] sg_s_l13Def (u0, (u1, (u2, (u3, ()))))
def c_s_l14Copy (R : Run) (u0 : List ByteArray) : Option (List ByteArray × Unit) := R 76 [] sg_s_l14Copy (u0, ())
def c_s_TermOk (R : Run) (u0 : List Tn) : Option (Bool × Unit) := R 77 [] sg_s_TermOk (u0, ())
def c_i_wordOk (R : Run) (u0 : ByteArray) : Option (Bool × Unit) := R 83 [] sg_i_wordOk (u0, ())
def c_i_clone_impl_ProgDef_deep (R : Run) (u0 : Mem Dh) (u1 : Mem Rh) (u2 : Mem ByteArray) (u3 : Mem Tn) (u4 : Hd) : Option (Mem Dh × Mem Rh × Mem ByteArray × Mem Tn × Hd × Unit) := R 84 [777] sg_i_clone_impl_ProgDef_deep (u0, (u1, (u2, (u3, (u4, ())))))
def c_i_clone_string (R : Run) (u0 : List ByteArray) : Option (List ByteArray × Unit) := R 85 [] sg_i_clone_string (u0, ())
def c_i_clone_impl_ProgRel_deep (R : Run) (u0 : Mem Dh) (u1 : Mem Rh) (u2 : Mem ByteArray) (u3 : Mem Tn) (u4 : Hd) : Option (Mem Dh × Mem Rh × Mem ByteArray × Mem Tn × Hd × Unit) := R 86 [777] sg_i_clone_impl_ProgRel_deep (u0, (u1, (u2, (u3, (u4, ())))))
def c_i_clone_impl_TermNode (R : Run) (u0 : List Tn) : Option (List Tn × Unit) := R 87 [] sg_i_clone_impl_TermNode (u0, ())
def c_s_l13Shape (R : Run) (u0 : List Df) (u1 : List ByteArray) (u2 : List Rl) : Option (Int × Unit) := R 88 [] sg_s_l13Shape (u0, (u1, (u2, ())))
def c_s_l13DefCode (R : Run) (u0 : List Df) (u1 : List ByteArray) (u2 : List Rl) (u3 : ByteArray) (u4 : List ByteArray) (u5 : List Tn) : Option (Int × Unit) := R 89 [] sg_s_l13DefCode (u0, (u1, (u2, (u3, (u4, (u5, ()))))))
def c_s_l13RelCode (R : Run) (u0 : List Df) (u1 : List ByteArray) (u2 : List Rl) (u3 : Int) (u4 : List Tn) (u5 : List Tn) : Option (Int × Unit) := R 90 [] sg_s_l13RelCode (u0, (u1, (u2, (u3, (u4, (u5, ()))))))
def c_s_l13Table_k778 (R : Run) (u0 : Mem Bool) (u1 : List Df) (u2 : List ByteArray) (u3 : List Rl) : Option (Mem Bool × List Hd × Unit) := R 91 [778] sg_s_l13Table_k778 (u0, (u1, (u2, (u3, ()))))
def c_s_l11Plain (R : Run) (u0 : ByteArray) : Option (Bool × Unit) := R 92 [] sg_s_l11Plain (u0, ())
def c_s_l11Word (R : Run) (u0 : ByteArray) : Option (Bool × Unit) := R 93 [] sg_s_l11Word (u0, ())
def c_s_l14Same (R : Run) (u0 : List Tn) : Option (List Tn × Unit) := R 94 [] sg_s_l14Same (u0, ())
def c_i_TermOk (R : Run) (u0 : List Tn) : Option (Bool × Unit) := R 95 [] sg_i_TermOk (u0, ())
def c_slices_ContainsFunc_string_string_i_Prog_formed_1 (R : Run) (u0 : List ByteArray) : Option (Bool × Unit) := R 96 [97] sg_slices_ContainsFunc_string_string_i_Prog_formed_1 (u0, ())
def c_slices_ContainsFunc_string_string_i_Prog_formed_2 (R : Run) (u0 : List ByteArray) : Option (Bool × Unit) := R 96 [98] sg_slices_ContainsFunc_string_string_i_Prog_formed_2 (u0, ())
def c_slices_ContainsFunc_string_string_i_Prog_defCode_1 (R : Run) (u0 : List ByteArray) (u1 : List Df) (u2 : List ByteArray) (u3 : List Rl) : Option (Bool × List Df × List ByteArray × List Rl × Unit) := R 96 [103] sg_slices_ContainsFunc_string_string_i_Prog_defCode_1 (u0, (u1, (u2, (u3, ()))))
def c_i_Prog_formed_1 (R : Run) (u0 : ByteArray) : Option (Bool × Unit) := R 97 [] sg_i_Prog_formed_1 (u0, ())
def c_i_Prog_formed_2 (R : Run) (u0 : ByteArray) : Option (Bool × Unit) := R 98 [] sg_i_Prog_formed_2 (u0, ())
def c_slices_ContainsFunc_impl_ProgDef_impl_ProgDef_i_Prog_many_1 (R : Run) (u0 : List Df) : Option (Bool × Unit) := R 99 [100] sg_slices_ContainsFunc_impl_ProgDef_impl_ProgDef_i_Prog_many_1 (u0, ())
def c_slices_ContainsFunc_impl_ProgDef_impl_ProgDef_i_Prog_again_1 (R : Run) (u0 : List Df) : Option (Bool × Unit) := R 99 [102] sg_slices_ContainsFunc_impl_ProgDef_impl_ProgDef_i_Prog_again_1 (u0, ())
def c_i_Prog_many_1 (R : Run) (u0 : ByteArray) (u1 : List ByteArray) (u2 : List Tn) : Option (Bool × Unit) := R 100 [] sg_i_Prog_many_1 (u0, (u1, (u2, ())))
def c_i_twice (R : Run) (u0 : List ByteArray) : Option (Bool × Unit) := R 101 [] sg_i_twice (u0, ())
def c_i_Prog_again_1 (R : Run) (u0 : ByteArray) (u1 : List ByteArray) (u2 : List Tn) : Option (Bool × Unit) := R 102 [] sg_i_Prog_again_1 (u0, (u1, (u2, ())))
def c_i_Prog_defCode_1 (R : Run) (u0 : ByteArray) (u1 : List Df) (u2 : List ByteArray) (u3 : List Rl) : Option (Bool × List Df × List ByteArray × List Rl × Unit) := R 103 [] sg_i_Prog_defCode_1 (u0, (u1, (u2, (u3, ()))))
def c_i_Prog_fits (R : Run) (u0 : List Df) (u1 : List ByteArray) (u2 : List Rl) (u3 : List Tn) (u4 : List ByteArray) : Option (Int × Unit) := R 104 [] sg_i_Prog_fits (u0, (u1, (u2, (u3, (u4, ())))))
def c_slices_Concat_impl_TermNode_impl_TermNode (R : Run) (u0 : List (List Tn)) : Option (List Tn × Unit) := R 105 [] sg_slices_Concat_impl_TermNode_impl_TermNode (u0, ())
def c_i_Prog_uses (R : Run) (u0 : List Df) (u1 : List ByteArray) (u2 : List Rl) (u3 : Int) : Option (List Bool × Unit) := R 106 [] sg_i_Prog_uses (u0, (u1, (u2, (u3, ()))))
def c_slices_Grow_string_string (R : Run) (u0 : List ByteArray) (u1 : Int) : Option (List ByteArray × Unit) := R 107 [] sg_slices_Grow_string_string (u0, (u1, ()))
def c_w_szProgDef (R : Run) (u0 : ByteArray) (u1 : List ByteArray) (u2 : List Tn) (u3 : Int) : Option (Int × Unit) := R 108 [] sg_w_szProgDef (u0, (u1, (u2, (u3, ()))))
def c_w_szProgRel (R : Run) (u0 : Int) (u1 : List Tn) (u2 : List Tn) (u3 : Int) : Option (Int × Unit) := R 109 [] sg_w_szProgRel (u0, (u1, (u2, (u3, ()))))
def c_w_toProgDef_deep (R : Run) (u0 : Mem Dh) (u1 : Mem Rh) (u2 : Mem ByteArray) (u3 : Mem Tn) (u4 : ByteArray) (u5 : List ByteArray) (u6 : List Tn) : Option (Mem Dh × Mem Rh × Mem ByteArray × Mem Tn × ByteArray × Hd × Hd × Unit) := R 110 [777] sg_w_toProgDef_deep (u0, (u1, (u2, (u3, (u4, (u5, (u6, ())))))))
def c_w_toProgRel_deep (R : Run) (u0 : Mem Dh) (u1 : Mem Rh) (u2 : Mem ByteArray) (u3 : Mem Tn) (u4 : Int) (u5 : List Tn) (u6 : List Tn) : Option (Mem Dh × Mem Rh × Mem ByteArray × Mem Tn × Int × Hd × Hd × Unit) := R 111 [777] sg_w_toProgRel_deep (u0, (u1, (u2, (u3, (u4, (u5, (u6, ())))))))
def c_w_eqProgDef (R : Run) (u0 : ByteArray) (u1 : List ByteArray) (u2 : List Tn) (u3 : ByteArray) (u4 : List ByteArray) (u5 : List Tn) : Option (Bool × Unit) := R 112 [] sg_w_eqProgDef (u0, (u1, (u2, (u3, (u4, (u5, ()))))))
def c_w_eqProgRel (R : Run) (u0 : Int) (u1 : List Tn) (u2 : List Tn) (u3 : Int) (u4 : List Tn) (u5 : List Tn) : Option (Bool × Unit) := R 113 [] sg_w_eqProgRel (u0, (u1, (u2, (u3, (u4, (u5, ()))))))
def c_w_markText (R : Run) (u0 : Int) : Option (ByteArray × Unit) := R 114 [] sg_w_markText (u0, ())
def c_w_markTermNodeS_deep (R : Run) (u0 : Mem Dh) (u1 : Mem Rh) (u2 : Mem ByteArray) (u3 : Mem Tn) (u4 : Hd) (u5 : Int) : Option (Mem Dh × Mem Rh × Mem ByteArray × Mem Tn × Int × Unit) := R 115 [777] sg_w_markTermNodeS_deep (u0, (u1, (u2, (u3, (u4, (u5, ()))))))
def c_w_heldTermNodeS (R : Run) (u0 : List Tn) (u1 : Int) : Option (Int × Unit) := R 116 [] sg_w_heldTermNodeS (u0, (u1, ()))
def c_slices_IndexFunc_impl_ProgDef_impl_ProgDef_i_Prog_many_1 (R : Run) (u0 : List Df) : Option (Int × Unit) := R 117 [100] sg_slices_IndexFunc_impl_ProgDef_impl_ProgDef_i_Prog_many_1 (u0, ())
def c_slices_IndexFunc_impl_ProgDef_impl_ProgDef_i_Prog_again_1 (R : Run) (u0 : List Df) : Option (Int × Unit) := R 117 [102] sg_slices_IndexFunc_impl_ProgDef_impl_ProgDef_i_Prog_again_1 (u0, ())
def c_slices_IndexFunc_impl_ProgDef_impl_ProgDef_i_Prog_defAt_1 (R : Run) (u0 : List Df) (u1 : ByteArray) : Option (Int × ByteArray × Unit) := R 117 [118] sg_slices_IndexFunc_impl_ProgDef_impl_ProgDef_i_Prog_defAt_1 (u0, (u1, ()))
def c_i_Prog_defAt_1 (R : Run) (u0 : ByteArray) (u1 : List ByteArray) (u2 : List Tn) (u3 : ByteArray) : Option (Bool × ByteArray × Unit) := R 118 [] sg_i_Prog_defAt_1 (u0, (u1, (u2, (u3, ()))))
def c_s_l12Args (R : Run) (u0 : Int) (u1 : Int) (u2 : ByteArray) : Option (Int × Unit) := R 123 [] sg_s_l12Args (u0, (u1, (u2, ())))
def c_i_isLetter (R : Run) (u0 : Int) : Option (Bool × Unit) := R 127 [] sg_i_isLetter (u0, ())
def c_i_isFigure (R : Run) (u0 : Int) : Option (Bool × Unit) := R 128 [] sg_i_isFigure (u0, ())
def c_slices_Clip_impl_ProgDef_impl_ProgDef_deep (R : Run) (u0 : Mem Dh) (u1 : Mem Rh) (u2 : Mem ByteArray) (u3 : Mem Tn) (u4 : Hd) : Option (Mem Dh × Mem Rh × Mem ByteArray × Mem Tn × Hd × Unit) := R 129 [777] sg_slices_Clip_impl_ProgDef_impl_ProgDef_deep (u0, (u1, (u2, (u3, (u4, ())))))
def c_slices_Clone_impl_ProgDef_impl_ProgDef_deep (R : Run) (u0 : Mem Dh) (u1 : Mem Rh) (u2 : Mem ByteArray) (u3 : Mem Tn) (u4 : Hd) : Option (Mem Dh × Mem Rh × Mem ByteArray × Mem Tn × List Dh × Unit) := R 130 [777] sg_slices_Clone_impl_ProgDef_impl_ProgDef_deep (u0, (u1, (u2, (u3, (u4, ())))))
def c_slices_Clone_string_string (R : Run) (u0 : List ByteArray) : Option (List ByteArray × Unit) := R 131 [] sg_slices_Clone_string_string (u0, ())
def c_slices_Clip_impl_ProgRel_impl_ProgRel_deep (R : Run) (u0 : Mem Dh) (u1 : Mem Rh) (u2 : Mem ByteArray) (u3 : Mem Tn) (u4 : Hd) : Option (Mem Dh × Mem Rh × Mem ByteArray × Mem Tn × Hd × Unit) := R 132 [777] sg_slices_Clip_impl_ProgRel_impl_ProgRel_deep (u0, (u1, (u2, (u3, (u4, ())))))
def c_slices_Clone_impl_ProgRel_impl_ProgRel_deep (R : Run) (u0 : Mem Dh) (u1 : Mem Rh) (u2 : Mem ByteArray) (u3 : Mem Tn) (u4 : Hd) : Option (Mem Dh × Mem Rh × Mem ByteArray × Mem Tn × List Rh × Unit) := R 133 [777] sg_slices_Clone_impl_ProgRel_impl_ProgRel_deep (u0, (u1, (u2, (u3, (u4, ())))))
def c_slices_Clip_impl_TermNode_impl_TermNode (R : Run) (u0 : List Tn) : Option (List Tn × Unit) := R 134 [] sg_slices_Clip_impl_TermNode_impl_TermNode (u0, ())
def c_slices_Clone_impl_TermNode_impl_TermNode (R : Run) (u0 : List Tn) : Option (List Tn × Unit) := R 135 [] sg_slices_Clone_impl_TermNode_impl_TermNode (u0, ())
def c_s_l13Formed (R : Run) (u0 : List Df) (u1 : List ByteArray) (u2 : List Rl) : Option (Bool × Unit) := R 136 [] sg_s_l13Formed (u0, (u1, (u2, ())))
def c_s_l13Distinct (R : Run) (u0 : List ByteArray) : Option (Bool × Unit) := R 137 [] sg_s_l13Distinct (u0, ())
def c_s_l13Known (R : Run) (u0 : List Df) (u1 : List ByteArray) (u2 : List Rl) (u3 : List Tn) (u4 : List ByteArray) : Option (Int × Unit) := R 138 [] sg_s_l13Known (u0, (u1, (u2, (u3, (u4, ())))))
def c_s_l13Reaches (R : Run) (u0 : List Df) (u1 : List ByteArray) (u2 : List Rl) (u3 : Int) (u4 : Int) (u5 : Int) : Option (Bool × Unit) := R 139 [] sg_s_l13Reaches (u0, (u1, (u2, (u3, (u4, (u5, ()))))))
def c_s_l11Letter (R : Run) (u0 : Int) : Option (Bool × Unit) := R 140 [] sg_s_l11Letter (u0, ())
def c_s_l11Digit (R : Run) (u0 : Int) : Option (Bool × Unit) := R 141 [] sg_s_l11Digit (u0, ())
def c_i_TermNode_parts (R : Run) (u0 : Int) (u1 : Int) (u2 : ByteArray) : Option (Int × Unit) := R 142 [] sg_i_TermNode_parts (u0, (u1, (u2, ())))
def c_slices_IndexFunc_string_string_i_Prog_formed_1 (R : Run) (u0 : List ByteArray) : Option (Int × Unit) := R 143 [97] sg_slices_IndexFunc_string_string_i_Prog_formed_1 (u0, ())
def c_slices_IndexFunc_string_string_i_Prog_formed_2 (R : Run) (u0 : List ByteArray) : Option (Int × Unit) := R 143 [98] sg_slices_IndexFunc_string_string_i_Prog_formed_2 (u0, ())
def c_slices_IndexFunc_string_string_i_Prog_defCode_1 (R : Run) (u0 : List ByteArray) (u1 : List Df) (u2 : List ByteArray) (u3 : List Rl) : Option (Int × List Df × List ByteArray × List Rl × Unit) := R 143 [103] sg_slices_IndexFunc_string_string_i_Prog_defCode_1 (u0, (u1, (u2, (u3, ()))))
def c_slices_Grow_impl_TermNode_impl_TermNode (R : Run) (u0 : List Tn) (u1 : Int) : Option (List Tn × Unit) := R 144 [] sg_slices_Grow_impl_TermNode_impl_TermNode (u0, (u1, ()))
def c_i_Term_names (R : Run) (u0 : List Tn) : Option (List ByteArray × Unit) := R 145 [] sg_i_Term_names (u0, ())
def c_w_szTerm (R : Run) (u0 : List Tn) (u1 : Int) : Option (Int × Unit) := R 146 [] sg_w_szTerm (u0, (u1, ()))
def c_w_toTerm_deep (R : Run) (u0 : Mem Dh) (u1 : Mem Rh) (u2 : Mem ByteArray) (u3 : Mem Tn) (u4 : List Tn) : Option (Mem Dh × Mem Rh × Mem ByteArray × Mem Tn × Hd × Unit) := R 147 [777] sg_w_toTerm_deep (u0, (u1, (u2, (u3, (u4, ())))))
def c_w_eqTerm (R : Run) (u0 : List Tn) (u1 : List Tn) : Option (Bool × Unit) := R 148 [] sg_w_eqTerm (u0, (u1, ()))
def c_s_LangNumOk (R : Run) (u0 : ByteArray) : Option (Bool × Unit) := R 154 [] sg_s_LangNumOk (u0, ())
def c_s_l13Names (R : Run) (u0 : List ByteArray) : Option (Bool × Unit) := R 158 [] sg_s_l13Names (u0, ())
def c_s_l13Kind (R : Run) (u0 : Int) : Option (Bool × Unit) := R 159 [] sg_s_l13Kind (u0, ())
def c_i_LangNumOk (R : Run) (u0 : ByteArray) : Option (Bool × Unit) := R 160 [] sg_i_LangNumOk (u0, ())
def c_slices_Sort_string_string_k779 (R : Run) (u0 : Mem ByteArray) (u1 : Hd) : Option (Mem ByteArray × Unit) := R 161 [779] sg_slices_Sort_string_string_k779 (u0, (u1, ()))
def c_slices_Compact_string_string_k779 (R : Run) (u0 : Mem ByteArray) (u1 : Hd) : Option (Mem ByteArray × List ByteArray × Unit) := R 162 [779] sg_slices_Compact_string_string_k779 (u0, (u1, ()))
def c_w_szTermNodeS (R : Run) (u0 : List Tn) (u1 : Int) : Option (Int × Unit) := R 163 [] sg_w_szTermNodeS (u0, (u1, ()))
def c_w_toTermNodeS_deep (R : Run) (u0 : Mem Dh) (u1 : Mem Rh) (u2 : Mem ByteArray) (u3 : Mem Tn) (u4 : List Tn) : Option (Mem Dh × Mem Rh × Mem ByteArray × Mem Tn × Hd × Unit) := R 164 [777] sg_w_toTermNodeS_deep (u0, (u1, (u2, (u3, (u4, ())))))
def c_w_eqTermNodeS (R : Run) (u0 : List Tn) (u1 : List Tn) : Option (Bool × Unit) := R 165 [] sg_w_eqTermNodeS (u0, (u1, ()))
def c_s_l11Run (R : Run) (u0 : ByteArray) (u1 : Int) : Option (Int × Unit) := R 169 [] sg_s_l11Run (u0, (u1, ()))
def c_i_DecOk (R : Run) (u0 : ByteArray) : Option (Bool × Unit) := R 172 [] sg_i_DecOk (u0, ())
def c_w_szTermNode (R : Run) (u0 : Int) (u1 : Int) (u2 : ByteArray) (u3 : Int) : Option (Int × Unit) := R 175 [] sg_w_szTermNode (u0, (u1, (u2, (u3, ()))))
def c_w_toTermNode (R : Run) (u0 : Int) (u1 : Int) (u2 : ByteArray) : Option Tn := R 176 [] sg_w_toTermNode (u0, (u1, (u2, ())))
def c_w_eqTermNode (R : Run) (u0 : Int) (u1 : Int) (u2 : ByteArray) (u3 : Int) (u4 : Int) (u5 : ByteArray) : Option (Bool × Unit) := R 177 [] sg_w_eqTermNode (u0, (u1, (u2, (u3, (u4, (u5, ()))))))
def c_i_literal (R : Run) (u0 : ByteArray) : Option (ByteArray × ByteArray × Int × Bool × Unit) := R 179 [] sg_i_literal (u0, ())
def c_strings_Cut (R : Run) (u0 : ByteArray) (u1 : ByteArray) : Option (ByteArray × ByteArray × Bool × Unit) := R 191 [] sg_strings_Cut (u0, (u1, ()))
def c_i_wholeDigits (R : Run) (u0 : ByteArray) : Option (Bool × Unit) := R 192 [] sg_i_wholeDigits (u0, ())
def c_i_isDigits (R : Run) (u0 : ByteArray) : Option (Bool × Unit) := R 193 [] sg_i_isDigits (u0, ())
def c_strings_CutPrefix (R : Run) (u0 : ByteArray) (u1 : ByteArray) : Option (ByteArray × Bool × Unit) := R 194 [] sg_strings_CutPrefix (u0, (u1, ()))
def c_strconv_Atoi (R : Run) (u0 : ByteArray) : Option (Int × Bool × Unit) := R 195 [] sg_strconv_Atoi (u0, ())
def c_internal_stringslite_Cut (R : Run) (u0 : ByteArray) (u1 : ByteArray) : Option (ByteArray × ByteArray × Bool × Unit) := R 202 [] sg_internal_stringslite_Cut (u0, (u1, ()))
def c_internal_stringslite_CutPrefix (R : Run) (u0 : ByteArray) (u1 : ByteArray) : Option (ByteArray × Bool × Unit) := R 203 [] sg_internal_stringslite_CutPrefix (u0, (u1, ()))
def c_internal_stringslite_Index (R : Run) (u0 : ByteArray) (u1 : ByteArray) : Option (Int × Unit) := R 207 [] sg_internal_stringslite_Index (u0, (u1, ()))
def c_internal_stringslite_HasPrefix (R : Run) (u0 : ByteArray) (u1 : ByteArray) : Option (Bool × Unit) := R 208 [] sg_internal_stringslite_HasPrefix (u0, (u1, ()))

noncomputable def p_w_FnExactProgShift_deep (R : Run) (n : Nat) (u0 : Mem Dh) (u1 : Mem Rh) (u2 : Mem ByteArray) (u3 : Mem Tn) (u4 : List Df) (u5 : List ByteArray) (u6 : List Rl) (u7 : Int) : Option (Mem Dh × Mem Rh × Mem ByteArray × Mem Tn × Bool × Unit) :=
  (c_w_szProg R u4 u5 u6 1048576).bind fun (r18_1, _) =>
  bif (ilt r18_1 0) then
    some (u0, (u1, (u2, (u3, (true, ())))))
  else
  (c_w_toProg_deep R u0 u1 u2 u3 u4 u5 u6).bind fun (r19_1, (r19b, (r19c, (r19d, (r19e, (r19f, (x, _))))))) =>
  ok ((((mok r19_1 r19e) && (List.all (mval r19_1 r19e) fun y => ((mok r19c y.2.1) && (((mok r19d y.2.2.1.1) && true) && true)))) && ((mok r19c r19f) && (((mok r19b x) && (List.all (mval r19b x) fun y_1 => (((mok r19d y_1.2.1.1) && true) && (((mok r19d y_1.2.2.1.1) && true) && true)))) && true))) && true) <|
  (c_s_ProgShift R (List.map (fun y_2 => (y_2.1, ((List.map (fun y_3 => y_3) (mval r19c y_2.2.1)), (((List.map (idT) (mval r19d y_2.2.2.1.1)), y_2.2.2.1.2), y_2.2.2.2)))) (mval r19_1 r19e)) (List.map (fun y_5 => y_5) (mval r19c r19f)) (List.map (fun y_6 => (y_6.1, (((List.map (idT) (mval r19d y_6.2.1.1)), y_6.2.1.2), (((List.map (idT) (mval r19d y_6.2.2.1.1)), y_6.2.2.1.2), y_6.2.2.2)))) (mval r19b x)) u7).bind fun (r17_1, (r17b, (r17c, (r17d, _)))) =>
  (c_w_toProg_deep R r19_1 r19b r19c r19d u4 u5 u6).bind fun (r19_2_1, (r19_2b, (r19_2c, (r19_2d, (r19_2e, (r19_2f, (x_1, _))))))) =>
  (c_i_ProgShift_deep R r19_2_1 r19_2b r19_2c r19_2d r19_2e r19_2f x_1 u7).bind fun (r16_1, (r16b, (r16c, (r16d, (r16e, (r16f, (x_2, (x_3, _)))))))) =>
  jb (P := (Bool × Unit × Unit × Unit × Unit × Bool × Bool × Int × Bool × Unit) × (Hd × Hd × Hd × Unit) × (List Df × List ByteArray × List Rl × Unit) × (Hd × Hd × Hd × Unit) × (List Df × List ByteArray × List Rl × Unit) × Mem Tn × Mem ByteArray × Mem Rh × Mem Dh × Unit) (
      ok ((((mok r16_1 r16e) && (List.all (mval r16_1 r16e) fun y_9 => ((mok r16c y_9.2.1) && (((mok r16d y_9.2.2.1.1) && true) && true)))) && ((mok r16c r16f) && (((mok r16b x_2) && (List.all (mval r16b x_2) fun y_10 => (((mok r16d y_10.2.1.1) && true) && (((mok r16d y_10.2.2.1.1) && true) && true)))) && true))) && true) <|
      (c_w_eqProg R (List.map (fun y_11 => (y_11.1, ((List.map (fun y_12 => y_12) (mval r16c y_11.2.1)), (((List.map (idT) (mval r16d y_11.2.2.1.1)), y_11.2.2.1.2), y_11.2.2.2)))) (mval r16_1 r16e)) (List.map (fun y_14 => y_14) (mval r16c r16f)) (List.map (fun y_15 => (y_15.1, (((List.map (idT) (mval r16d y_15.2.1.1)), y_15.2.1.2), (((List.map (idT) (mval r16d y_15.2.2.1.1)), y_15.2.2.1.2), y_15.2.2.2)))) (mval r16b x_2)) r17_1 r17b r17c).bind fun (r20_1, _) =>
      bif (!r20_1) then
        some (.inr ((true, ((), ((), ((), ((), (x_3, (r17d, (u7, (false, ()))))))))), ((r19_2e, (r19_2f, (x_1, ()))), ((u4, (u5, (u6, ()))), ((r16e, (r16f, (x_2, ()))), ((r17_1, (r17b, (r17c, ()))), (r16d, (r16c, (r16b, (r16_1, ()))))))))))
      else
      some (.inr (((!(beqB x_3 r17d)), ((), ((), ((), ((), (x_3, (r17d, (u7, (false, ()))))))))), ((r19_2e, (r19_2f, (x_1, ()))), ((u4, (u5, (u6, ()))), ((r16e, (r16f, (x_2, ()))), ((r17_1, (r17b, (r17c, ()))), (r16d, (r16c, (r16b, (r16_1, ()))))))))))) fun ((t44, (_, (_, (_, (_, (g110, (w17, (aN1, (t4, _))))))))), ((o0a, (o0b, (o0c, _))), ((o1a, (o1b, (o1c, _))), ((o2a, (o2b, (o2c, _))), ((o3a, (o3b, (o3c, _))), (o900073, (o900009, (o900057, (o900059, _))))))))) =>
  bif t44 then
    some (o900059, (o900057, (o900009, (o900073, (false, ())))))
  else
  (c_w_toProg_deep R o900059 o900057 o900009 o900073 o1a o1b o1c).bind fun (r19_3_1, (r19_3b, (r19_3c, (r19_3d, (r19_3e, (r19_3f, (x_4, _))))))) =>
  ok ((((mok r19_3_1 o0a) && (List.all (mval r19_3_1 o0a) fun y_18 => ((mok r19_3c y_18.2.1) && (((mok r19_3d y_18.2.2.1.1) && true) && true)))) && ((mok r19_3c o0b) && (((mok r19_3b o0c) && (List.all (mval r19_3b o0c) fun y_19 => (((mok r19_3d y_19.2.1.1) && true) && (((mok r19_3d y_19.2.2.1.1) && true) && true)))) && true))) && ((((mok r19_3_1 r19_3e) && (List.all (mval r19_3_1 r19_3e) fun y_20 => ((mok r19_3c y_20.2.1) && (((mok r19_3d y_20.2.2.1.1) && true) && true)))) && ((mok r19_3c r19_3f) && (((mok r19_3b x_4) && (List.all (mval r19_3b x_4) fun y_21 => (((mok r19_3d y_21.2.1.1) && true) && (((mok r19_3d y_21.2.2.1.1) && true) && true)))) && true))) && true)) <|
  (c_w_eqProg R (List.map (fun y_22 => (y_22.1, ((List.map (fun y_23 => y_23) (mval r19_3c y_22.2.1)), (((List.map (idT) (mval r19_3d y_22.2.2.1.1)), y_22.2.2.1.2), y_22.2.2.2)))) (mval r19_3_1 o0a)) (List.map (fun y_25 => y_25) (mval r19_3c o0b)) (List.map (fun y_26 => (y_26.1, (((List.map (idT) (mval r19_3d y_26.2.1.1)), y_26.2.1.2), (((List.map (idT) (mval r19_3d y_26.2.2.1.1)), y_26.2.2.1.2), y_26.2.2.2)))) (mval r19_3b o0c)) (List.map (fun y_29 => (y_29.1, ((List.map (fun y_30 => y_30) (mval r19_3c y_29.2.1)), (((List.map (idT) (mval r19_3d y_29.2.2.1.1)), y_29.2.2.1.2), y_29.2.2.2)))) (mval r19_3_1 r19_3e)) (List.map (fun y_32 => y_32) (mval r19_3c r19_3f)) (List.map (fun y_33 => (y_33.1, (((List.map (idT) (mval r19_3d y_33.2.1.1)), y_33.2.1.2), (((List.map (idT) (mval r19_3d y_33.2.2.1.1)), y_33.2.2.1.2), y_33.2.2.2)))) (mval r19_3b x_4))).bind fun (r20_2_1, _) =>
  bif (!r20_2_1) then
    some (r19_3_1, (r19_3b, (r19_3c, (r19_3d, (false, ())))))
  else
  (c_w_markProg_deep R r19_3_1 r19_3b r19_3c r19_3d o0a o0b o0c 1).bind fun (r21_1, (r21b, (r21c, (r21d, (r21e, _))))) =>
  jb (P := (Bool × Unit × Unit × Int × Unit × Bool × Bool × Unit) × (Hd × Hd × Hd × Unit) × (List Df × List ByteArray × List Rl × Unit) × (List Df × List ByteArray × List Rl × Unit) × Mem Tn × Mem ByteArray × Mem Rh × Mem Dh × Unit) (
      bif (ilt r21e 0) then
        some (.inr ((true, ((), ((), (aN1, ((), (w17, (t4, ()))))))), ((o2a, (o2b, (o2c, ()))), ((o1a, (o1b, (o1c, ()))), ((o3a, (o3b, (o3c, ()))), (r21d, (r21c, (r21b, (r21_1, ())))))))))
      else
      ok ((((mok r21_1 o2a) && (List.all (mval r21_1 o2a) fun y_36 => ((mok r21c y_36.2.1) && (((mok r21d y_36.2.2.1.1) && true) && true)))) && ((mok r21c o2b) && (((mok r21b o2c) && (List.all (mval r21b o2c) fun y_37 => (((mok r21d y_37.2.1.1) && true) && (((mok r21d y_37.2.2.1.1) && true) && true)))) && true))) && true) <|
      (c_w_eqProg R (List.map (fun y_38 => (y_38.1, ((List.map (fun y_39 => y_39) (mval r21c y_38.2.1)), (((List.map (idT) (mval r21d y_38.2.2.1.1)), y_38.2.2.1.2), y_38.2.2.2)))) (mval r21_1 o2a)) (List.map (fun y_41 => y_41) (mval r21c o2b)) (List.map (fun y_42 => (y_42.1, (((List.map (idT) (mval r21d y_42.2.1.1)), y_42.2.1.2), (((List.map (idT) (mval r21d y_42.2.2.1.1)), y_42.2.2.1.2), y_42.2.2.2)))) (mval r21b o2c)) o3a o3b o3c).bind fun (r20_3_1, _) =>
      bif (!r20_3_1) then
        some (.inr ((true, ((), ((), (aN1, ((), (w17, (t4, ()))))))), ((o2a, (o2b, (o2c, ()))), ((o1a, (o1b, (o1c, ()))), ((o3a, (o3b, (o3c, ()))), (r21d, (r21c, (r21b, (r21_1, ())))))))))
      else
      some (.inr (((!(beqB g110 w17)), ((), ((), (aN1, ((), (w17, (t4, ()))))))), ((o2a, (o2b, (o2c, ()))), ((o1a, (o1b, (o1c, ()))), ((o3a, (o3b, (o3c, ()))), (r21d, (r21c, (r21b, (r21_1, ())))))))))) fun ((t65, (_, (_, (aN1_1, (_, (w17_1, (t4_1, _))))))), ((o0a_1, (o0b_1, (o0c_1, _))), ((o1a_1, (o1b_1, (o1c_1, _))), ((o2a_1, (o2b_1, (o2c_1, _))), (o900073_1, (o900009_1, (o900057_1, (o900059_1, _)))))))) =>
  bif t65 then
    some (o900059_1, (o900057_1, (o900009_1, (o900073_1, (false, ())))))
  else
  (c_w_markProg_deep R o900059_1 o900057_1 o900009_1 o900073_1 o0a_1 o0b_1 o0c_1 1).bind fun (r21_2_1, (r21_2b, (r21_2c, (r21_2d, (r21_2e, _))))) =>
  ok ((((mok r21_2_1 o0a_1) && (List.all (mval r21_2_1 o0a_1) fun y_45 => ((mok r21_2c y_45.2.1) && (((mok r21_2d y_45.2.2.1.1) && true) && true)))) && ((mok r21_2c o0b_1) && (((mok r21_2b o0c_1) && (List.all (mval r21_2b o0c_1) fun y_46 => (((mok r21_2d y_46.2.1.1) && true) && (((mok r21_2d y_46.2.2.1.1) && true) && true)))) && true))) && true) <|
  (c_w_heldProg R (List.map (fun y_47 => (y_47.1, ((List.map (fun y_48 => y_48) (mval r21_2c y_47.2.1)), (((List.map (idT) (mval r21_2d y_47.2.2.1.1)), y_47.2.2.1.2), y_47.2.2.2)))) (mval r21_2_1 o0a_1)) (List.map (fun y_50 => y_50) (mval r21_2c o0b_1)) (List.map (fun y_51 => (y_51.1, (((List.map (idT) (mval r21_2d y_51.2.1.1)), y_51.2.1.2), (((List.map (idT) (mval r21_2d y_51.2.2.1.1)), y_51.2.2.1.2), y_51.2.2.2)))) (mval r21_2b o0c_1)) 1).bind fun (r22_1, _) =>
  bif (ilt r22_1 0) then
    some (r21_2_1, (r21_2b, (r21_2c, (r21_2d, (false, ())))))
  else
  bif (r22_1 != r21_2e) then
    some (r21_2_1, (r21_2b, (r21_2c, (r21_2d, (false, ())))))
  else
  (c_w_toProg_deep R r21_2_1 r21_2b r21_2c r21_2d o1a_1 o1b_1 o1c_1).bind fun (r19_4_1, (r19_4b, (r19_4c, (r19_4d, (r19_4e, (r19_4f, (x_5, _))))))) =>
  (c_i_ProgShift_deep R r19_4_1 r19_4b r19_4c r19_4d r19_4e r19_4f x_5 aN1_1).bind fun (r16_2_1, (r16_2b, (r16_2c, (r16_2d, (r16_2e, (r16_2f, (x_6, (x_7, _)))))))) =>
  jb (P := (Bool × Unit × Int × Bool × Unit) × (Hd × Hd × Hd × Unit) × Mem Tn × Mem ByteArray × Mem Rh × Mem Dh × Unit) (
      ok ((((mok r16_2_1 r16_2e) && (List.all (mval r16_2_1 r16_2e) fun y_54 => ((mok r16_2c y_54.2.1) && (((mok r16_2d y_54.2.2.1.1) && true) && true)))) && ((mok r16_2c r16_2f) && (((mok r16_2b x_6) && (List.all (mval r16_2b x_6) fun y_55 => (((mok r16_2d y_55.2.1.1) && true) && (((mok r16_2d y_55.2.2.1.1) && true) && true)))) && true))) && true) <|
      (c_w_eqProg R (List.map (fun y_56 => (y_56.1, ((List.map (fun y_57 => y_57) (mval r16_2c y_56.2.1)), (((List.map (idT) (mval r16_2d y_56.2.2.1.1)), y_56.2.2.1.2), y_56.2.2.2)))) (mval r16_2_1 r16_2e)) (List.map (fun y_59 => y_59) (mval r16_2c r16_2f)) (List.map (fun y_60 => (y_60.1, (((List.map (idT) (mval r16_2d y_60.2.1.1)), y_60.2.1.2), (((List.map (idT) (mval r16_2d y_60.2.2.1.1)), y_60.2.2.1.2), y_60.2.2.2)))) (mval r16_2b x_6)) o2a_1 o2b_1 o2c_1).bind fun (r20_4_1, _) =>
      bif (!r20_4_1) then
        some (.inr ((true, ((), (r21_2e, (t4_1, ())))), ((o0a_1, (o0b_1, (o0c_1, ()))), (r16_2d, (r16_2c, (r16_2b, (r16_2_1, ())))))))
      else
      some (.inr (((!(beqB x_7 w17_1)), ((), (r21_2e, (t4_1, ())))), ((o0a_1, (o0b_1, (o0c_1, ()))), (r16_2d, (r16_2c, (r16_2b, (r16_2_1, ())))))))) fun ((t92, (_, (m12, (t4_2, _)))), ((o0a_2, (o0b_2, (o0c_2, _))), (o900073_2, (o900009_2, (o900057_2, (o900059_2, _)))))) =>
  bif t92 then
    some (o900059_2, (o900057_2, (o900009_2, (o900073_2, (false, ())))))
  else
  ok ((((mok o900059_2 o0a_2) && (List.all (mval o900059_2 o0a_2) fun y_63 => ((mok o900009_2 y_63.2.1) && (((mok o900073_2 y_63.2.2.1.1) && true) && true)))) && ((mok o900009_2 o0b_2) && (((mok o900057_2 o0c_2) && (List.all (mval o900057_2 o0c_2) fun y_64 => (((mok o900073_2 y_64.2.1.1) && true) && (((mok o900073_2 y_64.2.2.1.1) && true) && true)))) && true))) && true) <|
  (c_w_heldProg R (List.map (fun y_65 => (y_65.1, ((List.map (fun y_66 => y_66) (mval o900009_2 y_65.2.1)), (((List.map (idT) (mval o900073_2 y_65.2.2.1.1)), y_65.2.2.1.2), y_65.2.2.2)))) (mval o900059_2 o0a_2)) (List.map (fun y_68 => y_68) (mval o900009_2 o0b_2)) (List.map (fun y_69 => (y_69.1, (((List.map (idT) (mval o900073_2 y_69.2.1.1)), y_69.2.1.2), (((List.map (idT) (mval o900073_2 y_69.2.2.1.1)), y_69.2.2.1.2), y_69.2.2.2)))) (mval o900057_2 o0c_2)) 1).bind fun (r22_2_1, _) =>
  bif (ilt r22_2_1 0) then
    some (o900059_2, (o900057_2, (o900009_2, (o900073_2, (false, ())))))
  else
  bif (r22_2_1 != m12) then
    some (o900059_2, (o900057_2, (o900009_2, (o900073_2, (false, ())))))
  else
  some (o900059_2, (o900057_2, (o900009_2, (o900073_2, (true, ())))))

noncomputable def p_i_ProgCode (R : Run) (n : Nat) (u0 : List Df) (u1 : List ByteArray) (u2 : List Rl) : Option (Int × Unit) :=
  (c_i_Prog_formed R u0 u1 u2).bind fun (r47_1, _) =>
  bif (!r47_1) then
    some (4, ())
  else
  (c_i_Prog_many R u0 u1 u2).bind fun (r48_1, _) =>
  bif r48_1 then
    some (5, ())
  else
  (c_i_Prog_again R u0 u1 u2).bind fun (r49_1, _) =>
  bif r49_1 then
    some (6, ())
  else
  iter (P := (Int × Int × List Df × Unit × Int × Unit) × (List Df × List ByteArray × List Rl × Unit) × Unit) (fun rec ((t22, (t21, (t20, (_, (t2, _))))), ((o0a, (o0b, (o0c, _))), _)) =>
      bif (ilt t22 t21) then
        ok (inB t22 (len t20)) <|
        (c_i_Prog_defCode R o0a o0b o0c (List.getD t20 (Int.toNat t22) dDf).1 (List.getD t20 (Int.toNat t22) dDf).2.1 (List.getD t20 (Int.toNat t22) dDf).2.2.1.1).bind fun (r50_1, _) =>
        bif (r50_1 != 0) then
          some (r50_1, ())
        else
        rec (((iadd .i64 t22 1), (t21, (t20, ((), (t2, ()))))), ((o0a, (o0b, (o0c, ()))), ()))
      else
      iter (P := (Int × Int × List Rl × Unit × Int × Unit) × (List Df × List ByteArray × List Rl × Unit) × Unit) (fun rec_1 ((t36, (t35, (t34, (_, (t2_1, _))))), ((o0a_1, (o0b_1, (o0c_1, _))), _)) =>
          bif (ilt t36 t35) then
            ok (inB t36 (len t34)) <|
            (c_i_Prog_relCode R o0a_1 o0b_1 o0c_1 (List.getD t34 (Int.toNat t36) dRl).1 (List.getD t34 (Int.toNat t36) dRl).2.1.1 (List.getD t34 (Int.toNat t36) dRl).2.2.1.1).bind fun (r51_1, _) =>
            bif (r51_1 != 0) then
              some (r51_1, ())
            else
            rec_1 (((iadd .i64 t36 1), (t35, (t34, ((), (t2_1, ()))))), ((o0a_1, (o0b_1, (o0c_1, ()))), ()))
          else
          (c_i_Prog_loop R o0a_1 o0b_1 o0c_1).bind fun (r52_1, _) =>
          bif (ile 0 r52_1) then
            some (10, ())
          else
          jb (P := (Bool × Int × Unit) × Unit) (
              bif ((len o0b_1) == 0) then
                some (.inr ((true, (t2_1, ())), ()))
              else
              some (.inr ((((len o0c_1) == 0), (t2_1, ())), ()))) fun ((t51, (t2_2, _)), _) =>
          bif t51 then
            some (11, ())
          else
          some (0, ())) n ((0, ((len o0c), (o0c, ((), (t2, ()))))), ((o0a, (o0b, (o0c, ()))), ()))) n ((0, ((len u0), (u0, ((), (0, ()))))), ((u0, (u1, (u2, ()))), ()))

noncomputable def p_i_ProgShift_deep (R : Run) (n : Nat) (u0 : Mem Dh) (u1 : Mem Rh) (u2 : Mem ByteArray) (u3 : Mem Tn) (u4 : Hd) (u5 : Hd) (u6 : Hd) (u7 : Int) : Option (Mem Dh × Mem Rh × Mem ByteArray × Mem Tn × Hd × Hd × Hd × Bool × Unit) :=
  jb (P := (Bool × Unit × Unit × Int × Bool × Unit) × (Unit × Unit × Unit × Unit) × (Hd × Hd × Hd × Unit) × Mem Dh × Mem Rh × Mem ByteArray × Mem Tn × Unit) (
      ok ((((mok u0 u4) && (List.all (mval u0 u4) fun y => ((mok u2 y.2.1) && (((mok u3 y.2.2.1.1) && true) && true)))) && ((mok u2 u5) && (((mok u1 u6) && (List.all (mval u1 u6) fun y_1 => (((mok u3 y_1.2.1.1) && true) && (((mok u3 y_1.2.2.1.1) && true) && true)))) && true))) && true) <|
      (c_i_ProgCode R (List.map (fun y_2 => (y_2.1, ((List.map (fun y_3 => y_3) (mval u2 y_2.2.1)), (((List.map (idT) (mval u3 y_2.2.2.1.1)), y_2.2.2.1.2), y_2.2.2.2)))) (mval u0 u4)) (List.map (fun y_5 => y_5) (mval u2 u5)) (List.map (fun y_6 => (y_6.1, (((List.map (idT) (mval u3 y_6.2.1.1)), y_6.2.1.2), (((List.map (idT) (mval u3 y_6.2.2.1.1)), y_6.2.2.1.2), y_6.2.2.2)))) (mval u1 u6))).bind fun (r13_1, _) =>
      bif (r13_1 != 0) then
        some (.inr ((true, ((), ((), (u7, (false, ()))))), (((), ((), ((), ()))), ((u4, (u5, (u6, ()))), (u0, (u1, (u2, (u3, ()))))))))
      else
      (c_i_in R u7 0 (isub .i64 ((u5.2.2 : Nat) : Int) 1)).bind fun (r53_1, _) =>
      some (.inr (((!r53_1), ((), ((), (u7, (false, ()))))), (((), ((), ((), ()))), ((u4, (u5, (u6, ()))), (u0, (u1, (u2, (u3, ()))))))))) fun ((t18, (_, (_, (n1, (t5, _))))), ((_, (_, (_, _))), ((o1a, (o1b, (o1c, _))), (o900059, (o900057, (o900009, (o900073, _))))))) =>
  bif t18 then
    some (o900059, (o900057, (o900009, (o900073, ((0, (0, 0)), ((0, (0, 0)), ((0, (0, 0)), (false, ()))))))))
  else
  (c_i_Prog_copyOf_deep R o900059 o900057 o900009 o900073 o1a o1b o1c).bind fun (r39_1, (r39b, (r39c, (r39d, (r39e, (r39f, (x, _))))))) =>
  ok (sliceOk n1 ((o1b.2.2 : Nat) : Int) ((o1b.2.2 : Nat) : Int)) <|
  ok (sliceOk 0 n1 ((o1b.2.2 : Nat) : Int)) <|
  ok (((List.all [(o1b.1, ((o1b.2.1 + (Int.toNat n1)), ((Int.toNat ((o1b.2.2 : Nat) : Int)) - (Int.toNat n1)))), (o1b.1, (o1b.2.1, (Int.toNat n1)))] fun y_9 => (mok r39c y_9)) && true) && true) <|
  (c_slices_Concat_string_string R (List.map (fun y_10 => (List.map (fun y_11 => y_11) (mval r39c y_10))) [(o1b.1, ((o1b.2.1 + (Int.toNat n1)), ((Int.toNat ((o1b.2.2 : Nat) : Int)) - (Int.toNat n1)))), (o1b.1, (o1b.2.1, (Int.toNat n1)))])).bind fun (r55_1, _) =>
  (c_slices_Clip_string_string R r55_1).bind fun (r54_1, _) =>
  some (r39_1, (r39b, ((r39c ++ [some r54_1]), (r39d, (r39e, ((((List.length r39c) + 1), (0, (List.length r54_1))), (x, (true, ()))))))))

noncomputable def p_s_ProgShift (R : Run) (n : Nat) (u0 : List Df) (u1 : List ByteArray) (u2 : List Rl) (u3 : Int) : Option (List Df × List ByteArray × List Rl × Bool × Unit) :=
  jb (P := (Bool × Unit × Unit × Int × Bool × Unit) × (Unit × Unit × Unit × Unit) × (List Df × List ByteArray × List Rl × Unit) × Unit) (
      (c_s_ProgCode R u0 u1 u2).bind fun (r41_1, _) =>
      bif (r41_1 != 0) then
        some (.inr ((true, ((), ((), (u3, (false, ()))))), (((), ((), ((), ()))), ((u0, (u1, (u2, ()))), ()))))
      else
      bif (ilt u3 0) then
        some (.inr ((true, ((), ((), (u3, (false, ()))))), (((), ((), ((), ()))), ((u0, (u1, (u2, ()))), ()))))
      else
      some (.inr (((ile (len u1) u3), ((), ((), (u3, (false, ()))))), (((), ((), ((), ()))), ((u0, (u1, (u2, ()))), ()))))) fun ((t21, (_, (_, (n1, (t5, _))))), ((_, (_, (_, _))), ((o1a, (o1b, (o1c, _))), _))) =>
  bif t21 then
    some ([], ([], ([], (false, ()))))
  else
  (c_s_l14Own R o1a o1b o1c).bind fun (r44_1, (r44b, (r44c, _))) =>
  iter (P := (Int × Unit × Unit × Int × Unit × Bool × Unit) × (List Df × List ByteArray × List Rl × Unit) × (Unit × Unit × Unit × Unit) × (Unit × Unit × Unit × Unit) × List Df × List ByteArray × List Rl × Unit) (fun rec ((i7, (_, (_, (n1_1, (_, (t5_1, _)))))), ((o0a, (o0b, (o0c, _))), ((_, (_, (_, _))), ((_, (_, (_, _))), (o3, (o4, (o5, _))))))) =>
      bif (ilt i7 (len o0b)) then
        ok (!((len o0b) == 0)) <|
        ok (inB (irem .i64 (iadd .i64 i7 n1_1) (len o0b)) (len o0b)) <|
        ok (inB i7 (len o4)) <|
        rec (((iadd .i64 i7 1), ((), ((), (n1_1, ((), (t5_1, ())))))), ((o0a, (o0b, (o0c, ()))), (((), ((), ((), ()))), (((), ((), ((), ()))), (o3, ((List.set o4 (Int.toNat i7) (List.getD o0b (Int.toNat (irem .i64 (iadd .i64 i7 n1_1) (len o0b))) (bs []))), (o5, ())))))))
      else
      some (o3, (o4, (o5, (true, ()))))) n ((0, ((), ((), (n1, ((), (t5, ())))))), ((o1a, (o1b, (o1c, ()))), (((), ((), ((), ()))), (((), ((), ((), ()))), (r44_1, (r44b, (r44c, ())))))))

noncomputable def p_w_szProg (R : Run) (n : Nat) (u0 : List Df) (u1 : List ByteArray) (u2 : List Rl) (u3 : Int) : Option (Int × Unit) :=
  (c_w_szProgDefS R u0 u3).bind fun (r56_1, _) =>
  bif (ilt r56_1 0) then
    some ((-1), ())
  else
  (c_w_szStringS R u1 r56_1).bind fun (r57_1, _) =>
  bif (ilt r57_1 0) then
    some ((-1), ())
  else
  (c_w_szProgRelS R u2 r57_1).bind fun (r58_1, _) =>
  bif (ilt r58_1 0) then
    some ((-1), ())
  else
  some (r58_1, ())

noncomputable def p_w_toProg_deep (R : Run) (n : Nat) (u0 : Mem Dh) (u1 : Mem Rh) (u2 : Mem ByteArray) (u3 : Mem Tn) (u4 : List Df) (u5 : List ByteArray) (u6 : List Rl) : Option (Mem Dh × Mem Rh × Mem ByteArray × Mem Tn × Hd × Hd × Hd × Unit) :=
  (c_w_toProgDefS_deep R u0 u1 u2 u3 u4).bind fun (r59_1, (r59b, (r59c, (r59d, (r59e, _))))) =>
  (c_w_toStringS_deep R r59_1 r59b r59c r59d u5).bind fun (r60_1, (r60b, (r60c, (r60d, (r60e, _))))) =>
  (c_w_toProgRelS_deep R r60_1 r60b r60c r60d u6).bind fun (r61_1, (r61b, (r61c, (r61d, (r61e, _))))) =>
  some (r61_1, (r61b, (r61c, (r61d, (r59e, (r60e, (r61e, ())))))))

noncomputable def p_w_eqProg (R : Run) (n : Nat) (u0 : List Df) (u1 : List ByteArray) (u2 : List Rl) (u3 : List Df) (u4 : List ByteArray) (u5 : List Rl) : Option (Bool × Unit) :=
  (c_w_eqProgDefS R u0 u3).bind fun (r62_1, _) =>
  bif (!r62_1) then
    some (false, ())
  else
  (c_w_eqStringS R u1 u4).bind fun (r63_1, _) =>
  bif (!r63_1) then
    some (false, ())
  else
  (c_w_eqProgRelS R u2 u5).bind fun (r64_1, _) =>
  bif (!r64_1) then
    some (false, ())
  else
  some (true, ())

noncomputable def p_w_markProg_deep (R : Run) (n : Nat) (u0 : Mem Dh) (u1 : Mem Rh) (u2 : Mem ByteArray) (u3 : Mem Tn) (u4 : Hd) (u5 : Hd) (u6 : Hd) (u7 : Int) : Option (Mem Dh × Mem Rh × Mem ByteArray × Mem Tn × Int × Unit) :=
  (c_w_markProgDefS_deep R u0 u1 u2 u3 u4 u7).bind fun (r65_1, (r65b, (r65c, (r65d, (r65e, _))))) =>
  (c_w_markStringS_deep R r65_1 r65b r65c r65d u5 r65e).bind fun (r66_1, (r66b, (r66c, (r66d, (r66e, _))))) =>
  (c_w_markProgRelS_deep R r66_1 r66b r66c r66d u6 r66e).bind fun (r67_1, (r67b, (r67c, (r67d, (r67e, _))))) =>
  some (r67_1, (r67b, (r67c, (r67d, (r67e, ())))))

noncomputable def p_w_heldProg (R : Run) (n : Nat) (u0 : List Df) (u1 : List ByteArray) (u2 : List Rl) (u3 : Int) : Option (Int × Unit) :=
  (c_w_heldProgDefS R u0 u3).bind fun (r68_1, _) =>
  bif (ilt r68_1 0) then
    some ((-1), ())
  else
  (c_w_heldStringS R u1 r68_1).bind fun (r69_1, _) =>
  bif (ilt r69_1 0) then
    some ((-1), ())
  else
  (c_w_heldProgRelS R u2 r69_1).bind fun (r70_1, _) =>
  bif (ilt r70_1 0) then
    some ((-1), ())
  else
  some (r70_1, ())

noncomputable def p_slices_Index_string_string (R : Run) (n : Nat) (u0 : List ByteArray) (u1 : ByteArray) : Option (Int × Unit) :=
  iter (P := (Int × Int × ByteArray × List ByteArray × Int × Unit) × Unit) (fun rec ((t8, (t7, (v1, (s0, (t4, _))))), _) =>
      bif (ilt t8 t7) then
        ok (inB t8 (len s0)) <|
        bif (seq v1 (List.getD s0 (Int.toNat t8) (bs []))) then
          some (t8, ())
        else
        rec (((iadd .i64 t8 1), (t7, (v1, (s0, (t4, ()))))), ())
      else
      some ((-1), ())) n ((0, ((len u0), (u1, (u0, (0, ()))))), ())

noncomputable def p_slices_Contains_string_string (R : Run) (n : Nat) (u0 : List ByteArray) (u1 : ByteArray) : Option (Bool × Unit) :=
  (c_slices_Index_string_string R u0 u1).bind fun (r35_1, _) =>
  some ((ile 0 r35_1), ())

noncomputable def p_i_Prog_namesOf (R : Run) (n : Nat) (u0 : List Df) (u1 : List ByteArray) (u2 : List Rl) : Option (List ByteArray × Unit) :=
  iter (P := (Int × Int × List Df × Unit × Unit × Unit × Unit) × List ByteArray × (List Df × List ByteArray × List Rl × Unit) × Unit) (fun rec ((t9, (t8, (t7, (_, (_, (_, _)))))), (o0, ((o1a, (o1b, (o1c, _))), _))) =>
      bif (ilt t9 t8) then
        ok (inB t9 (len t7)) <|
        ok (aok (o0 ++ [(List.getD t7 (Int.toNat t9) dDf).1]) 16) <|
        rec (((iadd .i64 t9 1), (t8, (t7, ((), ((), ((), ())))))), ((o0 ++ [(List.getD t7 (Int.toNat t9) dDf).1]), ((o1a, (o1b, (o1c, ()))), ())))
      else
      ok (aok (o0 ++ o1b) 16) <|
      some ((o0 ++ o1b), ())) n ((0, ((len u0), (u0, ((), ((), ((), ())))))), ([], ((u0, (u1, (u2, ()))), ())))

noncomputable def p_i_Prog_copyOf_deep (R : Run) (n : Nat) (u0 : Mem Dh) (u1 : Mem Rh) (u2 : Mem ByteArray) (u3 : Mem Tn) (u4 : Hd) (u5 : Hd) (u6 : Hd) : Option (Mem Dh × Mem Rh × Mem ByteArray × Mem Tn × Hd × Hd × Hd × Unit) :=
  (c_i_clone_impl_ProgDef_deep R u0 u1 u2 u3 u4).bind fun (r84_1, (r84b, (r84c, (r84d, (r84e, _))))) =>
  ok (((mok r84c u5) && true) && true) <|
  (c_i_clone_string R (List.map (fun y => y) (mval r84c u5))).bind fun (r85_1, _) =>
  (c_i_clone_impl_ProgRel_deep R r84_1 r84b r84c r84d u6).bind fun (r86_1, (r86b, (r86c, (r86d, (r86e, _))))) =>
  iter (P := (Int × Int × Hd × Unit × Unit × Unit) × (Hd × Hd × Hd × Unit) × (Unit × Unit × Unit × Unit) × Mem ByteArray × Mem Tn × Mem Rh × Mem Dh × Unit) (fun rec ((t21, (t20, (t19, (_, (_, _))))), ((o0a, (o0b, (o0c, _))), ((_, (_, (_, _))), (o900009, (o900073, (o900057, (o900059, _))))))) =>
      bif (ilt t21 t20) then
        ok (inB t21 ((t19.2.2 : Nat) : Int)) <|
        ok (mhit o900059 t19.1 (t19.2.1 + (Int.toNat t21))) <|
        ok (((mok o900009 (List.getD (mrow o900059 t19.1) (t19.2.1 + (Int.toNat t21)) dDh).2.1) && true) && true) <|
        (c_i_clone_string R (List.map (fun y_1 => y_1) (mval o900009 (List.getD (mrow o900059 t19.1) (t19.2.1 + (Int.toNat t21)) dDh).2.1))).bind fun (r85_2_1, _) =>
        ok (inB t21 ((o0a.2.2 : Nat) : Int)) <|
        ok (mhit o900059 o0a.1 (o0a.2.1 + (Int.toNat t21))) <|
        ok (((mok o900073 (List.getD (mrow o900059 t19.1) (t19.2.1 + (Int.toNat t21)) dDh).2.2.1.1) && true) && true) <|
        (c_i_clone_impl_TermNode R (List.map (idT) (mval o900073 (List.getD (mrow o900059 t19.1) (t19.2.1 + (Int.toNat t21)) dDh).2.2.1.1))).bind fun (r87_1, _) =>
        ok (inB t21 ((o0a.2.2 : Nat) : Int)) <|
        ok (mhit (mwr o900059 (some (List.set (mrow o900059 o0a.1) (o0a.2.1 + (Int.toNat t21)) ((List.getD (mrow o900059 o0a.1) (o0a.2.1 + (Int.toNat t21)) dDh).1, ((((List.length o900009) + 1), (0, (List.length r85_2_1))), (((List.getD (mrow o900059 o0a.1) (o0a.2.1 + (Int.toNat t21)) dDh).2.2.1.1, ()), ()))))) o0a.1) o0a.1 (o0a.2.1 + (Int.toNat t21))) <|
        rec (((iadd .i64 t21 1), (t20, (t19, ((), ((), ()))))), ((o0a, (o0b, (o0c, ()))), (((), ((), ((), ()))), ((o900009 ++ [some r85_2_1]), ((o900073 ++ [some r87_1]), (o900057, ((mwr (mwr o900059 (some (List.set (mrow o900059 o0a.1) (o0a.2.1 + (Int.toNat t21)) ((List.getD (mrow o900059 o0a.1) (o0a.2.1 + (Int.toNat t21)) dDh).1, ((((List.length o900009) + 1), (0, (List.length r85_2_1))), (((List.getD (mrow o900059 o0a.1) (o0a.2.1 + (Int.toNat t21)) dDh).2.2.1.1, ()), ()))))) o0a.1) (some (List.set (mrow (mwr o900059 (some (List.set (mrow o900059 o0a.1) (o0a.2.1 + (Int.toNat t21)) ((List.getD (mrow o900059 o0a.1) (o0a.2.1 + (Int.toNat t21)) dDh).1, ((((List.length o900009) + 1), (0, (List.length r85_2_1))), (((List.getD (mrow o900059 o0a.1) (o0a.2.1 + (Int.toNat t21)) dDh).2.2.1.1, ()), ()))))) o0a.1) o0a.1) (o0a.2.1 + (Int.toNat t21)) ((List.getD (mrow (mwr o900059 (some (List.set (mrow o900059 o0a.1) (o0a.2.1 + (Int.toNat t21)) ((List.getD (mrow o900059 o0a.1) (o0a.2.1 + (Int.toNat t21)) dDh).1, ((((List.length o900009) + 1), (0, (List.length r85_2_1))), (((List.getD (mrow o900059 o0a.1) (o0a.2.1 + (Int.toNat t21)) dDh).2.2.1.1, ()), ()))))) o0a.1) o0a.1) (o0a.2.1 + (Int.toNat t21)) dDh).1, ((List.getD (mrow (mwr o900059 (some (List.set (mrow o900059 o0a.1) (o0a.2.1 + (Int.toNat t21)) ((List.getD (mrow o900059 o0a.1) (o0a.2.1 + (Int.toNat t21)) dDh).1, ((((List.length o900009) + 1), (0, (List.length r85_2_1))), (((List.getD (mrow o900059 o0a.1) (o0a.2.1 + (Int.toNat t21)) dDh).2.2.1.1, ()), ()))))) o0a.1) o0a.1) (o0a.2.1 + (Int.toNat t21)) dDh).2.1, (((((List.length o900073) + 1), (0, (List.length r87_1))), ()), ()))))) o0a.1), ())))))))
      else
      iter (P := (Int × Int × Hd × Unit × Unit × Unit) × (Hd × Hd × Hd × Unit) × (Unit × Unit × Unit × Unit) × Mem ByteArray × Mem Tn × Mem Rh × Mem Dh × Unit) (fun rec_1 ((t48, (t47, (t46, (_, (_, _))))), ((o0a_1, (o0b_1, (o0c_1, _))), ((_, (_, (_, _))), (o900009_1, (o900073_1, (o900057_1, (o900059_1, _))))))) =>
          bif (ilt t48 t47) then
            ok (inB t48 ((t46.2.2 : Nat) : Int)) <|
            ok (mhit o900057_1 t46.1 (t46.2.1 + (Int.toNat t48))) <|
            ok (((mok o900073_1 (List.getD (mrow o900057_1 t46.1) (t46.2.1 + (Int.toNat t48)) dRh).2.1.1) && true) && true) <|
            (c_i_clone_impl_TermNode R (List.map (idT) (mval o900073_1 (List.getD (mrow o900057_1 t46.1) (t46.2.1 + (Int.toNat t48)) dRh).2.1.1))).bind fun (r87_2_1, _) =>
            ok (inB t48 ((o0c_1.2.2 : Nat) : Int)) <|
            ok (mhit o900057_1 o0c_1.1 (o0c_1.2.1 + (Int.toNat t48))) <|
            ok (((mok (o900073_1 ++ [some r87_2_1]) (List.getD (mrow o900057_1 t46.1) (t46.2.1 + (Int.toNat t48)) dRh).2.2.1.1) && true) && true) <|
            (c_i_clone_impl_TermNode R (List.map (idT) (mval (o900073_1 ++ [some r87_2_1]) (List.getD (mrow o900057_1 t46.1) (t46.2.1 + (Int.toNat t48)) dRh).2.2.1.1))).bind fun (r87_3_1, _) =>
            ok (inB t48 ((o0c_1.2.2 : Nat) : Int)) <|
            ok (mhit (mwr o900057_1 (some (List.set (mrow o900057_1 o0c_1.1) (o0c_1.2.1 + (Int.toNat t48)) ((List.getD (mrow o900057_1 o0c_1.1) (o0c_1.2.1 + (Int.toNat t48)) dRh).1, (((((List.length o900073_1) + 1), (0, (List.length r87_2_1))), ()), (((List.getD (mrow o900057_1 o0c_1.1) (o0c_1.2.1 + (Int.toNat t48)) dRh).2.2.1.1, ()), ()))))) o0c_1.1) o0c_1.1 (o0c_1.2.1 + (Int.toNat t48))) <|
            rec_1 (((iadd .i64 t48 1), (t47, (t46, ((), ((), ()))))), ((o0a_1, (o0b_1, (o0c_1, ()))), (((), ((), ((), ()))), (o900009_1, (((o900073_1 ++ [some r87_2_1]) ++ [some r87_3_1]), ((mwr (mwr o900057_1 (some (List.set (mrow o900057_1 o0c_1.1) (o0c_1.2.1 + (Int.toNat t48)) ((List.getD (mrow o900057_1 o0c_1.1) (o0c_1.2.1 + (Int.toNat t48)) dRh).1, (((((List.length o900073_1) + 1), (0, (List.length r87_2_1))), ()), (((List.getD (mrow o900057_1 o0c_1.1) (o0c_1.2.1 + (Int.toNat t48)) dRh).2.2.1.1, ()), ()))))) o0c_1.1) (some (List.set (mrow (mwr o900057_1 (some (List.set (mrow o900057_1 o0c_1.1) (o0c_1.2.1 + (Int.toNat t48)) ((List.getD (mrow o900057_1 o0c_1.1) (o0c_1.2.1 + (Int.toNat t48)) dRh).1, (((((List.length o900073_1) + 1), (0, (List.length r87_2_1))), ()), (((List.getD (mrow o900057_1 o0c_1.1) (o0c_1.2.1 + (Int.toNat t48)) dRh).2.2.1.1, ()), ()))))) o0c_1.1) o0c_1.1) (o0c_1.2.1 + (Int.toNat t48)) ((List.getD (mrow (mwr o900057_1 (some (List.set (mrow o900057_1 o0c_1.1) (o0c_1.2.1 + (Int.toNat t48)) ((List.getD (mrow o900057_1 o0c_1.1) (o0c_1.2.1 + (Int.toNat t48)) dRh).1, (((((List.length o900073_1) + 1), (0, (List.length r87_2_1))), ()), (((List.getD (mrow o900057_1 o0c_1.1) (o0c_1.2.1 + (Int.toNat t48)) dRh).2.2.1.1, ()), ()))))) o0c_1.1) o0c_1.1) (o0c_1.2.1 + (Int.toNat t48)) dRh).1, (((List.getD (mrow (mwr o900057_1 (some (List.set (mrow o900057_1 o0c_1.1) (o0c_1.2.1 + (Int.toNat t48)) ((List.getD (mrow o900057_1 o0c_1.1) (o0c_1.2.1 + (Int.toNat t48)) dRh).1, (((((List.length o900073_1) + 1), (0, (List.length r87_2_1))), ()), (((List.getD (mrow o900057_1 o0c_1.1) (o0c_1.2.1 + (Int.toNat t48)) dRh).2.2.1.1, ()), ()))))) o0c_1.1) o0c_1.1) (o0c_1.2.1 + (Int.toNat t48)) dRh).2.1.1, ()), (((((List.length (o900073_1 ++ [some r87_2_1])) + 1), (0, (List.length r87_3_1))), ()), ()))))) o0c_1.1), (o900059_1, ())))))))
          else
          some (o900059_1, (o900057_1, (o900009_1, (o900073_1, (o0a_1, (o0b_1, (o0c_1, ())))))))) n ((0, (((o0c.2.2 : Nat) : Int), (o0c, ((), ((), ()))))), ((o0a, (o0b, (o0c, ()))), (((), ((), ((), ()))), (o900009, (o900073, (o900057, (o900059, ())))))))) n ((0, (((r84e.2.2 : Nat) : Int), (r84e, ((), ((), ()))))), ((r84e, ((((List.length r86c) + 1), (0, (List.length r85_1))), (r86e, ()))), (((), ((), ((), ()))), ((r86c ++ [some r85_1]), (r86d, (r86b, (r86_1, ())))))))

noncomputable def p_s_l12Find (R : Run) (n : Nat) (u0 : List ByteArray) (u1 : ByteArray) : Option (Int × Unit) :=
  iter (P := (Int × List ByteArray × ByteArray × Int × Unit) × Unit) (fun rec ((i5, (l0, (s1, (t4, _)))), _) =>
      bif (ilt i5 (len l0)) then
        ok (inB i5 (len l0)) <|
        bif (seq (List.getD l0 (Int.toNat i5) (bs [])) s1) then
          some (i5, ())
        else
        rec (((iadd .i64 i5 1), (l0, (s1, (t4, ())))), ())
      else
      some ((-1), ())) n ((0, (u0, (u1, (0, ())))), ())

noncomputable def p_s_ProgCode (R : Run) (n : Nat) (u0 : List Df) (u1 : List ByteArray) (u2 : List Rl) : Option (Int × Unit) :=
  (c_s_l13Shape R u0 u1 u2).bind fun (r88_1, _) =>
  iter (P := (Int × Unit × Int × Int × Unit) × (List Df × List ByteArray × List Rl × Unit) × Mem Bool × Unit) (fun rec ((i4, (_, (c3, (t2, _)))), ((o0a, (o0b, (o0c, _))), (o900004, _))) =>
      jb (P := (Bool × Unit × Int × Int × Int × Unit) × (List Df × List ByteArray × List Rl × Unit) × Mem Bool × Unit) (
          bif (ilt i4 (len o0a)) then
            some (.inr (((c3 == 0), ((), (i4, (c3, (t2, ()))))), ((o0a, (o0b, (o0c, ()))), (o900004, ()))))
          else
          some (.inr ((false, ((), (i4, (c3, (t2, ()))))), ((o0a, (o0b, (o0c, ()))), (o900004, ()))))) fun ((t18, (_, (i4_1, (c3_1, (t2_1, _))))), ((o0a_1, (o0b_1, (o0c_1, _))), (o900004_1, _))) =>
      bif t18 then
        ok (inB i4_1 (len o0a_1)) <|
        (c_s_l13DefCode R o0a_1 o0b_1 o0c_1 (List.getD o0a_1 (Int.toNat i4_1) dDf).1 (List.getD o0a_1 (Int.toNat i4_1) dDf).2.1 (List.getD o0a_1 (Int.toNat i4_1) dDf).2.2.1.1).bind fun (r89_1, _) =>
        rec (((iadd .i64 i4_1 1), ((), (r89_1, (t2_1, ())))), ((o0a_1, (o0b_1, (o0c_1, ()))), (o900004_1, ())))
      else
      iter (P := (Int × Unit × Int × Int × Unit) × (List Df × List ByteArray × List Rl × Unit) × Mem Bool × Unit) (fun rec_1 ((i5, (_, (c3_2, (t2_2, _)))), ((o0a_2, (o0b_2, (o0c_2, _))), (o900004_2, _))) =>
          jb (P := (Bool × Unit × Int × Int × Int × Unit) × (List Df × List ByteArray × List Rl × Unit) × Mem Bool × Unit) (
              bif (ilt i5 (len o0c_2)) then
                some (.inr (((c3_2 == 0), ((), (i5, (c3_2, (t2_2, ()))))), ((o0a_2, (o0b_2, (o0c_2, ()))), (o900004_2, ()))))
              else
              some (.inr ((false, ((), (i5, (c3_2, (t2_2, ()))))), ((o0a_2, (o0b_2, (o0c_2, ()))), (o900004_2, ()))))) fun ((t36, (_, (i5_1, (c3_3, (t2_3, _))))), ((o0a_3, (o0b_3, (o0c_3, _))), (o900004_3, _))) =>
          bif t36 then
            ok (inB i5_1 (len o0c_3)) <|
            (c_s_l13RelCode R o0a_3 o0b_3 o0c_3 (List.getD o0c_3 (Int.toNat i5_1) dRl).1 (List.getD o0c_3 (Int.toNat i5_1) dRl).2.1.1 (List.getD o0c_3 (Int.toNat i5_1) dRl).2.2.1.1).bind fun (r90_1, _) =>
            rec_1 (((iadd .i64 i5_1 1), ((), (r90_1, (t2_3, ())))), ((o0a_3, (o0b_3, (o0c_3, ()))), (o900004_3, ())))
          else
          bif (c3_3 != 0) then
            some (c3_3, ())
          else
          (c_s_l13Table_k778 R o900004_3 o0a_3 o0b_3 o0c_3).bind fun (r91_1, (r91b, _)) =>
          iter (P := (Int × List Hd × Unit × Int × Unit) × (List Df × List ByteArray × List Rl × Unit) × Mem Bool × Unit) (fun rec_2 ((i7, (table6, (_, (t2_4, _)))), ((o0a_4, (o0b_4, (o0c_4, _))), (o900004_4, _))) =>
              bif (ilt i7 (len table6)) then
                ok (inB i7 (len table6)) <|
                ok (inB i7 (((List.getD table6 (Int.toNat i7) (0, (0, 0))).2.2 : Nat) : Int)) <|
                ok (mhit o900004_4 (List.getD table6 (Int.toNat i7) (0, (0, 0))).1 ((List.getD table6 (Int.toNat i7) (0, (0, 0))).2.1 + (Int.toNat i7))) <|
                bif (List.getD (mrow o900004_4 (List.getD table6 (Int.toNat i7) (0, (0, 0))).1) ((List.getD table6 (Int.toNat i7) (0, (0, 0))).2.1 + (Int.toNat i7)) false) then
                  some (10, ())
                else
                rec_2 (((iadd .i64 i7 1), (table6, ((), (t2_4, ())))), ((o0a_4, (o0b_4, (o0c_4, ()))), (o900004_4, ())))
              else
              jb (P := (Bool × Int × Unit) × Mem Bool × Unit) (
                  bif ((len o0b_4) == 0) then
                    some (.inr ((true, (t2_4, ())), (o900004_4, ())))
                  else
                  some (.inr ((((len o0c_4) == 0), (t2_4, ())), (o900004_4, ())))) fun ((t73, (t2_5, _)), (o900004_5, _)) =>
              bif t73 then
                some (11, ())
              else
              some (0, ())) n ((0, (r91b, ((), (t2_3, ())))), ((o0a_3, (o0b_3, (o0c_3, ()))), (r91_1, ())))) n ((0, ((), (c3_1, (t2_1, ())))), ((o0a_1, (o0b_1, (o0c_1, ()))), (o900004_1, ())))) n ((0, ((), (r88_1, (0, ())))), ((u0, (u1, (u2, ()))), ([], ())))

noncomputable def p_s_LangNameOk (R : Run) (n : Nat) (u0 : ByteArray) : Option (Bool × Unit) :=
  jb (P := (Bool × Unit) × Unit) (
      (c_s_l11Plain R u0).bind fun (r92_1, _) =>
      bif r92_1 then
        (c_s_l11Word R u0).bind fun (r93_1, _) =>
        some (.inr (((!r93_1), ()), ()))
      else
      some (.inr ((false, ()), ()))) fun ((t2, _), _) =>
  some (t2, ())

noncomputable def p_s_l14Own (R : Run) (n : Nat) (u0 : List Df) (u1 : List ByteArray) (u2 : List Rl) : Option (List Df × List ByteArray × List Rl × Unit) :=
  (c_s_l14Copy R u1).bind fun (r76_1, _) =>
  iter (P := (Int × Unit × Unit × Unit × Unit) × (List Df × List ByteArray × List Rl × Unit) × (Unit × Unit × Unit × Unit) × (Unit × Unit × Unit × Unit) × List Df × List ByteArray × Unit) (fun rec ((i4, (_, (_, (_, _)))), ((o0a, (o0b, (o0c, _))), ((_, (_, (_, _))), ((_, (_, (_, _))), (o3, (o4, _)))))) =>
      bif (ilt i4 (len o0a)) then
        ok (inB i4 (len o0a)) <|
        ok (inB i4 (len o0a)) <|
        (c_s_l14Copy R (List.getD o0a (Int.toNat i4) dDf).2.1).bind fun (r76_2_1, _) =>
        ok (inB i4 (len o0a)) <|
        (c_s_l14Same R (List.getD o0a (Int.toNat i4) dDf).2.2.1.1).bind fun (r94_1, _) =>
        ok (aok (o3 ++ [((List.getD o0a (Int.toNat i4) dDf).1, (r76_2_1, ((r94_1, ()), ())))]) 64) <|
        rec (((iadd .i64 i4 1), ((), ((), ((), ())))), ((o0a, (o0b, (o0c, ()))), (((), ((), ((), ()))), (((), ((), ((), ()))), ((o3 ++ [((List.getD o0a (Int.toNat i4) dDf).1, (r76_2_1, ((r94_1, ()), ())))]), (o4, ()))))))
      else
      iter (P := (Int × Unit × Unit × Unit × Unit) × (List Df × List ByteArray × List Rl × Unit) × (Unit × Unit × Unit × Unit) × (Unit × Unit × Unit × Unit) × List Df × List ByteArray × List Rl × Unit) (fun rec_1 ((i5, (_, (_, (_, _)))), ((o0a_1, (o0b_1, (o0c_1, _))), ((_, (_, (_, _))), ((_, (_, (_, _))), (o3_1, (o4_1, (o5, _))))))) =>
          bif (ilt i5 (len o0c_1)) then
            ok (inB i5 (len o0c_1)) <|
            ok (inB i5 (len o0c_1)) <|
            (c_s_l14Same R (List.getD o0c_1 (Int.toNat i5) dRl).2.1.1).bind fun (r94_2_1, _) =>
            ok (inB i5 (len o0c_1)) <|
            (c_s_l14Same R (List.getD o0c_1 (Int.toNat i5) dRl).2.2.1.1).bind fun (r94_3_1, _) =>
            ok (aok (o5 ++ [((List.getD o0c_1 (Int.toNat i5) dRl).1, ((r94_2_1, ()), ((r94_3_1, ()), ())))]) 56) <|
            rec_1 (((iadd .i64 i5 1), ((), ((), ((), ())))), ((o0a_1, (o0b_1, (o0c_1, ()))), (((), ((), ((), ()))), (((), ((), ((), ()))), (o3_1, (o4_1, ((o5 ++ [((List.getD o0c_1 (Int.toNat i5) dRl).1, ((r94_2_1, ()), ((r94_3_1, ()), ())))]), ())))))))
          else
          some (o3_1, (o4_1, (o5, ())))) n ((0, ((), ((), ((), ())))), ((o0a, (o0b, (o0c, ()))), (((), ((), ((), ()))), (((), ((), ((), ()))), (o3, (o4, ([], ())))))))) n ((0, ((), ((), ((), ())))), ((u0, (u1, (u2, ()))), (((), ((), ((), ()))), (((), ((), ((), ()))), ([], (r76_1, ()))))))

noncomputable def p_i_Prog_formed (R : Run) (n : Nat) (u0 : List Df) (u1 : List ByteArray) (u2 : List Rl) : Option (Bool × Unit) :=
  iter (P := (Int × Int × List Df × Unit × Bool × Unit) × (List Df × List ByteArray × List Rl × Unit) × Unit) (fun rec ((t10, (t9, (t8, (_, (t2, _))))), ((o0a, (o0b, (o0c, _))), _)) =>
      bif (ilt t10 t9) then
        ok (inB t10 (len t8)) <|
        jb (P := (Bool × Int × Int × List Df × Unit × Bool × Unit) × (List Df × List ByteArray × List Rl × Unit) × Unit) (
            (c_i_TermOk R (List.getD t8 (Int.toNat t10) dDf).2.2.1.1).bind fun (r95_1, _) =>
            bif (!r95_1) then
              some (.inr ((true, (t10, (t9, (t8, ((), (t2, ())))))), ((o0a, (o0b, (o0c, ()))), ())))
            else
            (c_i_LangNameOk R (List.getD t8 (Int.toNat t10) dDf).1).bind fun (r36_1, _) =>
            bif (!r36_1) then
              some (.inr ((true, (t10, (t9, (t8, ((), (t2, ())))))), ((o0a, (o0b, (o0c, ()))), ())))
            else
            (c_slices_ContainsFunc_string_string_i_Prog_formed_1 R (List.getD t8 (Int.toNat t10) dDf).2.1).bind fun (r96_1, _) =>
            some (.inr ((r96_1, (t10, (t9, (t8, ((), (t2, ())))))), ((o0a, (o0b, (o0c, ()))), ())))) fun ((t28, (t10_1, (t9_1, (t8_1, (_, (t2_1, _)))))), ((o0a_1, (o0b_1, (o0c_1, _))), _)) =>
        bif t28 then
          some (false, ())
        else
        rec (((iadd .i64 t10_1 1), (t9_1, (t8_1, ((), (t2_1, ()))))), ((o0a_1, (o0b_1, (o0c_1, ()))), ()))
      else
      iter (P := (Int × Int × List Rl × Unit × Bool × Unit) × (List Df × List ByteArray × List Rl × Unit) × Unit) (fun rec_1 ((t33, (t32, (t31, (_, (t2_2, _))))), ((o0a_2, (o0b_2, (o0c_2, _))), _)) =>
          bif (ilt t33 t32) then
            ok (inB t33 (len t31)) <|
            jb (P := (Bool × Int × Int × List Rl × Unit × Bool × Unit) × (List Df × List ByteArray × List Rl × Unit) × Unit) (
                (c_i_TermOk R (List.getD t31 (Int.toNat t33) dRl).2.1.1).bind fun (r95_2_1, _) =>
                bif (!r95_2_1) then
                  some (.inr ((true, (t33, (t32, (t31, ((), (t2_2, ())))))), ((o0a_2, (o0b_2, (o0c_2, ()))), ())))
                else
                (c_i_TermOk R (List.getD t31 (Int.toNat t33) dRl).2.2.1.1).bind fun (r95_3_1, _) =>
                bif (!r95_3_1) then
                  some (.inr ((true, (t33, (t32, (t31, ((), (t2_2, ())))))), ((o0a_2, (o0b_2, (o0c_2, ()))), ())))
                else
                (c_i_in R (List.getD t31 (Int.toNat t33) dRl).1 1 3).bind fun (r53_1, _) =>
                some (.inr (((!r53_1), (t33, (t32, (t31, ((), (t2_2, ())))))), ((o0a_2, (o0b_2, (o0c_2, ()))), ())))) fun ((t52, (t33_1, (t32_1, (t31_1, (_, (t2_3, _)))))), ((o0a_3, (o0b_3, (o0c_3, _))), _)) =>
            bif t52 then
              some (false, ())
            else
            rec_1 (((iadd .i64 t33_1 1), (t32_1, (t31_1, ((), (t2_3, ()))))), ((o0a_3, (o0b_3, (o0c_3, ()))), ()))
          else
          (c_slices_ContainsFunc_string_string_i_Prog_formed_2 R o0b_2).bind fun (r96_2_1, _) =>
          some ((!r96_2_1), ())) n ((0, ((len o0c), (o0c, ((), (t2, ()))))), ((o0a, (o0b, (o0c, ()))), ()))) n ((0, ((len u0), (u0, ((), (false, ()))))), ((u0, (u1, (u2, ()))), ()))

noncomputable def p_i_Prog_many (R : Run) (n : Nat) (u0 : List Df) (u1 : List ByteArray) (u2 : List Rl) : Option (Bool × Unit) :=
  jb (P := (Bool × Unit) × Unit) (
      bif (ilt 12 (len u0)) then
        some (.inr ((true, ()), ()))
      else
      bif (ilt 6 (len u1)) then
        some (.inr ((true, ()), ()))
      else
      bif (ilt 12 (len u2)) then
        some (.inr ((true, ()), ()))
      else
      (c_slices_ContainsFunc_impl_ProgDef_impl_ProgDef_i_Prog_many_1 R u0).bind fun (r99_1, _) =>
      some (.inr ((r99_1, ()), ()))) fun ((t2, _), _) =>
  some (t2, ())

noncomputable def p_i_Prog_again (R : Run) (n : Nat) (u0 : List Df) (u1 : List ByteArray) (u2 : List Rl) : Option (Bool × Unit) :=
  jb (P := (Bool × Unit) × Unit) (
      (c_i_Prog_namesOf R u0 u1 u2).bind fun (r38_1, _) =>
      (c_i_twice R r38_1).bind fun (r101_1, _) =>
      bif r101_1 then
        some (.inr ((true, ()), ()))
      else
      (c_slices_ContainsFunc_impl_ProgDef_impl_ProgDef_i_Prog_again_1 R u0).bind fun (r99_1, _) =>
      some (.inr ((r99_1, ()), ()))) fun ((t2, _), _) =>
  some (t2, ())

noncomputable def p_i_Prog_defCode (R : Run) (n : Nat) (u0 : List Df) (u1 : List ByteArray) (u2 : List Rl) (u3 : ByteArray) (u4 : List ByteArray) (u5 : List Tn) : Option (Int × Unit) :=
  (c_slices_ContainsFunc_string_string_i_Prog_defCode_1 R u4 u0 u1 u2).bind fun (r96_1, (r96b, (r96c, (r96d, _)))) =>
  bif r96_1 then
    some (7, ())
  else
  (c_i_Prog_fits R r96b r96c r96d u5 u4).bind fun (r104_1, _) =>
  some (r104_1, ())

noncomputable def p_i_Prog_relCode (R : Run) (n : Nat) (u0 : List Df) (u1 : List ByteArray) (u2 : List Rl) (u3 : Int) (u4 : List Tn) (u5 : List Tn) : Option (Int × Unit) :=
  (c_slices_Concat_impl_TermNode_impl_TermNode R [u4, u5]).bind fun (r105_1, _) =>
  (c_i_Prog_fits R u0 u1 u2 r105_1 u1).bind fun (r104_1, _) =>
  some (r104_1, ())

noncomputable def p_i_Prog_loop (R : Run) (n : Nat) (u0 : List Df) (u1 : List ByteArray) (u2 : List Rl) : Option (Int × Unit) :=
  iter (P := (Int × Int × Unit × Int × Unit) × (List Df × List ByteArray × List Rl × Unit) × Unit) (fun rec ((t7, (t6, (_, (t2, _)))), ((o0a, (o0b, (o0c, _))), _)) =>
      bif (ilt t7 t6) then
        (c_i_Prog_uses R o0a o0b o0c t7).bind fun (r106_1, _) =>
        ok (inB t7 (len r106_1)) <|
        bif (List.getD r106_1 (Int.toNat t7) false) then
          some (t7, ())
        else
        rec (((iadd .i64 t7 1), (t6, ((), (t2, ())))), ((o0a, (o0b, (o0c, ()))), ()))
      else
      some ((-1), ())) n ((0, ((len u0), ((), (0, ())))), ((u0, (u1, (u2, ()))), ()))

noncomputable def p_i_in (R : Run) (n : Nat) (u0 : Int) (u1 : Int) (u2 : Int) : Option (Bool × Unit) :=
  jb (P := (Bool × Unit) × Unit) (
      bif (ile u1 u0) then
        some (.inr (((ile u0 u2), ()), ()))
      else
      some (.inr ((false, ()), ()))) fun ((t6, _), _) =>
  some (t6, ())

noncomputable def p_slices_Clip_string_string (R : Run) (n : Nat) (u0 : List ByteArray) : Option (List ByteArray × Unit) :=
  ok ((sliceOk 0 (len u0) (len u0)) && (ile (len u0) (len u0))) <|
  some ((List.drop (Int.toNat 0) (List.take (Int.toNat (len u0)) u0)), ())

noncomputable def p_slices_Concat_string_string (R : Run) (n : Nat) (u0 : List (List ByteArray)) : Option (List ByteArray × Unit) :=
  iter (P := (Int × Int × List (List ByteArray) × Int × List (List ByteArray) × Unit × Unit) × Unit) (fun rec ((t11, (t10, (t9, (size3, (slices0, (_, _)))))), _) =>
      bif (ilt t11 t10) then
        jb (P := (Int × Int × List (List ByteArray) × Int × List (List ByteArray) × Unit × Unit) × Unit) (
            ok (inB t11 (len t9)) <|
            bif (ilt (iadd .i64 size3 (len (List.getD t9 (Int.toNat t11) []))) 0) then
              none
            else
            some (.inr ((t11, (t10, (t9, ((iadd .i64 size3 (len (List.getD t9 (Int.toNat t11) []))), (slices0, ((), ())))))), ()))) fun ((t11_1, (t10_1, (t9_1, (size3_1, (slices0_1, (_, _)))))), _) =>
        rec (((iadd .i64 t11_1 1), (t10_1, (t9_1, (size3_1, (slices0_1, ((), ())))))), ())
      else
      (c_slices_Grow_string_string R [] size3).bind fun (r107_1, _) =>
      iter (P := (Int × Int × List (List ByteArray) × Unit × Unit × Unit) × List ByteArray × Unit) (fun rec_1 ((t27, (t26, (t25, (_, (_, _))))), (o0, _)) =>
          bif (ilt t27 t26) then
            ok (inB t27 (len t25)) <|
            ok (aok (o0 ++ (List.getD t25 (Int.toNat t27) [])) 16) <|
            rec_1 (((iadd .i64 t27 1), (t26, (t25, ((), ((), ()))))), ((o0 ++ (List.getD t25 (Int.toNat t27) [])), ()))
          else
          some (o0, ())) n ((0, ((len slices0), (slices0, ((), ((), ()))))), (r107_1, ()))) n ((0, ((len u0), (u0, (0, (u0, ((), ())))))), ())

noncomputable def p_w_szProgDefS (R : Run) (n : Nat) (u0 : List Df) (u1 : Int) : Option (Int × Unit) :=
  bif (ilt (isub .i64 u1 (len u0)) 0) then
    some ((-1), ())
  else
  iter (P := (Int × List Df × Int × Int × Unit) × Unit) (fun rec ((i5, (a0, (left1, (t4, _)))), _) =>
      bif (ilt i5 (len a0)) then
        ok (inB i5 (len a0)) <|
        (c_w_szProgDef R (List.getD a0 (Int.toNat i5) dDf).1 (List.getD a0 (Int.toNat i5) dDf).2.1 (List.getD a0 (Int.toNat i5) dDf).2.2.1.1 left1).bind fun (r108_1, _) =>
        bif (ilt r108_1 0) then
          some ((-1), ())
        else
        rec (((iadd .i64 i5 1), (a0, (r108_1, (t4, ())))), ())
      else
      some (left1, ())) n ((0, (u0, ((isub .i64 u1 (len u0)), (0, ())))), ())

noncomputable def p_w_szStringS (R : Run) (n : Nat) (u0 : List ByteArray) (u1 : Int) : Option (Int × Unit) :=
  bif (ilt (isub .i64 u1 (len u0)) 0) then
    some ((-1), ())
  else
  iter (P := (Int × List ByteArray × Int × Int × Unit) × Unit) (fun rec ((i5, (a0, (left1, (t4, _)))), _) =>
      bif (ilt i5 (len a0)) then
        ok (inB i5 (len a0)) <|
        bif (ilt (isub .i64 left1 (slen (List.getD a0 (Int.toNat i5) (bs [])))) 0) then
          some ((-1), ())
        else
        rec (((iadd .i64 i5 1), (a0, ((isub .i64 left1 (slen (List.getD a0 (Int.toNat i5) (bs [])))), (t4, ())))), ())
      else
      some (left1, ())) n ((0, (u0, ((isub .i64 u1 (len u0)), (0, ())))), ())

noncomputable def p_w_szProgRelS (R : Run) (n : Nat) (u0 : List Rl) (u1 : Int) : Option (Int × Unit) :=
  bif (ilt (isub .i64 u1 (len u0)) 0) then
    some ((-1), ())
  else
  iter (P := (Int × List Rl × Int × Int × Unit) × Unit) (fun rec ((i5, (a0, (left1, (t4, _)))), _) =>
      bif (ilt i5 (len a0)) then
        ok (inB i5 (len a0)) <|
        (c_w_szProgRel R (List.getD a0 (Int.toNat i5) dRl).1 (List.getD a0 (Int.toNat i5) dRl).2.1.1 (List.getD a0 (Int.toNat i5) dRl).2.2.1.1 left1).bind fun (r109_1, _) =>
        bif (ilt r109_1 0) then
          some ((-1), ())
        else
        rec (((iadd .i64 i5 1), (a0, (r109_1, (t4, ())))), ())
      else
      some (left1, ())) n ((0, (u0, ((isub .i64 u1 (len u0)), (0, ())))), ())

noncomputable def p_w_toProgDefS_deep (R : Run) (n : Nat) (u0 : Mem Dh) (u1 : Mem Rh) (u2 : Mem ByteArray) (u3 : Mem Tn) (u4 : List Df) : Option (Mem Dh × Mem Rh × Mem ByteArray × Mem Tn × Hd × Unit) :=
  ok (mkOk (len u4) (len u4) 64) <|
  iter (P := (Int × List Df × Unit × Unit × Unit) × List Dh × Mem Dh × Mem Rh × Mem ByteArray × Mem Tn × Unit) (fun rec ((i4, (a0, (_, (_, _)))), (o0, (o900059, (o900057, (o900009, (o900073, _)))))) =>
      bif (ilt i4 (len a0)) then
        ok (inB i4 (len a0)) <|
        (c_w_toProgDef_deep R o900059 o900057 o900009 o900073 (List.getD a0 (Int.toNat i4) dDf).1 (List.getD a0 (Int.toNat i4) dDf).2.1 (List.getD a0 (Int.toNat i4) dDf).2.2.1.1).bind fun (r110_1, (r110b, (r110c, (r110d, (r110e, (r110f, (x, _))))))) =>
        ok (inB i4 (len o0)) <|
        rec (((iadd .i64 i4 1), (a0, ((), ((), ())))), ((List.set o0 (Int.toNat i4) (r110e, (r110f, ((x, ()), ())))), (r110_1, (r110b, (r110c, (r110d, ()))))))
      else
      some ((o900059 ++ [some o0]), (o900057, (o900009, (o900073, ((((List.length o900059) + 1), (0, (List.length o0))), ())))))) n ((0, (u4, ((), ((), ())))), ((List.replicate (Int.toNat (len u4)) dDh), (u0, (u1, (u2, (u3, ()))))))

noncomputable def p_w_toStringS_deep (R : Run) (n : Nat) (u0 : Mem Dh) (u1 : Mem Rh) (u2 : Mem ByteArray) (u3 : Mem Tn) (u4 : List ByteArray) : Option (Mem Dh × Mem Rh × Mem ByteArray × Mem Tn × Hd × Unit) :=
  ok (mkOk (len u4) (len u4) 16) <|
  iter (P := (Int × List ByteArray × Unit × Unit × Unit) × List ByteArray × Mem Dh × Mem Rh × Mem ByteArray × Mem Tn × Unit) (fun rec ((i4, (a0, (_, (_, _)))), (o0, (o900059, (o900057, (o900009, (o900073, _)))))) =>
      bif (ilt i4 (len a0)) then
        ok (inB i4 (len a0)) <|
        ok (inB i4 (len o0)) <|
        rec (((iadd .i64 i4 1), (a0, ((), ((), ())))), ((List.set o0 (Int.toNat i4) (List.getD a0 (Int.toNat i4) (bs []))), (o900059, (o900057, (o900009, (o900073, ()))))))
      else
      some (o900059, (o900057, ((o900009 ++ [some o0]), (o900073, ((((List.length o900009) + 1), (0, (List.length o0))), ())))))) n ((0, (u4, ((), ((), ())))), ((List.replicate (Int.toNat (len u4)) (bs [])), (u0, (u1, (u2, (u3, ()))))))

noncomputable def p_w_toProgRelS_deep (R : Run) (n : Nat) (u0 : Mem Dh) (u1 : Mem Rh) (u2 : Mem ByteArray) (u3 : Mem Tn) (u4 : List Rl) : Option (Mem Dh × Mem Rh × Mem ByteArray × Mem Tn × Hd × Unit) :=
  ok (mkOk (len u4) (len u4) 56) <|
  iter (P := (Int × List Rl × Unit × Unit × Unit) × List Rh × Mem Dh × Mem Rh × Mem ByteArray × Mem Tn × Unit) (fun rec ((i4, (a0, (_, (_, _)))), (o0, (o900059, (o900057, (o900009, (o900073, _)))))) =>
      bif (ilt i4 (len a0)) then
        ok (inB i4 (len a0)) <|
        (c_w_toProgRel_deep R o900059 o900057 o900009 o900073 (List.getD a0 (Int.toNat i4) dRl).1 (List.getD a0 (Int.toNat i4) dRl).2.1.1 (List.getD a0 (Int.toNat i4) dRl).2.2.1.1).bind fun (r111_1, (r111b, (r111c, (r111d, (r111e, (r111f, (x, _))))))) =>
        ok (inB i4 (len o0)) <|
        rec (((iadd .i64 i4 1), (a0, ((), ((), ())))), ((List.set o0 (Int.toNat i4) (r111e, ((r111f, ()), ((x, ()), ())))), (r111_1, (r111b, (r111c, (r111d, ()))))))
      else
      some (o900059, ((o900057 ++ [some o0]), (o900009, (o900073, ((((List.length o900057) + 1), (0, (List.length o0))), ())))))) n ((0, (u4, ((), ((), ())))), ((List.replicate (Int.toNat (len u4)) dRh), (u0, (u1, (u2, (u3, ()))))))

noncomputable def p_w_eqProgDefS (R : Run) (n : Nat) (u0 : List Df) (u1 : List Df) : Option (Bool × Unit) :=
  bif ((len u0) != (len u1)) then
    some (false, ())
  else
  iter (P := (Int × List Df × List Df × Bool × Unit) × Unit) (fun rec ((i5, (a0, (b1, (t4, _)))), _) =>
      bif (ilt i5 (len a0)) then
        ok (inB i5 (len a0)) <|
        ok (inB i5 (len b1)) <|
        (c_w_eqProgDef R (List.getD a0 (Int.toNat i5) dDf).1 (List.getD a0 (Int.toNat i5) dDf).2.1 (List.getD a0 (Int.toNat i5) dDf).2.2.1.1 (List.getD b1 (Int.toNat i5) dDf).1 (List.getD b1 (Int.toNat i5) dDf).2.1 (List.getD b1 (Int.toNat i5) dDf).2.2.1.1).bind fun (r112_1, _) =>
        bif (!r112_1) then
          some (false, ())
        else
        rec (((iadd .i64 i5 1), (a0, (b1, (t4, ())))), ())
      else
      some (true, ())) n ((0, (u0, (u1, (false, ())))), ())

noncomputable def p_w_eqStringS (R : Run) (n : Nat) (u0 : List ByteArray) (u1 : List ByteArray) : Option (Bool × Unit) :=
  bif ((len u0) != (len u1)) then
    some (false, ())
  else
  iter (P := (Int × List ByteArray × List ByteArray × Bool × Unit) × Unit) (fun rec ((i5, (a0, (b1, (t4, _)))), _) =>
      bif (ilt i5 (len a0)) then
        ok (inB i5 (len a0)) <|
        ok (inB i5 (len b1)) <|
        bif (!(seq (List.getD a0 (Int.toNat i5) (bs [])) (List.getD b1 (Int.toNat i5) (bs [])))) then
          some (false, ())
        else
        rec (((iadd .i64 i5 1), (a0, (b1, (t4, ())))), ())
      else
      some (true, ())) n ((0, (u0, (u1, (false, ())))), ())

noncomputable def p_w_eqProgRelS (R : Run) (n : Nat) (u0 : List Rl) (u1 : List Rl) : Option (Bool × Unit) :=
  bif ((len u0) != (len u1)) then
    some (false, ())
  else
  iter (P := (Int × List Rl × List Rl × Bool × Unit) × Unit) (fun rec ((i5, (a0, (b1, (t4, _)))), _) =>
      bif (ilt i5 (len a0)) then
        ok (inB i5 (len a0)) <|
        ok (inB i5 (len b1)) <|
        (c_w_eqProgRel R (List.getD a0 (Int.toNat i5) dRl).1 (List.getD a0 (Int.toNat i5) dRl).2.1.1 (List.getD a0 (Int.toNat i5) dRl).2.2.1.1 (List.getD b1 (Int.toNat i5) dRl).1 (List.getD b1 (Int.toNat i5) dRl).2.1.1 (List.getD b1 (Int.toNat i5) dRl).2.2.1.1).bind fun (r113_1, _) =>
        bif (!r113_1) then
          some (false, ())
        else
        rec (((iadd .i64 i5 1), (a0, (b1, (t4, ())))), ())
      else
      some (true, ())) n ((0, (u0, (u1, (false, ())))), ())

noncomputable def p_w_markProgDefS_deep (R : Run) (n : Nat) (u0 : Mem Dh) (u1 : Mem Rh) (u2 : Mem ByteArray) (u3 : Mem Tn) (u4 : Hd) (u5 : Int) : Option (Mem Dh × Mem Rh × Mem ByteArray × Mem Tn × Int × Unit) :=
  iter (P := (Int × Hd × Int × Int × Unit) × Mem Dh × Mem Rh × Mem ByteArray × Mem Tn × Unit) (fun rec ((i5, (a0, (k1, (t4, _)))), (o900059, (o900057, (o900009, (o900073, _))))) =>
      bif (ilt i5 ((a0.2.2 : Nat) : Int)) then
        (c_w_markText R k1).bind fun (r114_1, _) =>
        ok (inB i5 ((a0.2.2 : Nat) : Int)) <|
        ok (mhit o900059 a0.1 (a0.2.1 + (Int.toNat i5))) <|
        ok (inB i5 ((a0.2.2 : Nat) : Int)) <|
        ok (mhit (mwr o900059 (some (List.set (mrow o900059 a0.1) (a0.2.1 + (Int.toNat i5)) (r114_1, ((List.getD (mrow o900059 a0.1) (a0.2.1 + (Int.toNat i5)) dDh).2.1, (((List.getD (mrow o900059 a0.1) (a0.2.1 + (Int.toNat i5)) dDh).2.2.1.1, ()), ()))))) a0.1) a0.1 (a0.2.1 + (Int.toNat i5))) <|
        (c_w_markStringS_deep R (mwr o900059 (some (List.set (mrow o900059 a0.1) (a0.2.1 + (Int.toNat i5)) (r114_1, ((List.getD (mrow o900059 a0.1) (a0.2.1 + (Int.toNat i5)) dDh).2.1, (((List.getD (mrow o900059 a0.1) (a0.2.1 + (Int.toNat i5)) dDh).2.2.1.1, ()), ()))))) a0.1) o900057 o900009 o900073 (List.getD (mrow (mwr o900059 (some (List.set (mrow o900059 a0.1) (a0.2.1 + (Int.toNat i5)) (r114_1, ((List.getD (mrow o900059 a0.1) (a0.2.1 + (Int.toNat i5)) dDh).2.1, (((List.getD (mrow o900059 a0.1) (a0.2.1 + (Int.toNat i5)) dDh).2.2.1.1, ()), ()))))) a0.1) a0.1) (a0.2.1 + (Int.toNat i5)) dDh).2.1 (iadd .i64 k1 1)).bind fun (r66_1, (r66b, (r66c, (r66d, (r66e, _))))) =>
        ok (inB i5 ((a0.2.2 : Nat) : Int)) <|
        ok (mhit r66_1 a0.1 (a0.2.1 + (Int.toNat i5))) <|
        (c_w_markTermNodeS_deep R r66_1 r66b r66c r66d (List.getD (mrow r66_1 a0.1) (a0.2.1 + (Int.toNat i5)) dDh).2.2.1.1 r66e).bind fun (r115_1, (r115b, (r115c, (r115d, (r115e, _))))) =>
        rec (((iadd .i64 i5 1), (a0, (r115e, (t4, ())))), (r115_1, (r115b, (r115c, (r115d, ())))))
      else
      some (o900059, (o900057, (o900009, (o900073, (k1, ())))))) n ((0, (u4, (u5, (0, ())))), (u0, (u1, (u2, (u3, ())))))

noncomputable def p_w_markStringS_deep (R : Run) (n : Nat) (u0 : Mem Dh) (u1 : Mem Rh) (u2 : Mem ByteArray) (u3 : Mem Tn) (u4 : Hd) (u5 : Int) : Option (Mem Dh × Mem Rh × Mem ByteArray × Mem Tn × Int × Unit) :=
  iter (P := (Int × Hd × Int × Int × Unit) × Mem Dh × Mem Rh × Mem ByteArray × Mem Tn × Unit) (fun rec ((i5, (a0, (k1, (t4, _)))), (o900059, (o900057, (o900009, (o900073, _))))) =>
      bif (ilt i5 ((a0.2.2 : Nat) : Int)) then
        (c_w_markText R k1).bind fun (r114_1, _) =>
        ok (inB i5 ((a0.2.2 : Nat) : Int)) <|
        ok (mhit o900009 a0.1 (a0.2.1 + (Int.toNat i5))) <|
        rec (((iadd .i64 i5 1), (a0, ((iadd .i64 k1 1), (t4, ())))), (o900059, (o900057, ((mwr o900009 (some (List.set (mrow o900009 a0.1) (a0.2.1 + (Int.toNat i5)) r114_1)) a0.1), (o900073, ())))))
      else
      some (o900059, (o900057, (o900009, (o900073, (k1, ())))))) n ((0, (u4, (u5, (0, ())))), (u0, (u1, (u2, (u3, ())))))

noncomputable def p_w_markProgRelS_deep (R : Run) (n : Nat) (u0 : Mem Dh) (u1 : Mem Rh) (u2 : Mem ByteArray) (u3 : Mem Tn) (u4 : Hd) (u5 : Int) : Option (Mem Dh × Mem Rh × Mem ByteArray × Mem Tn × Int × Unit) :=
  iter (P := (Int × Hd × Int × Int × Unit) × Mem Dh × Mem Rh × Mem ByteArray × Mem Tn × Unit) (fun rec ((i5, (a0, (k1, (t4, _)))), (o900059, (o900057, (o900009, (o900073, _))))) =>
      bif (ilt i5 ((a0.2.2 : Nat) : Int)) then
        ok (inB i5 ((a0.2.2 : Nat) : Int)) <|
        ok (mhit o900057 a0.1 (a0.2.1 + (Int.toNat i5))) <|
        ok (inB i5 ((a0.2.2 : Nat) : Int)) <|
        ok (mhit (mwr o900057 (some (List.set (mrow o900057 a0.1) (a0.2.1 + (Int.toNat i5)) (k1, (((List.getD (mrow o900057 a0.1) (a0.2.1 + (Int.toNat i5)) dRh).2.1.1, ()), (((List.getD (mrow o900057 a0.1) (a0.2.1 + (Int.toNat i5)) dRh).2.2.1.1, ()), ()))))) a0.1) a0.1 (a0.2.1 + (Int.toNat i5))) <|
        (c_w_markTermNodeS_deep R o900059 (mwr o900057 (some (List.set (mrow o900057 a0.1) (a0.2.1 + (Int.toNat i5)) (k1, (((List.getD (mrow o900057 a0.1) (a0.2.1 + (Int.toNat i5)) dRh).2.1.1, ()), (((List.getD (mrow o900057 a0.1) (a0.2.1 + (Int.toNat i5)) dRh).2.2.1.1, ()), ()))))) a0.1) o900009 o900073 (List.getD (mrow (mwr o900057 (some (List.set (mrow o900057 a0.1) (a0.2.1 + (Int.toNat i5)) (k1, (((List.getD (mrow o900057 a0.1) (a0.2.1 + (Int.toNat i5)) dRh).2.1.1, ()), (((List.getD (mrow o900057 a0.1) (a0.2.1 + (Int.toNat i5)) dRh).2.2.1.1, ()), ()))))) a0.1) a0.1) (a0.2.1 + (Int.toNat i5)) dRh).2.1.1 (iadd .i64 k1 1)).bind fun (r115_1, (r115b, (r115c, (r115d, (r115e, _))))) =>
        ok (inB i5 ((a0.2.2 : Nat) : Int)) <|
        ok (mhit r115b a0.1 (a0.2.1 + (Int.toNat i5))) <|
        (c_w_markTermNodeS_deep R r115_1 r115b r115c r115d (List.getD (mrow r115b a0.1) (a0.2.1 + (Int.toNat i5)) dRh).2.2.1.1 r115e).bind fun (r115_2_1, (r115_2b, (r115_2c, (r115_2d, (r115_2e, _))))) =>
        rec (((iadd .i64 i5 1), (a0, (r115_2e, (t4, ())))), (r115_2_1, (r115_2b, (r115_2c, (r115_2d, ())))))
      else
      some (o900059, (o900057, (o900009, (o900073, (k1, ())))))) n ((0, (u4, (u5, (0, ())))), (u0, (u1, (u2, (u3, ())))))

noncomputable def p_w_heldProgDefS (R : Run) (n : Nat) (u0 : List Df) (u1 : Int) : Option (Int × Unit) :=
  iter (P := (Int × List Df × Int × Int × Unit) × Unit) (fun rec ((i5, (a0, (k1, (t4, _)))), _) =>
      bif (ilt i5 (len a0)) then
        ok (inB i5 (len a0)) <|
        (c_w_markText R k1).bind fun (r114_1, _) =>
        bif (!(seq (List.getD a0 (Int.toNat i5) dDf).1 r114_1)) then
          some ((-1), ())
        else
        ok (inB i5 (len a0)) <|
        (c_w_heldStringS R (List.getD a0 (Int.toNat i5) dDf).2.1 (iadd .i64 k1 1)).bind fun (r69_1, _) =>
        bif (ilt r69_1 0) then
          some ((-1), ())
        else
        ok (inB i5 (len a0)) <|
        (c_w_heldTermNodeS R (List.getD a0 (Int.toNat i5) dDf).2.2.1.1 r69_1).bind fun (r116_1, _) =>
        bif (ilt r116_1 0) then
          some ((-1), ())
        else
        rec (((iadd .i64 i5 1), (a0, (r116_1, (t4, ())))), ())
      else
      some (k1, ())) n ((0, (u0, (u1, (0, ())))), ())

noncomputable def p_w_heldStringS (R : Run) (n : Nat) (u0 : List ByteArray) (u1 : Int) : Option (Int × Unit) :=
  iter (P := (Int × List ByteArray × Int × Int × Unit) × Unit) (fun rec ((i5, (a0, (k1, (t4, _)))), _) =>
      bif (ilt i5 (len a0)) then
        ok (inB i5 (len a0)) <|
        (c_w_markText R k1).bind fun (r114_1, _) =>
        bif (!(seq (List.getD a0 (Int.toNat i5) (bs [])) r114_1)) then
          some ((-1), ())
        else
        rec (((iadd .i64 i5 1), (a0, ((iadd .i64 k1 1), (t4, ())))), ())
      else
      some (k1, ())) n ((0, (u0, (u1, (0, ())))), ())

noncomputable def p_w_heldProgRelS (R : Run) (n : Nat) (u0 : List Rl) (u1 : Int) : Option (Int × Unit) :=
  iter (P := (Int × List Rl × Int × Int × Unit) × Unit) (fun rec ((i5, (a0, (k1, (t4, _)))), _) =>
      bif (ilt i5 (len a0)) then
        ok (inB i5 (len a0)) <|
        bif ((List.getD a0 (Int.toNat i5) dRl).1 != k1) then
          some ((-1), ())
        else
        ok (inB i5 (len a0)) <|
        (c_w_heldTermNodeS R (List.getD a0 (Int.toNat i5) dRl).2.1.1 (iadd .i64 k1 1)).bind fun (r116_1, _) =>
        bif (ilt r116_1 0) then
          some ((-1), ())
        else
        ok (inB i5 (len a0)) <|
        (c_w_heldTermNodeS R (List.getD a0 (Int.toNat i5) dRl).2.2.1.1 r116_1).bind fun (r116_2_1, _) =>
        bif (ilt r116_2_1 0) then
          some ((-1), ())
        else
        rec (((iadd .i64 i5 1), (a0, (r116_2_1, (t4, ())))), ())
      else
      some (k1, ())) n ((0, (u0, (u1, (0, ())))), ())

noncomputable def p_i_Prog_defAt (R : Run) (n : Nat) (u0 : List Df) (u1 : List ByteArray) (u2 : List Rl) (u3 : ByteArray) : Option (Int × Unit) :=
  (c_slices_IndexFunc_impl_ProgDef_impl_ProgDef_i_Prog_defAt_1 R u0 u3).bind fun (r117_1, (r117b, _)) =>
  some (r117_1, ())

noncomputable def p_s_l13Def (R : Run) (n : Nat) (u0 : List Df) (u1 : List ByteArray) (u2 : List Rl) (u3 : ByteArray) : Option (Int × Unit) :=
  iter (P := (Int × Unit × ByteArray × Int × Unit) × (List Df × List ByteArray × List Rl × Unit) × Unit) (fun rec ((i5, (_, (name1, (t4, _)))), ((o0a, (o0b, (o0c, _))), _)) =>
      bif (ilt i5 (len o0a)) then
        ok (inB i5 (len o0a)) <|
        bif (seq (List.getD o0a (Int.toNat i5) dDf).1 name1) then
          some (i5, ())
        else
        rec (((iadd .i64 i5 1), ((), (name1, (t4, ())))), ((o0a, (o0b, (o0c, ()))), ()))
      else
      some ((-1), ())) n ((0, ((), (u3, (0, ())))), ((u0, (u1, (u2, ()))), ()))

noncomputable def p_s_l14Copy (R : Run) (n : Nat) (u0 : List ByteArray) : Option (List ByteArray × Unit) :=
  iter (P := (Int × List ByteArray × Unit × Unit × Unit) × List ByteArray × Unit) (fun rec ((i4, (l0, (_, (_, _)))), (o0, _)) =>
      bif (ilt i4 (len l0)) then
        ok (inB i4 (len l0)) <|
        ok (aok (o0 ++ [(List.getD l0 (Int.toNat i4) (bs []))]) 16) <|
        rec (((iadd .i64 i4 1), (l0, ((), ((), ())))), ((o0 ++ [(List.getD l0 (Int.toNat i4) (bs []))]), ()))
      else
      some (o0, ())) n ((0, (u0, ((), ((), ())))), ([], ()))

noncomputable def p_s_TermOk (R : Run) (n : Nat) (u0 : List Tn) : Option (Bool × Unit) :=
  bif (ilt 100 (len u0)) then
    some (false, ())
  else
  iter (P := (Int × Unit × Int × Bool × Unit) × (List Tn × Unit) × Unit) (fun rec ((i4, (_, (depth3, (t2, _)))), ((o0, _), _)) =>
      bif (ilt i4 (len o0)) then
        ok (inB i4 (len o0)) <|
        (c_s_l12Args R (List.getD o0 (Int.toNat i4) (0, (0, ((bs []), ())))).1 (List.getD o0 (Int.toNat i4) (0, (0, ((bs []), ())))).2.1 (List.getD o0 (Int.toNat i4) (0, (0, ((bs []), ())))).2.2.1).bind fun (r123_1, _) =>
        jb (P := (Bool × Int × Int × Int × Unit × Bool × Unit) × (List Tn × Unit) × Unit) (
            bif (ilt r123_1 0) then
              some (.inr ((true, (depth3, (r123_1, (i4, ((), (t2, ())))))), ((o0, ()), ())))
            else
            some (.inr (((ilt depth3 r123_1), (depth3, (r123_1, (i4, ((), (t2, ())))))), ((o0, ()), ())))) fun ((t29, (depth3_1, (k5, (i4_1, (_, (t2_1, _)))))), ((o0_1, _), _)) =>
        bif t29 then
          some (false, ())
        else
        rec (((iadd .i64 i4_1 1), ((), ((iadd .i64 (isub .i64 depth3_1 k5) 1), (t2_1, ())))), ((o0_1, ()), ()))
      else
      some ((depth3 == 1), ())) n ((0, ((), (0, (false, ())))), ((u0, ()), ()))

noncomputable def p_i_wordOk (R : Run) (n : Nat) (u0 : ByteArray) : Option (Bool × Unit) :=
  iter (P := (Int × Int × ByteArray × Bool × Unit) × Unit) (fun rec ((t6, (t5, (s0, (t2, _)))), _) =>
      bif (ilt t6 t5) then
        jb (P := (Bool × Int × Int × ByteArray × Bool × Unit) × Unit) (
            ok (inB t6 (slen s0)) <|
            (c_i_isLetter R (bt s0 t6)).bind fun (r127_1, _) =>
            bif (!r127_1) then
              ok (inB t6 (slen s0)) <|
              (c_i_isFigure R (bt s0 t6)).bind fun (r128_1, _) =>
              some (.inr (((!r128_1), (t6, (t5, (s0, (t2, ()))))), ()))
            else
            some (.inr ((false, (t6, (t5, (s0, (t2, ()))))), ()))) fun ((t20, (t6_1, (t5_1, (s0_1, (t2_1, _))))), _) =>
        bif t20 then
          some (false, ())
        else
        rec (((iadd .i64 t6_1 1), (t5_1, (s0_1, (t2_1, ())))), ())
      else
      jb (P := (Bool × Unit) × Unit) (
          (c_i_in R (slen s0) 1 8).bind fun (r53_1, _) =>
          bif r53_1 then
            ok (inB 0 (slen s0)) <|
            (c_i_isLetter R (bt s0 0)).bind fun (r127_2_1, _) =>
            some (.inr ((r127_2_1, ()), ()))
          else
          some (.inr ((false, ()), ()))) fun ((t2_2, _), _) =>
      some (t2_2, ())) n ((0, ((slen u0), (u0, (false, ())))), ())

noncomputable def p_i_clone_impl_ProgDef_deep (R : Run) (n : Nat) (u0 : Mem Dh) (u1 : Mem Rh) (u2 : Mem ByteArray) (u3 : Mem Tn) (u4 : Hd) : Option (Mem Dh × Mem Rh × Mem ByteArray × Mem Tn × Hd × Unit) :=
  (c_slices_Clone_impl_ProgDef_impl_ProgDef_deep R u0 u1 u2 u3 u4).bind fun (r130_1, (r130b, (r130c, (r130d, (r130e, _))))) =>
  (c_slices_Clip_impl_ProgDef_impl_ProgDef_deep R (r130_1 ++ [some r130e]) r130b r130c r130d (((List.length r130_1) + 1), (0, (List.length r130e)))).bind fun (r129_1, (r129b, (r129c, (r129d, (r129e, _))))) =>
  some (r129_1, (r129b, (r129c, (r129d, (r129e, ())))))

noncomputable def p_i_clone_string (R : Run) (n : Nat) (u0 : List ByteArray) : Option (List ByteArray × Unit) :=
  (c_slices_Clone_string_string R u0).bind fun (r131_1, _) =>
  (c_slices_Clip_string_string R r131_1).bind fun (r54_1, _) =>
  some (r54_1, ())

noncomputable def p_i_clone_impl_ProgRel_deep (R : Run) (n : Nat) (u0 : Mem Dh) (u1 : Mem Rh) (u2 : Mem ByteArray) (u3 : Mem Tn) (u4 : Hd) : Option (Mem Dh × Mem Rh × Mem ByteArray × Mem Tn × Hd × Unit) :=
  (c_slices_Clone_impl_ProgRel_impl_ProgRel_deep R u0 u1 u2 u3 u4).bind fun (r133_1, (r133b, (r133c, (r133d, (r133e, _))))) =>
  (c_slices_Clip_impl_ProgRel_impl_ProgRel_deep R r133_1 (r133b ++ [some r133e]) r133c r133d (((List.length r133b) + 1), (0, (List.length r133e)))).bind fun (r132_1, (r132b, (r132c, (r132d, (r132e, _))))) =>
  some (r132_1, (r132b, (r132c, (r132d, (r132e, ())))))

noncomputable def p_i_clone_impl_TermNode (R : Run) (n : Nat) (u0 : List Tn) : Option (List Tn × Unit) :=
  (c_slices_Clone_impl_TermNode_impl_TermNode R u0).bind fun (r135_1, _) =>
  (c_slices_Clip_impl_TermNode_impl_TermNode R r135_1).bind fun (r134_1, _) =>
  some (r134_1, ())

noncomputable def p_s_l13Shape (R : Run) (n : Nat) (u0 : List Df) (u1 : List ByteArray) (u2 : List Rl) : Option (Int × Unit) :=
  (c_s_l13Formed R u0 u1 u2).bind fun (r136_1, _) =>
  bif (!r136_1) then
    some (4, ())
  else
  jb (P := (Bool × Unit × Int × Unit) × (List Df × List ByteArray × List Rl × Unit) × Unit) (
      bif (ilt 12 (len u0)) then
        some (.inr ((true, ((), (0, ()))), ((u0, (u1, (u2, ()))), ())))
      else
      bif (ilt 6 (len u1)) then
        some (.inr ((true, ((), (0, ()))), ((u0, (u1, (u2, ()))), ())))
      else
      some (.inr (((ilt 12 (len u2)), ((), (0, ()))), ((u0, (u1, (u2, ()))), ())))) fun ((t26, (_, (t2, _))), ((o0a, (o0b, (o0c, _))), _)) =>
  bif t26 then
    some (5, ())
  else
  iter (P := (Int × Unit × Unit × Int × Unit) × (List Df × List ByteArray × List Rl × Unit) × List ByteArray × Unit) (fun rec ((i4, (_, (_, (t2_1, _)))), ((o0a_1, (o0b_1, (o0c_1, _))), (o1, _))) =>
      bif (ilt i4 (len o0a_1)) then
        ok (inB i4 (len o0a_1)) <|
        bif (ilt 6 (len (List.getD o0a_1 (Int.toNat i4) dDf).2.1)) then
          some (5, ())
        else
        ok (inB i4 (len o0a_1)) <|
        ok (aok (o1 ++ [(List.getD o0a_1 (Int.toNat i4) dDf).1]) 16) <|
        rec (((iadd .i64 i4 1), ((), ((), (t2_1, ())))), ((o0a_1, (o0b_1, (o0c_1, ()))), ((o1 ++ [(List.getD o0a_1 (Int.toNat i4) dDf).1]), ())))
      else
      iter (P := (Int × Unit × Unit × Int × Unit) × (List Df × List ByteArray × List Rl × Unit) × List ByteArray × Unit) (fun rec_1 ((i5, (_, (_, (t2_2, _)))), ((o0a_2, (o0b_2, (o0c_2, _))), (o1_1, _))) =>
          bif (ilt i5 (len o0b_2)) then
            ok (inB i5 (len o0b_2)) <|
            ok (aok (o1_1 ++ [(List.getD o0b_2 (Int.toNat i5) (bs []))]) 16) <|
            rec_1 (((iadd .i64 i5 1), ((), ((), (t2_2, ())))), ((o0a_2, (o0b_2, (o0c_2, ()))), ((o1_1 ++ [(List.getD o0b_2 (Int.toNat i5) (bs []))]), ())))
          else
          (c_s_l13Distinct R o1_1).bind fun (r137_1, _) =>
          iter (P := (Int × Unit × Bool × Int × Unit) × (List Df × List ByteArray × List Rl × Unit) × Unit) (fun rec_2 ((i7, (_, (again6, (t2_3, _)))), ((o0a_3, (o0b_3, (o0c_3, _))), _)) =>
              bif (ilt i7 (len o0a_3)) then
                jb (P := (Int × Unit × Bool × Int × Unit) × (List Df × List ByteArray × List Rl × Unit) × Unit) (
                    bif again6 then
                      some (.inr ((i7, ((), (true, (t2_3, ())))), ((o0a_3, (o0b_3, (o0c_3, ()))), ())))
                    else
                    ok (inB i7 (len o0a_3)) <|
                    (c_s_l13Distinct R (List.getD o0a_3 (Int.toNat i7) dDf).2.1).bind fun (r137_2_1, _) =>
                    some (.inr ((i7, ((), ((!r137_2_1), (t2_3, ())))), ((o0a_3, (o0b_3, (o0c_3, ()))), ())))) fun ((i7_1, (_, (again6_1, (t2_4, _)))), ((o0a_4, (o0b_4, (o0c_4, _))), _)) =>
                rec_2 (((iadd .i64 i7_1 1), ((), (again6_1, (t2_4, ())))), ((o0a_4, (o0b_4, (o0c_4, ()))), ()))
              else
              bif again6 then
                some (6, ())
              else
              some (0, ())) n ((0, ((), ((!r137_1), (t2_2, ())))), ((o0a_2, (o0b_2, (o0c_2, ()))), ()))) n ((0, ((), ((), (t2_1, ())))), ((o0a_1, (o0b_1, (o0c_1, ()))), (o1, ())))) n ((0, ((), ((), (t2, ())))), ((o0a, (o0b, (o0c, ()))), ([], ())))

noncomputable def p_s_l13DefCode (R : Run) (n : Nat) (u0 : List Df) (u1 : List ByteArray) (u2 : List Rl) (u3 : ByteArray) (u4 : List ByteArray) (u5 : List Tn) : Option (Int × Unit) :=
  iter (P := (Int × Unit × Unit × Int × Unit) × (ByteArray × List ByteArray × List Tn × Unit) × (List Df × List ByteArray × List Rl × Unit) × Unit) (fun rec ((i5, (_, (_, (t4, _)))), ((o0a, (o0b, (o0c, _))), ((o1a, (o1b, (o1c, _))), _))) =>
      bif (ilt i5 (len o0b)) then
        ok (inB i5 (len o0b)) <|
        (c_s_l13Def R o1a o1b o1c (List.getD o0b (Int.toNat i5) (bs []))).bind fun (r74_1, _) =>
        bif (ile 0 r74_1) then
          some (7, ())
        else
        rec (((iadd .i64 i5 1), ((), ((), (t4, ())))), ((o0a, (o0b, (o0c, ()))), ((o1a, (o1b, (o1c, ()))), ())))
      else
      (c_s_l13Known R o1a o1b o1c o0c o0b).bind fun (r138_1, _) =>
      some (r138_1, ())) n ((0, ((), ((), (0, ())))), ((u3, (u4, (u5, ()))), ((u0, (u1, (u2, ()))), ())))

noncomputable def p_s_l13RelCode (R : Run) (n : Nat) (u0 : List Df) (u1 : List ByteArray) (u2 : List Rl) (u3 : Int) (u4 : List Tn) (u5 : List Tn) : Option (Int × Unit) :=
  (c_s_l13Known R u0 u1 u2 u4 u1).bind fun (r138_1, _) =>
  jb (P := (Int × Int × Unit) × Unit) (
      bif (r138_1 == 0) then
        (c_s_l13Known R u0 u1 u2 u5 u1).bind fun (r138_2_1, _) =>
        some (.inr ((r138_2_1, (0, ())), ()))
      else
      some (.inr ((r138_1, (0, ())), ()))) fun ((c5, (t4, _)), _) =>
  some (c5, ())

noncomputable def p_s_l13Table_k778 (R : Run) (n : Nat) (u0 : Mem Bool) (u1 : List Df) (u2 : List ByteArray) (u3 : List Rl) : Option (Mem Bool × List Hd × Unit) :=
  iter (P := (Int × Unit × Unit × Unit × Unit) × (List Df × List ByteArray × List Rl × Unit) × List Hd × Mem Bool × Unit) (fun rec ((i4, (_, (_, (_, _)))), ((o0a, (o0b, (o0c, _))), (o1, (o900004, _)))) =>
      bif (ilt i4 (len o0a)) then
        ok (mkOk (len o0a) (len o0a) 1) <|
        iter (P := (Int × Unit × Unit × Int × Unit × Unit × Unit) × (List Df × List ByteArray × List Rl × Unit) × List Bool × List Hd × Mem Bool × Unit) (fun rec_1 ((j6, (_, (_, (i4_1, (_, (_, _)))))), ((o0a_1, (o0b_1, (o0c_1, _))), (o1_1, (o2, (o900004_1, _))))) =>
            bif (ilt j6 (len o0a_1)) then
              (c_s_l13Reaches R o0a_1 o0b_1 o0c_1 i4_1 j6 1).bind fun (r139_1, _) =>
              ok (inB j6 (len o1_1)) <|
              rec_1 (((iadd .i64 j6 1), ((), ((), (i4_1, ((), ((), ())))))), ((o0a_1, (o0b_1, (o0c_1, ()))), ((List.set o1_1 (Int.toNat j6) r139_1), (o2, (o900004_1, ())))))
            else
            ok (aok (o2 ++ [(((List.length o900004_1) + 1), (0, (List.length o1_1)))]) 24) <|
            rec (((iadd .i64 i4_1 1), ((), ((), ((), ())))), ((o0a_1, (o0b_1, (o0c_1, ()))), ((o2 ++ [(((List.length o900004_1) + 1), (0, (List.length o1_1)))]), ((o900004_1 ++ [some o1_1]), ()))))) n ((0, ((), ((), (i4, ((), ((), ())))))), ((o0a, (o0b, (o0c, ()))), ((List.replicate (Int.toNat (len o0a)) false), (o1, (o900004, ())))))
      else
      iter (P := (Int × Unit × Unit × Unit) × List Hd × Mem Bool × Unit) (fun rec_2 ((k7, (_, (_, _))), (o0, (o900004_2, _))) =>
          bif (ilt k7 (len o0)) then
            iter (P := (Int × Unit × Int × Unit × Unit) × List Hd × Mem Bool × Unit) (fun rec_3 ((i8, (_, (k7_1, (_, _)))), (o0_1, (o900004_3, _))) =>
                bif (ilt i8 (len o0_1)) then
                  iter (P := (Int × Unit × Int × Int × Unit × Unit) × List Hd × Mem Bool × Unit) (fun rec_4 ((j9, (_, (i8_1, (k7_2, (_, _))))), (o0_2, (o900004_4, _))) =>
                      bif (ilt j9 (len o0_2)) then
                        jb (P := (Int × Unit × Int × Int × Unit × Unit) × List Hd × Mem Bool × Unit) (
                            jb (P := (Bool × Unit × Int × Int × Int × Unit × Unit) × List Hd × Mem Bool × Unit) (
                                ok (inB i8_1 (len o0_2)) <|
                                ok (inB k7_2 (((List.getD o0_2 (Int.toNat i8_1) (0, (0, 0))).2.2 : Nat) : Int)) <|
                                ok (mhit o900004_4 (List.getD o0_2 (Int.toNat i8_1) (0, (0, 0))).1 ((List.getD o0_2 (Int.toNat i8_1) (0, (0, 0))).2.1 + (Int.toNat k7_2))) <|
                                bif (List.getD (mrow o900004_4 (List.getD o0_2 (Int.toNat i8_1) (0, (0, 0))).1) ((List.getD o0_2 (Int.toNat i8_1) (0, (0, 0))).2.1 + (Int.toNat k7_2)) false) then
                                  ok (inB k7_2 (len o0_2)) <|
                                  ok (inB j9 (((List.getD o0_2 (Int.toNat k7_2) (0, (0, 0))).2.2 : Nat) : Int)) <|
                                  ok (mhit o900004_4 (List.getD o0_2 (Int.toNat k7_2) (0, (0, 0))).1 ((List.getD o0_2 (Int.toNat k7_2) (0, (0, 0))).2.1 + (Int.toNat j9))) <|
                                  some (.inr (((List.getD (mrow o900004_4 (List.getD o0_2 (Int.toNat k7_2) (0, (0, 0))).1) ((List.getD o0_2 (Int.toNat k7_2) (0, (0, 0))).2.1 + (Int.toNat j9)) false), ((), (i8_1, (j9, (k7_2, ((), ())))))), (o0_2, (o900004_4, ()))))
                                else
                                some (.inr ((false, ((), (i8_1, (j9, (k7_2, ((), ())))))), (o0_2, (o900004_4, ()))))) fun ((t72, (_, (i8_2, (j9_1, (k7_3, (_, _)))))), (o0_3, (o900004_5, _))) =>
                            bif t72 then
                              ok (inB i8_2 (len o0_3)) <|
                              ok (inB j9_1 (((List.getD o0_3 (Int.toNat i8_2) (0, (0, 0))).2.2 : Nat) : Int)) <|
                              ok (mhit o900004_5 (List.getD o0_3 (Int.toNat i8_2) (0, (0, 0))).1 ((List.getD o0_3 (Int.toNat i8_2) (0, (0, 0))).2.1 + (Int.toNat j9_1))) <|
                              some (.inr ((j9_1, ((), (i8_2, (k7_3, ((), ()))))), (o0_3, ((mwr o900004_5 (some (List.set (mrow o900004_5 (List.getD o0_3 (Int.toNat i8_2) (0, (0, 0))).1) ((List.getD o0_3 (Int.toNat i8_2) (0, (0, 0))).2.1 + (Int.toNat j9_1)) true)) (List.getD o0_3 (Int.toNat i8_2) (0, (0, 0))).1), ()))))
                            else
                            some (.inr ((j9_1, ((), (i8_2, (k7_3, ((), ()))))), (o0_3, (o900004_5, ()))))) fun ((j9_2, (_, (i8_3, (k7_4, (_, _))))), (o0_4, (o900004_6, _))) =>
                        rec_4 (((iadd .i64 j9_2 1), ((), (i8_3, (k7_4, ((), ()))))), (o0_4, (o900004_6, ())))
                      else
                      rec_3 (((iadd .i64 i8_1 1), ((), (k7_2, ((), ())))), (o0_2, (o900004_4, ())))) n ((0, ((), (i8, (k7_1, ((), ()))))), (o0_1, (o900004_3, ())))
                else
                rec_2 (((iadd .i64 k7_1 1), ((), ((), ()))), (o0_1, (o900004_3, ())))) n ((0, ((), (k7, ((), ())))), (o0, (o900004_2, ())))
          else
          some (o900004_2, (o0, ()))) n ((0, ((), ((), ()))), (o1, (o900004, ())))) n ((0, ((), ((), ((), ())))), ((u1, (u2, (u3, ()))), ([], (u0, ()))))

noncomputable def p_s_l11Plain (R : Run) (n : Nat) (u0 : ByteArray) : Option (Bool × Unit) :=
  jb (P := (Bool × ByteArray × Bool × Unit) × Unit) (
      bif (ilt (slen u0) 1) then
        some (.inr ((true, (u0, (false, ()))), ()))
      else
      bif (ilt 8 (slen u0)) then
        some (.inr ((true, (u0, (false, ()))), ()))
      else
      ok (inB 0 (slen u0)) <|
      (c_s_l11Letter R (bt u0 0)).bind fun (r140_1, _) =>
      some (.inr (((!r140_1), (u0, (false, ()))), ()))) fun ((t17, (s0, (t2, _))), _) =>
  bif t17 then
    some (false, ())
  else
  iter (P := (Int × ByteArray × Bool × Unit) × Unit) (fun rec ((i3, (s0_1, (t2_1, _))), _) =>
      bif (ilt i3 (slen s0_1)) then
        jb (P := (Bool × Int × ByteArray × Bool × Unit) × Unit) (
            ok (inB i3 (slen s0_1)) <|
            (c_s_l11Letter R (bt s0_1 i3)).bind fun (r140_2_1, _) =>
            bif (!r140_2_1) then
              ok (inB i3 (slen s0_1)) <|
              (c_s_l11Digit R (bt s0_1 i3)).bind fun (r141_1, _) =>
              some (.inr (((!r141_1), (i3, (s0_1, (t2_1, ())))), ()))
            else
            some (.inr ((false, (i3, (s0_1, (t2_1, ())))), ()))) fun ((t35, (i3_1, (s0_2, (t2_2, _)))), _) =>
        bif t35 then
          some (false, ())
        else
        rec (((iadd .i64 i3_1 1), (s0_2, (t2_2, ()))), ())
      else
      some (true, ())) n ((1, (s0, (t2, ()))), ())

noncomputable def p_s_l11Word (R : Run) (n : Nat) (u0 : ByteArray) : Option (Bool × Unit) :=
  jb (P := (Bool × Unit) × Unit) (
      bif (seq u0 (bs [100, 101, 102])) then
        some (.inr ((true, ()), ()))
      else
      bif (seq u0 (bs [118, 97, 114])) then
        some (.inr ((true, ()), ()))
      else
      bif (seq u0 (bs [115, 113, 114, 116])) then
        some (.inr ((true, ()), ()))
      else
      bif (seq u0 (bs [97, 98, 115])) then
        some (.inr ((true, ()), ()))
      else
      bif (seq u0 (bs [109, 105, 110])) then
        some (.inr ((true, ()), ()))
      else
      some (.inr (((seq u0 (bs [109, 97, 120])), ()), ()))) fun ((t2, _), _) =>
  some (t2, ())

noncomputable def p_s_l14Same (R : Run) (n : Nat) (u0 : List Tn) : Option (List Tn × Unit) :=
  iter (P := (Int × Unit × Unit × Unit × Unit) × (List Tn × Unit) × (Unit × Unit) × (Unit × Unit) × List Tn × Unit) (fun rec ((i4, (_, (_, (_, _)))), ((o0, _), ((_, _), ((_, _), (o3, _))))) =>
      bif (ilt i4 (len o0)) then
        ok (inB i4 (len o0)) <|
        ok (aok (o3 ++ [((List.getD o0 (Int.toNat i4) (0, (0, ((bs []), ())))).1, ((List.getD o0 (Int.toNat i4) (0, (0, ((bs []), ())))).2.1, ((List.getD o0 (Int.toNat i4) (0, (0, ((bs []), ())))).2.2.1, ())))]) 32) <|
        rec (((iadd .i64 i4 1), ((), ((), ((), ())))), ((o0, ()), (((), ()), (((), ()), ((o3 ++ [((List.getD o0 (Int.toNat i4) (0, (0, ((bs []), ())))).1, ((List.getD o0 (Int.toNat i4) (0, (0, ((bs []), ())))).2.1, ((List.getD o0 (Int.toNat i4) (0, (0, ((bs []), ())))).2.2.1, ())))]), ())))))
      else
      some (o3, ())) n ((0, ((), ((), ((), ())))), ((u0, ()), (((), ()), (((), ()), ([], ())))))

noncomputable def p_i_TermOk (R : Run) (n : Nat) (u0 : List Tn) : Option (Bool × Unit) :=
  iter (P := (Int × Int × List Tn × Int × Unit × Bool × Unit) × (List Tn × Unit) × Unit) (fun rec ((t10, (t9, (t8, (depth3, (_, (t2, _)))))), ((o0, _), _)) =>
      bif (ilt t10 t9) then
        ok (inB t10 (len t8)) <|
        (c_i_TermNode_parts R (List.getD t8 (Int.toNat t10) (0, (0, ((bs []), ())))).1 (List.getD t8 (Int.toNat t10) (0, (0, ((bs []), ())))).2.1 (List.getD t8 (Int.toNat t10) (0, (0, ((bs []), ())))).2.2.1).bind fun (r142_1, _) =>
        jb (P := (Bool × Int × Int × Int × Int × List Tn × Unit × Bool × Unit) × (List Tn × Unit) × Unit) (
            bif (ilt r142_1 0) then
              some (.inr ((true, (depth3, (r142_1, (t10, (t9, (t8, ((), (t2, ())))))))), ((o0, ()), ())))
            else
            some (.inr (((ilt depth3 r142_1), (depth3, (r142_1, (t10, (t9, (t8, ((), (t2, ())))))))), ((o0, ()), ())))) fun ((t22, (depth3_1, (parts6, (t10_1, (t9_1, (t8_1, (_, (t2_1, _)))))))), ((o0_1, _), _)) =>
        bif t22 then
          some (false, ())
        else
        rec (((iadd .i64 t10_1 1), (t9_1, (t8_1, ((iadd .i64 depth3_1 (isub .i64 1 parts6)), ((), (t2_1, ())))))), ((o0_1, ()), ()))
      else
      jb (P := (Bool × Unit) × Unit) (
          bif (depth3 == 1) then
            some (.inr (((ile (len o0) 100), ()), ()))
          else
          some (.inr ((false, ()), ()))) fun ((t2_2, _), _) =>
      some (t2_2, ())) n ((0, ((len u0), (u0, (0, ((), (false, ())))))), ((u0, ()), ()))

noncomputable def p_slices_ContainsFunc_string_string_i_Prog_formed_1 (R : Run) (n : Nat) (u0 : List ByteArray) : Option (Bool × Unit) :=
  (c_slices_IndexFunc_string_string_i_Prog_formed_1 R u0).bind fun (r143_1, _) =>
  some ((ile 0 r143_1), ())

noncomputable def p_slices_ContainsFunc_string_string_i_Prog_formed_2 (R : Run) (n : Nat) (u0 : List ByteArray) : Option (Bool × Unit) :=
  (c_slices_IndexFunc_string_string_i_Prog_formed_2 R u0).bind fun (r143_1, _) =>
  some ((ile 0 r143_1), ())

noncomputable def p_slices_ContainsFunc_string_string_i_Prog_defCode_1 (R : Run) (n : Nat) (u0 : List ByteArray) (u1 : List Df) (u2 : List ByteArray) (u3 : List Rl) : Option (Bool × List Df × List ByteArray × List Rl × Unit) :=
  (c_slices_IndexFunc_string_string_i_Prog_defCode_1 R u0 u1 u2 u3).bind fun (r143_1, (r143b, (r143c, (r143d, _)))) =>
  some ((ile 0 r143_1), (r143b, (r143c, (r143d, ()))))

noncomputable def p_i_Prog_formed_1 (R : Run) (n : Nat) (u0 : ByteArray) : Option (Bool × Unit) :=
  (c_i_LangNameOk R u0).bind fun (r36_1, _) =>
  some ((!r36_1), ())

noncomputable def p_i_Prog_formed_2 (R : Run) (n : Nat) (u0 : ByteArray) : Option (Bool × Unit) :=
  (c_i_LangNameOk R u0).bind fun (r36_1, _) =>
  some ((!r36_1), ())

noncomputable def p_slices_ContainsFunc_impl_ProgDef_impl_ProgDef_i_Prog_many_1 (R : Run) (n : Nat) (u0 : List Df) : Option (Bool × Unit) :=
  (c_slices_IndexFunc_impl_ProgDef_impl_ProgDef_i_Prog_many_1 R u0).bind fun (r117_1, _) =>
  some ((ile 0 r117_1), ())

noncomputable def p_slices_ContainsFunc_impl_ProgDef_impl_ProgDef_i_Prog_again_1 (R : Run) (n : Nat) (u0 : List Df) : Option (Bool × Unit) :=
  (c_slices_IndexFunc_impl_ProgDef_impl_ProgDef_i_Prog_again_1 R u0).bind fun (r117_1, _) =>
  some ((ile 0 r117_1), ())

noncomputable def p_i_Prog_many_1 (R : Run) (n : Nat) (u0 : ByteArray) (u1 : List ByteArray) (u2 : List Tn) : Option (Bool × Unit) :=
  some ((ilt 6 (len u1)), ())

noncomputable def p_i_twice (R : Run) (n : Nat) (u0 : List ByteArray) : Option (Bool × Unit) :=
  iter (P := (Int × Int × List ByteArray × List ByteArray × Bool × Unit) × Unit) (fun rec ((t7, (t6, (t5, (list0, (t2, _))))), _) =>
      bif (ilt t7 t6) then
        ok (inB t7 (len t5)) <|
        ok (sliceOk 0 t7 (len list0)) <|
        (c_slices_Contains_string_string R (List.drop (Int.toNat 0) (List.take (Int.toNat t7) list0)) (List.getD t5 (Int.toNat t7) (bs []))).bind fun (r37_1, _) =>
        bif r37_1 then
          some (true, ())
        else
        rec (((iadd .i64 t7 1), (t6, (t5, (list0, (t2, ()))))), ())
      else
      some (false, ())) n ((0, ((len u0), (u0, (u0, (false, ()))))), ())

noncomputable def p_i_Prog_again_1 (R : Run) (n : Nat) (u0 : ByteArray) (u1 : List ByteArray) (u2 : List Tn) : Option (Bool × Unit) :=
  (c_i_twice R u1).bind fun (r101_1, _) =>
  some (r101_1, ())

noncomputable def p_i_Prog_defCode_1 (R : Run) (n : Nat) (u0 : ByteArray) (u1 : List Df) (u2 : List ByteArray) (u3 : List Rl) : Option (Bool × List Df × List ByteArray × List Rl × Unit) :=
  (c_i_Prog_defAt R u1 u2 u3 u0).bind fun (r72_1, _) =>
  some ((ile 0 r72_1), (u1, (u2, (u3, ()))))

noncomputable def p_i_Prog_fits (R : Run) (n : Nat) (u0 : List Df) (u1 : List ByteArray) (u2 : List Rl) (u3 : List Tn) (u4 : List ByteArray) : Option (Int × Unit) :=
  iter (P := (Int × Int × List Tn × Unit × List ByteArray × Int × Unit) × (List Df × List ByteArray × List Rl × Unit) × Unit) (fun rec ((t12, (t11, (t10, (_, (own2, (t6, _)))))), ((o0a, (o0b, (o0c, _))), _)) =>
      bif (ilt t12 t11) then
        jb (P := (Int × Int × List Tn × Unit × List ByteArray × Int × Unit) × (List Df × List ByteArray × List Rl × Unit) × Unit) (
            ok (inB t12 (len t10)) <|
            jb (P := (Bool × Unit × Unit × List ByteArray × Int × Int × List Tn × Int × Unit) × (List Df × List ByteArray × List Rl × Unit) × Tn × Unit) (
                bif ((List.getD t10 (Int.toNat t12) (0, (0, ((bs []), ())))).1 != 2) then
                  some (.inr ((((List.getD t10 (Int.toNat t12) (0, (0, ((bs []), ())))).1 != 13), ((), ((), (own2, (t12, (t11, (t10, (t6, ())))))))), ((o0a, (o0b, (o0c, ()))), (((List.getD t10 (Int.toNat t12) (0, (0, ((bs []), ())))).1, ((List.getD t10 (Int.toNat t12) (0, (0, ((bs []), ())))).2.1, ((List.getD t10 (Int.toNat t12) (0, (0, ((bs []), ())))).2.2.1, ()))), ()))))
                else
                some (.inr ((false, ((), ((), (own2, (t12, (t11, (t10, (t6, ())))))))), ((o0a, (o0b, (o0c, ()))), (((List.getD t10 (Int.toNat t12) (0, (0, ((bs []), ())))).1, ((List.getD t10 (Int.toNat t12) (0, (0, ((bs []), ())))).2.1, ((List.getD t10 (Int.toNat t12) (0, (0, ((bs []), ())))).2.2.1, ()))), ()))))) fun ((t23, (_, (_, (own2_1, (t12_1, (t11_1, (t10_1, (t6_1, _)))))))), ((o0a_1, (o0b_1, (o0c_1, _))), ((o1a, (o1b, (o1c, _))), _))) =>
            bif t23 then
              some (.inr ((t12_1, (t11_1, (t10_1, ((), (own2_1, (t6_1, ())))))), ((o0a_1, (o0b_1, (o0c_1, ()))), ())))
            else
            (c_i_Prog_defAt R o0a_1 o0b_1 o0c_1 o1c).bind fun (r72_1, _) =>
            (c_slices_Contains_string_string R own2_1 o1c).bind fun (r37_1, _) =>
            bif r37_1 then
              bif (o1a == 13) then
                some (.inl (9, ()))
              else
              some (.inr ((t12_1, (t11_1, (t10_1, ((), (own2_1, (t6_1, ())))))), ((o0a_1, (o0b_1, (o0c_1, ()))), ())))
            else
            bif (ilt r72_1 0) then
              some (.inl (8, ()))
            else
            ok (inB r72_1 (len o0a_1)) <|
            bif ((len (List.getD o0a_1 (Int.toNat r72_1) dDf).2.1) != o1b) then
              some (.inl (9, ()))
            else
            some (.inr ((t12_1, (t11_1, (t10_1, ((), (own2_1, (t6_1, ())))))), ((o0a_1, (o0b_1, (o0c_1, ()))), ())))) fun ((t12_2, (t11_2, (t10_2, (_, (own2_2, (t6_2, _)))))), ((o0a_2, (o0b_2, (o0c_2, _))), _)) =>
        rec (((iadd .i64 t12_2 1), (t11_2, (t10_2, ((), (own2_2, (t6_2, ())))))), ((o0a_2, (o0b_2, (o0c_2, ()))), ()))
      else
      some (0, ())) n ((0, ((len u3), (u3, ((), (u4, (0, ())))))), ((u0, (u1, (u2, ()))), ()))

noncomputable def p_slices_Concat_impl_TermNode_impl_TermNode (R : Run) (n : Nat) (u0 : List (List Tn)) : Option (List Tn × Unit) :=
  iter (P := (Int × Int × List (List Tn) × Int × List (List Tn) × Unit × Unit) × Unit) (fun rec ((t11, (t10, (t9, (size3, (slices0, (_, _)))))), _) =>
      bif (ilt t11 t10) then
        jb (P := (Int × Int × List (List Tn) × Int × List (List Tn) × Unit × Unit) × Unit) (
            ok (inB t11 (len t9)) <|
            bif (ilt (iadd .i64 size3 (len (List.getD t9 (Int.toNat t11) []))) 0) then
              none
            else
            some (.inr ((t11, (t10, (t9, ((iadd .i64 size3 (len (List.getD t9 (Int.toNat t11) []))), (slices0, ((), ())))))), ()))) fun ((t11_1, (t10_1, (t9_1, (size3_1, (slices0_1, (_, _)))))), _) =>
        rec (((iadd .i64 t11_1 1), (t10_1, (t9_1, (size3_1, (slices0_1, ((), ())))))), ())
      else
      (c_slices_Grow_impl_TermNode_impl_TermNode R [] size3).bind fun (r144_1, _) =>
      iter (P := (Int × Int × List (List Tn) × Unit × Unit × Unit) × List Tn × Unit) (fun rec_1 ((t27, (t26, (t25, (_, (_, _))))), (o0, _)) =>
          bif (ilt t27 t26) then
            ok (inB t27 (len t25)) <|
            ok (aok (o0 ++ (List.getD t25 (Int.toNat t27) [])) 32) <|
            rec_1 (((iadd .i64 t27 1), (t26, (t25, ((), ((), ()))))), ((o0 ++ (List.getD t25 (Int.toNat t27) [])), ()))
          else
          some (o0, ())) n ((0, ((len slices0), (slices0, ((), ((), ()))))), (r144_1, ()))) n ((0, ((len u0), (u0, (0, (u0, ((), ())))))), ())

noncomputable def p_i_Prog_uses (R : Run) (n : Nat) (u0 : List Df) (u1 : List ByteArray) (u2 : List Rl) (u3 : Int) : Option (List Bool × Unit) :=
  ok (mkOk (len u0) (len u0) 1) <|
  iter (P := (Unit × Unit × Unit × Unit × Unit) × List Int × (List Df × List ByteArray × List Rl × Unit) × List Bool × Unit) (fun rec ((_, (_, (_, (_, _)))), (o0, ((o1a, (o1b, (o1c, _))), (o2, _)))) =>
      bif (ilt 0 (len o0)) then
        ok (inB 0 (len o0)) <|
        ok (inB (List.getD o0 (Int.toNat 0) 0) (len o1a)) <|
        ok (sliceOk 1 (len o0) (len o0)) <|
        (c_i_Term_names R (List.getD o1a (Int.toNat (List.getD o0 (Int.toNat 0) 0)) dDf).2.2.1.1).bind fun (r145_1, _) =>
        iter (P := (Int × Int × Unit × Unit × Unit × Unit × Unit × Unit) × List ByteArray × (List Df × List ByteArray × List Rl × Unit) × List Bool × List Int × Unit) (fun rec_1 ((t33, (t32, (_, (_, (_, (_, (_, _))))))), (o0_1, ((o1a_1, (o1b_1, (o1c_1, _))), (o2_1, (o3, _))))) =>
            bif (ilt t33 t32) then
              jb (P := (Int × Int × Unit × Unit × Unit × Unit × Unit × Unit) × List ByteArray × (List Df × List ByteArray × List Rl × Unit) × List Bool × List Int × Unit) (
                  ok (inB t33 (len o0_1)) <|
                  (c_i_Prog_defAt R o1a_1 o1b_1 o1c_1 (List.getD o0_1 (Int.toNat t33) (bs []))).bind fun (r72_1, _) =>
                  jb (P := (Bool × Unit × Int × Unit × Int × Int × Unit × Unit × Unit × Unit) × List Bool × List Int × List ByteArray × (List Df × List ByteArray × List Rl × Unit) × Unit) (
                      bif (ile 0 r72_1) then
                        ok (inB r72_1 (len o2_1)) <|
                        some (.inr (((!(List.getD o2_1 (Int.toNat r72_1) false)), ((), (r72_1, ((), (t33, (t32, ((), ((), ((), ()))))))))), (o2_1, (o3, (o0_1, ((o1a_1, (o1b_1, (o1c_1, ()))), ()))))))
                      else
                      some (.inr ((false, ((), (r72_1, ((), (t33, (t32, ((), ((), ((), ()))))))))), (o2_1, (o3, (o0_1, ((o1a_1, (o1b_1, (o1c_1, ()))), ()))))))) fun ((t48, (_, (k10, (_, (t33_1, (t32_1, (_, (_, (_, _))))))))), (o0_2, (o1, (o2_2, ((o3a, (o3b, (o3c, _))), _))))) =>
                  bif t48 then
                    ok (inB k10 (len o0_2)) <|
                    ok (aok (o1 ++ [k10]) 8) <|
                    some (.inr ((t33_1, (t32_1, ((), ((), ((), ((), ((), ()))))))), (o2_2, ((o3a, (o3b, (o3c, ()))), ((List.set o0_2 (Int.toNat k10) true), ((o1 ++ [k10]), ()))))))
                  else
                  some (.inr ((t33_1, (t32_1, ((), ((), ((), ((), ((), ()))))))), (o2_2, ((o3a, (o3b, (o3c, ()))), (o0_2, (o1, ()))))))) fun ((t33_2, (t32_2, (_, (_, (_, (_, (_, _))))))), (o0_3, ((o1a_2, (o1b_2, (o1c_2, _))), (o2_3, (o3_1, _))))) =>
              rec_1 (((iadd .i64 t33_2 1), (t32_2, ((), ((), ((), ((), ((), ()))))))), (o0_3, ((o1a_2, (o1b_2, (o1c_2, ()))), (o2_3, (o3_1, ())))))
            else
            rec (((), ((), ((), ((), ())))), (o3, ((o1a_1, (o1b_1, (o1c_1, ()))), (o2_1, ()))))) n ((0, ((len r145_1), ((), ((), ((), ((), ((), ()))))))), (r145_1, ((o1a, (o1b, (o1c, ()))), (o2, ((part o0 (Int.toNat 1) ((Int.toNat (len o0)) - (Int.toNat 1))), ())))))
      else
      some (o2, ())) n (((), ((), ((), ((), ())))), ([u3], ((u0, (u1, (u2, ()))), ((List.replicate (Int.toNat (len u0)) false), ()))))

noncomputable def p_w_szProgDef (R : Run) (n : Nat) (u0 : ByteArray) (u1 : List ByteArray) (u2 : List Tn) (u3 : Int) : Option (Int × Unit) :=
  bif (ilt (isub .i64 u3 (slen u0)) 0) then
    some ((-1), ())
  else
  (c_w_szStringS R u1 (isub .i64 u3 (slen u0))).bind fun (r57_1, _) =>
  bif (ilt r57_1 0) then
    some ((-1), ())
  else
  (c_w_szTerm R u2 r57_1).bind fun (r146_1, _) =>
  bif (ilt r146_1 0) then
    some ((-1), ())
  else
  some (r146_1, ())

noncomputable def p_w_szProgRel (R : Run) (n : Nat) (u0 : Int) (u1 : List Tn) (u2 : List Tn) (u3 : Int) : Option (Int × Unit) :=
  (c_w_szTerm R u1 u3).bind fun (r146_1, _) =>
  bif (ilt r146_1 0) then
    some ((-1), ())
  else
  (c_w_szTerm R u2 r146_1).bind fun (r146_2_1, _) =>
  bif (ilt r146_2_1 0) then
    some ((-1), ())
  else
  some (r146_2_1, ())

noncomputable def p_w_toProgDef_deep (R : Run) (n : Nat) (u0 : Mem Dh) (u1 : Mem Rh) (u2 : Mem ByteArray) (u3 : Mem Tn) (u4 : ByteArray) (u5 : List ByteArray) (u6 : List Tn) : Option (Mem Dh × Mem Rh × Mem ByteArray × Mem Tn × ByteArray × Hd × Hd × Unit) :=
  (c_w_toStringS_deep R u0 u1 u2 u3 u5).bind fun (r60_1, (r60b, (r60c, (r60d, (r60e, _))))) =>
  (c_w_toTerm_deep R r60_1 r60b r60c r60d u6).bind fun (r147_1, (r147b, (r147c, (r147d, (r147e, _))))) =>
  some (r147_1, (r147b, (r147c, (r147d, (u4, (r60e, (r147e, ())))))))

noncomputable def p_w_toProgRel_deep (R : Run) (n : Nat) (u0 : Mem Dh) (u1 : Mem Rh) (u2 : Mem ByteArray) (u3 : Mem Tn) (u4 : Int) (u5 : List Tn) (u6 : List Tn) : Option (Mem Dh × Mem Rh × Mem ByteArray × Mem Tn × Int × Hd × Hd × Unit) :=
  (c_w_toTerm_deep R u0 u1 u2 u3 u5).bind fun (r147_1, (r147b, (r147c, (r147d, (r147e, _))))) =>
  (c_w_toTerm_deep R r147_1 r147b r147c r147d u6).bind fun (r147_2_1, (r147_2b, (r147_2c, (r147_2d, (r147_2e, _))))) =>
  some (r147_2_1, (r147_2b, (r147_2c, (r147_2d, (u4, (r147e, (r147_2e, ())))))))

noncomputable def p_w_eqProgDef (R : Run) (n : Nat) (u0 : ByteArray) (u1 : List ByteArray) (u2 : List Tn) (u3 : ByteArray) (u4 : List ByteArray) (u5 : List Tn) : Option (Bool × Unit) :=
  bif (!(seq u0 u3)) then
    some (false, ())
  else
  (c_w_eqStringS R u1 u4).bind fun (r63_1, _) =>
  bif (!r63_1) then
    some (false, ())
  else
  (c_w_eqTerm R u2 u5).bind fun (r148_1, _) =>
  bif (!r148_1) then
    some (false, ())
  else
  some (true, ())

noncomputable def p_w_eqProgRel (R : Run) (n : Nat) (u0 : Int) (u1 : List Tn) (u2 : List Tn) (u3 : Int) (u4 : List Tn) (u5 : List Tn) : Option (Bool × Unit) :=
  bif (u0 != u3) then
    some (false, ())
  else
  (c_w_eqTerm R u1 u4).bind fun (r148_1, _) =>
  bif (!r148_1) then
    some (false, ())
  else
  (c_w_eqTerm R u2 u5).bind fun (r148_2_1, _) =>
  bif (!r148_2_1) then
    some (false, ())
  else
  some (true, ())

noncomputable def p_w_markText (R : Run) (n : Nat) (u0 : Int) : Option (ByteArray × Unit) :=
  bif (ile u0 0) then
    some ((bs [109, 48]), ())
  else
  iter (P := (Int × ByteArray × ByteArray × Unit) × Unit) (fun rec ((k0, (out3, (t2, _))), _) =>
      bif (ilt 0 k0) then
        ok (sok (ofInts [(IntKind.wrap .u8 (iadd .i64 48 (irem .i64 k0 10)))]) out3) <|
        rec (((iquo .i64 k0 10), (((ofInts [(IntKind.wrap .u8 (iadd .i64 48 (irem .i64 k0 10)))]) ++ out3), (t2, ()))), ())
      else
      ok (sok (bs [109]) out3) <|
      some (((bs [109]) ++ out3), ())) n ((u0, ((bs []), ((bs []), ()))), ())

noncomputable def p_w_markTermNodeS_deep (R : Run) (n : Nat) (u0 : Mem Dh) (u1 : Mem Rh) (u2 : Mem ByteArray) (u3 : Mem Tn) (u4 : Hd) (u5 : Int) : Option (Mem Dh × Mem Rh × Mem ByteArray × Mem Tn × Int × Unit) :=
  iter (P := (Int × Hd × Int × Int × Unit) × Mem Dh × Mem Rh × Mem ByteArray × Mem Tn × Unit) (fun rec ((i5, (a0, (k1, (t4, _)))), (o900059, (o900057, (o900009, (o900073, _))))) =>
      bif (ilt i5 ((a0.2.2 : Nat) : Int)) then
        ok (inB i5 ((a0.2.2 : Nat) : Int)) <|
        ok (mhit o900073 a0.1 (a0.2.1 + (Int.toNat i5))) <|
        ok (inB i5 ((a0.2.2 : Nat) : Int)) <|
        ok (mhit (mwr o900073 (some (List.set (mrow o900073 a0.1) (a0.2.1 + (Int.toNat i5)) (k1, ((List.getD (mrow o900073 a0.1) (a0.2.1 + (Int.toNat i5)) (0, (0, ((bs []), ())))).2.1, ((List.getD (mrow o900073 a0.1) (a0.2.1 + (Int.toNat i5)) (0, (0, ((bs []), ())))).2.2.1, ()))))) a0.1) a0.1 (a0.2.1 + (Int.toNat i5))) <|
        (c_w_markText R (iadd .i64 (iadd .i64 k1 1) 1)).bind fun (r114_1, _) =>
        ok (inB i5 ((a0.2.2 : Nat) : Int)) <|
        ok (mhit (mwr (mwr o900073 (some (List.set (mrow o900073 a0.1) (a0.2.1 + (Int.toNat i5)) (k1, ((List.getD (mrow o900073 a0.1) (a0.2.1 + (Int.toNat i5)) (0, (0, ((bs []), ())))).2.1, ((List.getD (mrow o900073 a0.1) (a0.2.1 + (Int.toNat i5)) (0, (0, ((bs []), ())))).2.2.1, ()))))) a0.1) (some (List.set (mrow (mwr o900073 (some (List.set (mrow o900073 a0.1) (a0.2.1 + (Int.toNat i5)) (k1, ((List.getD (mrow o900073 a0.1) (a0.2.1 + (Int.toNat i5)) (0, (0, ((bs []), ())))).2.1, ((List.getD (mrow o900073 a0.1) (a0.2.1 + (Int.toNat i5)) (0, (0, ((bs []), ())))).2.2.1, ()))))) a0.1) a0.1) (a0.2.1 + (Int.toNat i5)) ((List.getD (mrow (mwr o900073 (some (List.set (mrow o900073 a0.1) (a0.2.1 + (Int.toNat i5)) (k1, ((List.getD (mrow o900073 a0.1) (a0.2.1 + (Int.toNat i5)) (0, (0, ((bs []), ())))).2.1, ((List.getD (mrow o900073 a0.1) (a0.2.1 + (Int.toNat i5)) (0, (0, ((bs []), ())))).2.2.1, ()))))) a0.1) a0.1) (a0.2.1 + (Int.toNat i5)) (0, (0, ((bs []), ())))).1, ((iadd .i64 k1 1), ((List.getD (mrow (mwr o900073 (some (List.set (mrow o900073 a0.1) (a0.2.1 + (Int.toNat i5)) (k1, ((List.getD (mrow o900073 a0.1) (a0.2.1 + (Int.toNat i5)) (0, (0, ((bs []), ())))).2.1, ((List.getD (mrow o900073 a0.1) (a0.2.1 + (Int.toNat i5)) (0, (0, ((bs []), ())))).2.2.1, ()))))) a0.1) a0.1) (a0.2.1 + (Int.toNat i5)) (0, (0, ((bs []), ())))).2.2.1, ()))))) a0.1) a0.1 (a0.2.1 + (Int.toNat i5))) <|
        rec (((iadd .i64 i5 1), (a0, ((iadd .i64 (iadd .i64 (iadd .i64 k1 1) 1) 1), (t4, ())))), (o900059, (o900057, (o900009, ((mwr (mwr (mwr o900073 (some (List.set (mrow o900073 a0.1) (a0.2.1 + (Int.toNat i5)) (k1, ((List.getD (mrow o900073 a0.1) (a0.2.1 + (Int.toNat i5)) (0, (0, ((bs []), ())))).2.1, ((List.getD (mrow o900073 a0.1) (a0.2.1 + (Int.toNat i5)) (0, (0, ((bs []), ())))).2.2.1, ()))))) a0.1) (some (List.set (mrow (mwr o900073 (some (List.set (mrow o900073 a0.1) (a0.2.1 + (Int.toNat i5)) (k1, ((List.getD (mrow o900073 a0.1) (a0.2.1 + (Int.toNat i5)) (0, (0, ((bs []), ())))).2.1, ((List.getD (mrow o900073 a0.1) (a0.2.1 + (Int.toNat i5)) (0, (0, ((bs []), ())))).2.2.1, ()))))) a0.1) a0.1) (a0.2.1 + (Int.toNat i5)) ((List.getD (mrow (mwr o900073 (some (List.set (mrow o900073 a0.1) (a0.2.1 + (Int.toNat i5)) (k1, ((List.getD (mrow o900073 a0.1) (a0.2.1 + (Int.toNat i5)) (0, (0, ((bs []), ())))).2.1, ((List.getD (mrow o900073 a0.1) (a0.2.1 + (Int.toNat i5)) (0, (0, ((bs []), ())))).2.2.1, ()))))) a0.1) a0.1) (a0.2.1 + (Int.toNat i5)) (0, (0, ((bs []), ())))).1, ((iadd .i64 k1 1), ((List.getD (mrow (mwr o900073 (some (List.set (mrow o900073 a0.1) (a0.2.1 + (Int.toNat i5)) (k1, ((List.getD (mrow o900073 a0.1) (a0.2.1 + (Int.toNat i5)) (0, (0, ((bs []), ())))).2.1, ((List.getD (mrow o900073 a0.1) (a0.2.1 + (Int.toNat i5)) (0, (0, ((bs []), ())))).2.2.1, ()))))) a0.1) a0.1) (a0.2.1 + (Int.toNat i5)) (0, (0, ((bs []), ())))).2.2.1, ()))))) a0.1) (some (List.set (mrow (mwr (mwr o900073 (some (List.set (mrow o900073 a0.1) (a0.2.1 + (Int.toNat i5)) (k1, ((List.getD (mrow o900073 a0.1) (a0.2.1 + (Int.toNat i5)) (0, (0, ((bs []), ())))).2.1, ((List.getD (mrow o900073 a0.1) (a0.2.1 + (Int.toNat i5)) (0, (0, ((bs []), ())))).2.2.1, ()))))) a0.1) (some (List.set (mrow (mwr o900073 (some (List.set (mrow o900073 a0.1) (a0.2.1 + (Int.toNat i5)) (k1, ((List.getD (mrow o900073 a0.1) (a0.2.1 + (Int.toNat i5)) (0, (0, ((bs []), ())))).2.1, ((List.getD (mrow o900073 a0.1) (a0.2.1 + (Int.toNat i5)) (0, (0, ((bs []), ())))).2.2.1, ()))))) a0.1) a0.1) (a0.2.1 + (Int.toNat i5)) ((List.getD (mrow (mwr o900073 (some (List.set (mrow o900073 a0.1) (a0.2.1 + (Int.toNat i5)) (k1, ((List.getD (mrow o900073 a0.1) (a0.2.1 + (Int.toNat i5)) (0, (0, ((bs []), ())))).2.1, ((List.getD (mrow o900073 a0.1) (a0.2.1 + (Int.toNat i5)) (0, (0, ((bs []), ())))).2.2.1, ()))))) a0.1) a0.1) (a0.2.1 + (Int.toNat i5)) (0, (0, ((bs []), ())))).1, ((iadd .i64 k1 1), ((List.getD (mrow (mwr o900073 (some (List.set (mrow o900073 a0.1) (a0.2.1 + (Int.toNat i5)) (k1, ((List.getD (mrow o900073 a0.1) (a0.2.1 + (Int.toNat i5)) (0, (0, ((bs []), ())))).2.1, ((List.getD (mrow o900073 a0.1) (a0.2.1 + (Int.toNat i5)) (0, (0, ((bs []), ())))).2.2.1, ()))))) a0.1) a0.1) (a0.2.1 + (Int.toNat i5)) (0, (0, ((bs []), ())))).2.2.1, ()))))) a0.1) a0.1) (a0.2.1 + (Int.toNat i5)) ((List.getD (mrow (mwr (mwr o900073 (some (List.set (mrow o900073 a0.1) (a0.2.1 + (Int.toNat i5)) (k1, ((List.getD (mrow o900073 a0.1) (a0.2.1 + (Int.toNat i5)) (0, (0, ((bs []), ())))).2.1, ((List.getD (mrow o900073 a0.1) (a0.2.1 + (Int.toNat i5)) (0, (0, ((bs []), ())))).2.2.1, ()))))) a0.1) (some (List.set (mrow (mwr o900073 (some (List.set (mrow o900073 a0.1) (a0.2.1 + (Int.toNat i5)) (k1, ((List.getD (mrow o900073 a0.1) (a0.2.1 + (Int.toNat i5)) (0, (0, ((bs []), ())))).2.1, ((List.getD (mrow o900073 a0.1) (a0.2.1 + (Int.toNat i5)) (0, (0, ((bs []), ())))).2.2.1, ()))))) a0.1) a0.1) (a0.2.1 + (Int.toNat i5)) ((List.getD (mrow (mwr o900073 (some (List.set (mrow o900073 a0.1) (a0.2.1 + (Int.toNat i5)) (k1, ((List.getD (mrow o900073 a0.1) (a0.2.1 + (Int.toNat i5)) (0, (0, ((bs []), ())))).2.1, ((List.getD (mrow o900073 a0.1) (a0.2.1 + (Int.toNat i5)) (0, (0, ((bs []), ())))).2.2.1, ()))))) a0.1) a0.1) (a0.2.1 + (Int.toNat i5)) (0, (0, ((bs []), ())))).1, ((iadd .i64 k1 1), ((List.getD (mrow (mwr o900073 (some (List.set (mrow o900073 a0.1) (a0.2.1 + (Int.toNat i5)) (k1, ((List.getD (mrow o900073 a0.1) (a0.2.1 + (Int.toNat i5)) (0, (0, ((bs []), ())))).2.1, ((List.getD (mrow o900073 a0.1) (a0.2.1 + (Int.toNat i5)) (0, (0, ((bs []), ())))).2.2.1, ()))))) a0.1) a0.1) (a0.2.1 + (Int.toNat i5)) (0, (0, ((bs []), ())))).2.2.1, ()))))) a0.1) a0.1) (a0.2.1 + (Int.toNat i5)) (0, (0, ((bs []), ())))).1, ((List.getD (mrow (mwr (mwr o900073 (some (List.set (mrow o900073 a0.1) (a0.2.1 + (Int.toNat i5)) (k1, ((List.getD (mrow o900073 a0.1) (a0.2.1 + (Int.toNat i5)) (0, (0, ((bs []), ())))).2.1, ((List.getD (mrow o900073 a0.1) (a0.2.1 + (Int.toNat i5)) (0, (0, ((bs []), ())))).2.2.1, ()))))) a0.1) (some (List.set (mrow (mwr o900073 (some (List.set (mrow o900073 a0.1) (a0.2.1 + (Int.toNat i5)) (k1, ((List.getD (mrow o900073 a0.1) (a0.2.1 + (Int.toNat i5)) (0, (0, ((bs []), ())))).2.1, ((List.getD (mrow o900073 a0.1) (a0.2.1 + (Int.toNat i5)) (0, (0, ((bs []), ())))).2.2.1, ()))))) a0.1) a0.1) (a0.2.1 + (Int.toNat i5)) ((List.getD (mrow (mwr o900073 (some (List.set (mrow o900073 a0.1) (a0.2.1 + (Int.toNat i5)) (k1, ((List.getD (mrow o900073 a0.1) (a0.2.1 + (Int.toNat i5)) (0, (0, ((bs []), ())))).2.1, ((List.getD (mrow o900073 a0.1) (a0.2.1 + (Int.toNat i5)) (0, (0, ((bs []), ())))).2.2.1, ()))))) a0.1) a0.1) (a0.2.1 + (Int.toNat i5)) (0, (0, ((bs []), ())))).1, ((iadd .i64 k1 1), ((List.getD (mrow (mwr o900073 (some (List.set (mrow o900073 a0.1) (a0.2.1 + (Int.toNat i5)) (k1, ((List.getD (mrow o900073 a0.1) (a0.2.1 + (Int.toNat i5)) (0, (0, ((bs []), ())))).2.1, ((List.getD (mrow o900073 a0.1) (a0.2.1 + (Int.toNat i5)) (0, (0, ((bs []), ())))).2.2.1, ()))))) a0.1) a0.1) (a0.2.1 + (Int.toNat i5)) (0, (0, ((bs []), ())))).2.2.1, ()))))) a0.1) a0.1) (a0.2.1 + (Int.toNat i5)) (0, (0, ((bs []), ())))).2.1, (r114_1, ()))))) a0.1), ())))))
      else
      some (o900059, (o900057, (o900009, (o900073, (k1, ())))))) n ((0, (u4, (u5, (0, ())))), (u0, (u1, (u2, (u3, ())))))

noncomputable def p_w_heldTermNodeS (R : Run) (n : Nat) (u0 : List Tn) (u1 : Int) : Option (Int × Unit) :=
  iter (P := (Int × List Tn × Int × Int × Unit) × Unit) (fun rec ((i5, (a0, (k1, (t4, _)))), _) =>
      bif (ilt i5 (len a0)) then
        ok (inB i5 (len a0)) <|
        bif ((List.getD a0 (Int.toNat i5) (0, (0, ((bs []), ())))).1 != k1) then
          some ((-1), ())
        else
        ok (inB i5 (len a0)) <|
        bif ((List.getD a0 (Int.toNat i5) (0, (0, ((bs []), ())))).2.1 != (iadd .i64 k1 1)) then
          some ((-1), ())
        else
        ok (inB i5 (len a0)) <|
        (c_w_markText R (iadd .i64 (iadd .i64 k1 1) 1)).bind fun (r114_1, _) =>
        bif (!(seq (List.getD a0 (Int.toNat i5) (0, (0, ((bs []), ())))).2.2.1 r114_1)) then
          some ((-1), ())
        else
        rec (((iadd .i64 i5 1), (a0, ((iadd .i64 (iadd .i64 (iadd .i64 k1 1) 1) 1), (t4, ())))), ())
      else
      some (k1, ())) n ((0, (u0, (u1, (0, ())))), ())

noncomputable def p_slices_IndexFunc_impl_ProgDef_impl_ProgDef_i_Prog_many_1 (R : Run) (n : Nat) (u0 : List Df) : Option (Int × Unit) :=
  iter (P := (Int × Int × Unit × List Df × Int × Unit) × Unit) (fun rec ((t8, (t7, (_, (s0, (t4, _))))), _) =>
      bif (ilt t8 t7) then
        ok (inB t8 (len s0)) <|
        (c_i_Prog_many_1 R (List.getD s0 (Int.toNat t8) dDf).1 (List.getD s0 (Int.toNat t8) dDf).2.1 (List.getD s0 (Int.toNat t8) dDf).2.2.1.1).bind fun (r100_1, _) =>
        bif r100_1 then
          some (t8, ())
        else
        rec (((iadd .i64 t8 1), (t7, ((), (s0, (t4, ()))))), ())
      else
      some ((-1), ())) n ((0, ((len u0), ((), (u0, (0, ()))))), ())

noncomputable def p_slices_IndexFunc_impl_ProgDef_impl_ProgDef_i_Prog_again_1 (R : Run) (n : Nat) (u0 : List Df) : Option (Int × Unit) :=
  iter (P := (Int × Int × Unit × List Df × Int × Unit) × Unit) (fun rec ((t8, (t7, (_, (s0, (t4, _))))), _) =>
      bif (ilt t8 t7) then
        ok (inB t8 (len s0)) <|
        (c_i_Prog_again_1 R (List.getD s0 (Int.toNat t8) dDf).1 (List.getD s0 (Int.toNat t8) dDf).2.1 (List.getD s0 (Int.toNat t8) dDf).2.2.1.1).bind fun (r102_1, _) =>
        bif r102_1 then
          some (t8, ())
        else
        rec (((iadd .i64 t8 1), (t7, ((), (s0, (t4, ()))))), ())
      else
      some ((-1), ())) n ((0, ((len u0), ((), (u0, (0, ()))))), ())

noncomputable def p_slices_IndexFunc_impl_ProgDef_impl_ProgDef_i_Prog_defAt_1 (R : Run) (n : Nat) (u0 : List Df) (u1 : ByteArray) : Option (Int × ByteArray × Unit) :=
  iter (P := (Int × Int × Unit × List Df × Int × Unit) × (ByteArray × Unit) × Unit) (fun rec ((t8, (t7, (_, (s0, (t4, _))))), ((o0, _), _)) =>
      bif (ilt t8 t7) then
        ok (inB t8 (len s0)) <|
        (c_i_Prog_defAt_1 R (List.getD s0 (Int.toNat t8) dDf).1 (List.getD s0 (Int.toNat t8) dDf).2.1 (List.getD s0 (Int.toNat t8) dDf).2.2.1.1 o0).bind fun (r118_1, (r118b, _)) =>
        bif r118_1 then
          some (t8, (r118b, ()))
        else
        rec (((iadd .i64 t8 1), (t7, ((), (s0, (t4, ()))))), ((r118b, ()), ()))
      else
      some ((-1), (o0, ()))) n ((0, ((len u0), ((), (u0, (0, ()))))), ((u1, ()), ()))

noncomputable def p_i_Prog_defAt_1 (R : Run) (n : Nat) (u0 : ByteArray) (u1 : List ByteArray) (u2 : List Tn) (u3 : ByteArray) : Option (Bool × ByteArray × Unit) :=
  some ((seq u0 u3), (u3, ()))

noncomputable def p_s_l12Args (R : Run) (n : Nat) (u0 : Int) (u1 : Int) (u2 : ByteArray) : Option (Int × Unit) :=
  jb (P := (Int × Unit) × Unit) (
      bif (u0 == 1) then
        jb (P := (Bool × Int × Unit) × Unit) (
            bif (u1 == 0) then
              (c_s_LangNumOk R u2).bind fun (r154_1, _) =>
              some (.inr ((r154_1, (0, ())), ()))
            else
            some (.inr ((false, (0, ())), ()))) fun ((t14, (t2, _)), _) =>
        bif t14 then
          some (.inl (0, ()))
        else
        some (.inr ((t2, ()), ()))
      else
      bif (u0 == 2) then
        jb (P := (Bool × Int × Unit) × Unit) (
            bif (u1 == 0) then
              (c_s_LangNameOk R u2).bind fun (r42_1, _) =>
              some (.inr ((r42_1, (0, ())), ()))
            else
            some (.inr ((false, (0, ())), ()))) fun ((t24, (t2_1, _)), _) =>
        bif t24 then
          some (.inl (0, ()))
        else
        some (.inr ((t2_1, ()), ()))
      else
      jb (P := (Bool × Unit × Int × Int × Unit) × Tn × Unit) (
          bif (u0 == 3) then
            some (.inr ((true, ((), (u0, (0, ())))), ((u0, (u1, (u2, ()))), ())))
          else
          bif (u0 == 9) then
            some (.inr ((true, ((), (u0, (0, ())))), ((u0, (u1, (u2, ()))), ())))
          else
          some (.inr (((u0 == 10), ((), (u0, (0, ())))), ((u0, (u1, (u2, ()))), ())))) fun ((t25, (_, (t4, (t2_2, _)))), ((o0a, (o0b, (o0c, _))), _)) =>
      bif t25 then
        jb (P := (Bool × Int × Unit) × Unit) (
            bif (o0b == 0) then
              some (.inr (((seq o0c (bs [])), (t2_2, ())), ()))
            else
            some (.inr ((false, (t2_2, ())), ()))) fun ((t36, (t2_3, _)), _) =>
        bif t36 then
          some (.inl (1, ()))
        else
        some (.inr ((t2_3, ()), ()))
      else
      jb (P := (Bool × Unit × Int × Int × Unit) × Tn × Unit) (
          bif (t4 == 4) then
            some (.inr ((true, ((), (t4, (t2_2, ())))), ((o0a, (o0b, (o0c, ()))), ())))
          else
          bif (t4 == 5) then
            some (.inr ((true, ((), (t4, (t2_2, ())))), ((o0a, (o0b, (o0c, ()))), ())))
          else
          bif (t4 == 6) then
            some (.inr ((true, ((), (t4, (t2_2, ())))), ((o0a, (o0b, (o0c, ()))), ())))
          else
          bif (t4 == 7) then
            some (.inr ((true, ((), (t4, (t2_2, ())))), ((o0a, (o0b, (o0c, ()))), ())))
          else
          bif (t4 == 11) then
            some (.inr ((true, ((), (t4, (t2_2, ())))), ((o0a, (o0b, (o0c, ()))), ())))
          else
          some (.inr (((t4 == 12), ((), (t4, (t2_2, ())))), ((o0a, (o0b, (o0c, ()))), ())))) fun ((t37, (_, (t4_1, (t2_4, _)))), ((o0a_1, (o0b_1, (o0c_1, _))), _)) =>
      bif t37 then
        jb (P := (Bool × Int × Unit) × Unit) (
            bif (o0b_1 == 0) then
              some (.inr (((seq o0c_1 (bs [])), (t2_4, ())), ()))
            else
            some (.inr ((false, (t2_4, ())), ()))) fun ((t51, (t2_5, _)), _) =>
        bif t51 then
          some (.inl (2, ()))
        else
        some (.inr ((t2_5, ()), ()))
      else
      bif (t4_1 == 8) then
        jb (P := (Bool × Int × Unit) × Unit) (
            bif (ile 0 o0b_1) then
              bif (ile o0b_1 8) then
                some (.inr (((seq o0c_1 (bs [])), (t2_4, ())), ()))
              else
              some (.inr ((false, (t2_4, ())), ()))
            else
            some (.inr ((false, (t2_4, ())), ()))) fun ((t66, (t2_6, _)), _) =>
        bif t66 then
          some (.inl (1, ()))
        else
        some (.inr ((t2_6, ()), ()))
      else
      bif (t4_1 == 13) then
        jb (P := (Bool × Unit × Int × Unit) × Tn × Unit) (
            bif (ile 1 o0b_1) then
              bif (ile o0b_1 6) then
                (c_s_LangNameOk R o0c_1).bind fun (r42_2_1, _) =>
                some (.inr ((r42_2_1, ((), (t2_4, ()))), ((o0a_1, (o0b_1, (o0c_1, ()))), ())))
              else
              some (.inr ((false, ((), (t2_4, ()))), ((o0a_1, (o0b_1, (o0c_1, ()))), ())))
            else
            some (.inr ((false, ((), (t2_4, ()))), ((o0a_1, (o0b_1, (o0c_1, ()))), ())))) fun ((t81, (_, (t2_7, _))), ((o0a_2, (o0b_2, (o0c_2, _))), _)) =>
        bif t81 then
          some (.inl (o0b_2, ()))
        else
        some (.inr ((t2_7, ()), ()))
      else
      some (.inr ((t2_4, ()), ()))) fun ((t2_8, _), _) =>
  some ((-1), ())

noncomputable def p_i_isLetter (R : Run) (n : Nat) (u0 : Int) : Option (Bool × Unit) :=
  jb (P := (Bool × Unit) × Unit) (
      bif (ile 97 u0) then
        some (.inr (((ile u0 122), ()), ()))
      else
      some (.inr ((false, ()), ()))) fun ((t2, _), _) =>
  some (t2, ())

noncomputable def p_i_isFigure (R : Run) (n : Nat) (u0 : Int) : Option (Bool × Unit) :=
  jb (P := (Bool × Unit) × Unit) (
      bif (ile 48 u0) then
        some (.inr (((ile u0 57), ()), ()))
      else
      some (.inr ((false, ()), ()))) fun ((t2, _), _) =>
  some (t2, ())

noncomputable def p_slices_Clip_impl_ProgDef_impl_ProgDef_deep (R : Run) (n : Nat) (u0 : Mem Dh) (u1 : Mem Rh) (u2 : Mem ByteArray) (u3 : Mem Tn) (u4 : Hd) : Option (Mem Dh × Mem Rh × Mem ByteArray × Mem Tn × Hd × Unit) :=
  ok ((sliceOk 0 ((u4.2.2 : Nat) : Int) ((u4.2.2 : Nat) : Int)) && (ile ((u4.2.2 : Nat) : Int) ((u4.2.2 : Nat) : Int))) <|
  some (u0, (u1, (u2, (u3, ((u4.1, (u4.2.1, (Int.toNat ((u4.2.2 : Nat) : Int)))), ())))))

noncomputable def p_slices_Clip_impl_ProgRel_impl_ProgRel_deep (R : Run) (n : Nat) (u0 : Mem Dh) (u1 : Mem Rh) (u2 : Mem ByteArray) (u3 : Mem Tn) (u4 : Hd) : Option (Mem Dh × Mem Rh × Mem ByteArray × Mem Tn × Hd × Unit) :=
  ok ((sliceOk 0 ((u4.2.2 : Nat) : Int) ((u4.2.2 : Nat) : Int)) && (ile ((u4.2.2 : Nat) : Int) ((u4.2.2 : Nat) : Int))) <|
  some (u0, (u1, (u2, (u3, ((u4.1, (u4.2.1, (Int.toNat ((u4.2.2 : Nat) : Int)))), ())))))

noncomputable def p_slices_Clip_impl_TermNode_impl_TermNode (R : Run) (n : Nat) (u0 : List Tn) : Option (List Tn × Unit) :=
  ok ((sliceOk 0 (len u0) (len u0)) && (ile (len u0) (len u0))) <|
  some ((List.drop (Int.toNat 0) (List.take (Int.toNat (len u0)) u0)), ())

noncomputable def p_s_l13Formed (R : Run) (n : Nat) (u0 : List Df) (u1 : List ByteArray) (u2 : List Rl) : Option (Bool × Unit) :=
  iter (P := (Int × Unit × Bool × Unit) × (List Df × List ByteArray × List Rl × Unit) × Unit) (fun rec ((i3, (_, (t2, _))), ((o0a, (o0b, (o0c, _))), _)) =>
      bif (ilt i3 (len o0a)) then
        jb (P := (Bool × Int × Unit × Bool × Unit) × (List Df × List ByteArray × List Rl × Unit) × Unit) (
            ok (inB i3 (len o0a)) <|
            (c_s_TermOk R (List.getD o0a (Int.toNat i3) dDf).2.2.1.1).bind fun (r77_1, _) =>
            bif (!r77_1) then
              some (.inr ((true, (i3, ((), (t2, ())))), ((o0a, (o0b, (o0c, ()))), ())))
            else
            ok (inB i3 (len o0a)) <|
            (c_s_LangNameOk R (List.getD o0a (Int.toNat i3) dDf).1).bind fun (r42_1, _) =>
            bif (!r42_1) then
              some (.inr ((true, (i3, ((), (t2, ())))), ((o0a, (o0b, (o0c, ()))), ())))
            else
            ok (inB i3 (len o0a)) <|
            (c_s_l13Names R (List.getD o0a (Int.toNat i3) dDf).2.1).bind fun (r158_1, _) =>
            some (.inr (((!r158_1), (i3, ((), (t2, ())))), ((o0a, (o0b, (o0c, ()))), ())))) fun ((t39, (i3_1, (_, (t2_1, _)))), ((o0a_1, (o0b_1, (o0c_1, _))), _)) =>
        bif t39 then
          some (false, ())
        else
        rec (((iadd .i64 i3_1 1), ((), (t2_1, ()))), ((o0a_1, (o0b_1, (o0c_1, ()))), ()))
      else
      iter (P := (Int × Unit × Bool × Unit) × (List Df × List ByteArray × List Rl × Unit) × Unit) (fun rec_1 ((i4, (_, (t2_2, _))), ((o0a_2, (o0b_2, (o0c_2, _))), _)) =>
          bif (ilt i4 (len o0c_2)) then
            jb (P := (Bool × Int × Unit × Bool × Unit) × (List Df × List ByteArray × List Rl × Unit) × Unit) (
                ok (inB i4 (len o0c_2)) <|
                (c_s_l13Kind R (List.getD o0c_2 (Int.toNat i4) dRl).1).bind fun (r159_1, _) =>
                bif (!r159_1) then
                  some (.inr ((true, (i4, ((), (t2_2, ())))), ((o0a_2, (o0b_2, (o0c_2, ()))), ())))
                else
                ok (inB i4 (len o0c_2)) <|
                (c_s_TermOk R (List.getD o0c_2 (Int.toNat i4) dRl).2.1.1).bind fun (r77_2_1, _) =>
                bif (!r77_2_1) then
                  some (.inr ((true, (i4, ((), (t2_2, ())))), ((o0a_2, (o0b_2, (o0c_2, ()))), ())))
                else
                ok (inB i4 (len o0c_2)) <|
                (c_s_TermOk R (List.getD o0c_2 (Int.toNat i4) dRl).2.2.1.1).bind fun (r77_3_1, _) =>
                some (.inr (((!r77_3_1), (i4, ((), (t2_2, ())))), ((o0a_2, (o0b_2, (o0c_2, ()))), ())))) fun ((t74, (i4_1, (_, (t2_3, _)))), ((o0a_3, (o0b_3, (o0c_3, _))), _)) =>
            bif t74 then
              some (false, ())
            else
            rec_1 (((iadd .i64 i4_1 1), ((), (t2_3, ()))), ((o0a_3, (o0b_3, (o0c_3, ()))), ()))
          else
          (c_s_l13Names R o0b_2).bind fun (r158_2_1, _) =>
          some (r158_2_1, ())) n ((0, ((), (t2, ()))), ((o0a, (o0b, (o0c, ()))), ()))) n ((0, ((), (false, ()))), ((u0, (u1, (u2, ()))), ()))

noncomputable def p_s_l13Distinct (R : Run) (n : Nat) (u0 : List ByteArray) : Option (Bool × Unit) :=
  iter (P := (Int × List ByteArray × Bool × Unit) × Unit) (fun rec ((i3, (l0, (t2, _))), _) =>
      bif (ilt i3 (len l0)) then
        jb (P := (Bool × Int × List ByteArray × Bool × Unit) × Unit) (
            ok (inB i3 (len l0)) <|
            (c_s_LangNameOk R (List.getD l0 (Int.toNat i3) (bs []))).bind fun (r42_1, _) =>
            bif (!r42_1) then
              some (.inr ((true, (i3, (l0, (t2, ())))), ()))
            else
            ok (sliceOk 0 i3 (len l0)) <|
            ok (inB i3 (len l0)) <|
            (c_s_l12Find R (List.drop (Int.toNat 0) (List.take (Int.toNat i3) l0)) (List.getD l0 (Int.toNat i3) (bs []))).bind fun (r40_1, _) =>
            some (.inr (((ile 0 r40_1), (i3, (l0, (t2, ())))), ()))) fun ((t26, (i3_1, (l0_1, (t2_1, _)))), _) =>
        bif t26 then
          some (false, ())
        else
        rec (((iadd .i64 i3_1 1), (l0_1, (t2_1, ()))), ())
      else
      some (true, ())) n ((0, (u0, (false, ()))), ())

noncomputable def p_s_l13Known (R : Run) (n : Nat) (u0 : List Df) (u1 : List ByteArray) (u2 : List Rl) (u3 : List Tn) (u4 : List ByteArray) : Option (Int × Unit) :=
  iter (P := (Int × Unit × Unit × List ByteArray × Int × Unit) × (List Tn × Unit) × (List Df × List ByteArray × List Rl × Unit) × Unit) (fun rec ((i7, (_, (_, (own2, (t6, _))))), ((o0, _), ((o1a, (o1b, (o1c, _))), _))) =>
      bif (ilt i7 (len o0)) then
        jb (P := (Int × Unit × Unit × List ByteArray × Int × Unit) × (List Tn × Unit) × (List Df × List ByteArray × List Rl × Unit) × Unit) (
            ok (inB i7 (len o0)) <|
            jb (P := (Bool × Unit × Unit × List ByteArray × Int × Unit × Int × Unit) × (List Df × List ByteArray × List Rl × Unit) × Tn × (List Tn × Unit) × Unit) (
                bif ((List.getD o0 (Int.toNat i7) (0, (0, ((bs []), ())))).1 != 2) then
                  some (.inr ((((List.getD o0 (Int.toNat i7) (0, (0, ((bs []), ())))).1 != 13), ((), ((), (own2, (i7, ((), (t6, ()))))))), ((o1a, (o1b, (o1c, ()))), (((List.getD o0 (Int.toNat i7) (0, (0, ((bs []), ())))).1, ((List.getD o0 (Int.toNat i7) (0, (0, ((bs []), ())))).2.1, ((List.getD o0 (Int.toNat i7) (0, (0, ((bs []), ())))).2.2.1, ()))), ((o0, ()), ())))))
                else
                some (.inr ((false, ((), ((), (own2, (i7, ((), (t6, ()))))))), ((o1a, (o1b, (o1c, ()))), (((List.getD o0 (Int.toNat i7) (0, (0, ((bs []), ())))).1, ((List.getD o0 (Int.toNat i7) (0, (0, ((bs []), ())))).2.1, ((List.getD o0 (Int.toNat i7) (0, (0, ((bs []), ())))).2.2.1, ()))), ((o0, ()), ())))))) fun ((t30, (_, (_, (own2_1, (i7_1, (_, (t6_1, _))))))), ((o0a, (o0b, (o0c, _))), ((o1a_1, (o1b_1, (o1c_1, _))), ((o2, _), _)))) =>
            bif t30 then
              some (.inr ((i7_1, ((), ((), (own2_1, (t6_1, ()))))), ((o2, ()), ((o0a, (o0b, (o0c, ()))), ()))))
            else
            (c_s_l13Def R o0a o0b o0c o1c_1).bind fun (r74_1, _) =>
            (c_s_l12Find R own2_1 o1c_1).bind fun (r40_1, _) =>
            jb (P := (Bool × Bool × Unit × Unit × Int × Int × Unit × List ByteArray × Int × Unit) × Tn × (List Df × List ByteArray × List Rl × Unit) × (List Tn × Unit) × Unit) (
                bif (ilt r74_1 0) then
                  some (.inr (((!(ile 0 r40_1)), ((ile 0 r40_1), ((), ((), (r74_1, (i7_1, ((), (own2_1, (t6_1, ()))))))))), ((o1a_1, (o1b_1, (o1c_1, ()))), ((o0a, (o0b, (o0c, ()))), ((o2, ()), ())))))
                else
                some (.inr ((false, ((ile 0 r40_1), ((), ((), (r74_1, (i7_1, ((), (own2_1, (t6_1, ()))))))))), ((o1a_1, (o1b_1, (o1c_1, ()))), ((o0a, (o0b, (o0c, ()))), ((o2, ()), ())))))) fun ((t45, (mine10, (_, (_, (k9, (i7_2, (_, (own2_2, (t6_2, _))))))))), ((o0a_1, (o0b_1, (o0c_1, _))), ((o1a_2, (o1b_2, (o1c_2, _))), ((o2_1, _), _)))) =>
            bif t45 then
              some (.inl (8, ()))
            else
            bif mine10 then
              bif (o0a_1 == 13) then
                some (.inl (9, ()))
              else
              some (.inr ((i7_2, ((), ((), (own2_2, (t6_2, ()))))), ((o2_1, ()), ((o1a_2, (o1b_2, (o1c_2, ()))), ()))))
            else
            ok (inB k9 (len o1a_2)) <|
            bif ((len (List.getD o1a_2 (Int.toNat k9) dDf).2.1) != o0b_1) then
              some (.inl (9, ()))
            else
            some (.inr ((i7_2, ((), ((), (own2_2, (t6_2, ()))))), ((o2_1, ()), ((o1a_2, (o1b_2, (o1c_2, ()))), ()))))) fun ((i7_3, (_, (_, (own2_3, (t6_3, _))))), ((o0_1, _), ((o1a_3, (o1b_3, (o1c_3, _))), _))) =>
        rec (((iadd .i64 i7_3 1), ((), ((), (own2_3, (t6_3, ()))))), ((o0_1, ()), ((o1a_3, (o1b_3, (o1c_3, ()))), ())))
      else
      some (0, ())) n ((0, ((), ((), (u4, (0, ()))))), ((u3, ()), ((u0, (u1, (u2, ()))), ())))

noncomputable def p_s_l13Reaches (R : Run) (n : Nat) (u0 : List Df) (u1 : List ByteArray) (u2 : List Rl) (u3 : Int) (u4 : Int) (u5 : Int) : Option (Bool × Unit) :=
  iter (P := (Int × Unit × Int × Int × Int × Bool × Unit) × (List Df × List ByteArray × List Rl × Unit) × Unit) (fun rec ((i9, (_, (from1, (to2, (steps3, (t8, _)))))), ((o0a, (o0b, (o0c, _))), _)) =>
      ok (inB from1 (len o0a)) <|
      bif (ilt i9 (len (List.getD o0a (Int.toNat from1) dDf).2.2.1.1)) then
        jb (P := (Int × Unit × Int × Int × Int × Bool × Unit) × (List Df × List ByteArray × List Rl × Unit) × Unit) (
            ok (inB from1 (len o0a)) <|
            ok (inB i9 (len (List.getD o0a (Int.toNat from1) dDf).2.2.1.1)) <|
            jb (P := (Bool × Unit × Unit × Int × Int × Int × Int × Bool × Unit) × (List Df × List ByteArray × List Rl × Unit) × Tn × Unit) (
                bif ((List.getD (List.getD o0a (Int.toNat from1) dDf).2.2.1.1 (Int.toNat i9) (0, (0, ((bs []), ())))).1 != 2) then
                  some (.inr ((((List.getD (List.getD o0a (Int.toNat from1) dDf).2.2.1.1 (Int.toNat i9) (0, (0, ((bs []), ())))).1 != 13), ((), ((), (to2, (steps3, (i9, (from1, (t8, ())))))))), ((o0a, (o0b, (o0c, ()))), (((List.getD (List.getD o0a (Int.toNat from1) dDf).2.2.1.1 (Int.toNat i9) (0, (0, ((bs []), ())))).1, ((List.getD (List.getD o0a (Int.toNat from1) dDf).2.2.1.1 (Int.toNat i9) (0, (0, ((bs []), ())))).2.1, ((List.getD (List.getD o0a (Int.toNat from1) dDf).2.2.1.1 (Int.toNat i9) (0, (0, ((bs []), ())))).2.2.1, ()))), ()))))
                else
                some (.inr ((false, ((), ((), (to2, (steps3, (i9, (from1, (t8, ())))))))), ((o0a, (o0b, (o0c, ()))), (((List.getD (List.getD o0a (Int.toNat from1) dDf).2.2.1.1 (Int.toNat i9) (0, (0, ((bs []), ())))).1, ((List.getD (List.getD o0a (Int.toNat from1) dDf).2.2.1.1 (Int.toNat i9) (0, (0, ((bs []), ())))).2.1, ((List.getD (List.getD o0a (Int.toNat from1) dDf).2.2.1.1 (Int.toNat i9) (0, (0, ((bs []), ())))).2.2.1, ()))), ()))))) fun ((t41, (_, (_, (to2_1, (steps3_1, (i9_1, (from1_1, (t8_1, _)))))))), ((o0a_1, (o0b_1, (o0c_1, _))), ((o1a, (o1b, (o1c, _))), _))) =>
            bif t41 then
              some (.inr ((i9_1, ((), (from1_1, (to2_1, (steps3_1, (t8_1, ())))))), ((o0a_1, (o0b_1, (o0c_1, ()))), ())))
            else
            (c_s_l13Def R o0a_1 o0b_1 o0c_1 o1c).bind fun (r74_1, _) =>
            jb (P := (Bool × Int × Unit × Int × Int × Int × Bool × Unit) × (List Df × List ByteArray × List Rl × Unit) × Unit) (
                bif (r74_1 == to2_1) then
                  some (.inr ((true, (i9_1, ((), (from1_1, (to2_1, (steps3_1, (t8_1, ()))))))), ((o0a_1, (o0b_1, (o0c_1, ()))), ())))
                else
                bif (ile 0 r74_1) then
                  bif (ilt 1 steps3_1) then
                    (c_s_l13Reaches R o0a_1 o0b_1 o0c_1 r74_1 to2_1 (isub .i64 steps3_1 1)).bind fun (r139_1, _) =>
                    some (.inr ((r139_1, (i9_1, ((), (from1_1, (to2_1, (steps3_1, (t8_1, ()))))))), ((o0a_1, (o0b_1, (o0c_1, ()))), ())))
                  else
                  some (.inr ((false, (i9_1, ((), (from1_1, (to2_1, (steps3_1, (t8_1, ()))))))), ((o0a_1, (o0b_1, (o0c_1, ()))), ())))
                else
                some (.inr ((false, (i9_1, ((), (from1_1, (to2_1, (steps3_1, (t8_1, ()))))))), ((o0a_1, (o0b_1, (o0c_1, ()))), ())))) fun ((t64, (i9_2, (_, (from1_2, (to2_2, (steps3_2, (t8_2, _))))))), ((o0a_2, (o0b_2, (o0c_2, _))), _)) =>
            bif t64 then
              some (.inl (true, ()))
            else
            some (.inr ((i9_2, ((), (from1_2, (to2_2, (steps3_2, (t8_2, ())))))), ((o0a_2, (o0b_2, (o0c_2, ()))), ())))) fun ((i9_3, (_, (from1_3, (to2_3, (steps3_3, (t8_3, _)))))), ((o0a_3, (o0b_3, (o0c_3, _))), _)) =>
        rec (((iadd .i64 i9_3 1), ((), (from1_3, (to2_3, (steps3_3, (t8_3, ())))))), ((o0a_3, (o0b_3, (o0c_3, ()))), ()))
      else
      some (false, ())) n ((0, ((), (u3, (u4, (u5, (false, ())))))), ((u0, (u1, (u2, ()))), ()))

noncomputable def p_s_l11Letter (R : Run) (n : Nat) (u0 : Int) : Option (Bool × Unit) :=
  jb (P := (Bool × Unit) × Unit) (
      bif (ile 97 u0) then
        some (.inr (((ile u0 122), ()), ()))
      else
      some (.inr ((false, ()), ()))) fun ((t2, _), _) =>
  some (t2, ())

noncomputable def p_s_l11Digit (R : Run) (n : Nat) (u0 : Int) : Option (Bool × Unit) :=
  jb (P := (Bool × Unit) × Unit) (
      bif (ile 48 u0) then
        some (.inr (((ile u0 57), ()), ()))
      else
      some (.inr ((false, ()), ()))) fun ((t2, _), _) =>
  some (t2, ())

noncomputable def p_i_TermNode_parts (R : Run) (n : Nat) (u0 : Int) (u1 : Int) (u2 : ByteArray) : Option (Int × Unit) :=
  jb (P := (Unit × Bool × Int × Unit) × Tn × Unit) (
      bif (u1 == 0) then
        some (.inr (((), ((seq u2 (bs [])), (0, ()))), ((u0, (u1, (u2, ()))), ())))
      else
      some (.inr (((), (false, (0, ()))), ((u0, (u1, (u2, ()))), ())))) fun ((_, (bare3, (t2, _))), ((o0a, (o0b, (o0c, _))), _)) =>
  jb (P := (Int × Unit) × Unit) (
      bif (o0a == 1) then
        jb (P := (Bool × Int × Unit) × Unit) (
            bif (o0b == 0) then
              (c_i_LangNumOk R o0c).bind fun (r160_1, _) =>
              some (.inr ((r160_1, (t2, ())), ()))
            else
            some (.inr ((false, (t2, ())), ()))) fun ((t23, (t2_1, _)), _) =>
        bif t23 then
          some (.inl (0, ()))
        else
        some (.inr ((t2_1, ()), ()))
      else
      bif (o0a == 2) then
        jb (P := (Bool × Int × Unit) × Unit) (
            bif (o0b == 0) then
              (c_i_LangNameOk R o0c).bind fun (r36_1, _) =>
              some (.inr ((r36_1, (t2, ())), ()))
            else
            some (.inr ((false, (t2, ())), ()))) fun ((t33, (t2_2, _)), _) =>
        bif t33 then
          some (.inl (0, ()))
        else
        some (.inr ((t2_2, ()), ()))
      else
      jb (P := (Bool × Bool × Int × Unit × Int × Unit) × Tn × Unit) (
          bif (o0a == 3) then
            some (.inr ((true, (bare3, (o0a, ((), (t2, ()))))), ((o0a, (o0b, (o0c, ()))), ())))
          else
          bif (o0a == 9) then
            some (.inr ((true, (bare3, (o0a, ((), (t2, ()))))), ((o0a, (o0b, (o0c, ()))), ())))
          else
          some (.inr (((o0a == 10), (bare3, (o0a, ((), (t2, ()))))), ((o0a, (o0b, (o0c, ()))), ())))) fun ((t34, (bare3_1, (t13, (_, (t2_3, _))))), ((o0a_1, (o0b_1, (o0c_1, _))), _)) =>
      bif t34 then
        bif bare3_1 then
          some (.inl (1, ()))
        else
        some (.inr ((t2_3, ()), ()))
      else
      jb (P := (Bool × Bool × Int × Unit × Int × Unit) × Tn × Unit) (
          bif (t13 == 4) then
            some (.inr ((true, (bare3_1, (t13, ((), (t2_3, ()))))), ((o0a_1, (o0b_1, (o0c_1, ()))), ())))
          else
          bif (t13 == 5) then
            some (.inr ((true, (bare3_1, (t13, ((), (t2_3, ()))))), ((o0a_1, (o0b_1, (o0c_1, ()))), ())))
          else
          bif (t13 == 6) then
            some (.inr ((true, (bare3_1, (t13, ((), (t2_3, ()))))), ((o0a_1, (o0b_1, (o0c_1, ()))), ())))
          else
          bif (t13 == 7) then
            some (.inr ((true, (bare3_1, (t13, ((), (t2_3, ()))))), ((o0a_1, (o0b_1, (o0c_1, ()))), ())))
          else
          bif (t13 == 11) then
            some (.inr ((true, (bare3_1, (t13, ((), (t2_3, ()))))), ((o0a_1, (o0b_1, (o0c_1, ()))), ())))
          else
          some (.inr (((t13 == 12), (bare3_1, (t13, ((), (t2_3, ()))))), ((o0a_1, (o0b_1, (o0c_1, ()))), ())))) fun ((t39, (bare3_2, (t13_1, (_, (t2_4, _))))), ((o0a_2, (o0b_2, (o0c_2, _))), _)) =>
      bif t39 then
        bif bare3_2 then
          some (.inl (2, ()))
        else
        some (.inr ((t2_4, ()), ()))
      else
      bif (t13_1 == 8) then
        jb (P := (Bool × Int × Unit) × Unit) (
            (c_i_in R o0b_2 0 8).bind fun (r53_1, _) =>
            bif r53_1 then
              some (.inr (((seq o0c_2 (bs [])), (t2_4, ())), ()))
            else
            some (.inr ((false, (t2_4, ())), ()))) fun ((t56, (t2_5, _)), _) =>
        bif t56 then
          some (.inl (1, ()))
        else
        some (.inr ((t2_5, ()), ()))
      else
      bif (t13_1 == 13) then
        jb (P := (Bool × Unit × Int × Unit) × Tn × Unit) (
            (c_i_in R o0b_2 1 6).bind fun (r53_2_1, _) =>
            bif r53_2_1 then
              (c_i_LangNameOk R o0c_2).bind fun (r36_2_1, _) =>
              some (.inr ((r36_2_1, ((), (t2_4, ()))), ((o0a_2, (o0b_2, (o0c_2, ()))), ())))
            else
            some (.inr ((false, ((), (t2_4, ()))), ((o0a_2, (o0b_2, (o0c_2, ()))), ())))) fun ((t66, (_, (t2_6, _))), ((o0a_3, (o0b_3, (o0c_3, _))), _)) =>
        bif t66 then
          some (.inl (o0b_3, ()))
        else
        some (.inr ((t2_6, ()), ()))
      else
      some (.inr ((t2_4, ()), ()))) fun ((t2_7, _), _) =>
  some ((-1), ())

noncomputable def p_slices_IndexFunc_string_string_i_Prog_formed_1 (R : Run) (n : Nat) (u0 : List ByteArray) : Option (Int × Unit) :=
  iter (P := (Int × Int × Unit × List ByteArray × Int × Unit) × Unit) (fun rec ((t8, (t7, (_, (s0, (t4, _))))), _) =>
      bif (ilt t8 t7) then
        ok (inB t8 (len s0)) <|
        (c_i_Prog_formed_1 R (List.getD s0 (Int.toNat t8) (bs []))).bind fun (r97_1, _) =>
        bif r97_1 then
          some (t8, ())
        else
        rec (((iadd .i64 t8 1), (t7, ((), (s0, (t4, ()))))), ())
      else
      some ((-1), ())) n ((0, ((len u0), ((), (u0, (0, ()))))), ())

noncomputable def p_slices_IndexFunc_string_string_i_Prog_formed_2 (R : Run) (n : Nat) (u0 : List ByteArray) : Option (Int × Unit) :=
  iter (P := (Int × Int × Unit × List ByteArray × Int × Unit) × Unit) (fun rec ((t8, (t7, (_, (s0, (t4, _))))), _) =>
      bif (ilt t8 t7) then
        ok (inB t8 (len s0)) <|
        (c_i_Prog_formed_2 R (List.getD s0 (Int.toNat t8) (bs []))).bind fun (r98_1, _) =>
        bif r98_1 then
          some (t8, ())
        else
        rec (((iadd .i64 t8 1), (t7, ((), (s0, (t4, ()))))), ())
      else
      some ((-1), ())) n ((0, ((len u0), ((), (u0, (0, ()))))), ())

noncomputable def p_slices_IndexFunc_string_string_i_Prog_defCode_1 (R : Run) (n : Nat) (u0 : List ByteArray) (u1 : List Df) (u2 : List ByteArray) (u3 : List Rl) : Option (Int × List Df × List ByteArray × List Rl × Unit) :=
  iter (P := (Int × Int × Unit × List ByteArray × Int × Unit) × (List Df × List ByteArray × List Rl × Unit) × Unit) (fun rec ((t8, (t7, (_, (s0, (t4, _))))), ((o0a, (o0b, (o0c, _))), _)) =>
      bif (ilt t8 t7) then
        ok (inB t8 (len s0)) <|
        (c_i_Prog_defCode_1 R (List.getD s0 (Int.toNat t8) (bs [])) o0a o0b o0c).bind fun (r103_1, (r103b, (r103c, (r103d, _)))) =>
        bif r103_1 then
          some (t8, (r103b, (r103c, (r103d, ()))))
        else
        rec (((iadd .i64 t8 1), (t7, ((), (s0, (t4, ()))))), ((r103b, (r103c, (r103d, ()))), ()))
      else
      some ((-1), (o0a, (o0b, (o0c, ()))))) n ((0, ((len u0), ((), (u0, (0, ()))))), ((u1, (u2, (u3, ()))), ()))

noncomputable def p_i_Term_names (R : Run) (n : Nat) (u0 : List Tn) : Option (List ByteArray × Unit) :=
  iter (P := (Int × Int × List Tn × Unit × Unit × Unit) × List ByteArray × Mem ByteArray × Unit) (fun rec ((t9, (t8, (t7, (_, (_, _))))), (o0, (o900009, _))) =>
      bif (ilt t9 t8) then
        jb (P := (Int × Int × List Tn × Unit × Unit × Unit) × List ByteArray × Mem ByteArray × Unit) (
            ok (inB t9 (len t7)) <|
            jb (P := (Bool × Unit × Unit × Int × Int × List Tn × Unit × Unit) × List ByteArray × Tn × Mem ByteArray × Unit) (
                bif ((List.getD t7 (Int.toNat t9) (0, (0, ((bs []), ())))).1 == 2) then
                  some (.inr ((true, ((), ((), (t9, (t8, (t7, ((), ()))))))), (o0, (((List.getD t7 (Int.toNat t9) (0, (0, ((bs []), ())))).1, ((List.getD t7 (Int.toNat t9) (0, (0, ((bs []), ())))).2.1, ((List.getD t7 (Int.toNat t9) (0, (0, ((bs []), ())))).2.2.1, ()))), (o900009, ())))))
                else
                some (.inr ((((List.getD t7 (Int.toNat t9) (0, (0, ((bs []), ())))).1 == 13), ((), ((), (t9, (t8, (t7, ((), ()))))))), (o0, (((List.getD t7 (Int.toNat t9) (0, (0, ((bs []), ())))).1, ((List.getD t7 (Int.toNat t9) (0, (0, ((bs []), ())))).2.1, ((List.getD t7 (Int.toNat t9) (0, (0, ((bs []), ())))).2.2.1, ()))), (o900009, ())))))) fun ((t20, (_, (_, (t9_1, (t8_1, (t7_1, (_, _))))))), (o0_1, ((o1a, (o1b, (o1c, _))), (o900009_1, _)))) =>
            bif t20 then
              ok (aok (o0_1 ++ [o1c]) 16) <|
              some (.inr ((t9_1, (t8_1, (t7_1, ((), ((), ()))))), ((o0_1 ++ [o1c]), (o900009_1, ()))))
            else
            some (.inr ((t9_1, (t8_1, (t7_1, ((), ((), ()))))), (o0_1, (o900009_1, ()))))) fun ((t9_2, (t8_2, (t7_2, (_, (_, _))))), (o0_2, (o900009_2, _))) =>
        rec (((iadd .i64 t9_2 1), (t8_2, (t7_2, ((), ((), ()))))), (o0_2, (o900009_2, ())))
      else
      (c_slices_Sort_string_string_k779 R (o900009 ++ [some o0]) (((List.length o900009) + 1), (0, (List.length o0)))).bind fun (r161_1, _) =>
      (c_slices_Compact_string_string_k779 R r161_1 (((List.length o900009) + 1), (0, (List.length o0)))).bind fun (r162_1, (r162b, _)) =>
      (c_slices_Clip_string_string R r162b).bind fun (r54_1, _) =>
      some (r54_1, ())) n ((0, ((len u0), (u0, ((), ((), ()))))), ([], ([], ())))

noncomputable def p_w_szTerm (R : Run) (n : Nat) (u0 : List Tn) (u1 : Int) : Option (Int × Unit) :=
  (c_w_szTermNodeS R u0 u1).bind fun (r163_1, _) =>
  bif (ilt r163_1 0) then
    some ((-1), ())
  else
  some (r163_1, ())

noncomputable def p_w_toTerm_deep (R : Run) (n : Nat) (u0 : Mem Dh) (u1 : Mem Rh) (u2 : Mem ByteArray) (u3 : Mem Tn) (u4 : List Tn) : Option (Mem Dh × Mem Rh × Mem ByteArray × Mem Tn × Hd × Unit) :=
  (c_w_toTermNodeS_deep R u0 u1 u2 u3 u4).bind fun (r164_1, (r164b, (r164c, (r164d, (r164e, _))))) =>
  some (r164_1, (r164b, (r164c, (r164d, (r164e, ())))))

noncomputable def p_w_eqTerm (R : Run) (n : Nat) (u0 : List Tn) (u1 : List Tn) : Option (Bool × Unit) :=
  (c_w_eqTermNodeS R u0 u1).bind fun (r165_1, _) =>
  bif (!r165_1) then
    some (false, ())
  else
  some (true, ())

noncomputable def p_s_LangNumOk (R : Run) (n : Nat) (u0 : ByteArray) : Option (Bool × Unit) :=
  (c_s_l11Run R u0 0).bind fun (r169_1, _) =>
  jb (P := (Bool × Int × ByteArray × Bool × Unit) × Unit) (
      bif (ilt 60 (slen u0)) then
        some (.inr ((true, (r169_1, (u0, (false, ())))), ()))
      else
      bif (r169_1 == 0) then
        some (.inr ((true, (r169_1, (u0, (false, ())))), ()))
      else
      bif (ilt 1 r169_1) then
        ok (inB 0 (slen u0)) <|
        some (.inr ((((bt u0 0) == 48), (r169_1, (u0, (false, ())))), ()))
      else
      some (.inr ((false, (r169_1, (u0, (false, ())))), ()))) fun ((t25, (n3, (s0, (t2, _)))), _) =>
  bif t25 then
    some (false, ())
  else
  jb (P := (Int × ByteArray × Bool × Unit) × Unit) (
      jb (P := (Bool × ByteArray × Int × Bool × Unit) × Unit) (
          bif (ilt n3 (slen s0)) then
            ok (inB n3 (slen s0)) <|
            some (.inr ((((bt s0 n3) == 46), (s0, (n3, (t2, ())))), ()))
          else
          some (.inr ((false, (s0, (n3, (t2, ())))), ()))) fun ((t36, (s0_1, (at4, (t2_1, _)))), _) =>
      bif t36 then
        (c_s_l11Run R s0_1 (iadd .i64 at4 1)).bind fun (r169_2_1, _) =>
        bif (r169_2_1 == 0) then
          some (.inl (false, ()))
        else
        some (.inr (((iadd .i64 (iadd .i64 at4 1) r169_2_1), (s0_1, (t2_1, ()))), ()))
      else
      some (.inr ((at4, (s0_1, (t2_1, ()))), ()))) fun ((at4_1, (s0_2, (t2_2, _))), _) =>
  jb (P := (Int × ByteArray × Bool × Unit) × Unit) (
      jb (P := (Bool × Int × ByteArray × Bool × Unit) × Unit) (
          bif (ilt at4_1 (slen s0_2)) then
            ok (inB at4_1 (slen s0_2)) <|
            some (.inr ((((bt s0_2 at4_1) == 101), (at4_1, (s0_2, (t2_2, ())))), ()))
          else
          some (.inr ((false, (at4_1, (s0_2, (t2_2, ())))), ()))) fun ((t56, (at4_2, (s0_3, (t2_3, _)))), _) =>
      bif t56 then
        jb (P := (Bool × Int × ByteArray × Bool × Unit) × Unit) (
            bif (ilt (iadd .i64 at4_2 1) (slen s0_3)) then
              ok (inB (iadd .i64 at4_2 1) (slen s0_3)) <|
              some (.inr ((((bt s0_3 (iadd .i64 at4_2 1)) == 45), ((iadd .i64 at4_2 1), (s0_3, (t2_3, ())))), ()))
            else
            some (.inr ((false, ((iadd .i64 at4_2 1), (s0_3, (t2_3, ())))), ()))) fun ((minus6, (at4_3, (s0_4, (t2_4, _)))), _) =>
        jb (P := (ByteArray × Int × Bool × Bool × Unit) × Unit) (
            bif minus6 then
              some (.inr ((s0_4, ((iadd .i64 at4_3 1), (minus6, (t2_4, ())))), ()))
            else
            some (.inr ((s0_4, (at4_3, (minus6, (t2_4, ())))), ()))) fun ((s0_5, (at4_4, (minus6_1, (t2_5, _)))), _) =>
        (c_s_l11Run R s0_5 at4_4).bind fun (r169_3_1, _) =>
        jb (P := (Bool × Int × Int × ByteArray × Bool × Unit) × Unit) (
            bif (r169_3_1 == 0) then
              some (.inr ((true, (at4_4, (r169_3_1, (s0_5, (t2_5, ()))))), ()))
            else
            bif (ilt 3 r169_3_1) then
              some (.inr ((true, (at4_4, (r169_3_1, (s0_5, (t2_5, ()))))), ()))
            else
            ok (inB at4_4 (slen s0_5)) <|
            bif ((bt s0_5 at4_4) == 48) then
              bif (ilt 1 r169_3_1) then
                some (.inr ((true, (at4_4, (r169_3_1, (s0_5, (t2_5, ()))))), ()))
              else
              bif minus6_1 then
                some (.inr ((true, (at4_4, (r169_3_1, (s0_5, (t2_5, ()))))), ()))
              else
              bif (r169_3_1 == 3) then
                ok (sliceOk at4_4 (iadd .i64 at4_4 r169_3_1) (slen s0_5)) <|
                some (.inr (((!(slt (ByteArray.extract s0_5 (Int.toNat at4_4) (Int.toNat (iadd .i64 at4_4 r169_3_1))) (bs [52, 48, 48]) || seq (ByteArray.extract s0_5 (Int.toNat at4_4) (Int.toNat (iadd .i64 at4_4 r169_3_1))) (bs [52, 48, 48]))), (at4_4, (r169_3_1, (s0_5, (t2_5, ()))))), ()))
              else
              some (.inr ((false, (at4_4, (r169_3_1, (s0_5, (t2_5, ()))))), ()))
            else
            bif (r169_3_1 == 3) then
              ok (sliceOk at4_4 (iadd .i64 at4_4 r169_3_1) (slen s0_5)) <|
              some (.inr (((!(slt (ByteArray.extract s0_5 (Int.toNat at4_4) (Int.toNat (iadd .i64 at4_4 r169_3_1))) (bs [52, 48, 48]) || seq (ByteArray.extract s0_5 (Int.toNat at4_4) (Int.toNat (iadd .i64 at4_4 r169_3_1))) (bs [52, 48, 48]))), (at4_4, (r169_3_1, (s0_5, (t2_5, ()))))), ()))
            else
            some (.inr ((false, (at4_4, (r169_3_1, (s0_5, (t2_5, ()))))), ()))) fun ((t106, (at4_5, (k7, (s0_6, (t2_6, _))))), _) =>
        bif t106 then
          some (.inl (false, ()))
        else
        some (.inr (((iadd .i64 at4_5 k7), (s0_6, (t2_6, ()))), ()))
      else
      some (.inr ((at4_2, (s0_3, (t2_3, ()))), ()))) fun ((at4_6, (s0_7, (t2_7, _))), _) =>
  some ((at4_6 == (slen s0_7)), ())

noncomputable def p_s_l13Names (R : Run) (n : Nat) (u0 : List ByteArray) : Option (Bool × Unit) :=
  iter (P := (Int × List ByteArray × Bool × Unit) × Unit) (fun rec ((i3, (l0, (t2, _))), _) =>
      bif (ilt i3 (len l0)) then
        ok (inB i3 (len l0)) <|
        (c_s_LangNameOk R (List.getD l0 (Int.toNat i3) (bs []))).bind fun (r42_1, _) =>
        bif (!r42_1) then
          some (false, ())
        else
        rec (((iadd .i64 i3 1), (l0, (t2, ()))), ())
      else
      some (true, ())) n ((0, (u0, (false, ()))), ())

noncomputable def p_s_l13Kind (R : Run) (n : Nat) (u0 : Int) : Option (Bool × Unit) :=
  jb (P := (Bool × Unit) × Unit) (
      bif (u0 == 1) then
        some (.inr ((true, ()), ()))
      else
      bif (u0 == 2) then
        some (.inr ((true, ()), ()))
      else
      some (.inr (((u0 == 3), ()), ()))) fun ((t2, _), _) =>
  some (t2, ())

noncomputable def p_i_LangNumOk (R : Run) (n : Nat) (u0 : ByteArray) : Option (Bool × Unit) :=
  jb (P := (Bool × Unit) × Unit) (
      (c_i_DecOk R u0).bind fun (r172_1, _) =>
      bif r172_1 then
        some (.inr (((ile (slen u0) 60), ()), ()))
      else
      some (.inr ((false, ()), ()))) fun ((t2, _), _) =>
  some (t2, ())

noncomputable def p_w_szTermNodeS (R : Run) (n : Nat) (u0 : List Tn) (u1 : Int) : Option (Int × Unit) :=
  bif (ilt (isub .i64 u1 (len u0)) 0) then
    some ((-1), ())
  else
  iter (P := (Int × List Tn × Int × Int × Unit) × Unit) (fun rec ((i5, (a0, (left1, (t4, _)))), _) =>
      bif (ilt i5 (len a0)) then
        ok (inB i5 (len a0)) <|
        (c_w_szTermNode R (List.getD a0 (Int.toNat i5) (0, (0, ((bs []), ())))).1 (List.getD a0 (Int.toNat i5) (0, (0, ((bs []), ())))).2.1 (List.getD a0 (Int.toNat i5) (0, (0, ((bs []), ())))).2.2.1 left1).bind fun (r175_1, _) =>
        bif (ilt r175_1 0) then
          some ((-1), ())
        else
        rec (((iadd .i64 i5 1), (a0, (r175_1, (t4, ())))), ())
      else
      some (left1, ())) n ((0, (u0, ((isub .i64 u1 (len u0)), (0, ())))), ())

noncomputable def p_w_toTermNodeS_deep (R : Run) (n : Nat) (u0 : Mem Dh) (u1 : Mem Rh) (u2 : Mem ByteArray) (u3 : Mem Tn) (u4 : List Tn) : Option (Mem Dh × Mem Rh × Mem ByteArray × Mem Tn × Hd × Unit) :=
  ok (mkOk (len u4) (len u4) 32) <|
  iter (P := (Int × List Tn × Unit × Unit × Unit) × List Tn × Mem Dh × Mem Rh × Mem ByteArray × Mem Tn × Unit) (fun rec ((i4, (a0, (_, (_, _)))), (o0, (o900059, (o900057, (o900009, (o900073, _)))))) =>
      bif (ilt i4 (len a0)) then
        ok (inB i4 (len a0)) <|
        (c_w_toTermNode R (List.getD a0 (Int.toNat i4) (0, (0, ((bs []), ())))).1 (List.getD a0 (Int.toNat i4) (0, (0, ((bs []), ())))).2.1 (List.getD a0 (Int.toNat i4) (0, (0, ((bs []), ())))).2.2.1).bind fun (r176_1, (r176b, (r176c, _))) =>
        ok (inB i4 (len o0)) <|
        rec (((iadd .i64 i4 1), (a0, ((), ((), ())))), ((List.set o0 (Int.toNat i4) (r176_1, (r176b, (r176c, ())))), (o900059, (o900057, (o900009, (o900073, ()))))))
      else
      some (o900059, (o900057, (o900009, ((o900073 ++ [some o0]), ((((List.length o900073) + 1), (0, (List.length o0))), ())))))) n ((0, (u4, ((), ((), ())))), ((List.replicate (Int.toNat (len u4)) (0, (0, ((bs []), ())))), (u0, (u1, (u2, (u3, ()))))))

noncomputable def p_w_eqTermNodeS (R : Run) (n : Nat) (u0 : List Tn) (u1 : List Tn) : Option (Bool × Unit) :=
  bif ((len u0) != (len u1)) then
    some (false, ())
  else
  iter (P := (Int × List Tn × List Tn × Bool × Unit) × Unit) (fun rec ((i5, (a0, (b1, (t4, _)))), _) =>
      bif (ilt i5 (len a0)) then
        ok (inB i5 (len a0)) <|
        ok (inB i5 (len b1)) <|
        (c_w_eqTermNode R (List.getD a0 (Int.toNat i5) (0, (0, ((bs []), ())))).1 (List.getD a0 (Int.toNat i5) (0, (0, ((bs []), ())))).2.1 (List.getD a0 (Int.toNat i5) (0, (0, ((bs []), ())))).2.2.1 (List.getD b1 (Int.toNat i5) (0, (0, ((bs []), ())))).1 (List.getD b1 (Int.toNat i5) (0, (0, ((bs []), ())))).2.1 (List.getD b1 (Int.toNat i5) (0, (0, ((bs []), ())))).2.2.1).bind fun (r177_1, _) =>
        bif (!r177_1) then
          some (false, ())
        else
        rec (((iadd .i64 i5 1), (a0, (b1, (t4, ())))), ())
      else
      some (true, ())) n ((0, (u0, (u1, (false, ())))), ())

noncomputable def p_s_l11Run (R : Run) (n : Nat) (u0 : ByteArray) (u1 : Int) : Option (Int × Unit) :=
  iter (P := (Int × Int × ByteArray × Int × Unit) × Unit) (fun rec ((from1, (n5, (s0, (t4, _)))), _) =>
      jb (P := (Bool × Int × Int × ByteArray × Int × Unit) × Unit) (
          bif (ilt (iadd .i64 from1 n5) (slen s0)) then
            ok (inB (iadd .i64 from1 n5) (slen s0)) <|
            (c_s_l11Digit R (bt s0 (iadd .i64 from1 n5))).bind fun (r141_1, _) =>
            some (.inr ((r141_1, (n5, (from1, (s0, (t4, ()))))), ()))
          else
          some (.inr ((false, (n5, (from1, (s0, (t4, ()))))), ()))) fun ((t19, (n5_1, (from1_1, (s0_1, (t4_1, _))))), _) =>
      bif t19 then
        rec ((from1_1, ((iadd .i64 n5_1 1), (s0_1, (t4_1, ())))), ())
      else
      some (n5_1, ())) n ((u1, (0, (u0, (0, ())))), ())

noncomputable def p_i_DecOk (R : Run) (n : Nat) (u0 : ByteArray) : Option (Bool × Unit) :=
  (c_i_literal R u0).bind fun (r179_1, (r179b, (r179c, (r179d, _)))) =>
  jb (P := (Bool × Unit) × Unit) (
      bif r179d then
        some (.inr (((ile (slen u0) 60), ()), ()))
      else
      some (.inr ((false, ()), ()))) fun ((t2, _), _) =>
  some (t2, ())

noncomputable def p_w_szTermNode (R : Run) (n : Nat) (u0 : Int) (u1 : Int) (u2 : ByteArray) (u3 : Int) : Option (Int × Unit) :=
  bif (ilt (isub .i64 u3 (slen u2)) 0) then
    some ((-1), ())
  else
  some ((isub .i64 u3 (slen u2)), ())

noncomputable def p_w_toTermNode (R : Run) (n : Nat) (u0 : Int) (u1 : Int) (u2 : ByteArray) : Option Tn :=
  some (u0, (u1, (u2, ())))

noncomputable def p_w_eqTermNode (R : Run) (n : Nat) (u0 : Int) (u1 : Int) (u2 : ByteArray) (u3 : Int) (u4 : Int) (u5 : ByteArray) : Option (Bool × Unit) :=
  bif (u0 != u3) then
    some (false, ())
  else
  bif (u1 != u4) then
    some (false, ())
  else
  bif (!(seq u2 u5)) then
    some (false, ())
  else
  some (true, ())

noncomputable def p_i_literal (R : Run) (n : Nat) (u0 : ByteArray) : Option (ByteArray × ByteArray × Int × Bool × Unit) :=
  (c_strings_Cut R u0 (bs [101])).bind fun (r191_1, (r191b, (r191c, _))) =>
  (c_strings_Cut R r191_1 (bs [46])).bind fun (r191_2_1, (r191_2b, (r191_2c, _))) =>
  jb (P := (Bool × Bool × ByteArray × ByteArray × ByteArray × ByteArray × ByteArray × Int × Bool × Unit) × Unit) (
      (c_i_wholeDigits R r191_2_1).bind fun (r192_1, _) =>
      bif (!r192_1) then
        some (.inr ((true, (r191c, (r191_2_1, (r191_2b, (r191b, ((bs []), ((bs []), (0, (false, ()))))))))), ()))
      else
      bif r191_2c then
        (c_i_isDigits R r191_2b).bind fun (r193_1, _) =>
        some (.inr (((!r193_1), (r191c, (r191_2_1, (r191_2b, (r191b, ((bs []), ((bs []), (0, (false, ()))))))))), ()))
      else
      some (.inr ((false, (r191c, (r191_2_1, (r191_2b, (r191b, ((bs []), ((bs []), (0, (false, ()))))))))), ()))) fun ((t38, (hasPower8, (ahead9, (behind10, (power7, (t2, (t3, (t4, (t5, _))))))))), _) =>
  bif t38 then
    some ((bs []), ((bs []), (0, (false, ()))))
  else
  bif (!hasPower8) then
    some (ahead9, (behind10, (0, (true, ()))))
  else
  (c_strings_CutPrefix R power7 (bs [45])).bind fun (r194_1, (r194b, _)) =>
  (c_strconv_Atoi R r194_1).bind fun (r195_1, (r195b, _)) =>
  jb (P := (Bool × Bool × Int × ByteArray × ByteArray × ByteArray × ByteArray × Int × Bool × Unit) × Unit) (
      bif r195b then
        some (.inr ((true, (r194b, (r195_1, (ahead9, (behind10, (t2, (t3, (t4, (t5, ()))))))))), ()))
      else
      (c_i_wholeDigits R r194_1).bind fun (r192_2_1, _) =>
      bif (!r192_2_1) then
        some (.inr ((true, (r194b, (r195_1, (ahead9, (behind10, (t2, (t3, (t4, (t5, ()))))))))), ()))
      else
      bif (ilt 3 (slen r194_1)) then
        some (.inr ((true, (r194b, (r195_1, (ahead9, (behind10, (t2, (t3, (t4, (t5, ()))))))))), ()))
      else
      bif (ilt 400 r195_1) then
        some (.inr ((true, (r194b, (r195_1, (ahead9, (behind10, (t2, (t3, (t4, (t5, ()))))))))), ()))
      else
      bif r194b then
        some (.inr (((r195_1 == 0), (r194b, (r195_1, (ahead9, (behind10, (t2, (t3, (t4, (t5, ()))))))))), ()))
      else
      some (.inr ((false, (r194b, (r195_1, (ahead9, (behind10, (t2, (t3, (t4, (t5, ()))))))))), ()))) fun ((t75, (minus13, (n14, (ahead9_1, (behind10_1, (t2_1, (t3_1, (t4_1, (t5_1, _))))))))), _) =>
  bif t75 then
    some ((bs []), ((bs []), (0, (false, ()))))
  else
  jb (P := (ByteArray × ByteArray × Int × ByteArray × ByteArray × Int × Bool × Unit) × Unit) (
      bif minus13 then
        some (.inr ((ahead9_1, (behind10_1, ((ineg .i64 n14), (t2_1, (t3_1, (t4_1, (t5_1, ()))))))), ()))
      else
      some (.inr ((ahead9_1, (behind10_1, (n14, (t2_1, (t3_1, (t4_1, (t5_1, ()))))))), ()))) fun ((ahead9_2, (behind10_2, (n14_1, (t2_2, (t3_2, (t4_2, (t5_2, _))))))), _) =>
  some (ahead9_2, (behind10_2, (n14_1, (true, ()))))

noncomputable def p_strings_Cut (R : Run) (n : Nat) (u0 : ByteArray) (u1 : ByteArray) : Option (ByteArray × ByteArray × Bool × Unit) :=
  (c_internal_stringslite_Cut R u0 u1).bind fun (r202_1, (r202b, (r202c, _))) =>
  some (r202_1, (r202b, (r202c, ())))

noncomputable def p_i_wholeDigits (R : Run) (n : Nat) (u0 : ByteArray) : Option (Bool × Unit) :=
  jb (P := (Bool × Unit) × Unit) (
      (c_i_isDigits R u0).bind fun (r193_1, _) =>
      bif r193_1 then
        bif (seq u0 (bs [48])) then
          some (.inr ((true, ()), ()))
        else
        ok (inB 0 (slen u0)) <|
        some (.inr ((((bt u0 0) != 48), ()), ()))
      else
      some (.inr ((false, ()), ()))) fun ((t2, _), _) =>
  some (t2, ())

noncomputable def p_i_isDigits (R : Run) (n : Nat) (u0 : ByteArray) : Option (Bool × Unit) :=
  iter (P := (Int × Int × ByteArray × Bool × Unit) × Unit) (fun rec ((t6, (t5, (s0, (t2, _)))), _) =>
      bif (ilt t6 t5) then
        jb (P := (Bool × Int × Int × ByteArray × Bool × Unit) × Unit) (
            ok (inB t6 (slen s0)) <|
            bif (ilt (bt s0 t6) 48) then
              some (.inr ((true, (t6, (t5, (s0, (t2, ()))))), ()))
            else
            ok (inB t6 (slen s0)) <|
            some (.inr (((ilt 57 (bt s0 t6)), (t6, (t5, (s0, (t2, ()))))), ()))) fun ((t18, (t6_1, (t5_1, (s0_1, (t2_1, _))))), _) =>
        bif t18 then
          some (false, ())
        else
        rec (((iadd .i64 t6_1 1), (t5_1, (s0_1, (t2_1, ())))), ())
      else
      some ((!(seq s0 (bs []))), ())) n ((0, ((slen u0), (u0, (false, ())))), ())

noncomputable def p_strings_CutPrefix (R : Run) (n : Nat) (u0 : ByteArray) (u1 : ByteArray) : Option (ByteArray × Bool × Unit) :=
  (c_internal_stringslite_CutPrefix R u0 u1).bind fun (r203_1, (r203b, _)) =>
  some (r203_1, (r203b, ()))

noncomputable def p_internal_stringslite_Cut (R : Run) (n : Nat) (u0 : ByteArray) (u1 : ByteArray) : Option (ByteArray × ByteArray × Bool × Unit) :=
  (c_internal_stringslite_Index R u0 u1).bind fun (r207_1, _) =>
  bif (ile 0 r207_1) then
    ok (sliceOk 0 r207_1 (slen u0)) <|
    ok (sliceOk (iadd .i64 r207_1 (slen u1)) (slen u0) (slen u0)) <|
    some ((ByteArray.extract u0 (Int.toNat 0) (Int.toNat r207_1)), ((ByteArray.extract u0 (Int.toNat (iadd .i64 r207_1 (slen u1))) (Int.toNat (slen u0))), (true, ())))
  else
  some (u0, ((bs []), (false, ())))

noncomputable def p_internal_stringslite_CutPrefix (R : Run) (n : Nat) (u0 : ByteArray) (u1 : ByteArray) : Option (ByteArray × Bool × Unit) :=
  (c_internal_stringslite_HasPrefix R u0 u1).bind fun (r208_1, _) =>
  bif (!r208_1) then
    some (u0, (false, ()))
  else
  ok (sliceOk (slen u1) (slen u0) (slen u0)) <|
  some ((ByteArray.extract u0 (Int.toNat (slen u1)) (Int.toNat (slen u0))), (true, ()))

noncomputable def p_internal_stringslite_HasPrefix (R : Run) (n : Nat) (u0 : ByteArray) (u1 : ByteArray) : Option (Bool × Unit) :=
  jb (P := (Bool × Unit) × Unit) (
      bif (ile (slen u1) (slen u0)) then
        ok (sliceOk 0 (slen u1) (slen u0)) <|
        some (.inr (((seq (ByteArray.extract u0 (Int.toNat 0) (Int.toNat (slen u1))) u1), ()), ()))
      else
      some (.inr ((false, ()), ()))) fun ((t4, _), _) =>
  some (t4, ())

end Go.Px.Seat
