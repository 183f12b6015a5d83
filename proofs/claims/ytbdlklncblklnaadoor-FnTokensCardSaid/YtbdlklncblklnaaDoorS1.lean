/- Own texts, part S1: PxSeat. -/
import Derived.Test.YtbdlklncblklnaaDoorA5
import Derived.Test.YtbdlklncblklnaaDoorProg
set_option linter.unusedVariables false

namespace Go.Px.Seat
open Go
def T : Types := [
  (2, some ⟨(.int .i64), (.int .i64), 1, 8, false⟩),
  (3, some ⟨(.int .i64), (.int .i64), 1, 8, false⟩),
  (4, some ⟨.bool, .bool, 1, 1, false⟩),
  (5, some ⟨(.int .u8), (.int .u8), 1, 1, false⟩),
  (6, some ⟨(.int .u8), (.int .u8), 1, 1, false⟩),
  (7, some ⟨(.struct [(0, 2), (1, 3), (2, 4), (3, 6)]), (.cons (.int .i64) (.cons (.int .i64) (.cons .bool (.cons (.int .u8) .nil)))), 4, 24, false⟩),
  (8, some ⟨(.struct [(0, 2), (1, 3), (2, 4), (3, 6)]), (.cons (.int .i64) (.cons (.int .i64) (.cons .bool (.cons (.int .u8) .nil)))), 4, 24, false⟩),
  (9, some ⟨.string, .str, 1, 16, false⟩),
  (10, some ⟨.string, .str, 1, 16, false⟩),
  (11, some ⟨.string, .str, 1, 16, false⟩),
  (12, some ⟨(.int .u64), (.int .u64), 1, 8, false⟩),
  (13, some ⟨(.struct [(0, 9), (1, 12)]), (.cons .str (.cons (.int .u64) .nil)), 2, 24, false⟩),
  (14, some ⟨(.struct [(0, 9), (1, 12)]), (.cons .str (.cons (.int .u64) .nil)), 2, 24, false⟩),
  (21, some ⟨(.int .i32), (.int .i32), 1, 4, false⟩),
  (22, some ⟨(.slice 5), (.slice (.int .u8)), 1, 24, false⟩),
  (24, some ⟨(.slice 28), (.slice (.cons (.int .i64) (.cons .str .nil))), 1, 24, false⟩),
  (27, some ⟨(.struct [(0, 3), (1, 9)]), (.cons (.int .i64) (.cons .str .nil)), 2, 24, true⟩),
  (28, some ⟨(.struct [(0, 3), (1, 9)]), (.cons (.int .i64) (.cons .str .nil)), 2, 24, true⟩),
  (35, some ⟨(.slice 59), (.slice (.cons (.int .i64) (.cons (.int .i64) (.cons .str .nil)))), 1, 24, false⟩),
  (36, some ⟨(.struct [(0, 35)]), (.cons (.slice (.cons (.int .i64) (.cons (.int .i64) (.cons .str .nil)))) .nil), 1, 24, false⟩),
  (37, some ⟨(.struct [(0, 35)]), (.cons (.slice (.cons (.int .i64) (.cons (.int .i64) (.cons .str .nil)))) .nil), 1, 24, false⟩),
  (48, some ⟨(.struct [(0, 22), (1, 3)]), (.cons (.slice (.int .u8)) (.cons (.int .i64) .nil)), 2, 32, false⟩),
  (49, some ⟨(.struct [(0, 22), (1, 3)]), (.cons (.slice (.int .u8)) (.cons (.int .i64) .nil)), 2, 32, false⟩),
  (54, some ⟨(.slice 9), (.slice .str), 1, 24, false⟩),
  (55, some ⟨(.struct [(0, 9), (1, 3)]), (.cons .str (.cons (.int .i64) .nil)), 2, 24, true⟩),
  (56, some ⟨(.struct [(0, 9), (1, 3)]), (.cons .str (.cons (.int .i64) .nil)), 2, 24, true⟩),
  (57, some ⟨(.slice 56), (.slice (.cons .str (.cons (.int .i64) .nil))), 1, 24, false⟩),
  (58, some ⟨(.struct [(0, 3), (1, 3), (2, 9)]), (.cons (.int .i64) (.cons (.int .i64) (.cons .str .nil))), 3, 32, true⟩),
  (59, some ⟨(.struct [(0, 3), (1, 3), (2, 9)]), (.cons (.int .i64) (.cons (.int .i64) (.cons .str .nil))), 3, 32, true⟩),
  (66, some ⟨(.slice 3), (.slice (.int .i64)), 1, 24, false⟩),
  (73, some ⟨.err, .err, 1, 16, false⟩),
  (77, some ⟨(.int .u64), (.int .u64), 1, 8, false⟩),
  (79, some ⟨(.int .u32), (.int .u32), 1, 4, false⟩),
  (82, some ⟨(.int .i64), (.int .i64), 1, 8, false⟩),
  (88, some ⟨(.int .u64), (.int .u64), 1, 8, false⟩),
  (91, some ⟨(.struct [(0, 9), (1, 9), (2, 73)]), (.cons .str (.cons .str (.cons .err .nil))), 3, 48, false⟩),
  (92, some ⟨(.struct [(0, 9), (1, 9), (2, 73)]), (.cons .str (.cons .str (.cons .err .nil))), 3, 48, false⟩),
  (98, some ⟨(.struct [(0, 9)]), (.cons .str .nil), 1, 16, true⟩),
  (99, some ⟨(.struct [(0, 9)]), (.cons .str .nil), 1, 16, true⟩),
  (101, some ⟨(.array 24 5), (.cons (.int .u8) (.cons (.int .u8) (.cons (.int .u8) (.cons (.int .u8) (.cons (.int .u8) (.cons (.int .u8) (.cons (.int .u8) (.cons (.int .u8) (.cons (.int .u8) (.cons (.int .u8) (.cons (.int .u8) (.cons (.int .u8) (.cons (.int .u8) (.cons (.int .u8) (.cons (.int .u8) (.cons (.int .u8) (.cons (.int .u8) (.cons (.int .u8) (.cons (.int .u8) (.cons (.int .u8) (.cons (.int .u8) (.cons (.int .u8) (.cons (.int .u8) (.cons (.int .u8) .nil)))))))))))))))))))))))), 24, 24, false⟩),
  (107, some ⟨(.array 20 88), (.cons (.int .u64) (.cons (.int .u64) (.cons (.int .u64) (.cons (.int .u64) (.cons (.int .u64) (.cons (.int .u64) (.cons (.int .u64) (.cons (.int .u64) (.cons (.int .u64) (.cons (.int .u64) (.cons (.int .u64) (.cons (.int .u64) (.cons (.int .u64) (.cons (.int .u64) (.cons (.int .u64) (.cons (.int .u64) (.cons (.int .u64) (.cons (.int .u64) (.cons (.int .u64) (.cons (.int .u64) .nil)))))))))))))))))))), 20, 160, false⟩),
  (112, some ⟨(.array 32 5), (.cons (.int .u8) (.cons (.int .u8) (.cons (.int .u8) (.cons (.int .u8) (.cons (.int .u8) (.cons (.int .u8) (.cons (.int .u8) (.cons (.int .u8) (.cons (.int .u8) (.cons (.int .u8) (.cons (.int .u8) (.cons (.int .u8) (.cons (.int .u8) (.cons (.int .u8) (.cons (.int .u8) (.cons (.int .u8) (.cons (.int .u8) (.cons (.int .u8) (.cons (.int .u8) (.cons (.int .u8) (.cons (.int .u8) (.cons (.int .u8) (.cons (.int .u8) (.cons (.int .u8) (.cons (.int .u8) (.cons (.int .u8) (.cons (.int .u8) (.cons (.int .u8) (.cons (.int .u8) (.cons (.int .u8) (.cons (.int .u8) (.cons (.int .u8) .nil)))))))))))))))))))))))))))))))), 32, 32, false⟩),
  (113, some ⟨(.array 64 5), (.cons (.int .u8) (.cons (.int .u8) (.cons (.int .u8) (.cons (.int .u8) (.cons (.int .u8) (.cons (.int .u8) (.cons (.int .u8) (.cons (.int .u8) (.cons (.int .u8) (.cons (.int .u8) (.cons (.int .u8) (.cons (.int .u8) (.cons (.int .u8) (.cons (.int .u8) (.cons (.int .u8) (.cons (.int .u8) (.cons (.int .u8) (.cons (.int .u8) (.cons (.int .u8) (.cons (.int .u8) (.cons (.int .u8) (.cons (.int .u8) (.cons (.int .u8) (.cons (.int .u8) (.cons (.int .u8) (.cons (.int .u8) (.cons (.int .u8) (.cons (.int .u8) (.cons (.int .u8) (.cons (.int .u8) (.cons (.int .u8) (.cons (.int .u8) (.cons (.int .u8) (.cons (.int .u8) (.cons (.int .u8) (.cons (.int .u8) (.cons (.int .u8) (.cons (.int .u8) (.cons (.int .u8) (.cons (.int .u8) (.cons (.int .u8) (.cons (.int .u8) (.cons (.int .u8) (.cons (.int .u8) (.cons (.int .u8) (.cons (.int .u8) (.cons (.int .u8) (.cons (.int .u8) (.cons (.int .u8) (.cons (.int .u8) (.cons (.int .u8) (.cons (.int .u8) (.cons (.int .u8) (.cons (.int .u8) (.cons (.int .u8) (.cons (.int .u8) (.cons (.int .u8) (.cons (.int .u8) (.cons (.int .u8) (.cons (.int .u8) (.cons (.int .u8) (.cons (.int .u8) (.cons (.int .u8) (.cons (.int .u8) .nil)))))))))))))))))))))))))))))))))))))))))))))))))))))))))))))))), 64, 64, false⟩),
  (120, some ⟨(.int .u8), (.int .u8), 1, 1, false⟩),
  (121, some ⟨(.int .u8), (.int .u8), 1, 1, false⟩),
  (123, some ⟨(.int .i32), (.int .i32), 1, 4, false⟩),
  (124, some ⟨(.int .i32), (.int .i32), 1, 4, false⟩)]
noncomputable def F : Funcs := [(3, some Go.Proofs.Tryd.f3), (4, some Go.Proofs.Tryd.f4), (5, some Go.Proofs.Tryd.f5), (6, some Go.Proofs.Tryd.f6), (7, some Go.Proofs.Tryd.f7), (8, some Go.Proofs.Tryd.f8), (9, some Go.Proofs.Tryd.f9), (10, some Go.Proofs.Tryd.f10), (11, some Go.Proofs.Tryd.f11), (12, some Go.Proofs.Tryd.f12), (13, some Go.Proofs.Tryd.f13), (14, some Go.Proofs.Tryd.f14), (15, some Go.Proofs.Tryd.f15), (16, some Go.Proofs.Tryd.f16), (17, some Go.Proofs.Tryd.f17), (18, some Go.Proofs.Tryd.f18), (19, some Go.Proofs.Tryd.f19), (20, some Go.Proofs.Tryd.f20), (21, some Go.Proofs.Tryd.f21), (22, some Go.Proofs.Tryd.f22), (23, some Go.Proofs.Tryd.f23), (24, some Go.Proofs.Tryd.f24), (25, some Go.Proofs.Tryd.f25), (26, some Go.Proofs.Tryd.f26), (27, some Go.Proofs.Tryd.f27), (28, some Go.Proofs.Tryd.f28), (29, some Go.Proofs.Tryd.f29), (30, some Go.Proofs.Tryd.f30), (31, some Go.Proofs.Tryd.f31), (32, some Go.Proofs.Tryd.f32), (33, some Go.Proofs.Tryd.f33), (34, some Go.Proofs.Tryd.f34), (35, some Go.Proofs.Tryd.f35), (36, some Go.Proofs.Tryd.f36), (37, some Go.Proofs.Tryd.f37), (38, some Go.Proofs.Tryd.f38), (39, some Go.Proofs.Tryd.f39), (40, some Go.Proofs.Tryd.f40), (41, some Go.Proofs.Tryd.f41), (42, some Go.Proofs.Tryd.f42), (43, some Go.Proofs.Tryd.f43), (44, some Go.Proofs.Tryd.f44), (45, some Go.Proofs.Tryd.f45), (47, some Go.Proofs.Tryd.f47), (49, some Go.Proofs.Tryd.f49), (50, some Go.Proofs.Tryd.f50), (51, some Go.Proofs.Tryd.f51), (53, some Go.Proofs.Tryd.f53), (54, some Go.Proofs.Tryd.f54), (59, some Go.Proofs.Tryd.f59), (62, some Go.Proofs.Tryd.f62)]
def sg_w_FnTokens : Sig := ⟨[.cell (.val (.slice (.int .u8)) false)], [(0, [.val .bool true])]⟩
def sg_s_DrawLangTokens : Sig := ⟨[.cell (.val (.slice (.int .u8)) false)], [(0, [.val .str true])]⟩
def sg_i_LangTokens : Sig := ⟨[.cell (.val .str false)], [(0, [.val (.slice (.cons (.int .i64) (.cons .str .nil))) true]), (0, [.val (.int .i64) true])]⟩
def sg_s_LangTokens : Sig := ⟨[.cell (.val .str false)], [(0, [.val (.slice (.cons (.int .i64) (.cons .str .nil))) true]), (0, [.val (.int .i64) true])]⟩
def sg_i_LangNumOk : Sig := ⟨[.cell (.val .str false)], [(0, [.val .bool true])]⟩
def sg_s_l34Open : Sig := ⟨[.cell (.val (.slice (.int .u8)) false)], [(2, [.val (.slice (.int .u8)) false, .val (.int .i64) false])]⟩
def sg_s_l34Rd_pick : Sig := ⟨[.box [.val (.slice (.int .u8)) false, .val (.int .i64) false], .cell (.val (.int .i64) false)], [(0, [.val (.int .i64) true])]⟩
def sg_s_TermText : Sig := ⟨[.agg [.val (.slice (.cons (.int .i64) (.cons (.int .i64) (.cons .str .nil)))) false]], [(0, [.val .str true])]⟩
def sg_s_l34Rd_any : Sig := ⟨[.box [.val (.slice (.int .u8)) false, .val (.int .i64) false]], [(1, [.val (.slice (.cons (.int .i64) (.cons (.int .i64) (.cons .str .nil)))) true])]⟩
def sg_s_l34Rd_line : Sig := ⟨[.box [.val (.slice (.int .u8)) false, .val (.int .i64) false]], [(0, [.val .str true])]⟩
def sg_strings_Cut : Sig := ⟨[.cell (.val .str false), .cell (.val .str false)], [(0, [.val .str true]), (0, [.val .str true]), (0, [.val .bool true])]⟩
def sg_i_signOf : Sig := ⟨[.cell (.val .str false)], [(0, [.val .str true])]⟩
def sg_i_isLetter : Sig := ⟨[.cell (.val (.int .u8) false)], [(0, [.val .bool true])]⟩
def sg_i_isFigure : Sig := ⟨[.cell (.val (.int .u8) false)], [(0, [.val .bool true])]⟩
def sg_i_wordLength : Sig := ⟨[.cell (.val .str false)], [(0, [.val (.int .i64) true])]⟩
def sg_i_wordOk : Sig := ⟨[.cell (.val .str false)], [(0, [.val .bool true])]⟩
def sg_slices_Clip_impl_LangToken_impl_LangToken : Sig := ⟨[.cell (.val (.slice (.cons (.int .i64) (.cons .str .nil))) false)], [(0, [.val (.slice (.cons (.int .i64) (.cons .str .nil))) false])]⟩
def sg_s_l11Letter : Sig := ⟨[.cell (.val (.int .u8) false)], [(0, [.val .bool true])]⟩
def sg_s_l11Digit : Sig := ⟨[.cell (.val (.int .u8) false)], [(0, [.val .bool true])]⟩
def sg_s_l11End : Sig := ⟨[.cell (.val .str false), .cell (.val (.int .i64) false)], [(0, [.val (.int .i64) true])]⟩
def sg_s_LangNumOk : Sig := ⟨[.cell (.val .str false)], [(0, [.val .bool true])]⟩
def sg_s_l11Plain : Sig := ⟨[.cell (.val .str false)], [(0, [.val .bool true])]⟩
def sg_s_l11Sign : Sig := ⟨[.cell (.val .str false), .cell (.val (.int .i64) false)], [(0, [.val .str true])]⟩
def sg_i_DecOk : Sig := ⟨[.cell (.val .str false)], [(0, [.val .bool true])]⟩
def sg_s_TermOk : Sig := ⟨[.agg [.val (.slice (.cons (.int .i64) (.cons (.int .i64) (.cons .str .nil)))) false]], [(0, [.val .bool true])]⟩
def sg_s_l12Show : Sig := ⟨[.agg [.val (.slice (.cons (.int .i64) (.cons (.int .i64) (.cons .str .nil)))) false], .cell (.val (.int .i64) false), .cell (.val (.int .i64) false)], [(0, [.val .str true])]⟩
def sg_s_l34Rd_chain : Sig := ⟨[.box [.val (.slice (.int .u8)) false, .val (.int .i64) false], .cell (.val (.int .i64) false)], [(1, [.row (.cons (.int .i64) (.cons (.int .i64) (.cons .str .nil))) 59 true])]⟩
def sg_s_l34Rd_term : Sig := ⟨[.box [.val (.slice (.int .u8)) false, .val (.int .i64) false], .cell (.val (.slice .str) false), .cell (.val (.slice (.cons .str (.cons (.int .i64) .nil))) false), .cell (.val (.int .i64) false)], [(1, [.row (.cons (.int .i64) (.cons (.int .i64) (.cons .str .nil))) 59 true])]⟩
def sg_s_l34Rd_word : Sig := ⟨[.box [.val (.slice (.int .u8)) false, .val (.int .i64) false]], [(0, [.val .str true])]⟩
def sg_s_l34Rd_name : Sig := ⟨[.box [.val (.slice (.int .u8)) false, .val (.int .i64) false]], [(0, [.val .str true])]⟩
def sg_s_l14Times : Sig := ⟨[.cell (.val .str false), .cell (.val (.int .i64) false)], [(0, [.val .str true])]⟩
def sg_internal_stringslite_Cut : Sig := ⟨[.cell (.val .str false), .cell (.val .str false)], [(0, [.val .str true]), (0, [.val .str true]), (0, [.val .bool true])]⟩
def sg_strings_HasPrefix : Sig := ⟨[.cell (.val .str false), .cell (.val .str false)], [(0, [.val .bool true])]⟩
def sg_strings_IndexByte : Sig := ⟨[.cell (.val .str false), .cell (.val (.int .u8) false)], [(0, [.val (.int .i64) true])]⟩
def sg_i_in : Sig := ⟨[.cell (.val (.int .i64) false), .cell (.val (.int .i64) false), .cell (.val (.int .i64) false)], [(0, [.val .bool true])]⟩
def sg_s_l11Run : Sig := ⟨[.cell (.val .str false), .cell (.val (.int .i64) false)], [(0, [.val (.int .i64) true])]⟩
def sg_i_literal : Sig := ⟨[.cell (.val .str false)], [(0, [.val .str true]), (0, [.val .str true]), (0, [.val (.int .i64) true]), (0, [.val .bool true])]⟩
def sg_s_l12Args : Sig := ⟨[.agg [.val (.int .i64) false, .val (.int .i64) false, .val .str false]], [(0, [.val (.int .i64) true])]⟩
def sg_s_l12Level : Sig := ⟨[.agg [.val (.int .i64) false, .val (.int .i64) false, .val .str false]], [(0, [.val (.int .i64) true])]⟩
def sg_s_l12Parts : Sig := ⟨[.agg [.val (.slice (.cons (.int .i64) (.cons (.int .i64) (.cons .str .nil)))) false], .cell (.val (.int .i64) false)], [(0, [.val (.slice (.int .i64)) true])]⟩
def sg_s_l34Rd_grow : Sig := ⟨[.box [.val (.slice (.int .u8)) false, .val (.int .i64) false], .agg [.row (.cons (.int .i64) (.cons (.int .i64) (.cons .str .nil))) 59 false], .cell (.val (.slice .str) false), .cell (.val (.slice (.cons .str (.cons (.int .i64) .nil))) false), .cell (.val (.int .i64) false)], [(1, [.row (.cons (.int .i64) (.cons (.int .i64) (.cons .str .nil))) 59 true])]⟩
def sg_s_l34Rd_number : Sig := ⟨[.box [.val (.slice (.int .u8)) false, .val (.int .i64) false]], [(0, [.val .str true])]⟩
def sg_s_l34Many : Sig := ⟨[.cell (.val .str false), .cell (.val (.int .i64) false)], [(0, [.val .str true])]⟩
def sg_internal_stringslite_Index : Sig := ⟨[.cell (.val .str false), .cell (.val .str false)], [(0, [.val (.int .i64) true])]⟩
def sg_internal_stringslite_HasPrefix : Sig := ⟨[.cell (.val .str false), .cell (.val .str false)], [(0, [.val .bool true])]⟩
def sg_internal_stringslite_IndexByte : Sig := ⟨[.cell (.val .str false), .cell (.val (.int .u8) false)], [(0, [.val (.int .i64) true])]⟩
def sg_i_wholeDigits : Sig := ⟨[.cell (.val .str false)], [(0, [.val .bool true])]⟩
def sg_i_isDigits : Sig := ⟨[.cell (.val .str false)], [(0, [.val .bool true])]⟩
def sg_strings_CutPrefix : Sig := ⟨[.cell (.val .str false), .cell (.val .str false)], [(0, [.val .str true]), (0, [.val .bool true])]⟩
def sg_strconv_Atoi : Sig := ⟨[.cell (.val .str false)], [(0, [.val (.int .i64) true]), (0, [.val .err true])]⟩
def sg_s_LangNameOk : Sig := ⟨[.cell (.val .str false)], [(0, [.val .bool true])]⟩
def sg_s_l12Start : Sig := ⟨[.agg [.val (.slice (.cons (.int .i64) (.cons (.int .i64) (.cons .str .nil)))) false], .cell (.val (.int .i64) false)], [(0, [.val (.int .i64) true])]⟩
def sg_internal_stringslite_CutPrefix : Sig := ⟨[.cell (.val .str false), .cell (.val .str false)], [(0, [.val .str true]), (0, [.val .bool true])]⟩
def sg_s_l11Word : Sig := ⟨[.cell (.val .str false)], [(0, [.val .bool true])]⟩
def S : Sigs := [
  (3, some [([], sg_w_FnTokens)]),
  (4, some [([], sg_s_DrawLangTokens)]),
  (5, some [([], sg_i_LangTokens)]),
  (6, some [([], sg_s_LangTokens)]),
  (7, some [([], sg_i_LangNumOk)]),
  (8, some [([], sg_s_l34Open)]),
  (9, some [([], sg_s_l34Rd_pick)]),
  (10, some [([], sg_s_TermText)]),
  (11, some [([], sg_s_l34Rd_any)]),
  (12, some [([], sg_s_l34Rd_line)]),
  (13, some [([], sg_strings_Cut)]),
  (14, some [([], sg_i_signOf)]),
  (15, some [([], sg_i_isLetter)]),
  (16, some [([], sg_i_isFigure)]),
  (17, some [([], sg_i_wordLength)]),
  (18, some [([], sg_i_wordOk)]),
  (19, some [([], sg_slices_Clip_impl_LangToken_impl_LangToken)]),
  (20, some [([], sg_s_l11Letter)]),
  (21, some [([], sg_s_l11Digit)]),
  (22, some [([], sg_s_l11End)]),
  (23, some [([], sg_s_LangNumOk)]),
  (24, some [([], sg_s_l11Plain)]),
  (25, some [([], sg_s_l11Sign)]),
  (26, some [([], sg_i_DecOk)]),
  (27, some [([], sg_s_TermOk)]),
  (28, some [([], sg_s_l12Show)]),
  (29, some [([], sg_s_l34Rd_chain)]),
  (30, some [([], sg_s_l34Rd_term)]),
  (31, some [([], sg_s_l34Rd_word)]),
  (32, some [([], sg_s_l34Rd_name)]),
  (33, some [([], sg_s_l14Times)]),
  (34, some [([], sg_internal_stringslite_Cut)]),
  (35, some [([], sg_strings_HasPrefix)]),
  (36, some [([], sg_strings_IndexByte)]),
  (37, some [([], sg_i_in)]),
  (38, some [([], sg_s_l11Run)]),
  (39, some [([], sg_i_literal)]),
  (40, some [([], sg_s_l12Args)]),
  (41, some [([], sg_s_l12Level)]),
  (42, some [([], sg_s_l12Parts)]),
  (43, some [([], sg_s_l34Rd_grow)]),
  (44, some [([], sg_s_l34Rd_number)]),
  (45, some [([], sg_s_l34Many)]),
  (46, some [([], sg_internal_stringslite_Index)]),
  (47, some [([], sg_internal_stringslite_HasPrefix)]),
  (48, some [([], sg_internal_stringslite_IndexByte)]),
  (49, some [([], sg_i_wholeDigits)]),
  (50, some [([], sg_i_isDigits)]),
  (51, some [([], sg_strings_CutPrefix)]),
  (52, some [([], sg_strconv_Atoi)]),
  (53, some [([], sg_s_LangNameOk)]),
  (54, some [([], sg_s_l12Start)]),
  (59, some [([], sg_internal_stringslite_CutPrefix)]),
  (62, some [([], sg_s_l11Word)])]
end Go.Px.Seat
