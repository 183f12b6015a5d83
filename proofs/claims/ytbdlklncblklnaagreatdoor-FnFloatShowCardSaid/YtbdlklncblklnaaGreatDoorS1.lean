/- Own texts, part S1: PxSeat. -/
import Derived.Test.YtbdlklncblklnaaGreatDoorA5
import Derived.Test.YtbdlklncblklnaaGreatDoorProg
set_option linter.unusedVariables false

namespace Go.Px.Seat
open Go
def T : Types := [
  (2, some ⟨(.int .i64), (.int .i64), 1, 8, false⟩),
  (3, some ⟨(.int .i64), (.int .i64), 1, 8, false⟩),
  (4, some ⟨.bool, .bool, 1, 1, false⟩),
  (5, some ⟨(.int .u8), (.int .u8), 1, 1, false⟩),
  (6, some ⟨(.int .u8), (.int .u8), 1, 1, false⟩),
  (7, some ⟨(.struct [(0, 2), (1, 3), (2, 4), (3, 6)]), (.cons (.int .i64) (.cons (.int .i64) (.cons .bool (.cons (.int .u8) .nil)))), 4, 24, true⟩),
  (8, some ⟨(.struct [(0, 2), (1, 3), (2, 4), (3, 6)]), (.cons (.int .i64) (.cons (.int .i64) (.cons .bool (.cons (.int .u8) .nil)))), 4, 24, true⟩),
  (9, some ⟨.string, .str, 1, 16, false⟩),
  (10, some ⟨.string, .str, 1, 16, false⟩),
  (11, some ⟨.string, .str, 1, 16, false⟩),
  (12, some ⟨(.int .u64), (.int .u64), 1, 8, false⟩),
  (13, some ⟨(.struct [(0, 9), (1, 12)]), (.cons .str (.cons (.int .u64) .nil)), 2, 24, false⟩),
  (14, some ⟨(.struct [(0, 9), (1, 12)]), (.cons .str (.cons (.int .u64) .nil)), 2, 24, false⟩),
  (21, some ⟨(.int .i32), (.int .i32), 1, 4, false⟩),
  (22, some ⟨(.slice 5), (.slice (.int .u8)), 1, 24, false⟩),
  (23, some ⟨(.struct [(0, 4), (1, 3), (2, 3)]), (.cons .bool (.cons (.int .i64) (.cons (.int .i64) .nil))), 3, 24, true⟩),
  (24, some ⟨(.struct [(0, 4), (1, 3), (2, 3)]), (.cons .bool (.cons (.int .i64) (.cons (.int .i64) .nil))), 3, 24, true⟩),
  (25, some ⟨(.slice 3), (.slice (.int .i64)), 1, 24, false⟩),
  (26, some ⟨(.struct [(0, 4), (1, 25), (2, 25)]), (.cons .bool (.cons (.slice (.int .i64)) (.cons (.slice (.int .i64)) .nil))), 3, 56, false⟩),
  (27, some ⟨(.struct [(0, 4), (1, 25), (2, 25)]), (.cons .bool (.cons (.slice (.int .i64)) (.cons (.slice (.int .i64)) .nil))), 3, 56, false⟩),
  (37, some ⟨(.slice 27), (.slice (.cons .bool (.cons (.slice (.int .i64)) (.cons (.slice (.int .i64)) .nil)))), 1, 24, false⟩),
  (45, some ⟨(.struct [(0, 3), (1, 3)]), (.cons (.int .i64) (.cons (.int .i64) .nil)), 2, 16, true⟩),
  (46, some ⟨(.struct [(0, 3), (1, 3)]), (.cons (.int .i64) (.cons (.int .i64) .nil)), 2, 16, true⟩),
  (71, some ⟨(.int .u64), (.int .u64), 1, 8, false⟩),
  (72, some ⟨(.struct [(0, 4), (1, 71), (2, 3)]), (.cons .bool (.cons (.int .u64) (.cons (.int .i64) .nil))), 3, 24, true⟩),
  (73, some ⟨(.struct [(0, 4), (1, 71), (2, 3)]), (.cons .bool (.cons (.int .u64) (.cons (.int .i64) .nil))), 3, 24, true⟩),
  (76, some ⟨(.struct [(0, 4), (1, 25), (2, 25)]), (.cons .bool (.cons (.slice (.int .i64)) (.cons (.slice (.int .i64)) .nil))), 3, 56, false⟩),
  (77, some ⟨(.struct [(0, 4), (1, 25), (2, 25)]), (.cons .bool (.cons (.slice (.int .i64)) (.cons (.slice (.int .i64)) .nil))), 3, 56, false⟩),
  (81, some ⟨(.struct [(0, 3), (1, 27)]), (.cons (.int .i64) (.cons (.cons .bool (.cons (.slice (.int .i64)) (.cons (.slice (.int .i64)) .nil))) .nil)), 4, 64, false⟩),
  (82, some ⟨(.struct [(0, 3), (1, 27)]), (.cons (.int .i64) (.cons (.cons .bool (.cons (.slice (.int .i64)) (.cons (.slice (.int .i64)) .nil))) .nil)), 4, 64, false⟩),
  (121, some ⟨(.struct [(0, 22), (1, 3)]), (.cons (.slice (.int .u8)) (.cons (.int .i64) .nil)), 2, 32, false⟩),
  (122, some ⟨(.struct [(0, 22), (1, 3)]), (.cons (.slice (.int .u8)) (.cons (.int .i64) .nil)), 2, 32, false⟩),
  (124, some ⟨(.int .u64), (.int .u64), 1, 8, false⟩),
  (128, some ⟨(.slice 24), (.slice (.cons .bool (.cons (.int .i64) (.cons (.int .i64) .nil)))), 1, 24, false⟩),
  (142, some ⟨(.struct [(0, 3), (1, 3), (2, 3), (3, 3)]), (.cons (.int .i64) (.cons (.int .i64) (.cons (.int .i64) (.cons (.int .i64) .nil)))), 4, 32, true⟩),
  (143, some ⟨(.struct [(0, 3), (1, 3), (2, 3), (3, 3)]), (.cons (.int .i64) (.cons (.int .i64) (.cons (.int .i64) (.cons (.int .i64) .nil)))), 4, 32, true⟩),
  (180, some ⟨(.int .u32), (.int .u32), 1, 4, false⟩),
  (190, some ⟨.err, .err, 1, 16, false⟩),
  (199, some ⟨(.slice 25), (.slice (.slice (.int .i64))), 1, 24, false⟩),
  (201, some ⟨(.array 64 5), (.cons (.int .u8) (.cons (.int .u8) (.cons (.int .u8) (.cons (.int .u8) (.cons (.int .u8) (.cons (.int .u8) (.cons (.int .u8) (.cons (.int .u8) (.cons (.int .u8) (.cons (.int .u8) (.cons (.int .u8) (.cons (.int .u8) (.cons (.int .u8) (.cons (.int .u8) (.cons (.int .u8) (.cons (.int .u8) (.cons (.int .u8) (.cons (.int .u8) (.cons (.int .u8) (.cons (.int .u8) (.cons (.int .u8) (.cons (.int .u8) (.cons (.int .u8) (.cons (.int .u8) (.cons (.int .u8) (.cons (.int .u8) (.cons (.int .u8) (.cons (.int .u8) (.cons (.int .u8) (.cons (.int .u8) (.cons (.int .u8) (.cons (.int .u8) (.cons (.int .u8) (.cons (.int .u8) (.cons (.int .u8) (.cons (.int .u8) (.cons (.int .u8) (.cons (.int .u8) (.cons (.int .u8) (.cons (.int .u8) (.cons (.int .u8) (.cons (.int .u8) (.cons (.int .u8) (.cons (.int .u8) (.cons (.int .u8) (.cons (.int .u8) (.cons (.int .u8) (.cons (.int .u8) (.cons (.int .u8) (.cons (.int .u8) (.cons (.int .u8) (.cons (.int .u8) (.cons (.int .u8) (.cons (.int .u8) (.cons (.int .u8) (.cons (.int .u8) (.cons (.int .u8) (.cons (.int .u8) (.cons (.int .u8) (.cons (.int .u8) (.cons (.int .u8) (.cons (.int .u8) (.cons (.int .u8) (.cons (.int .u8) .nil)))))))))))))))))))))))))))))))))))))))))))))))))))))))))))))))), 64, 64, false⟩),
  (208, some ⟨(.array 24 5), (.cons (.int .u8) (.cons (.int .u8) (.cons (.int .u8) (.cons (.int .u8) (.cons (.int .u8) (.cons (.int .u8) (.cons (.int .u8) (.cons (.int .u8) (.cons (.int .u8) (.cons (.int .u8) (.cons (.int .u8) (.cons (.int .u8) (.cons (.int .u8) (.cons (.int .u8) (.cons (.int .u8) (.cons (.int .u8) (.cons (.int .u8) (.cons (.int .u8) (.cons (.int .u8) (.cons (.int .u8) (.cons (.int .u8) (.cons (.int .u8) (.cons (.int .u8) (.cons (.int .u8) .nil)))))))))))))))))))))))), 24, 24, false⟩),
  (221, some ⟨(.array 20 71), (.cons (.int .u64) (.cons (.int .u64) (.cons (.int .u64) (.cons (.int .u64) (.cons (.int .u64) (.cons (.int .u64) (.cons (.int .u64) (.cons (.int .u64) (.cons (.int .u64) (.cons (.int .u64) (.cons (.int .u64) (.cons (.int .u64) (.cons (.int .u64) (.cons (.int .u64) (.cons (.int .u64) (.cons (.int .u64) (.cons (.int .u64) (.cons (.int .u64) (.cons (.int .u64) (.cons (.int .u64) .nil)))))))))))))))))))), 20, 160, false⟩),
  (225, some ⟨(.struct [(0, 5), (1, 5)]), (.cons (.int .u8) (.cons (.int .u8) .nil)), 2, 2, true⟩),
  (226, some ⟨(.struct [(0, 5), (1, 5)]), (.cons (.int .u8) (.cons (.int .u8) .nil)), 2, 2, true⟩),
  (227, some ⟨(.array 16 226), (.cons (.cons (.int .u8) (.cons (.int .u8) .nil)) (.cons (.cons (.int .u8) (.cons (.int .u8) .nil)) (.cons (.cons (.int .u8) (.cons (.int .u8) .nil)) (.cons (.cons (.int .u8) (.cons (.int .u8) .nil)) (.cons (.cons (.int .u8) (.cons (.int .u8) .nil)) (.cons (.cons (.int .u8) (.cons (.int .u8) .nil)) (.cons (.cons (.int .u8) (.cons (.int .u8) .nil)) (.cons (.cons (.int .u8) (.cons (.int .u8) .nil)) (.cons (.cons (.int .u8) (.cons (.int .u8) .nil)) (.cons (.cons (.int .u8) (.cons (.int .u8) .nil)) (.cons (.cons (.int .u8) (.cons (.int .u8) .nil)) (.cons (.cons (.int .u8) (.cons (.int .u8) .nil)) (.cons (.cons (.int .u8) (.cons (.int .u8) .nil)) (.cons (.cons (.int .u8) (.cons (.int .u8) .nil)) (.cons (.cons (.int .u8) (.cons (.int .u8) .nil)) (.cons (.cons (.int .u8) (.cons (.int .u8) .nil)) .nil)))))))))))))))), 32, 32, false⟩),
  (228, some ⟨(.array 32 5), (.cons (.int .u8) (.cons (.int .u8) (.cons (.int .u8) (.cons (.int .u8) (.cons (.int .u8) (.cons (.int .u8) (.cons (.int .u8) (.cons (.int .u8) (.cons (.int .u8) (.cons (.int .u8) (.cons (.int .u8) (.cons (.int .u8) (.cons (.int .u8) (.cons (.int .u8) (.cons (.int .u8) (.cons (.int .u8) (.cons (.int .u8) (.cons (.int .u8) (.cons (.int .u8) (.cons (.int .u8) (.cons (.int .u8) (.cons (.int .u8) (.cons (.int .u8) (.cons (.int .u8) (.cons (.int .u8) (.cons (.int .u8) (.cons (.int .u8) (.cons (.int .u8) (.cons (.int .u8) (.cons (.int .u8) (.cons (.int .u8) (.cons (.int .u8) .nil)))))))))))))))))))))))))))))))), 32, 32, false⟩),
  (234, some ⟨(.int .u8), (.int .u8), 1, 1, false⟩),
  (235, some ⟨(.int .u8), (.int .u8), 1, 1, false⟩),
  (237, some ⟨(.int .i32), (.int .i32), 1, 4, false⟩),
  (238, some ⟨(.int .i32), (.int .i32), 1, 4, false⟩)]
noncomputable def F : Funcs := [(10, some Go.Proofs.Tryz.f10), (14, some Go.Proofs.Tryz.f14), (16, some Go.Proofs.Tryz.f16), (19, some Go.Proofs.Tryz.f19), (22, some Go.Proofs.Tryz.f22), (27, some Go.Proofs.Tryz.f27), (34, some Go.Proofs.Tryz.f34), (35, some Go.Proofs.Tryz.f35), (44, some Go.Proofs.Tryz.f44), (46, some Go.Proofs.Tryz.f46), (47, some Go.Proofs.Tryz.f47), (50, some Go.Proofs.Tryz.f50), (51, some Go.Proofs.Tryz.f51), (52, some Go.Proofs.Tryz.f52), (53, some Go.Proofs.Tryz.f53), (65, some Go.Proofs.Tryz.f65), (69, some Go.Proofs.Tryz.f69), (70, some Go.Proofs.Tryz.f70), (71, some Go.Proofs.Tryz.f71), (78, some Go.Proofs.Tryz.f78), (79, some Go.Proofs.Tryz.f79), (82, some Go.Proofs.Tryz.f82), (84, some Go.Proofs.Tryz.f84), (93, some Go.Proofs.Tryz.f93), (99, some Go.Proofs.Tryz.f99), (100, some Go.Proofs.Tryz.f100), (101, some Go.Proofs.Tryz.f101), (102, some Go.Proofs.Tryz.f102), (107, some Go.Proofs.Tryz.f107), (113, some Go.Proofs.Tryz.f113), (117, some Go.Proofs.Tryz.f117), (119, some Go.Proofs.Tryz.f119), (120, some Go.Proofs.Tryz.f120), (121, some Go.Proofs.Tryz.f121), (122, some Go.Proofs.Tryz.f122), (123, some Go.Proofs.Tryz.f123), (124, some Go.Proofs.Tryz.f124), (125, some Go.Proofs.Tryz.f125), (132, some Go.Proofs.Tryz.f132), (137, some Go.Proofs.Tryz.f137), (138, some Go.Proofs.Tryz.f138), (139, some Go.Proofs.Tryz.f139), (140, some Go.Proofs.Tryz.f140), (141, some Go.Proofs.Tryz.f141), (142, some Go.Proofs.Tryz.f142), (143, some Go.Proofs.Tryz.f143), (144, some Go.Proofs.Tryz.f144), (145, some Go.Proofs.Tryz.f145), (146, some Go.Proofs.Tryz.f146), (147, some Go.Proofs.Tryz.f147), (148, some Go.Proofs.Tryz.f148), (151, some Go.Proofs.Tryz.f151), (152, some Go.Proofs.Tryz.f152), (153, some Go.Proofs.Tryz.f153), (154, some Go.Proofs.Tryz.f154), (155, some Go.Proofs.Tryz.f155), (156, some Go.Proofs.Tryz.f156), (157, some Go.Proofs.Tryz.f157), (165, some Go.Proofs.Tryz.f165), (166, some Go.Proofs.Tryz.f166), (167, some Go.Proofs.Tryz.f167), (168, some Go.Proofs.Tryz.f168), (169, some Go.Proofs.Tryz.f169), (170, some Go.Proofs.Tryz.f170), (172, some Go.Proofs.Tryz.f172), (179, some Go.Proofs.Tryz.f179), (180, some Go.Proofs.Tryz.f180), (181, some Go.Proofs.Tryz.f181), (186, some Go.Proofs.Tryz.f186), (187, some Go.Proofs.Tryz.f187), (188, some Go.Proofs.Tryz.f188), (189, some Go.Proofs.Tryz.f189), (190, some Go.Proofs.Tryz.f190), (191, some Go.Proofs.Tryz.f191), (192, some Go.Proofs.Tryz.f192), (193, some Go.Proofs.Tryz.f193), (194, some Go.Proofs.Tryz.f194), (195, some Go.Proofs.Tryz.f195), (198, some Go.Proofs.Tryz.f198), (201, some Go.Proofs.Tryz.f201), (202, some Go.Proofs.Tryz.f202), (203, some Go.Proofs.Tryz.f203), (204, some Go.Proofs.Tryz.f204), (211, some Go.Proofs.Tryz.f211), (213, some Go.Proofs.Tryz.f213), (214, some Go.Proofs.Tryz.f214), (217, some Go.Proofs.Tryz.f217), (218, some Go.Proofs.Tryz.f218), (228, some Go.Proofs.Tryz.f228)]
def sg_w_FnFloatShow : Sig := ⟨[.cell (.val (.slice (.int .u8)) false)], [(0, [.val .bool true])]⟩
def sg_s_FloatFrac : Sig := ⟨[.cell (.val (.int .i64) false), .cell (.val (.int .i64) false)], [(1, [.val .bool true, .val (.slice (.int .i64)) true, .val (.slice (.int .i64)) true]), (0, [.val .bool true])]⟩
def sg_s_FracAdd : Sig := ⟨[.agg [.val .bool false, .val (.slice (.int .i64)) false, .val (.slice (.int .i64)) false], .agg [.val .bool false, .val (.slice (.int .i64)) false, .val (.slice (.int .i64)) false]], [(1, [.val .bool true, .val (.slice (.int .i64)) true, .val (.slice (.int .i64)) true]), (0, [.val .bool true])]⟩
def sg_s_FracSub : Sig := ⟨[.agg [.val .bool false, .val (.slice (.int .i64)) false, .val (.slice (.int .i64)) false], .agg [.val .bool false, .val (.slice (.int .i64)) false, .val (.slice (.int .i64)) false]], [(1, [.val .bool true, .val (.slice (.int .i64)) true, .val (.slice (.int .i64)) true]), (0, [.val .bool true])]⟩
def sg_s_FracCmp : Sig := ⟨[.agg [.val .bool false, .val (.slice (.int .i64)) false, .val (.slice (.int .i64)) false], .agg [.val .bool false, .val (.slice (.int .i64)) false, .val (.slice (.int .i64)) false]], [(0, [.val (.int .i64) true])]⟩
def sg_s_FracSign : Sig := ⟨[.agg [.val .bool false, .val (.slice (.int .i64)) false, .val (.slice (.int .i64)) false]], [(0, [.val (.int .i64) true])]⟩
def sg_s_FloatShow : Sig := ⟨[.cell (.val (.int .i64) false), .cell (.val (.int .i64) false), .cell (.val .bool false)], [(0, [.val .str true])]⟩
def sg_i_FloatShow : Sig := ⟨[.cell (.val (.int .i64) false), .cell (.val (.int .i64) false), .cell (.val .bool false)], [(0, [.val .str true])]⟩
def sg_s_FracDiv : Sig := ⟨[.agg [.val .bool false, .val (.slice (.int .i64)) false, .val (.slice (.int .i64)) false], .agg [.val .bool false, .val (.slice (.int .i64)) false, .val (.slice (.int .i64)) false]], [(1, [.val .bool true, .val (.slice (.int .i64)) true, .val (.slice (.int .i64)) true]), (0, [.val .bool true])]⟩
def sg_s_FracAbs : Sig := ⟨[.agg [.val .bool false, .val (.slice (.int .i64)) false, .val (.slice (.int .i64)) false]], [(1, [.val .bool true, .val (.slice (.int .i64)) true, .val (.slice (.int .i64)) true]), (0, [.val .bool true])]⟩
def sg_s_FracNeg : Sig := ⟨[.agg [.val .bool false, .val (.slice (.int .i64)) false, .val (.slice (.int .i64)) false]], [(1, [.val .bool true, .val (.slice (.int .i64)) true, .val (.slice (.int .i64)) true]), (0, [.val .bool true])]⟩
def sg_s_DrawFloatShow : Sig := ⟨[.cell (.val (.slice (.int .u8)) false)], [(0, [.val (.int .i64) true]), (0, [.val (.int .i64) true]), (0, [.val .bool true])]⟩
def sg_s_BitOk : Sig := ⟨[.cell (.val (.int .i64) false), .cell (.val (.int .i64) false)], [(0, [.val .bool true])]⟩
def sg_w_ppLiteral : Sig := ⟨[.cell (.val .str false)], [(1, [.val .bool true, .val (.slice (.int .i64)) true, .val (.slice (.int .i64)) true]), (0, [.val .bool true])]⟩
def sg_s_FracInt : Sig := ⟨[.cell (.val (.int .i64) false)], [(1, [.val .bool true, .val (.slice (.int .i64)) true, .val (.slice (.int .i64)) true])]⟩
def sg_s_l31Open : Sig := ⟨[.cell (.val (.slice (.int .u8)) false)], [(2, [.val (.slice (.int .u8)) false, .val (.int .i64) false])]⟩
def sg_s_BitPartOf : Sig := ⟨[.cell (.val (.int .i64) false), .cell (.val (.int .i64) false)], [(1, [.val .bool true, .val (.int .u64) true, .val (.int .i64) true]), (0, [.val .bool true])]⟩
def sg_s_l8Of : Sig := ⟨[.cell (.val (.int .i64) false), .cell (.val (.int .i64) false)], [(1, [.val .bool true, .val (.slice (.int .i64)) true, .val (.slice (.int .i64)) true])]⟩
def sg_s_l6Make : Sig := ⟨[.cell (.val .bool false), .cell (.val (.slice (.int .i64)) false), .cell (.val (.slice (.int .i64)) false)], [(1, [.val .bool true, .val (.slice (.int .i64)) true, .val (.slice (.int .i64)) true]), (0, [.val .bool true])]⟩
def sg_s_FracOk : Sig := ⟨[.agg [.val .bool false, .val (.slice (.int .i64)) false, .val (.slice (.int .i64)) false]], [(0, [.val .bool true])]⟩
def sg_s_l6Sum : Sig := ⟨[.agg [.val .bool false, .val (.slice (.int .i64)) false, .val (.slice (.int .i64)) false], .agg [.val .bool false, .val (.slice (.int .i64)) false, .val (.slice (.int .i64)) false]], [(0, [.val .bool true]), (0, [.val (.slice (.int .i64)) true]), (0, [.val (.slice (.int .i64)) true])]⟩
def sg_s_l6Neg : Sig := ⟨[.agg [.val .bool false, .val (.slice (.int .i64)) false, .val (.slice (.int .i64)) false]], [(1, [.val .bool true, .val (.slice (.int .i64)) true, .val (.slice (.int .i64)) true])]⟩
def sg_s_l5Mul : Sig := ⟨[.cell (.val (.slice (.int .i64)) false), .cell (.val (.slice (.int .i64)) false)], [(0, [.val (.slice (.int .i64)) true])]⟩
def sg_s_l3Max : Sig := ⟨[.cell (.val (.int .i64) false), .cell (.val (.int .i64) false)], [(0, [.val (.int .i64) true])]⟩
def sg_s_BitTop : Sig := ⟨[.cell (.val (.int .i64) false)], [(0, [.val (.int .i64) true])]⟩
def sg_s_l22Size : Sig := ⟨[.agg [.val .bool false, .val (.slice (.int .i64)) false, .val (.slice (.int .i64)) false], .cell (.val .bool false)], [(0, [.val .str true])]⟩
def sg_i_BitOk : Sig := ⟨[.cell (.val (.int .i64) false), .cell (.val (.int .i64) false)], [(0, [.val .bool true])]⟩
def sg_i_floatShow : Sig := ⟨[.cell (.val (.int .i64) false), .cell (.val (.int .i64) false), .cell (.val .bool false)], [(0, [.val .str true])]⟩
def sg_i_in : Sig := ⟨[.cell (.val (.int .i64) false), .cell (.val (.int .i64) false), .cell (.val (.int .i64) false)], [(0, [.val .bool true])]⟩
def sg_i_size : Sig := ⟨[.cell (.val (.int .i64) false)], [(0, [.val (.int .i64) true])]⟩
def sg_s_l5Trim : Sig := ⟨[.cell (.val (.slice (.int .i64)) false)], [(0, [.val (.slice (.int .i64)) true])]⟩
def sg_s_l31Rd_width : Sig := ⟨[.box [.val (.slice (.int .u8)) false, .val (.int .i64) false]], [(0, [.val (.int .i64) true])]⟩
def sg_s_l31Rd_ord : Sig := ⟨[.box [.val (.slice (.int .u8)) false, .val (.int .i64) false], .cell (.val (.int .i64) false)], [(0, [.val (.int .i64) true])]⟩
def sg_s_l31Rd_pick : Sig := ⟨[.box [.val (.slice (.int .u8)) false, .val (.int .i64) false], .cell (.val (.int .i64) false)], [(0, [.val (.int .i64) true])]⟩
def sg_s_l1Width : Sig := ⟨[.cell (.val (.int .i64) false)], [(0, [.val .bool true])]⟩
def sg_s_l31Rd_nice : Sig := ⟨[.box [.val (.slice (.int .u8)) false, .val (.int .i64) false], .cell (.val (.int .i64) false)], [(0, [.val (.int .i64) true])]⟩
def sg_s_DecFrac : Sig := ⟨[.cell (.val .str false)], [(1, [.val .bool true, .val (.slice (.int .i64)) true, .val (.slice (.int .i64)) true]), (0, [.val .bool true])]⟩
def sg_s_NatOf : Sig := ⟨[.cell (.val (.int .u64) false)], [(0, [.val (.slice (.int .i64)) true])]⟩
def sg_i_whole : Sig := ⟨[.cell (.val .bool false), .cell (.val (.slice (.int .i64)) false)], [(1, [.val .bool false, .val (.slice (.int .i64)) false, .val (.slice (.int .i64)) false])]⟩
def sg_s_FracOf : Sig := ⟨[.cell (.val .bool false), .cell (.val (.slice (.int .i64)) false), .cell (.val (.slice (.int .i64)) false)], [(1, [.val .bool true, .val (.slice (.int .i64)) true, .val (.slice (.int .i64)) true]), (0, [.val .bool true])]⟩
def sg_s_l1Least : Sig := ⟨[.cell (.val (.int .i64) false)], [(0, [.val (.int .i64) true])]⟩
def sg_s_l1Frac : Sig := ⟨[.cell (.val (.int .i64) false)], [(0, [.val (.int .i64) true])]⟩
def sg_s_l5Pow2 : Sig := ⟨[.cell (.val (.int .i64) false)], [(0, [.val (.slice (.int .i64)) true])]⟩
def sg_s_l5Gcd : Sig := ⟨[.cell (.val (.slice (.int .i64)) false), .cell (.val (.slice (.int .i64)) false)], [(0, [.val (.slice (.int .i64)) true])]⟩
def sg_s_l5Div : Sig := ⟨[.cell (.val (.slice (.int .i64)) false), .cell (.val (.slice (.int .i64)) false)], [(0, [.val (.slice (.int .i64)) true]), (0, [.val (.slice (.int .i64)) true])]⟩
def sg_i_BitTop : Sig := ⟨[.cell (.val (.int .i64) false)], [(0, [.val (.int .i64) true])]⟩
def sg_i_value : Sig := ⟨[.cell (.val (.int .i64) false), .cell (.val (.int .i64) false)], [(1, [.val .bool true, .val (.slice (.int .i64)) true, .val (.slice (.int .i64)) true])]⟩
def sg_i_natMul : Sig := ⟨[.cell (.val (.slice (.int .i64)) false), .cell (.val (.slice (.int .i64)) false)], [(0, [.val (.slice (.int .i64)) true])]⟩
def sg_i_lowest : Sig := ⟨[.cell (.val .bool false), .cell (.val (.slice (.int .i64)) false), .cell (.val (.slice (.int .i64)) false)], [(1, [.val .bool false, .val (.slice (.int .i64)) false, .val (.slice (.int .i64)) false])]⟩
def sg_i_natAdd : Sig := ⟨[.cell (.val (.slice (.int .i64)) false), .cell (.val (.slice (.int .i64)) false)], [(0, [.val (.slice (.int .i64)) true])]⟩
def sg_i_natCmp : Sig := ⟨[.cell (.val (.slice (.int .i64)) false), .cell (.val (.slice (.int .i64)) false)], [(0, [.val (.int .i64) true])]⟩
def sg_s_NatOk : Sig := ⟨[.cell (.val (.slice (.int .i64)) false)], [(0, [.val .bool true])]⟩
def sg_s_l6One : Sig := ⟨[.cell (.val (.slice (.int .i64)) false)], [(0, [.val .bool true])]⟩
def sg_s_l5Add : Sig := ⟨[.cell (.val (.slice (.int .i64)) false), .cell (.val (.slice (.int .i64)) false)], [(0, [.val (.slice (.int .i64)) true])]⟩
def sg_s_l5Cmp : Sig := ⟨[.cell (.val (.slice (.int .i64)) false), .cell (.val (.slice (.int .i64)) false)], [(0, [.val (.int .i64) true])]⟩
def sg_s_l5Sub : Sig := ⟨[.cell (.val (.slice (.int .i64)) false), .cell (.val (.slice (.int .i64)) false)], [(0, [.val (.slice (.int .i64)) true])]⟩
def sg_s_l8Round : Sig := ⟨[.cell (.val (.int .i64) false), .agg [.val .bool false, .val (.slice (.int .i64)) false, .val (.slice (.int .i64)) false], .cell (.val .bool false)], [(0, [.val (.int .i64) true])]⟩
def sg_s_l8Frac : Sig := ⟨[.agg [.val .bool false, .val (.slice (.int .i64)) false, .val (.slice (.int .i64)) false]], [(1, [.val .bool false, .val (.slice (.int .i64)) false, .val (.slice (.int .i64)) false])]⟩
def sg_s_l22Power : Sig := ⟨[.agg [.val .bool false, .val (.slice (.int .i64)) false, .val (.slice (.int .i64)) false]], [(0, [.val (.int .i64) true])]⟩
def sg_s_l22Tens : Sig := ⟨[.cell (.val (.int .i64) false)], [(1, [.val .bool true, .val (.slice (.int .i64)) true, .val (.slice (.int .i64)) true])]⟩
def sg_s_NatText : Sig := ⟨[.cell (.val (.slice (.int .i64)) false)], [(0, [.val .str true])]⟩
def sg_s_l21Int : Sig := ⟨[.cell (.val (.int .i64) false)], [(0, [.val .str true])]⟩
def sg_i_formatOf : Sig := ⟨[.cell (.val (.int .i64) false)], [(1, [.val (.int .i64) true, .val (.int .i64) true, .val (.int .i64) true, .val (.int .i64) true]), (0, [.val .bool true])]⟩
def sg_i_show : Sig := ⟨[.agg [.val .bool false, .val (.slice (.int .i64)) false, .val (.slice (.int .i64)) false], .cell (.val .bool false)], [(0, [.val .str true])]⟩
def sg_s_l31Rd_big : Sig := ⟨[.box [.val (.slice (.int .u8)) false, .val (.int .i64) false]], [(0, [.val (.int .u64) true])]⟩
def sg_s_l7Parts : Sig := ⟨[.cell (.val .str false)], [(0, [.val .str true]), (0, [.val (.int .i64) true]), (0, [.val (.int .i64) true]), (0, [.val .bool true])]⟩
def sg_s_l5Times : Sig := ⟨[.cell (.val (.slice (.int .i64)) false), .cell (.val (.int .i64) false)], [(0, [.val (.slice (.int .i64)) true])]⟩
def sg_s_l7Tens : Sig := ⟨[.cell (.val (.int .i64) false)], [(0, [.val (.slice (.int .i64)) true])]⟩
def sg_s_l5Shl : Sig := ⟨[.cell (.val (.slice (.int .i64)) false), .cell (.val (.int .i64) false)], [(0, [.val (.slice (.int .i64)) true])]⟩
def sg_s_l5DivSmall : Sig := ⟨[.cell (.val (.slice (.int .i64)) false), .cell (.val (.int .i64) false)], [(0, [.val (.slice (.int .i64)) true]), (0, [.val (.int .i64) true])]⟩
def sg_s_l5Top : Sig := ⟨[.cell (.val (.slice (.int .i64)) false), .cell (.val (.int .i64) false)], [(0, [.val (.slice (.int .i64)) true])]⟩
def sg_s_l5At : Sig := ⟨[.cell (.val (.slice (.int .i64)) false), .cell (.val (.int .i64) false)], [(0, [.val (.int .i64) true])]⟩
def sg_i_BitPartOf : Sig := ⟨[.cell (.val (.int .i64) false), .cell (.val (.int .i64) false)], [(1, [.val .bool true, .val (.int .u64) true, .val (.int .i64) true]), (0, [.val .bool true])]⟩
def sg_i_natOf : Sig := ⟨[.cell (.val (.int .u64) false)], [(0, [.val (.slice (.int .i64)) true])]⟩
def sg_i_natShift : Sig := ⟨[.cell (.val (.slice (.int .i64)) false), .cell (.val (.int .i64) false)], [(0, [.val (.slice (.int .i64)) true])]⟩
def sg_i_trim : Sig := ⟨[.cell (.val (.slice (.int .i64)) false)], [(0, [.val (.slice (.int .i64)) false])]⟩
def sg_i_natGcd : Sig := ⟨[.cell (.val (.slice (.int .i64)) false), .cell (.val (.slice (.int .i64)) false)], [(0, [.val (.slice (.int .i64)) false])]⟩
def sg_i_natDiv : Sig := ⟨[.cell (.val (.slice (.int .i64)) false), .cell (.val (.slice (.int .i64)) false)], [(0, [.val (.slice (.int .i64)) false]), (0, [.val (.slice (.int .i64)) false])]⟩
def sg_slices_Clone_int_int : Sig := ⟨[.cell (.val (.slice (.int .i64)) false)], [(0, [.row (.int .i64) 3 true])]⟩
def sg_s_l8Size : Sig := ⟨[.cell (.val (.int .i64) false), .agg [.val .bool false, .val (.slice (.int .i64)) false, .val (.slice (.int .i64)) false]], [(0, [.val (.int .i64) true]), (0, [.val .bool true])]⟩
def sg_s_l8Cmp : Sig := ⟨[.agg [.val .bool false, .val (.slice (.int .i64)) false, .val (.slice (.int .i64)) false], .agg [.val .bool false, .val (.slice (.int .i64)) false, .val (.slice (.int .i64)) false]], [(0, [.val (.int .i64) true])]⟩
def sg_s_FracText : Sig := ⟨[.agg [.val .bool false, .val (.slice (.int .i64)) false, .val (.slice (.int .i64)) false]], [(0, [.val .str true])]⟩
def sg_i_natText : Sig := ⟨[.cell (.val (.slice (.int .i64)) false)], [(0, [.val .str true])]⟩
def sg_i_ten : Sig := ⟨[.cell (.val (.int .i64) false)], [(0, [.val (.slice (.int .i64)) true])]⟩
def sg_strings_TrimRight : Sig := ⟨[.cell (.val .str false), .cell (.val .str false)], [(0, [.val .str true])]⟩
def sg_strconv_Itoa : Sig := ⟨[.cell (.val (.int .i64) false)], [(0, [.val .str true])]⟩
def sg_s_l7Digits : Sig := ⟨[.cell (.val .str false), .cell (.val (.int .i64) false)], [(0, [.val (.int .i64) true])]⟩
def sg_s_l5Bits : Sig := ⟨[.cell (.val (.slice (.int .i64)) false)], [(0, [.val (.int .i64) true])]⟩
def sg_math_bits_Len : Sig := ⟨[.cell (.val (.int .u64) false)], [(0, [.val (.int .i64) true])]⟩
def sg_s_l8Scaled : Sig := ⟨[.agg [.val .bool false, .val (.slice (.int .i64)) false, .val (.slice (.int .i64)) false], .cell (.val (.int .i64) false)], [(0, [.val (.slice (.int .i64)) true]), (0, [.val .bool true])]⟩
def sg_s_NatSmall : Sig := ⟨[.cell (.val (.slice (.int .i64)) false)], [(0, [.val (.int .u64) true]), (0, [.val .bool true])]⟩
def sg_strings_Repeat : Sig := ⟨[.cell (.val .str false), .cell (.val (.int .i64) false)], [(0, [.val .str true])]⟩
def sg_math_bits_Len64 : Sig := ⟨[.cell (.val (.int .u64) false)], [(0, [.val (.int .i64) true])]⟩
def sg_math_bits_TrailingZeros64 : Sig := ⟨[.cell (.val (.int .u64) false)], [(0, [.val (.int .i64) true])]⟩
def S : Sigs := [
  (10, some [([], sg_w_FnFloatShow)]),
  (14, some [([], sg_s_FloatFrac)]),
  (16, some [([], sg_s_FracAdd)]),
  (19, some [([], sg_s_FracSub)]),
  (22, some [([], sg_s_FracCmp)]),
  (27, some [([], sg_s_FracSign)]),
  (34, some [([], sg_s_FloatShow)]),
  (35, some [([], sg_i_FloatShow)]),
  (44, some [([], sg_s_FracDiv)]),
  (46, some [([], sg_s_FracAbs)]),
  (47, some [([], sg_s_FracNeg)]),
  (50, some [([], sg_s_DrawFloatShow)]),
  (51, some [([], sg_s_BitOk)]),
  (52, some [([], sg_w_ppLiteral)]),
  (53, some [([], sg_s_FracInt)]),
  (65, some [([], sg_s_l31Open)]),
  (69, some [([], sg_s_BitPartOf)]),
  (70, some [([], sg_s_l8Of)]),
  (71, some [([], sg_s_l6Make)]),
  (78, some [([], sg_s_FracOk)]),
  (79, some [([], sg_s_l6Sum)]),
  (82, some [([], sg_s_l6Neg)]),
  (84, some [([], sg_s_l5Mul)]),
  (93, some [([], sg_s_l3Max)]),
  (99, some [([], sg_s_BitTop)]),
  (100, some [([], sg_s_l22Size)]),
  (101, some [([], sg_i_BitOk)]),
  (102, some [([], sg_i_floatShow)]),
  (107, some [([], sg_i_in)]),
  (113, some [([], sg_i_size)]),
  (117, some [([], sg_s_l5Trim)]),
  (119, some [([], sg_s_l31Rd_width)]),
  (120, some [([], sg_s_l31Rd_ord)]),
  (121, some [([], sg_s_l31Rd_pick)]),
  (122, some [([], sg_s_l1Width)]),
  (123, some [([], sg_s_l31Rd_nice)]),
  (124, some [([], sg_s_DecFrac)]),
  (125, some [([], sg_s_NatOf)]),
  (132, some [([], sg_i_whole)]),
  (137, some [([], sg_s_FracOf)]),
  (138, some [([], sg_s_l1Least)]),
  (139, some [([], sg_s_l1Frac)]),
  (140, some [([], sg_s_l5Pow2)]),
  (141, some [([], sg_s_l5Gcd)]),
  (142, some [([], sg_s_l5Div)]),
  (143, some [([], sg_i_BitTop)]),
  (144, some [([], sg_i_value)]),
  (145, some [([], sg_i_natMul)]),
  (146, some [([], sg_i_lowest)]),
  (147, some [([], sg_i_natAdd)]),
  (148, some [([], sg_i_natCmp)]),
  (151, some [([], sg_s_NatOk)]),
  (152, some [([], sg_s_l6One)]),
  (153, some [([], sg_s_l5Add)]),
  (154, some [([], sg_s_l5Cmp)]),
  (155, some [([], sg_s_l5Sub)]),
  (156, some [([], sg_s_l8Round)]),
  (157, some [([], sg_s_l8Frac)]),
  (165, some [([], sg_s_l22Power)]),
  (166, some [([], sg_s_l22Tens)]),
  (167, some [([], sg_s_NatText)]),
  (168, some [([], sg_s_l21Int)]),
  (169, some [([], sg_i_formatOf)]),
  (170, some [([], sg_i_show)]),
  (172, some [([], sg_s_l31Rd_big)]),
  (179, some [([], sg_s_l7Parts)]),
  (180, some [([], sg_s_l5Times)]),
  (181, some [([], sg_s_l7Tens)]),
  (186, some [([], sg_s_l5Shl)]),
  (187, some [([], sg_s_l5DivSmall)]),
  (188, some [([], sg_s_l5Top)]),
  (189, some [([], sg_s_l5At)]),
  (190, some [([], sg_i_BitPartOf)]),
  (191, some [([], sg_i_natOf)]),
  (192, some [([], sg_i_natShift)]),
  (193, some [([], sg_i_trim)]),
  (194, some [([], sg_i_natGcd)]),
  (195, some [([], sg_i_natDiv)]),
  (196, some [([], sg_slices_Clone_int_int)]),
  (198, some [([], sg_s_l8Size)]),
  (201, some [([], sg_s_l8Cmp)]),
  (202, some [([], sg_s_FracText)]),
  (203, some [([], sg_i_natText)]),
  (204, some [([], sg_i_ten)]),
  (205, some [([], sg_strings_TrimRight)]),
  (206, some [([], sg_strconv_Itoa)]),
  (211, some [([], sg_s_l7Digits)]),
  (213, some [([], sg_s_l5Bits)]),
  (214, some [([], sg_math_bits_Len)]),
  (217, some [([], sg_s_l8Scaled)]),
  (218, some [([], sg_s_NatSmall)]),
  (219, some [([], sg_strings_Repeat)]),
  (228, some [([], sg_math_bits_Len64)]),
  (229, some [([], sg_math_bits_TrailingZeros64)])]
end Go.Px.Seat
