/- Own texts, part S1: PxSeat. -/
import Derived.Test.YthallaeafilbbaaGreatDoorA5
import Derived.Test.YthallaeafilbbaaGreatDoorProg
set_option linter.unusedVariables false

namespace Go.Px.Seat
open Go
def T : Types := [
  (2, some ⟨(.int .i64), (.int .i64), 1, 8, false⟩),
  (3, some ⟨(.int .i64), (.int .i64), 1, 8, false⟩),
  (4, some ⟨.bool, .bool, 1, 1, false⟩),
  (5, some ⟨(.int .u8), (.int .u8), 1, 1, false⟩),
  (6, some ⟨(.int .u8), (.int .u8), 1, 1, false⟩),
  (7, some ⟨(.struct [(0, 2), (1, 3), (2, 4), (3, 6)]), (.cons (.int .i64) (.cons (.int .i64) (.cons .bool (.cons (.int .u8) .nil)))), 4, 24, false⟩),
  (8, some ⟨(.struct [(0, 2), (1, 3), (2, 4), (3, 6)]), (.cons (.int .i64) (.cons (.int .i64) (.cons .bool (.cons (.int .u8) .nil)))), 4, 24, false⟩),
  (9, some ⟨.string, .str, 1, 16, false⟩),
  (10, some ⟨.string, .str, 1, 16, false⟩),
  (11, some ⟨.string, .str, 1, 16, false⟩),
  (12, some ⟨(.int .u64), (.int .u64), 1, 8, false⟩),
  (13, some ⟨(.struct [(0, 9), (1, 12)]), (.cons .str (.cons (.int .u64) .nil)), 2, 24, false⟩),
  (14, some ⟨(.struct [(0, 9), (1, 12)]), (.cons .str (.cons (.int .u64) .nil)), 2, 24, false⟩),
  (21, some ⟨(.int .i32), (.int .i32), 1, 4, false⟩),
  (22, some ⟨(.slice 83), (.slice (.cons (.int .i64) (.cons (.int .i64) .nil))), 1, 24, false⟩),
  (23, some ⟨(.struct [(0, 22)]), (.cons (.slice (.cons (.int .i64) (.cons (.int .i64) .nil))) .nil), 1, 24, false⟩),
  (24, some ⟨(.struct [(0, 22)]), (.cons (.slice (.cons (.int .i64) (.cons (.int .i64) .nil))) .nil), 1, 24, false⟩),
  (25, some ⟨(.slice 9), (.slice .str), 1, 24, false⟩),
  (29, some ⟨(.slice 54), (.slice (.cons (.int .i64) (.cons (.int .i64) .nil))), 1, 24, false⟩),
  (30, some ⟨(.struct [(0, 29)]), (.cons (.slice (.cons (.int .i64) (.cons (.int .i64) .nil))) .nil), 1, 24, false⟩),
  (31, some ⟨(.struct [(0, 29)]), (.cons (.slice (.cons (.int .i64) (.cons (.int .i64) .nil))) .nil), 1, 24, false⟩),
  (37, some ⟨(.slice 5), (.slice (.int .u8)), 1, 24, false⟩),
  (38, some ⟨(.slice 73), (.slice (.cons (.int .i64) (.cons (.int .i64) (.cons .str .nil)))), 1, 24, false⟩),
  (39, some ⟨(.struct [(0, 38)]), (.cons (.slice (.cons (.int .i64) (.cons (.int .i64) (.cons .str .nil)))) .nil), 1, 24, false⟩),
  (40, some ⟨(.struct [(0, 38)]), (.cons (.slice (.cons (.int .i64) (.cons (.int .i64) (.cons .str .nil)))) .nil), 1, 24, false⟩),
  (53, some ⟨(.struct [(0, 3), (1, 3)]), (.cons (.int .i64) (.cons (.int .i64) .nil)), 2, 16, true⟩),
  (54, some ⟨(.struct [(0, 3), (1, 3)]), (.cons (.int .i64) (.cons (.int .i64) .nil)), 2, 16, true⟩),
  (61, some ⟨(.struct [(0, 9), (1, 3)]), (.cons .str (.cons (.int .i64) .nil)), 2, 24, true⟩),
  (62, some ⟨(.struct [(0, 9), (1, 3)]), (.cons .str (.cons (.int .i64) .nil)), 2, 24, true⟩),
  (63, some ⟨(.slice 62), (.slice (.cons .str (.cons (.int .i64) .nil))), 1, 24, false⟩),
  (68, some ⟨(.slice 104), (.slice (.cons (.int .i64) (.cons .str .nil))), 1, 24, false⟩),
  (72, some ⟨(.struct [(0, 3), (1, 3), (2, 9)]), (.cons (.int .i64) (.cons (.int .i64) (.cons .str .nil))), 3, 32, true⟩),
  (73, some ⟨(.struct [(0, 3), (1, 3), (2, 9)]), (.cons (.int .i64) (.cons (.int .i64) (.cons .str .nil))), 3, 32, true⟩),
  (78, some ⟨(.slice 3), (.slice (.int .i64)), 1, 24, false⟩),
  (79, some ⟨(.struct [(0, 4), (1, 78), (2, 78)]), (.cons .bool (.cons (.slice (.int .i64)) (.cons (.slice (.int .i64)) .nil))), 3, 56, false⟩),
  (80, some ⟨(.struct [(0, 4), (1, 78), (2, 78)]), (.cons .bool (.cons (.slice (.int .i64)) (.cons (.slice (.int .i64)) .nil))), 3, 56, false⟩),
  (83, some ⟨(.struct [(0, 3), (1, 3)]), (.cons (.int .i64) (.cons (.int .i64) .nil)), 2, 16, true⟩),
  (91, some ⟨(.struct [(0, 37), (1, 3)]), (.cons (.slice (.int .u8)) (.cons (.int .i64) .nil)), 2, 32, false⟩),
  (92, some ⟨(.struct [(0, 37), (1, 3)]), (.cons (.slice (.int .u8)) (.cons (.int .i64) .nil)), 2, 32, false⟩),
  (95, some ⟨(.struct [(0, 9), (1, 3)]), (.cons .str (.cons (.int .i64) .nil)), 2, 24, true⟩),
  (96, some ⟨(.struct [(0, 9), (1, 3)]), (.cons .str (.cons (.int .i64) .nil)), 2, 24, true⟩),
  (103, some ⟨(.struct [(0, 3), (1, 9)]), (.cons (.int .i64) (.cons .str .nil)), 2, 24, true⟩),
  (104, some ⟨(.struct [(0, 3), (1, 9)]), (.cons (.int .i64) (.cons .str .nil)), 2, 24, true⟩),
  (112, some ⟨(.struct [(0, 68), (1, 38), (2, 4), (3, 4)]), (.cons (.slice (.cons (.int .i64) (.cons .str .nil))) (.cons (.slice (.cons (.int .i64) (.cons (.int .i64) (.cons .str .nil)))) (.cons .bool (.cons .bool .nil)))), 4, 56, false⟩),
  (113, some ⟨(.struct [(0, 68), (1, 38), (2, 4), (3, 4)]), (.cons (.slice (.cons (.int .i64) (.cons .str .nil))) (.cons (.slice (.cons (.int .i64) (.cons (.int .i64) (.cons .str .nil)))) (.cons .bool (.cons .bool .nil)))), 4, 56, false⟩),
  (117, some ⟨(.struct [(0, 68), (1, 3), (2, 38), (3, 4), (4, 4)]), (.cons (.slice (.cons (.int .i64) (.cons .str .nil))) (.cons (.int .i64) (.cons (.slice (.cons (.int .i64) (.cons (.int .i64) (.cons .str .nil)))) (.cons .bool (.cons .bool .nil))))), 5, 64, false⟩),
  (118, some ⟨(.struct [(0, 68), (1, 3), (2, 38), (3, 4), (4, 4)]), (.cons (.slice (.cons (.int .i64) (.cons .str .nil))) (.cons (.int .i64) (.cons (.slice (.cons (.int .i64) (.cons (.int .i64) (.cons .str .nil)))) (.cons .bool (.cons .bool .nil))))), 5, 64, false⟩),
  (127, some ⟨(.int .u64), (.int .u64), 1, 8, false⟩),
  (128, some ⟨(.struct [(0, 4), (1, 127), (2, 3)]), (.cons .bool (.cons (.int .u64) (.cons (.int .i64) .nil))), 3, 24, true⟩),
  (129, some ⟨(.struct [(0, 4), (1, 127), (2, 3)]), (.cons .bool (.cons (.int .u64) (.cons (.int .i64) .nil))), 3, 24, true⟩),
  (136, some ⟨(.struct [(0, 4), (1, 78), (2, 78)]), (.cons .bool (.cons (.slice (.int .i64)) (.cons (.slice (.int .i64)) .nil))), 3, 56, false⟩),
  (137, some ⟨(.struct [(0, 4), (1, 78), (2, 78)]), (.cons .bool (.cons (.slice (.int .i64)) (.cons (.slice (.int .i64)) .nil))), 3, 56, false⟩),
  (144, some ⟨.err, .err, 1, 16, false⟩),
  (147, some ⟨(.slice 96), (.slice (.cons .str (.cons (.int .i64) .nil))), 1, 24, false⟩),
  (166, some ⟨(.int .u64), (.int .u64), 1, 8, false⟩),
  (167, some ⟨(.struct [(0, 3), (1, 3), (2, 3), (3, 3)]), (.cons (.int .i64) (.cons (.int .i64) (.cons (.int .i64) (.cons (.int .i64) .nil)))), 4, 32, true⟩),
  (168, some ⟨(.struct [(0, 3), (1, 3), (2, 3), (3, 3)]), (.cons (.int .i64) (.cons (.int .i64) (.cons (.int .i64) (.cons (.int .i64) .nil)))), 4, 32, true⟩),
  (195, some ⟨(.int .u32), (.int .u32), 1, 4, false⟩),
  (202, some ⟨(.array 24 5), (.cons (.int .u8) (.cons (.int .u8) (.cons (.int .u8) (.cons (.int .u8) (.cons (.int .u8) (.cons (.int .u8) (.cons (.int .u8) (.cons (.int .u8) (.cons (.int .u8) (.cons (.int .u8) (.cons (.int .u8) (.cons (.int .u8) (.cons (.int .u8) (.cons (.int .u8) (.cons (.int .u8) (.cons (.int .u8) (.cons (.int .u8) (.cons (.int .u8) (.cons (.int .u8) (.cons (.int .u8) (.cons (.int .u8) (.cons (.int .u8) (.cons (.int .u8) (.cons (.int .u8) .nil)))))))))))))))))))))))), 24, 24, false⟩),
  (209, some ⟨(.map 9 3), .mp, 1, 8, false⟩),
  (217, some ⟨(.array 20 127), (.cons (.int .u64) (.cons (.int .u64) (.cons (.int .u64) (.cons (.int .u64) (.cons (.int .u64) (.cons (.int .u64) (.cons (.int .u64) (.cons (.int .u64) (.cons (.int .u64) (.cons (.int .u64) (.cons (.int .u64) (.cons (.int .u64) (.cons (.int .u64) (.cons (.int .u64) (.cons (.int .u64) (.cons (.int .u64) (.cons (.int .u64) (.cons (.int .u64) (.cons (.int .u64) (.cons (.int .u64) .nil)))))))))))))))))))), 20, 160, false⟩),
  (219, some ⟨(.int .i64), (.int .i64), 1, 8, false⟩),
  (228, some ⟨(.struct [(0, 9), (1, 9), (2, 144)]), (.cons .str (.cons .str (.cons .err .nil))), 3, 48, false⟩),
  (229, some ⟨(.struct [(0, 9), (1, 9), (2, 144)]), (.cons .str (.cons .str (.cons .err .nil))), 3, 48, false⟩),
  (232, some ⟨(.struct [(0, 5), (1, 5)]), (.cons (.int .u8) (.cons (.int .u8) .nil)), 2, 2, true⟩),
  (233, some ⟨(.struct [(0, 5), (1, 5)]), (.cons (.int .u8) (.cons (.int .u8) .nil)), 2, 2, true⟩),
  (234, some ⟨(.array 16 233), (.cons (.cons (.int .u8) (.cons (.int .u8) .nil)) (.cons (.cons (.int .u8) (.cons (.int .u8) .nil)) (.cons (.cons (.int .u8) (.cons (.int .u8) .nil)) (.cons (.cons (.int .u8) (.cons (.int .u8) .nil)) (.cons (.cons (.int .u8) (.cons (.int .u8) .nil)) (.cons (.cons (.int .u8) (.cons (.int .u8) .nil)) (.cons (.cons (.int .u8) (.cons (.int .u8) .nil)) (.cons (.cons (.int .u8) (.cons (.int .u8) .nil)) (.cons (.cons (.int .u8) (.cons (.int .u8) .nil)) (.cons (.cons (.int .u8) (.cons (.int .u8) .nil)) (.cons (.cons (.int .u8) (.cons (.int .u8) .nil)) (.cons (.cons (.int .u8) (.cons (.int .u8) .nil)) (.cons (.cons (.int .u8) (.cons (.int .u8) .nil)) (.cons (.cons (.int .u8) (.cons (.int .u8) .nil)) (.cons (.cons (.int .u8) (.cons (.int .u8) .nil)) (.cons (.cons (.int .u8) (.cons (.int .u8) .nil)) .nil)))))))))))))))), 32, 32, false⟩),
  (235, some ⟨(.array 32 5), (.cons (.int .u8) (.cons (.int .u8) (.cons (.int .u8) (.cons (.int .u8) (.cons (.int .u8) (.cons (.int .u8) (.cons (.int .u8) (.cons (.int .u8) (.cons (.int .u8) (.cons (.int .u8) (.cons (.int .u8) (.cons (.int .u8) (.cons (.int .u8) (.cons (.int .u8) (.cons (.int .u8) (.cons (.int .u8) (.cons (.int .u8) (.cons (.int .u8) (.cons (.int .u8) (.cons (.int .u8) (.cons (.int .u8) (.cons (.int .u8) (.cons (.int .u8) (.cons (.int .u8) (.cons (.int .u8) (.cons (.int .u8) (.cons (.int .u8) (.cons (.int .u8) (.cons (.int .u8) (.cons (.int .u8) (.cons (.int .u8) (.cons (.int .u8) .nil)))))))))))))))))))))))))))))))), 32, 32, false⟩),
  (236, some ⟨(.array 64 5), (.cons (.int .u8) (.cons (.int .u8) (.cons (.int .u8) (.cons (.int .u8) (.cons (.int .u8) (.cons (.int .u8) (.cons (.int .u8) (.cons (.int .u8) (.cons (.int .u8) (.cons (.int .u8) (.cons (.int .u8) (.cons (.int .u8) (.cons (.int .u8) (.cons (.int .u8) (.cons (.int .u8) (.cons (.int .u8) (.cons (.int .u8) (.cons (.int .u8) (.cons (.int .u8) (.cons (.int .u8) (.cons (.int .u8) (.cons (.int .u8) (.cons (.int .u8) (.cons (.int .u8) (.cons (.int .u8) (.cons (.int .u8) (.cons (.int .u8) (.cons (.int .u8) (.cons (.int .u8) (.cons (.int .u8) (.cons (.int .u8) (.cons (.int .u8) (.cons (.int .u8) (.cons (.int .u8) (.cons (.int .u8) (.cons (.int .u8) (.cons (.int .u8) (.cons (.int .u8) (.cons (.int .u8) (.cons (.int .u8) (.cons (.int .u8) (.cons (.int .u8) (.cons (.int .u8) (.cons (.int .u8) (.cons (.int .u8) (.cons (.int .u8) (.cons (.int .u8) (.cons (.int .u8) (.cons (.int .u8) (.cons (.int .u8) (.cons (.int .u8) (.cons (.int .u8) (.cons (.int .u8) (.cons (.int .u8) (.cons (.int .u8) (.cons (.int .u8) (.cons (.int .u8) (.cons (.int .u8) (.cons (.int .u8) (.cons (.int .u8) (.cons (.int .u8) (.cons (.int .u8) (.cons (.int .u8) (.cons (.int .u8) .nil)))))))))))))))))))))))))))))))))))))))))))))))))))))))))))))))), 64, 64, false⟩),
  (239, some ⟨(.struct [(0, 9)]), (.cons .str .nil), 1, 16, true⟩),
  (240, some ⟨(.struct [(0, 9)]), (.cons .str .nil), 1, 16, true⟩),
  (246, some ⟨(.int .u8), (.int .u8), 1, 1, false⟩),
  (247, some ⟨(.int .u8), (.int .u8), 1, 1, false⟩),
  (249, some ⟨(.int .i32), (.int .i32), 1, 4, false⟩),
  (250, some ⟨(.int .i32), (.int .i32), 1, 4, false⟩)]
noncomputable def F : Funcs := [(4, some Go.Proofs.Tryz.f4), (13, some Go.Proofs.Tryz.f13), (14, some Go.Proofs.Tryz.f14), (15, some Go.Proofs.Tryz.f15), (16, some Go.Proofs.Tryz.f16), (17, some Go.Proofs.Tryz.f17), (18, some Go.Proofs.Tryz.f18), (19, some Go.Proofs.Tryz.f19), (20, some Go.Proofs.Tryz.f20), (21, some Go.Proofs.Tryz.f21), (34, some Go.Proofs.Tryz.f34), (35, some Go.Proofs.Tryz.f35), (36, some Go.Proofs.Tryz.f36), (37, some Go.Proofs.Tryz.f37), (38, some Go.Proofs.Tryz.f38), (39, some Go.Proofs.Tryz.f39), (40, some Go.Proofs.Tryz.f40), (41, some Go.Proofs.Tryz.f41), (42, some Go.Proofs.Tryz.f42), (43, some Go.Proofs.Tryz.f43), (44, some Go.Proofs.Tryz.f44), (45, some Go.Proofs.Tryz.f45), (47, some Go.Proofs.Tryz.f47), (54, some Go.Proofs.Tryz.f54), (58, some Go.Proofs.Tryz.f58), (60, some Go.Proofs.Tryz.f60), (64, some Go.Proofs.Tryz.f64), (65, some Go.Proofs.Tryz.f65), (66, some Go.Proofs.Tryz.f66), (67, some Go.Proofs.Tryz.f67), (68, some Go.Proofs.Tryz.f68), (69, some Go.Proofs.Tryz.f69), (70, some Go.Proofs.Tryz.f70), (71, some Go.Proofs.Tryz.f71), (72, some Go.Proofs.Tryz.f72), (73, some Go.Proofs.Tryz.f73), (74, some Go.Proofs.Tryz.f74), (75, some Go.Proofs.Tryz.f75), (76, some Go.Proofs.Tryz.f76), (77, some Go.Proofs.Tryz.f77), (78, some Go.Proofs.Tryz.f78), (79, some Go.Proofs.Tryz.f79), (80, some Go.Proofs.Tryz.f80), (81, some Go.Proofs.Tryz.f81), (82, some Go.Proofs.Tryz.f82), (83, some Go.Proofs.Tryz.f83), (84, some Go.Proofs.Tryz.f84), (85, some Go.Proofs.Tryz.f85), (86, some Go.Proofs.Tryz.f86), (87, some Go.Proofs.Tryz.f87), (88, some Go.Proofs.Tryz.f88), (89, some Go.Proofs.Tryz.f89), (104, some Go.Proofs.Tryz.f104), (110, some Go.Proofs.Tryz.f110), (111, some Go.Proofs.Tryz.f111), (112, some Go.Proofs.Tryz.f112), (114, some Go.Proofs.Tryz.f114), (115, some Go.Proofs.Tryz.f115), (116, some Go.Proofs.Tryz.f116), (117, some Go.Proofs.Tryz.f117), (118, some Go.Proofs.Tryz.f118), (119, some Go.Proofs.Tryz.f119), (120, some Go.Proofs.Tryz.f120), (121, some Go.Proofs.Tryz.f121), (122, some Go.Proofs.Tryz.f122), (123, some Go.Proofs.Tryz.f123), (124, some Go.Proofs.Tryz.f124), (126, some Go.Proofs.Tryz.f126), (127, some Go.Proofs.Tryz.f127), (128, some Go.Proofs.Tryz.f128), (129, some Go.Proofs.Tryz.f129), (130, some Go.Proofs.Tryz.f130), (131, some Go.Proofs.Tryz.f131), (132, some Go.Proofs.Tryz.f132), (165, some Go.Proofs.Tryz.f165), (167, some Go.Proofs.Tryz.f167), (168, some Go.Proofs.Tryz.f168), (169, some Go.Proofs.Tryz.f169), (170, some Go.Proofs.Tryz.f170), (190, some Go.Proofs.Tryz.f190), (191, some Go.Proofs.Tryz.f191), (192, some Go.Proofs.Tryz.f192), (194, some Go.Proofs.Tryz.f194), (195, some Go.Proofs.Tryz.f195), (196, some Go.Proofs.Tryz.f196), (210, some Go.Proofs.Tryz.f210), (213, some Go.Proofs.Tryz.f213), (214, some Go.Proofs.Tryz.f214), (215, some Go.Proofs.Tryz.f215), (230, some Go.Proofs.Tryz.f230)]
def sg_w_FnTermBack : Sig := ⟨[.cell (.val (.slice (.int .u8)) false), .cell (.val (.slice (.int .u8)) false)], [(0, [.val .bool true])]⟩
def sg_s_GoodTerm : Sig := ⟨[.cell (.val (.slice (.int .u8)) false)], [(1, [.val (.slice (.cons (.int .i64) (.cons (.int .i64) (.cons .str .nil)))) true])]⟩
def sg_i_TermText : Sig := ⟨[.agg [.val (.slice (.cons (.int .i64) (.cons (.int .i64) (.cons .str .nil)))) false]], [(0, [.val .str true])]⟩
def sg_s_TermText : Sig := ⟨[.agg [.val (.slice (.cons (.int .i64) (.cons (.int .i64) (.cons .str .nil)))) false]], [(0, [.val .str true])]⟩
def sg_w_ptShort : Sig := ⟨[.cell (.val .str false)], [(0, [.val .bool true])]⟩
def sg_i_TermRead : Sig := ⟨[.cell (.val .str false)], [(1, [.val (.slice (.cons (.int .i64) (.cons (.int .i64) (.cons .str .nil)))) true]), (0, [.val (.int .i64) true])]⟩
def sg_w_ptTerm : Sig := ⟨[.agg [.val (.slice (.cons (.int .i64) (.cons (.int .i64) (.cons .str .nil)))) false], .agg [.val (.slice (.cons (.int .i64) (.cons (.int .i64) (.cons .str .nil)))) false]], [(0, [.val .bool true])]⟩
def sg_s_DrawTermRead : Sig := ⟨[.cell (.val (.slice (.int .u8)) false)], [(0, [.val .str true])]⟩
def sg_s_TermRead : Sig := ⟨[.cell (.val .str false)], [(1, [.val (.slice (.cons (.int .i64) (.cons (.int .i64) (.cons .str .nil)))) true]), (0, [.val (.int .i64) true])]⟩
def sg_w_ptComment : Sig := ⟨[.cell (.val .str false)], [(0, [.val .bool true])]⟩
def sg_i_LangNameOk : Sig := ⟨[.cell (.val .str false)], [(0, [.val .bool true])]⟩
def sg_s_l34Open : Sig := ⟨[.cell (.val (.slice (.int .u8)) false)], [(2, [.val (.slice (.int .u8)) false, .val (.int .i64) false])]⟩
def sg_s_l34Rd_term : Sig := ⟨[.box [.val (.slice (.int .u8)) false, .val (.int .i64) false], .cell (.val (.slice .str) false), .cell (.val (.slice (.cons .str (.cons (.int .i64) .nil))) false), .cell (.val (.int .i64) false)], [(1, [.row (.cons (.int .i64) (.cons (.int .i64) (.cons .str .nil))) 73 true])]⟩
def sg_s_l34Rd_pick : Sig := ⟨[.box [.val (.slice (.int .u8)) false, .val (.int .i64) false], .cell (.val (.int .i64) false)], [(0, [.val (.int .i64) true])]⟩
def sg_i_TermOk : Sig := ⟨[.agg [.val (.slice (.cons (.int .i64) (.cons (.int .i64) (.cons .str .nil)))) false]], [(0, [.val .bool true])]⟩
def sg_i_Term_text : Sig := ⟨[.agg [.val (.slice (.cons (.int .i64) (.cons (.int .i64) (.cons .str .nil)))) false]], [(0, [.val .str true])]⟩
def sg_s_TermOk : Sig := ⟨[.agg [.val (.slice (.cons (.int .i64) (.cons (.int .i64) (.cons .str .nil)))) false]], [(0, [.val .bool true])]⟩
def sg_s_l12Show : Sig := ⟨[.agg [.val (.slice (.cons (.int .i64) (.cons (.int .i64) (.cons .str .nil)))) false], .cell (.val (.int .i64) false), .cell (.val (.int .i64) false)], [(0, [.val .str true])]⟩
def sg_s_LangTokens : Sig := ⟨[.cell (.val .str false)], [(0, [.val (.slice (.cons (.int .i64) (.cons .str .nil))) true]), (0, [.val (.int .i64) true])]⟩
def sg_i_LangTokens : Sig := ⟨[.cell (.val .str false)], [(0, [.val (.slice (.cons (.int .i64) (.cons .str .nil))) true]), (0, [.val (.int .i64) true])]⟩
def sg_i_readTerm : Sig := ⟨[.cell (.val (.slice (.cons (.int .i64) (.cons .str .nil))) false)], [(1, [.val (.slice (.cons (.int .i64) (.cons (.int .i64) (.cons .str .nil)))) true]), (0, [.val (.int .i64) true])]⟩
def sg_s_l34Rd_read : Sig := ⟨[.box [.val (.slice (.int .u8)) false, .val (.int .i64) false]], [(0, [.val .str true])]⟩
def sg_s_l12Whole : Sig := ⟨[.cell (.val (.slice (.cons (.int .i64) (.cons .str .nil))) false)], [(1, [.val (.slice (.cons (.int .i64) (.cons (.int .i64) (.cons .str .nil)))) true]), (0, [.val (.int .i64) true])]⟩
def sg_s_LangNameOk : Sig := ⟨[.cell (.val .str false)], [(0, [.val .bool true])]⟩
def sg_i_in : Sig := ⟨[.cell (.val (.int .i64) false), .cell (.val (.int .i64) false), .cell (.val (.int .i64) false)], [(0, [.val .bool true])]⟩
def sg_slices_Contains_string_string : Sig := ⟨[.cell (.val (.slice .str) false), .cell (.val .str false)], [(0, [.val .bool true])]⟩
def sg_i_wordOk : Sig := ⟨[.cell (.val .str false)], [(0, [.val .bool true])]⟩
def sg_strings_Join : Sig := ⟨[.cell (.val (.slice .str) false), .cell (.val .str false)], [(0, [.val .str true])]⟩
def sg_s_l34Rd_grow : Sig := ⟨[.box [.val (.slice (.int .u8)) false, .val (.int .i64) false], .agg [.row (.cons (.int .i64) (.cons (.int .i64) (.cons .str .nil))) 73 false], .cell (.val (.slice .str) false), .cell (.val (.slice (.cons .str (.cons (.int .i64) .nil))) false), .cell (.val (.int .i64) false)], [(1, [.row (.cons (.int .i64) (.cons (.int .i64) (.cons .str .nil))) 73 true])]⟩
def sg_i_TermNode_parts : Sig := ⟨[.agg [.val (.int .i64) false, .val (.int .i64) false, .val .str false]], [(0, [.val (.int .i64) true])]⟩
def sg_i_fold_impl_written_i_write : Sig := ⟨[.agg [.val (.slice (.cons (.int .i64) (.cons (.int .i64) (.cons .str .nil)))) false], .fn 67 []], [(1, [.val .str true, .val (.int .i64) true])]⟩
def sg_i_write : Sig := ⟨[.agg [.val (.int .i64) false, .val (.int .i64) false, .val .str false], .cell (.val (.slice (.cons .str (.cons (.int .i64) .nil))) false)], [(1, [.val .str true, .val (.int .i64) true])]⟩
def sg_s_l12Args : Sig := ⟨[.agg [.val (.int .i64) false, .val (.int .i64) false, .val .str false]], [(0, [.val (.int .i64) true])]⟩
def sg_s_l12Level : Sig := ⟨[.agg [.val (.int .i64) false, .val (.int .i64) false, .val .str false]], [(0, [.val (.int .i64) true])]⟩
def sg_s_l12Parts : Sig := ⟨[.agg [.val (.slice (.cons (.int .i64) (.cons (.int .i64) (.cons .str .nil)))) false], .cell (.val (.int .i64) false)], [(0, [.val (.slice (.int .i64)) true])]⟩
def sg_s_l11Letter : Sig := ⟨[.cell (.val (.int .u8) false)], [(0, [.val .bool true])]⟩
def sg_s_l11Digit : Sig := ⟨[.cell (.val (.int .u8) false)], [(0, [.val .bool true])]⟩
def sg_s_l11End : Sig := ⟨[.cell (.val .str false), .cell (.val (.int .i64) false)], [(0, [.val (.int .i64) true])]⟩
def sg_s_LangNumOk : Sig := ⟨[.cell (.val .str false)], [(0, [.val .bool true])]⟩
def sg_s_l11Plain : Sig := ⟨[.cell (.val .str false)], [(0, [.val .bool true])]⟩
def sg_s_l11Sign : Sig := ⟨[.cell (.val .str false), .cell (.val (.int .i64) false)], [(0, [.val .str true])]⟩
def sg_strings_Cut : Sig := ⟨[.cell (.val .str false), .cell (.val .str false)], [(0, [.val .str true]), (0, [.val .str true]), (0, [.val .bool true])]⟩
def sg_i_signOf : Sig := ⟨[.cell (.val .str false)], [(0, [.val .str true])]⟩
def sg_i_isLetter : Sig := ⟨[.cell (.val (.int .u8) false)], [(0, [.val .bool true])]⟩
def sg_i_isFigure : Sig := ⟨[.cell (.val (.int .u8) false)], [(0, [.val .bool true])]⟩
def sg_i_wordLength : Sig := ⟨[.cell (.val .str false)], [(0, [.val (.int .i64) true])]⟩
def sg_i_LangNumOk : Sig := ⟨[.cell (.val .str false)], [(0, [.val .bool true])]⟩
def sg_slices_Clip_impl_LangToken_impl_LangToken : Sig := ⟨[.cell (.val (.slice (.cons (.int .i64) (.cons .str .nil))) false)], [(0, [.val (.slice (.cons (.int .i64) (.cons .str .nil))) false])]⟩
def sg_i_termReader_sum : Sig := ⟨[.box [.val (.slice (.cons (.int .i64) (.cons .str .nil))) false, .row (.cons (.int .i64) (.cons (.int .i64) (.cons .str .nil))) 73 false, .val .bool false, .val .bool false]], []⟩
def sg_i_clone_impl_TermNode : Sig := ⟨[.cell (.val (.slice (.cons (.int .i64) (.cons (.int .i64) (.cons .str .nil)))) false)], [(0, [.val (.slice (.cons (.int .i64) (.cons (.int .i64) (.cons .str .nil)))) true])]⟩
def sg_s_l34Rd_any : Sig := ⟨[.box [.val (.slice (.int .u8)) false, .val (.int .i64) false]], [(1, [.val (.slice (.cons (.int .i64) (.cons (.int .i64) (.cons .str .nil)))) true])]⟩
def sg_s_l34Rd_line : Sig := ⟨[.box [.val (.slice (.int .u8)) false, .val (.int .i64) false]], [(0, [.val .str true])]⟩
def sg_s_l12Reader_sum : Sig := ⟨[.box [.val (.slice (.cons (.int .i64) (.cons .str .nil))) false, .val (.int .i64) false, .row (.cons (.int .i64) (.cons (.int .i64) (.cons .str .nil))) 73 false, .val .bool false, .val .bool false]], []⟩
def sg_s_l11Word : Sig := ⟨[.cell (.val .str false)], [(0, [.val .bool true])]⟩
def sg_slices_Index_string_string : Sig := ⟨[.cell (.val (.slice .str) false), .cell (.val .str false)], [(0, [.val (.int .i64) true])]⟩
def sg_s_l34Rd_number : Sig := ⟨[.box [.val (.slice (.int .u8)) false, .val (.int .i64) false]], [(0, [.val .str true])]⟩
def sg_i_write_1 : Sig := ⟨[.cell (.val .str false), .box [.val (.slice (.cons .str (.cons (.int .i64) .nil))) false]], [(1, [.val .str true, .val (.int .i64) true])]⟩
def sg_i_written_in : Sig := ⟨[.agg [.val .str false, .val (.int .i64) false], .cell (.val (.int .i64) false)], [(0, [.val .str true])]⟩
def sg_strconv_Itoa : Sig := ⟨[.cell (.val (.int .i64) false)], [(0, [.val .str true])]⟩
def sg_s_l12Start : Sig := ⟨[.agg [.val (.slice (.cons (.int .i64) (.cons (.int .i64) (.cons .str .nil)))) false], .cell (.val (.int .i64) false)], [(0, [.val (.int .i64) true])]⟩
def sg_s_l11Run : Sig := ⟨[.cell (.val .str false), .cell (.val (.int .i64) false)], [(0, [.val (.int .i64) true])]⟩
def sg_internal_stringslite_Cut : Sig := ⟨[.cell (.val .str false), .cell (.val .str false)], [(0, [.val .str true]), (0, [.val .str true]), (0, [.val .bool true])]⟩
def sg_strings_HasPrefix : Sig := ⟨[.cell (.val .str false), .cell (.val .str false)], [(0, [.val .bool true])]⟩
def sg_strings_IndexByte : Sig := ⟨[.cell (.val .str false), .cell (.val (.int .u8) false)], [(0, [.val (.int .i64) true])]⟩
def sg_i_DecOk : Sig := ⟨[.cell (.val .str false)], [(0, [.val .bool true])]⟩
def sg_i_termReader_product : Sig := ⟨[.box [.val (.slice (.cons (.int .i64) (.cons .str .nil))) false, .row (.cons (.int .i64) (.cons (.int .i64) (.cons .str .nil))) 73 false, .val .bool false, .val .bool false]], []⟩
def sg_i_termReader_at : Sig := ⟨[.box [.val (.slice (.cons (.int .i64) (.cons .str .nil))) false, .row (.cons (.int .i64) (.cons (.int .i64) (.cons .str .nil))) 73 false, .val .bool false, .val .bool false], .cell (.val (.slice .str) false)], [(0, [.val .bool true])]⟩
def sg_i_termReader_next : Sig := ⟨[.box [.val (.slice (.cons (.int .i64) (.cons .str .nil))) false, .row (.cons (.int .i64) (.cons (.int .i64) (.cons .str .nil))) 73 false, .val .bool false, .val .bool false]], [(1, [.val (.int .i64) true, .val .str true])]⟩
def sg_i_termReader_put : Sig := ⟨[.box [.val (.slice (.cons (.int .i64) (.cons .str .nil))) false, .row (.cons (.int .i64) (.cons (.int .i64) (.cons .str .nil))) 73 false, .val .bool false, .val .bool false], .cell (.val (.int .i64) false), .cell (.val (.int .i64) false), .cell (.val .str false)], []⟩
def sg_slices_Clip_impl_TermNode_impl_TermNode : Sig := ⟨[.cell (.val (.slice (.cons (.int .i64) (.cons (.int .i64) (.cons .str .nil)))) false)], [(0, [.val (.slice (.cons (.int .i64) (.cons (.int .i64) (.cons .str .nil)))) false])]⟩
def sg_slices_Clone_impl_TermNode_impl_TermNode : Sig := ⟨[.cell (.val (.slice (.cons (.int .i64) (.cons (.int .i64) (.cons .str .nil)))) false)], [(0, [.row (.cons (.int .i64) (.cons (.int .i64) (.cons .str .nil))) 73 true])]⟩
def sg_s_l34Rd_chain : Sig := ⟨[.box [.val (.slice (.int .u8)) false, .val (.int .i64) false], .cell (.val (.int .i64) false)], [(1, [.row (.cons (.int .i64) (.cons (.int .i64) (.cons .str .nil))) 73 true])]⟩
def sg_s_l34Rd_word : Sig := ⟨[.box [.val (.slice (.int .u8)) false, .val (.int .i64) false]], [(0, [.val .str true])]⟩
def sg_s_l34Rd_name : Sig := ⟨[.box [.val (.slice (.int .u8)) false, .val (.int .i64) false]], [(0, [.val .str true])]⟩
def sg_s_l14Times : Sig := ⟨[.cell (.val .str false), .cell (.val (.int .i64) false)], [(0, [.val .str true])]⟩
def sg_s_l12Reader_product : Sig := ⟨[.box [.val (.slice (.cons (.int .i64) (.cons .str .nil))) false, .val (.int .i64) false, .row (.cons (.int .i64) (.cons (.int .i64) (.cons .str .nil))) 73 false, .val .bool false, .val .bool false]], []⟩
def sg_s_l12Reader_sign : Sig := ⟨[.box [.val (.slice (.cons (.int .i64) (.cons .str .nil))) false, .val (.int .i64) false, .row (.cons (.int .i64) (.cons (.int .i64) (.cons .str .nil))) 73 false, .val .bool false, .val .bool false], .cell (.val .str false)], [(0, [.val .bool true])]⟩
def sg_s_l12Reader_put : Sig := ⟨[.box [.val (.slice (.cons (.int .i64) (.cons .str .nil))) false, .val (.int .i64) false, .row (.cons (.int .i64) (.cons (.int .i64) (.cons .str .nil))) 73 false, .val .bool false, .val .bool false], .cell (.val (.int .i64) false), .cell (.val (.int .i64) false), .cell (.val .str false)], []⟩
def sg_internal_stringslite_Index : Sig := ⟨[.cell (.val .str false), .cell (.val .str false)], [(0, [.val (.int .i64) true])]⟩
def sg_internal_stringslite_HasPrefix : Sig := ⟨[.cell (.val .str false), .cell (.val .str false)], [(0, [.val .bool true])]⟩
def sg_internal_stringslite_IndexByte : Sig := ⟨[.cell (.val .str false), .cell (.val (.int .u8) false)], [(0, [.val (.int .i64) true])]⟩
def sg_i_literal : Sig := ⟨[.cell (.val .str false)], [(0, [.val .str true]), (0, [.val .str true]), (0, [.val (.int .i64) true]), (0, [.val .bool true])]⟩
def sg_i_termReader_signed : Sig := ⟨[.box [.val (.slice (.cons (.int .i64) (.cons .str .nil))) false, .row (.cons (.int .i64) (.cons (.int .i64) (.cons .str .nil))) 73 false, .val .bool false, .val .bool false]], []⟩
def sg_s_l34Many : Sig := ⟨[.cell (.val .str false), .cell (.val (.int .i64) false)], [(0, [.val .str true])]⟩
def sg_s_l12Reader_signed : Sig := ⟨[.box [.val (.slice (.cons (.int .i64) (.cons .str .nil))) false, .val (.int .i64) false, .row (.cons (.int .i64) (.cons (.int .i64) (.cons .str .nil))) 73 false, .val .bool false, .val .bool false]], []⟩
def sg_i_wholeDigits : Sig := ⟨[.cell (.val .str false)], [(0, [.val .bool true])]⟩
def sg_i_isDigits : Sig := ⟨[.cell (.val .str false)], [(0, [.val .bool true])]⟩
def sg_strings_CutPrefix : Sig := ⟨[.cell (.val .str false), .cell (.val .str false)], [(0, [.val .str true]), (0, [.val .bool true])]⟩
def sg_strconv_Atoi : Sig := ⟨[.cell (.val .str false)], [(0, [.val (.int .i64) true]), (0, [.val .err true])]⟩
def sg_i_termReader_atom : Sig := ⟨[.box [.val (.slice (.cons (.int .i64) (.cons .str .nil))) false, .row (.cons (.int .i64) (.cons (.int .i64) (.cons .str .nil))) 73 false, .val .bool false, .val .bool false]], []⟩
def sg_s_l12Reader_atom : Sig := ⟨[.box [.val (.slice (.cons (.int .i64) (.cons .str .nil))) false, .val (.int .i64) false, .row (.cons (.int .i64) (.cons (.int .i64) (.cons .str .nil))) 73 false, .val .bool false, .val .bool false]], []⟩
def sg_s_l12Power : Sig := ⟨[.cell (.val (.slice (.cons (.int .i64) (.cons .str .nil))) false), .cell (.val (.int .i64) false)], [(0, [.val (.int .i64) true])]⟩
def sg_internal_stringslite_CutPrefix : Sig := ⟨[.cell (.val .str false), .cell (.val .str false)], [(0, [.val .str true]), (0, [.val .bool true])]⟩
def sg_i_termReader_arguments : Sig := ⟨[.box [.val (.slice (.cons (.int .i64) (.cons .str .nil))) false, .row (.cons (.int .i64) (.cons (.int .i64) (.cons .str .nil))) 73 false, .val .bool false, .val .bool false]], [(0, [.val (.int .i64) true])]⟩
def sg_s_l12Reader_want : Sig := ⟨[.box [.val (.slice (.cons (.int .i64) (.cons .str .nil))) false, .val (.int .i64) false, .row (.cons (.int .i64) (.cons (.int .i64) (.cons .str .nil))) 73 false, .val .bool false, .val .bool false], .cell (.val .str false)], []⟩
def sg_s_l12Reader_call : Sig := ⟨[.box [.val (.slice (.cons (.int .i64) (.cons .str .nil))) false, .val (.int .i64) false, .row (.cons (.int .i64) (.cons (.int .i64) (.cons .str .nil))) 73 false, .val .bool false, .val .bool false], .cell (.val .str false), .cell (.val (.int .i64) false)], []⟩
def sg_i_termReader_take : Sig := ⟨[.box [.val (.slice (.cons (.int .i64) (.cons .str .nil))) false, .row (.cons (.int .i64) (.cons (.int .i64) (.cons .str .nil))) 73 false, .val .bool false, .val .bool false], .cell (.val .str false)], []⟩
def S : Sigs := [
  (4, some [([], sg_w_FnTermBack)]),
  (13, some [([], sg_s_GoodTerm)]),
  (14, some [([], sg_i_TermText)]),
  (15, some [([], sg_s_TermText)]),
  (16, some [([], sg_w_ptShort)]),
  (17, some [([], sg_i_TermRead)]),
  (18, some [([], sg_w_ptTerm)]),
  (19, some [([], sg_s_DrawTermRead)]),
  (20, some [([], sg_s_TermRead)]),
  (21, some [([], sg_w_ptComment)]),
  (31, some [([], sg_i_LangNameOk)]),
  (34, some [([], sg_s_l34Open)]),
  (35, some [([], sg_s_l34Rd_term)]),
  (36, some [([], sg_s_l34Rd_pick)]),
  (37, some [([], sg_i_TermOk)]),
  (38, some [([], sg_i_Term_text)]),
  (39, some [([], sg_s_TermOk)]),
  (40, some [([], sg_s_l12Show)]),
  (41, some [([], sg_s_LangTokens)]),
  (42, some [([], sg_i_LangTokens)]),
  (43, some [([], sg_i_readTerm)]),
  (44, some [([], sg_s_l34Rd_read)]),
  (45, some [([], sg_s_l12Whole)]),
  (47, some [([], sg_s_LangNameOk)]),
  (54, some [([], sg_i_in)]),
  (58, some [([], sg_slices_Contains_string_string)]),
  (60, some [([], sg_i_wordOk)]),
  (62, some [([], sg_strings_Join)]),
  (64, some [([], sg_s_l34Rd_grow)]),
  (65, some [([], sg_i_TermNode_parts)]),
  (66, some [([67], sg_i_fold_impl_written_i_write)]),
  (67, some [([], sg_i_write)]),
  (68, some [([], sg_s_l12Args)]),
  (69, some [([], sg_s_l12Level)]),
  (70, some [([], sg_s_l12Parts)]),
  (71, some [([], sg_s_l11Letter)]),
  (72, some [([], sg_s_l11Digit)]),
  (73, some [([], sg_s_l11End)]),
  (74, some [([], sg_s_LangNumOk)]),
  (75, some [([], sg_s_l11Plain)]),
  (76, some [([], sg_s_l11Sign)]),
  (77, some [([], sg_strings_Cut)]),
  (78, some [([], sg_i_signOf)]),
  (79, some [([], sg_i_isLetter)]),
  (80, some [([], sg_i_isFigure)]),
  (81, some [([], sg_i_wordLength)]),
  (82, some [([], sg_i_LangNumOk)]),
  (83, some [([], sg_slices_Clip_impl_LangToken_impl_LangToken)]),
  (84, some [([], sg_i_termReader_sum)]),
  (85, some [([], sg_i_clone_impl_TermNode)]),
  (86, some [([], sg_s_l34Rd_any)]),
  (87, some [([], sg_s_l34Rd_line)]),
  (88, some [([], sg_s_l12Reader_sum)]),
  (89, some [([], sg_s_l11Word)]),
  (104, some [([], sg_slices_Index_string_string)]),
  (110, some [([], sg_s_l34Rd_number)]),
  (111, some [([], sg_i_write_1)]),
  (112, some [([], sg_i_written_in)]),
  (113, some [([], sg_strconv_Itoa)]),
  (114, some [([], sg_s_l12Start)]),
  (115, some [([], sg_s_l11Run)]),
  (116, some [([], sg_internal_stringslite_Cut)]),
  (117, some [([], sg_strings_HasPrefix)]),
  (118, some [([], sg_strings_IndexByte)]),
  (119, some [([], sg_i_DecOk)]),
  (120, some [([], sg_i_termReader_product)]),
  (121, some [([], sg_i_termReader_at)]),
  (122, some [([], sg_i_termReader_next)]),
  (123, some [([], sg_i_termReader_put)]),
  (124, some [([], sg_slices_Clip_impl_TermNode_impl_TermNode)]),
  (125, some [([], sg_slices_Clone_impl_TermNode_impl_TermNode)]),
  (126, some [([], sg_s_l34Rd_chain)]),
  (127, some [([], sg_s_l34Rd_word)]),
  (128, some [([], sg_s_l34Rd_name)]),
  (129, some [([], sg_s_l14Times)]),
  (130, some [([], sg_s_l12Reader_product)]),
  (131, some [([], sg_s_l12Reader_sign)]),
  (132, some [([], sg_s_l12Reader_put)]),
  (164, some [([], sg_internal_stringslite_Index)]),
  (165, some [([], sg_internal_stringslite_HasPrefix)]),
  (166, some [([], sg_internal_stringslite_IndexByte)]),
  (167, some [([], sg_i_literal)]),
  (168, some [([], sg_i_termReader_signed)]),
  (169, some [([], sg_s_l34Many)]),
  (170, some [([], sg_s_l12Reader_signed)]),
  (190, some [([], sg_i_wholeDigits)]),
  (191, some [([], sg_i_isDigits)]),
  (192, some [([], sg_strings_CutPrefix)]),
  (193, some [([], sg_strconv_Atoi)]),
  (194, some [([], sg_i_termReader_atom)]),
  (195, some [([], sg_s_l12Reader_atom)]),
  (196, some [([], sg_s_l12Power)]),
  (210, some [([], sg_internal_stringslite_CutPrefix)]),
  (213, some [([], sg_i_termReader_arguments)]),
  (214, some [([], sg_s_l12Reader_want)]),
  (215, some [([], sg_s_l12Reader_call)]),
  (230, some [([], sg_i_termReader_take)])]
end Go.Px.Seat
