/- Own texts, part S1: PxSeat. -/
import Derived.Test.YthallaeafilbbaaGreatDoorA5
import Derived.Test.YthallaeafilbbaaGreatDoorProg
set_option linter.unusedVariables false

namespace Go.Px.Seat
open Go
def T : Types := [
  (2, some ⟨(.int .i64), (.int .i64), 1, 8, false⟩),
  (3, some ⟨(.int .i64), (.int .i64), 1, 8, false⟩),
  (4, some ⟨.bool, .bool, 1, 1, false⟩),
  (5, some ⟨(.int .u8), (.int .u8), 1, 1, false⟩),
  (6, some ⟨(.int .u8), (.int .u8), 1, 1, false⟩),
  (7, some ⟨(.struct [(0, 2), (1, 3), (2, 4), (3, 6)]), (.cons (.int .i64) (.cons (.int .i64) (.cons .bool (.cons (.int .u8) .nil)))), 4, 24, false⟩),
  (8, some ⟨(.struct [(0, 2), (1, 3), (2, 4), (3, 6)]), (.cons (.int .i64) (.cons (.int .i64) (.cons .bool (.cons (.int .u8) .nil)))), 4, 24, false⟩),
  (9, some ⟨.string, .str, 1, 16, false⟩),
  (10, some ⟨.string, .str, 1, 16, false⟩),
  (11, some ⟨.string, .str, 1, 16, false⟩),
  (12, some ⟨(.int .u64), (.int .u64), 1, 8, false⟩),
  (13, some ⟨(.struct [(0, 9), (1, 12)]), (.cons .str (.cons (.int .u64) .nil)), 2, 24, false⟩),
  (14, some ⟨(.struct [(0, 9), (1, 12)]), (.cons .str (.cons (.int .u64) .nil)), 2, 24, false⟩),
  (21, some ⟨(.int .i32), (.int .i32), 1, 4, false⟩),
  (22, some ⟨(.slice 83), (.slice (.cons (.int .i64) (.cons (.int .i64) .nil))), 1, 24, false⟩),
  (23, some ⟨(.struct [(0, 22)]), (.cons (.slice (.cons (.int .i64) (.cons (.int .i64) .nil))) .nil), 1, 24, false⟩),
  (24, some ⟨(.struct [(0, 22)]), (.cons (.slice (.cons (.int .i64) (.cons (.int .i64) .nil))) .nil), 1, 24, false⟩),
  (25, some ⟨(.slice 9), (.slice .str), 1, 24, false⟩),
  (29, some ⟨(.slice 54), (.slice (.cons (.int .i64) (.cons (.int .i64) .nil))), 1, 24, false⟩),
  (30, some ⟨(.struct [(0, 29)]), (.cons (.slice (.cons (.int .i64) (.cons (.int .i64) .nil))) .nil), 1, 24, false⟩),
  (31, some ⟨(.struct [(0, 29)]), (.cons (.slice (.cons (.int .i64) (.cons (.int .i64) .nil))) .nil), 1, 24, false⟩),
  (37, some ⟨(.slice 5), (.slice (.int .u8)), 1, 24, false⟩),
  (38, some ⟨(.slice 73), (.slice (.cons (.int .i64) (.cons (.int .i64) (.cons .str .nil)))), 1, 24, false⟩),
  (39, some ⟨(.struct [(0, 38)]), (.cons (.slice (.cons (.int .i64) (.cons (.int .i64) (.cons .str .nil)))) .nil), 1, 24, false⟩),
  (40, some ⟨(.struct [(0, 38)]), (.cons (.slice (.cons (.int .i64) (.cons (.int .i64) (.cons .str .nil)))) .nil), 1, 24, false⟩),
  (53, some ⟨(.struct [(0, 3), (1, 3)]), (.cons (.int .i64) (.cons (.int .i64) .nil)), 2, 16, true⟩),
  (54, some ⟨(.struct [(0, 3), (1, 3)]), (.cons (.int .i64) (.cons (.int .i64) .nil)), 2, 16, true⟩),
  (61, some ⟨(.struct [(0, 9), (1, 3)]), (.cons .str (.cons (.int .i64) .nil)), 2, 24, true⟩),
  (62, some ⟨(.struct [(0, 9), (1, 3)]), (.cons .str (.cons (.int .i64) .nil)), 2, 24, true⟩),
  (63, some ⟨(.slice 62), (.slice (.cons .str (.cons (.int .i64) .nil))), 1, 24, false⟩),
  (68, some ⟨(.slice 104), (.slice (.cons (.int .i64) (.cons .str .nil))), 1, 24, false⟩),
  (72, some ⟨(.struct [(0, 3), (1, 3), (2, 9)]), (.cons (.int .i64) (.cons (.int .i64) (.cons .str .nil))), 3, 32, true⟩),
  (73, some ⟨(.struct [(0, 3), (1, 3), (2, 9)]), (.cons (.int .i64) (.cons (.int .i64) (.cons .str .nil))), 3, 32, true⟩),
  (78, some ⟨(.slice 3), (.slice (.int .i64)), 1, 24, false⟩),
  (79, some ⟨(.struct [(0, 4), (1, 78), (2, 78)]), (.cons .bool (.cons (.slice (.int .i64)) (.cons (.slice (.int .i64)) .nil))), 3, 56, false⟩),
  (80, some ⟨(.struct [(0, 4), (1, 78), (2, 78)]), (.cons .bool (.cons (.slice (.int .i64)) (.cons (.slice (.int .i64)) .nil))), 3, 56, false⟩),
  (83, some ⟨(.struct [(0, 3), (1, 3)]), (.cons (.int .i64) (.cons (.int .i64) .nil)), 2, 16, true⟩),
  (91, some ⟨(.struct [(0, 37), (1, 3)]), (.cons (.slice (.int .u8)) (.cons (.int .i64) .nil)), 2, 32, false⟩),
  (92, some ⟨(.struct [(0, 37), (1, 3)]), (.cons (.slice (.int .u8)) (.cons (.int .i64) .nil)), 2, 32, false⟩),
  (95, some ⟨(.struct [(0, 9), (1, 3)]), (.cons .str (.cons (.int .i64) .nil)), 2, 24, true⟩),
  (96, some ⟨(.struct [(0, 9), (1, 3)]), (.cons .str (.cons (.int .i64) .nil)), 2, 24, true⟩),
  (103, some ⟨(.struct [(0, 3), (1, 9)]), (.cons (.int .i64) (.cons .str .nil)), 2, 24, true⟩),
  (104, some ⟨(.struct [(0, 3), (1, 9)]), (.cons (.int .i64) (.cons .str .nil)), 2, 24, true⟩),
  (112, some ⟨(.struct [(0, 68), (1, 38), (2, 4), (3, 4)]), (.cons (.slice (.cons (.int .i64) (.cons .str .nil))) (.cons (.slice (.cons (.int .i64) (.cons (.int .i64) (.cons .str .nil)))) (.cons .bool (.cons .bool .nil)))), 4, 56, false⟩),
  (113, some ⟨(.struct [(0, 68), (1, 38), (2, 4), (3, 4)]), (.cons (.slice (.cons (.int .i64) (.cons .str .nil))) (.cons (.slice (.cons (.int .i64) (.cons (.int .i64) (.cons .str .nil)))) (.cons .bool (.cons .bool .nil)))), 4, 56, false⟩),
  (117, some ⟨(.struct [(0, 68), (1, 3), (2, 38), (3, 4), (4, 4)]), (.cons (.slice (.cons (.int .i64) (.cons .str .nil))) (.cons (.int .i64) (.cons (.slice (.cons (.int .i64) (.cons (.int .i64) (.cons .str .nil)))) (.cons .bool (.cons .bool .nil))))), 5, 64, false⟩),
  (118, some ⟨(.struct [(0, 68), (1, 3), (2, 38), (3, 4), (4, 4)]), (.cons (.slice (.cons (.int .i64) (.cons .str .nil))) (.cons (.int .i64) (.cons (.slice (.cons (.int .i64) (.cons (.int .i64) (.cons .str .nil)))) (.cons .bool (.cons .bool .nil))))), 5, 64, false⟩),
  (127, some ⟨(.int .u64), (.int .u64), 1, 8, false⟩),
  (128, some ⟨(.struct [(0, 4), (1, 127), (2, 3)]), (.cons .bool (.cons (.int .u64) (.cons (.int .i64) .nil))), 3, 24, true⟩),
  (129, some ⟨(.struct [(0, 4), (1, 127), (2, 3)]), (.cons .bool (.cons (.int .u64) (.cons (.int .i64) .nil))), 3, 24, true⟩),
  (136, some ⟨(.struct [(0, 4), (1, 78), (2, 78)]), (.cons .bool (.cons (.slice (.int .i64)) (.cons (.slice (.int .i64)) .nil))), 3, 56, false⟩),
  (137, some ⟨(.struct [(0, 4), (1, 78), (2, 78)]), (.cons .bool (.cons (.slice (.int .i64)) (.cons (.slice (.int .i64)) .nil))), 3, 56, false⟩),
  (144, some ⟨.err, .err, 1, 16, false⟩),
  (147, some ⟨(.slice 96), (.slice (.cons .str (.cons (.int .i64) .nil))), 1, 24, false⟩),
  (166, some ⟨(.int .u64), (.int .u64), 1, 8, false⟩),
  (167, some ⟨(.struct [(0, 3), (1, 3), (2, 3), (3, 3)]), (.cons (.int .i64) (.cons (.int .i64) (.cons (.int .i64) (.cons (.int .i64) .nil)))), 4, 32, true⟩),
  (168, some ⟨(.struct [(0, 3), (1, 3), (2, 3), (3, 3)]), (.cons (.int .i64) (.cons (.int .i64) (.cons (.int .i64) (.cons (.int .i64) .nil)))), 4, 32, true⟩),
  (195, some ⟨(.int .u32), (.int .u32), 1, 4, false⟩),
  (202, some ⟨(.array 24 5), (.cons (.int .u8) (.cons (.int .u8) (.cons (.int .u8) (.cons (.int .u8) (.cons (.int .u8) (.cons (.int .u8) (.cons (.int .u8) (.cons (.int .u8) (.cons (.int .u8) (.cons (.int .u8) (.cons (.int .u8) (.cons (.int .u8) (.cons (.int .u8) (.cons (.int .u8) (.cons (.int .u8) (.cons (.int .u8) (.cons (.int .u8) (.cons (.int .u8) (.cons (.int .u8) (.cons (.int .u8) (.cons (.int .u8) (.cons (.int .u8) (.cons (.int .u8) (.cons (.int .u8) .nil)))))))))))))))))))))))), 24, 24, false⟩),
  (217, some ⟨(.array 20 127), (.cons (.int .u64) (.cons (.int .u64) (.cons (.int .u64) (.cons (.int .u64) (.cons (.int .u64) (.cons (.int .u64) (.cons (.int .u64) (.cons (.int .u64) (.cons (.int .u64) (.cons (.int .u64) (.cons (.int .u64) (.cons (.int .u64) (.cons (.int .u64) (.cons (.int .u64) (.cons (.int .u64) (.cons (.int .u64) (.cons (.int .u64) (.cons (.int .u64) (.cons (.int .u64) (.cons (.int .u64) .nil)))))))))))))))))))), 20, 160, false⟩),
  (219, some ⟨(.int .i64), (.int .i64), 1, 8, false⟩),
  (228, some ⟨(.struct [(0, 9), (1, 9), (2, 144)]), (.cons .str (.cons .str (.cons .err .nil))), 3, 48, false⟩),
  (229, some ⟨(.struct [(0, 9), (1, 9), (2, 144)]), (.cons .str (.cons .str (.cons .err .nil))), 3, 48, false⟩),
  (232, some ⟨(.struct [(0, 5), (1, 5)]), (.cons (.int .u8) (.cons (.int .u8) .nil)), 2, 2, true⟩),
  (233, some ⟨(.struct [(0, 5), (1, 5)]), (.cons (.int .u8) (.cons (.int .u8) .nil)), 2, 2, true⟩),
  (234, some ⟨(.array 16 233), (.cons (.cons (.int .u8) (.cons (.int .u8) .nil)) (.cons (.cons (.int .u8) (.cons (.int .u8) .nil)) (.cons (.cons (.int .u8) (.cons (.int .u8) .nil)) (.cons (.cons (.int .u8) (.cons (.int .u8) .nil)) (.cons (.cons (.int .u8) (.cons (.int .u8) .nil)) (.cons (.cons (.int .u8) (.cons (.int .u8) .nil)) (.cons (.cons (.int .u8) (.cons (.int .u8) .nil)) (.cons (.cons (.int .u8) (.cons (.int .u8) .nil)) (.cons (.cons (.int .u8) (.cons (.int .u8) .nil)) (.cons (.cons (.int .u8) (.cons (.int .u8) .nil)) (.cons (.cons (.int .u8) (.cons (.int .u8) .nil)) (.cons (.cons (.int .u8) (.cons (.int .u8) .nil)) (.cons (.cons (.int .u8) (.cons (.int .u8) .nil)) (.cons (.cons (.int .u8) (.cons (.int .u8) .nil)) (.cons (.cons (.int .u8) (.cons (.int .u8) .nil)) (.cons (.cons (.int .u8) (.cons (.int .u8) .nil)) .nil)))))))))))))))), 32, 32, false⟩),
  (235, some ⟨(.array 32 5), (.cons (.int .u8) (.cons (.int .u8) (.cons (.int .u8) (.cons (.int .u8) (.cons (.int .u8) (.cons (.int .u8) (.cons (.int .u8) (.cons (.int .u8) (.cons (.int .u8) (.cons (.int .u8) (.cons (.int .u8) (.cons (.int .u8) (.cons (.int .u8) (.cons (.int .u8) (.cons (.int .u8) (.cons (.int .u8) (.cons (.int .u8) (.cons (.int .u8) (.cons (.int .u8) (.cons (.int .u8) (.cons (.int .u8) (.cons (.int .u8) (.cons (.int .u8) (.cons (.int .u8) (.cons (.int .u8) (.cons (.int .u8) (.cons (.int .u8) (.cons (.int .u8) (.cons (.int .u8) (.cons (.int .u8) (.cons (.int .u8) (.cons (.int .u8) .nil)))))))))))))))))))))))))))))))), 32, 32, false⟩),
  (236, some ⟨(.array 64 5), (.cons (.int .u8) (.cons (.int .u8) (.cons (.int .u8) (.cons (.int .u8) (.cons (.int .u8) (.cons (.int .u8) (.cons (.int .u8) (.cons (.int .u8) (.cons (.int .u8) (.cons (.int .u8) (.cons (.int .u8) (.cons (.int .u8) (.cons (.int .u8) (.cons (.int .u8) (.cons (.int .u8) (.cons (.int .u8) (.cons (.int .u8) (.cons (.int .u8) (.cons (.int .u8) (.cons (.int .u8) (.cons (.int .u8) (.cons (.int .u8) (.cons (.int .u8) (.cons (.int .u8) (.cons (.int .u8) (.cons (.int .u8) (.cons (.int .u8) (.cons (.int .u8) (.cons (.int .u8) (.cons (.int .u8) (.cons (.int .u8) (.cons (.int .u8) (.cons (.int .u8) (.cons (.int .u8) (.cons (.int .u8) (.cons (.int .u8) (.cons (.int .u8) (.cons (.int .u8) (.cons (.int .u8) (.cons (.int .u8) (.cons (.int .u8) (.cons (.int .u8) (.cons (.int .u8) (.cons (.int .u8) (.cons (.int .u8) (.cons (.int .u8) (.cons (.int .u8) (.cons (.int .u8) (.cons (.int .u8) (.cons (.int .u8) (.cons (.int .u8) (.cons (.int .u8) (.cons (.int .u8) (.cons (.int .u8) (.cons (.int .u8) (.cons (.int .u8) (.cons (.int .u8) (.cons (.int .u8) (.cons (.int .u8) (.cons (.int .u8) (.cons (.int .u8) (.cons (.int .u8) (.cons (.int .u8) (.cons (.int .u8) .nil)))))))))))))))))))))))))))))))))))))))))))))))))))))))))))))))), 64, 64, false⟩),
  (239, some ⟨(.struct [(0, 9)]), (.cons .str .nil), 1, 16, true⟩),
  (240, some ⟨(.struct [(0, 9)]), (.cons .str .nil), 1, 16, true⟩),
  (246, some ⟨(.int .u8), (.int .u8), 1, 1, false⟩),
  (247, some ⟨(.int .u8), (.int .u8), 1, 1, false⟩),
  (249, some ⟨(.int .i32), (.int .i32), 1, 4, false⟩),
  (250, some ⟨(.int .i32), (.int .i32), 1, 4, false⟩)]
noncomputable def F : Funcs := [(3, some Go.Proofs.Tryz.f3), (5, some Go.Proofs.Tryz.f5), (6, some Go.Proofs.Tryz.f6), (7, some Go.Proofs.Tryz.f7), (8, some Go.Proofs.Tryz.f8), (9, some Go.Proofs.Tryz.f9), (10, some Go.Proofs.Tryz.f10), (11, some Go.Proofs.Tryz.f11), (12, some Go.Proofs.Tryz.f12), (22, some Go.Proofs.Tryz.f22), (23, some Go.Proofs.Tryz.f23), (24, some Go.Proofs.Tryz.f24), (25, some Go.Proofs.Tryz.f25), (26, some Go.Proofs.Tryz.f26), (27, some Go.Proofs.Tryz.f27), (28, some Go.Proofs.Tryz.f28), (29, some Go.Proofs.Tryz.f29), (30, some Go.Proofs.Tryz.f30), (32, some Go.Proofs.Tryz.f32), (33, some Go.Proofs.Tryz.f33), (46, some Go.Proofs.Tryz.f46), (47, some Go.Proofs.Tryz.f47), (48, some Go.Proofs.Tryz.f48), (49, some Go.Proofs.Tryz.f49), (50, some Go.Proofs.Tryz.f50), (51, some Go.Proofs.Tryz.f51), (52, some Go.Proofs.Tryz.f52), (53, some Go.Proofs.Tryz.f53), (54, some Go.Proofs.Tryz.f54), (55, some Go.Proofs.Tryz.f55), (56, some Go.Proofs.Tryz.f56), (57, some Go.Proofs.Tryz.f57), (58, some Go.Proofs.Tryz.f58), (59, some Go.Proofs.Tryz.f59), (60, some Go.Proofs.Tryz.f60), (61, some Go.Proofs.Tryz.f61), (63, some Go.Proofs.Tryz.f63), (71, some Go.Proofs.Tryz.f71), (72, some Go.Proofs.Tryz.f72), (75, some Go.Proofs.Tryz.f75), (79, some Go.Proofs.Tryz.f79), (80, some Go.Proofs.Tryz.f80), (89, some Go.Proofs.Tryz.f89), (90, some Go.Proofs.Tryz.f90), (91, some Go.Proofs.Tryz.f91), (92, some Go.Proofs.Tryz.f92), (93, some Go.Proofs.Tryz.f93), (94, some Go.Proofs.Tryz.f94), (95, some Go.Proofs.Tryz.f95), (96, some Go.Proofs.Tryz.f96), (97, some Go.Proofs.Tryz.f97), (98, some Go.Proofs.Tryz.f98), (99, some Go.Proofs.Tryz.f99), (100, some Go.Proofs.Tryz.f100), (101, some Go.Proofs.Tryz.f101), (102, some Go.Proofs.Tryz.f102), (103, some Go.Proofs.Tryz.f103), (104, some Go.Proofs.Tryz.f104), (105, some Go.Proofs.Tryz.f105), (106, some Go.Proofs.Tryz.f106), (133, some Go.Proofs.Tryz.f133), (134, some Go.Proofs.Tryz.f134), (135, some Go.Proofs.Tryz.f135), (136, some Go.Proofs.Tryz.f136), (137, some Go.Proofs.Tryz.f137), (138, some Go.Proofs.Tryz.f138), (139, some Go.Proofs.Tryz.f139), (140, some Go.Proofs.Tryz.f140), (141, some Go.Proofs.Tryz.f141), (142, some Go.Proofs.Tryz.f142), (143, some Go.Proofs.Tryz.f143), (144, some Go.Proofs.Tryz.f144), (145, some Go.Proofs.Tryz.f145), (146, some Go.Proofs.Tryz.f146), (147, some Go.Proofs.Tryz.f147), (148, some Go.Proofs.Tryz.f148), (149, some Go.Proofs.Tryz.f149), (150, some Go.Proofs.Tryz.f150), (151, some Go.Proofs.Tryz.f151), (152, some Go.Proofs.Tryz.f152), (153, some Go.Proofs.Tryz.f153), (154, some Go.Proofs.Tryz.f154), (156, some Go.Proofs.Tryz.f156), (157, some Go.Proofs.Tryz.f157), (158, some Go.Proofs.Tryz.f158), (159, some Go.Proofs.Tryz.f159), (160, some Go.Proofs.Tryz.f160), (171, some Go.Proofs.Tryz.f171), (172, some Go.Proofs.Tryz.f172), (173, some Go.Proofs.Tryz.f173), (174, some Go.Proofs.Tryz.f174), (181, some Go.Proofs.Tryz.f181), (182, some Go.Proofs.Tryz.f182), (197, some Go.Proofs.Tryz.f197), (199, some Go.Proofs.Tryz.f199)]
def sg_w_FnExactBoxShow : Sig := ⟨[.cell (.val (.int .i64) false), .agg [.val (.slice (.cons (.int .i64) (.cons (.int .i64) .nil))) false], .cell (.val (.slice .str) false)], [(0, [.val .bool true])]⟩
def sg_w_szBox : Sig := ⟨[.agg [.val (.slice (.cons (.int .i64) (.cons (.int .i64) .nil))) false], .cell (.val (.int .i64) false)], [(0, [.val (.int .i64) true])]⟩
def sg_w_szStringS : Sig := ⟨[.cell (.val (.slice .str) false), .cell (.val (.int .i64) false)], [(0, [.val (.int .i64) true])]⟩
def sg_s_BoxShow : Sig := ⟨[.cell (.val (.int .i64) false), .agg [.val (.slice (.cons (.int .i64) (.cons (.int .i64) .nil))) false], .cell (.val (.slice .str) false)], [(0, [.val .str true])]⟩
def sg_w_toBox : Sig := ⟨[.agg [.val (.slice (.cons (.int .i64) (.cons (.int .i64) .nil))) false]], [(1, [.val (.slice (.cons (.int .i64) (.cons (.int .i64) .nil))) true])]⟩
def sg_w_toStringS : Sig := ⟨[.cell (.val (.slice .str) false)], [(0, [.val (.slice .str) true])]⟩
def sg_i_BoxShow : Sig := ⟨[.cell (.val (.int .i64) false), .agg [.val (.slice (.cons (.int .i64) (.cons (.int .i64) .nil))) false], .cell (.val (.slice .str) false)], [(0, [.val .str true])]⟩
def sg_w_eqBox : Sig := ⟨[.agg [.val (.slice (.cons (.int .i64) (.cons (.int .i64) .nil))) false], .agg [.val (.slice (.cons (.int .i64) (.cons (.int .i64) .nil))) false]], [(0, [.val .bool true])]⟩
def sg_w_eqStringS : Sig := ⟨[.cell (.val (.slice .str) false), .cell (.val (.slice .str) false)], [(0, [.val .bool true])]⟩
def sg_w_szPairS : Sig := ⟨[.cell (.val (.slice (.cons (.int .i64) (.cons (.int .i64) .nil))) false), .cell (.val (.int .i64) false)], [(0, [.val (.int .i64) true])]⟩
def sg_s_BoxOk : Sig := ⟨[.cell (.val (.int .i64) false), .agg [.val (.slice (.cons (.int .i64) (.cons (.int .i64) .nil))) false]], [(0, [.val .bool true])]⟩
def sg_s_l13Distinct : Sig := ⟨[.cell (.val (.slice .str) false)], [(0, [.val .bool true])]⟩
def sg_s_FloatShow : Sig := ⟨[.cell (.val (.int .i64) false), .cell (.val (.int .i64) false), .cell (.val .bool false)], [(0, [.val .str true])]⟩
def sg_w_toPairS : Sig := ⟨[.cell (.val (.slice (.cons (.int .i64) (.cons (.int .i64) .nil))) false)], [(0, [.val (.slice (.cons (.int .i64) (.cons (.int .i64) .nil))) true])]⟩
def sg_i_BoxOk : Sig := ⟨[.cell (.val (.int .i64) false), .agg [.val (.slice (.cons (.int .i64) (.cons (.int .i64) .nil))) false]], [(0, [.val .bool true])]⟩
def sg_i_twice : Sig := ⟨[.cell (.val (.slice .str) false)], [(0, [.val .bool true])]⟩
def sg_slices_ContainsFunc_string_string_i_BoxShow_1 : Sig := ⟨[.cell (.val (.slice .str) false), .fn 30 []], [(0, [.val .bool true])]⟩
def sg_i_BoxShow_1 : Sig := ⟨[.cell (.val .str false)], [(0, [.val .bool true])]⟩
def sg_i_LangNameOk : Sig := ⟨[.cell (.val .str false)], [(0, [.val .bool true])]⟩
def sg_i_boxShow : Sig := ⟨[.cell (.val (.int .i64) false), .agg [.val (.slice (.cons (.int .i64) (.cons (.int .i64) .nil))) false], .cell (.val (.slice .str) false)], [(0, [.val .str true])]⟩
def sg_w_eqPairS : Sig := ⟨[.cell (.val (.slice (.cons (.int .i64) (.cons (.int .i64) .nil))) false), .cell (.val (.slice (.cons (.int .i64) (.cons (.int .i64) .nil))) false)], [(0, [.val .bool true])]⟩
def sg_s_PairOk : Sig := ⟨[.cell (.val (.int .i64) false), .agg [.val (.int .i64) false, .val (.int .i64) false]], [(0, [.val .bool true])]⟩
def sg_s_LangNameOk : Sig := ⟨[.cell (.val .str false)], [(0, [.val .bool true])]⟩
def sg_s_l12Find : Sig := ⟨[.cell (.val (.slice .str) false), .cell (.val .str false)], [(0, [.val (.int .i64) true])]⟩
def sg_s_BitOk : Sig := ⟨[.cell (.val (.int .i64) false), .cell (.val (.int .i64) false)], [(0, [.val .bool true])]⟩
def sg_s_BitTop : Sig := ⟨[.cell (.val (.int .i64) false)], [(0, [.val (.int .i64) true])]⟩
def sg_s_l22Size : Sig := ⟨[.agg [.val .bool false, .val (.slice (.int .i64)) false, .val (.slice (.int .i64)) false], .cell (.val .bool false)], [(0, [.val .str true])]⟩
def sg_s_l8Of : Sig := ⟨[.cell (.val (.int .i64) false), .cell (.val (.int .i64) false)], [(1, [.val .bool true, .val (.slice (.int .i64)) true, .val (.slice (.int .i64)) true])]⟩
def sg_w_toPair : Sig := ⟨[.agg [.val (.int .i64) false, .val (.int .i64) false]], [(1, [.val (.int .i64) true, .val (.int .i64) true])]⟩
def sg_i_in : Sig := ⟨[.cell (.val (.int .i64) false), .cell (.val (.int .i64) false), .cell (.val (.int .i64) false)], [(0, [.val .bool true])]⟩
def sg_slices_ContainsFunc_impl_Pair_impl_Pair_i_BoxOk_1 : Sig := ⟨[.cell (.val (.slice (.cons (.int .i64) (.cons (.int .i64) .nil))) false), .fn 56 [[.val (.int .i64) false]]], [(0, [.val .bool true])]⟩
def sg_i_BoxOk_1 : Sig := ⟨[.agg [.val (.int .i64) false, .val (.int .i64) false], .box [.val (.int .i64) false]], [(0, [.val .bool true])]⟩
def sg_i_PairOk : Sig := ⟨[.cell (.val (.int .i64) false), .agg [.val (.int .i64) false, .val (.int .i64) false]], [(0, [.val .bool true])]⟩
def sg_slices_Contains_string_string : Sig := ⟨[.cell (.val (.slice .str) false), .cell (.val .str false)], [(0, [.val .bool true])]⟩
def sg_slices_IndexFunc_string_string_i_BoxShow_1 : Sig := ⟨[.cell (.val (.slice .str) false), .fn 30 []], [(0, [.val (.int .i64) true])]⟩
def sg_i_wordOk : Sig := ⟨[.cell (.val .str false)], [(0, [.val .bool true])]⟩
def sg_i_floatShow : Sig := ⟨[.cell (.val (.int .i64) false), .cell (.val (.int .i64) false), .cell (.val .bool false)], [(0, [.val .str true])]⟩
def sg_strings_Join : Sig := ⟨[.cell (.val (.slice .str) false), .cell (.val .str false)], [(0, [.val .str true])]⟩
def sg_w_eqPair : Sig := ⟨[.agg [.val (.int .i64) false, .val (.int .i64) false], .agg [.val (.int .i64) false, .val (.int .i64) false]], [(0, [.val .bool true])]⟩
def sg_s_l11Letter : Sig := ⟨[.cell (.val (.int .u8) false)], [(0, [.val .bool true])]⟩
def sg_s_l11Digit : Sig := ⟨[.cell (.val (.int .u8) false)], [(0, [.val .bool true])]⟩
def sg_s_l11Plain : Sig := ⟨[.cell (.val .str false)], [(0, [.val .bool true])]⟩
def sg_i_isLetter : Sig := ⟨[.cell (.val (.int .u8) false)], [(0, [.val .bool true])]⟩
def sg_i_isFigure : Sig := ⟨[.cell (.val (.int .u8) false)], [(0, [.val .bool true])]⟩
def sg_s_l11Word : Sig := ⟨[.cell (.val .str false)], [(0, [.val .bool true])]⟩
def sg_s_l1Width : Sig := ⟨[.cell (.val (.int .i64) false)], [(0, [.val .bool true])]⟩
def sg_s_l22Power : Sig := ⟨[.agg [.val .bool false, .val (.slice (.int .i64)) false, .val (.slice (.int .i64)) false]], [(0, [.val (.int .i64) true])]⟩
def sg_s_l22Tens : Sig := ⟨[.cell (.val (.int .i64) false)], [(1, [.val .bool true, .val (.slice (.int .i64)) true, .val (.slice (.int .i64)) true])]⟩
def sg_s_l5Div : Sig := ⟨[.cell (.val (.slice (.int .i64)) false), .cell (.val (.slice (.int .i64)) false)], [(0, [.val (.slice (.int .i64)) true]), (0, [.val (.slice (.int .i64)) true])]⟩
def sg_s_l5Mul : Sig := ⟨[.cell (.val (.slice (.int .i64)) false), .cell (.val (.slice (.int .i64)) false)], [(0, [.val (.slice (.int .i64)) true])]⟩
def sg_s_l5Add : Sig := ⟨[.cell (.val (.slice (.int .i64)) false), .cell (.val (.slice (.int .i64)) false)], [(0, [.val (.slice (.int .i64)) true])]⟩
def sg_s_NatText : Sig := ⟨[.cell (.val (.slice (.int .i64)) false)], [(0, [.val .str true])]⟩
def sg_s_l21Int : Sig := ⟨[.cell (.val (.int .i64) false)], [(0, [.val .str true])]⟩
def sg_s_BitPartOf : Sig := ⟨[.cell (.val (.int .i64) false), .cell (.val (.int .i64) false)], [(1, [.val .bool true, .val (.int .u64) true, .val (.int .i64) true]), (0, [.val .bool true])]⟩
def sg_s_NatOf : Sig := ⟨[.cell (.val (.int .u64) false)], [(0, [.val (.slice (.int .i64)) true])]⟩
def sg_s_l5Pow2 : Sig := ⟨[.cell (.val (.int .i64) false)], [(0, [.val (.slice (.int .i64)) true])]⟩
def sg_slices_IndexFunc_impl_Pair_impl_Pair_i_BoxOk_1 : Sig := ⟨[.cell (.val (.slice (.cons (.int .i64) (.cons (.int .i64) .nil))) false), .fn 56 [[.val (.int .i64) false]]], [(0, [.val (.int .i64) true])]⟩
def sg_i_BitTop : Sig := ⟨[.cell (.val (.int .i64) false)], [(0, [.val (.int .i64) true])]⟩
def sg_i_BitOk : Sig := ⟨[.cell (.val (.int .i64) false), .cell (.val (.int .i64) false)], [(0, [.val .bool true])]⟩
def sg_slices_Index_string_string : Sig := ⟨[.cell (.val (.slice .str) false), .cell (.val .str false)], [(0, [.val (.int .i64) true])]⟩
def sg_i_show : Sig := ⟨[.agg [.val .bool false, .val (.slice (.int .i64)) false, .val (.slice (.int .i64)) false], .cell (.val .bool false)], [(0, [.val .str true])]⟩
def sg_i_value : Sig := ⟨[.cell (.val (.int .i64) false), .cell (.val (.int .i64) false)], [(1, [.val .bool true, .val (.slice (.int .i64)) true, .val (.slice (.int .i64)) true])]⟩
def sg_strconv_Itoa : Sig := ⟨[.cell (.val (.int .i64) false)], [(0, [.val .str true])]⟩
def sg_s_l8Cmp : Sig := ⟨[.agg [.val .bool false, .val (.slice (.int .i64)) false, .val (.slice (.int .i64)) false], .agg [.val .bool false, .val (.slice (.int .i64)) false, .val (.slice (.int .i64)) false]], [(0, [.val (.int .i64) true])]⟩
def sg_s_l7Tens : Sig := ⟨[.cell (.val (.int .i64) false)], [(0, [.val (.slice (.int .i64)) true])]⟩
def sg_s_l5Cmp : Sig := ⟨[.cell (.val (.slice (.int .i64)) false), .cell (.val (.slice (.int .i64)) false)], [(0, [.val (.int .i64) true])]⟩
def sg_s_l5Trim : Sig := ⟨[.cell (.val (.slice (.int .i64)) false)], [(0, [.val (.slice (.int .i64)) true])]⟩
def sg_s_l5DivSmall : Sig := ⟨[.cell (.val (.slice (.int .i64)) false), .cell (.val (.int .i64) false)], [(0, [.val (.slice (.int .i64)) true]), (0, [.val (.int .i64) true])]⟩
def sg_s_l5Times : Sig := ⟨[.cell (.val (.slice (.int .i64)) false), .cell (.val (.int .i64) false)], [(0, [.val (.slice (.int .i64)) true])]⟩
def sg_s_l5Top : Sig := ⟨[.cell (.val (.slice (.int .i64)) false), .cell (.val (.int .i64) false)], [(0, [.val (.slice (.int .i64)) true])]⟩
def sg_s_l5Shl : Sig := ⟨[.cell (.val (.slice (.int .i64)) false), .cell (.val (.int .i64) false)], [(0, [.val (.slice (.int .i64)) true])]⟩
def sg_s_l5At : Sig := ⟨[.cell (.val (.slice (.int .i64)) false), .cell (.val (.int .i64) false)], [(0, [.val (.int .i64) true])]⟩
def sg_s_l5Sub : Sig := ⟨[.cell (.val (.slice (.int .i64)) false), .cell (.val (.slice (.int .i64)) false)], [(0, [.val (.slice (.int .i64)) true])]⟩
def sg_s_NatOk : Sig := ⟨[.cell (.val (.slice (.int .i64)) false)], [(0, [.val .bool true])]⟩
def sg_s_FracText : Sig := ⟨[.agg [.val .bool false, .val (.slice (.int .i64)) false, .val (.slice (.int .i64)) false]], [(0, [.val .str true])]⟩
def sg_s_FracInt : Sig := ⟨[.cell (.val (.int .i64) false)], [(1, [.val .bool true, .val (.slice (.int .i64)) true, .val (.slice (.int .i64)) true])]⟩
def sg_s_l1Least : Sig := ⟨[.cell (.val (.int .i64) false)], [(0, [.val (.int .i64) true])]⟩
def sg_s_l1Frac : Sig := ⟨[.cell (.val (.int .i64) false)], [(0, [.val (.int .i64) true])]⟩
def sg_i_formatOf : Sig := ⟨[.cell (.val (.int .i64) false)], [(1, [.val (.int .i64) true, .val (.int .i64) true, .val (.int .i64) true, .val (.int .i64) true]), (0, [.val .bool true])]⟩
def sg_i_natCmp : Sig := ⟨[.cell (.val (.slice (.int .i64)) false), .cell (.val (.slice (.int .i64)) false)], [(0, [.val (.int .i64) true])]⟩
def sg_i_natMul : Sig := ⟨[.cell (.val (.slice (.int .i64)) false), .cell (.val (.slice (.int .i64)) false)], [(0, [.val (.slice (.int .i64)) true])]⟩
def sg_i_natDiv : Sig := ⟨[.cell (.val (.slice (.int .i64)) false), .cell (.val (.slice (.int .i64)) false)], [(0, [.val (.slice (.int .i64)) false]), (0, [.val (.slice (.int .i64)) false])]⟩
def sg_i_natText : Sig := ⟨[.cell (.val (.slice (.int .i64)) false)], [(0, [.val .str true])]⟩
def sg_i_ten : Sig := ⟨[.cell (.val (.int .i64) false)], [(0, [.val (.slice (.int .i64)) true])]⟩
def sg_i_natAdd : Sig := ⟨[.cell (.val (.slice (.int .i64)) false), .cell (.val (.slice (.int .i64)) false)], [(0, [.val (.slice (.int .i64)) true])]⟩
def sg_strings_TrimRight : Sig := ⟨[.cell (.val .str false), .cell (.val .str false)], [(0, [.val .str true])]⟩
def sg_i_BitPartOf : Sig := ⟨[.cell (.val (.int .i64) false), .cell (.val (.int .i64) false)], [(1, [.val .bool true, .val (.int .u64) true, .val (.int .i64) true]), (0, [.val .bool true])]⟩
def sg_i_natOf : Sig := ⟨[.cell (.val (.int .u64) false)], [(0, [.val (.slice (.int .i64)) true])]⟩
def sg_i_whole : Sig := ⟨[.cell (.val .bool false), .cell (.val (.slice (.int .i64)) false)], [(1, [.val .bool false, .val (.slice (.int .i64)) false, .val (.slice (.int .i64)) false])]⟩
def sg_i_natShift : Sig := ⟨[.cell (.val (.slice (.int .i64)) false), .cell (.val (.int .i64) false)], [(0, [.val (.slice (.int .i64)) true])]⟩
def sg_i_lowest : Sig := ⟨[.cell (.val .bool false), .cell (.val (.slice (.int .i64)) false), .cell (.val (.slice (.int .i64)) false)], [(1, [.val .bool false, .val (.slice (.int .i64)) false, .val (.slice (.int .i64)) false])]⟩
def sg_s_FracOk : Sig := ⟨[.agg [.val .bool false, .val (.slice (.int .i64)) false, .val (.slice (.int .i64)) false]], [(0, [.val .bool true])]⟩
def sg_s_l6One : Sig := ⟨[.cell (.val (.slice (.int .i64)) false)], [(0, [.val .bool true])]⟩
def sg_i_trim : Sig := ⟨[.cell (.val (.slice (.int .i64)) false)], [(0, [.val (.slice (.int .i64)) false])]⟩
def sg_math_bits_Len : Sig := ⟨[.cell (.val (.int .u64) false)], [(0, [.val (.int .i64) true])]⟩
def sg_slices_Clone_int_int : Sig := ⟨[.cell (.val (.slice (.int .i64)) false)], [(0, [.row (.int .i64) 3 true])]⟩
def sg_strings_Repeat : Sig := ⟨[.cell (.val .str false), .cell (.val (.int .i64) false)], [(0, [.val .str true])]⟩
def sg_i_size : Sig := ⟨[.cell (.val (.int .i64) false)], [(0, [.val (.int .i64) true])]⟩
def sg_i_natGcd : Sig := ⟨[.cell (.val (.slice (.int .i64)) false), .cell (.val (.slice (.int .i64)) false)], [(0, [.val (.slice (.int .i64)) false])]⟩
def sg_s_l5Gcd : Sig := ⟨[.cell (.val (.slice (.int .i64)) false), .cell (.val (.slice (.int .i64)) false)], [(0, [.val (.slice (.int .i64)) true])]⟩
def sg_math_bits_Len64 : Sig := ⟨[.cell (.val (.int .u64) false)], [(0, [.val (.int .i64) true])]⟩
def S : Sigs := [
  (3, some [([], sg_w_FnExactBoxShow)]),
  (5, some [([], sg_w_szBox)]),
  (6, some [([], sg_w_szStringS)]),
  (7, some [([], sg_s_BoxShow)]),
  (8, some [([], sg_w_toBox)]),
  (9, some [([], sg_w_toStringS)]),
  (10, some [([], sg_i_BoxShow)]),
  (11, some [([], sg_w_eqBox)]),
  (12, some [([], sg_w_eqStringS)]),
  (22, some [([], sg_w_szPairS)]),
  (23, some [([], sg_s_BoxOk)]),
  (24, some [([], sg_s_l13Distinct)]),
  (25, some [([], sg_s_FloatShow)]),
  (26, some [([], sg_w_toPairS)]),
  (27, some [([], sg_i_BoxOk)]),
  (28, some [([], sg_i_twice)]),
  (29, some [([30], sg_slices_ContainsFunc_string_string_i_BoxShow_1)]),
  (30, some [([], sg_i_BoxShow_1)]),
  (31, some [([], sg_i_LangNameOk)]),
  (32, some [([], sg_i_boxShow)]),
  (33, some [([], sg_w_eqPairS)]),
  (46, some [([], sg_s_PairOk)]),
  (47, some [([], sg_s_LangNameOk)]),
  (48, some [([], sg_s_l12Find)]),
  (49, some [([], sg_s_BitOk)]),
  (50, some [([], sg_s_BitTop)]),
  (51, some [([], sg_s_l22Size)]),
  (52, some [([], sg_s_l8Of)]),
  (53, some [([], sg_w_toPair)]),
  (54, some [([], sg_i_in)]),
  (55, some [([56], sg_slices_ContainsFunc_impl_Pair_impl_Pair_i_BoxOk_1)]),
  (56, some [([], sg_i_BoxOk_1)]),
  (57, some [([], sg_i_PairOk)]),
  (58, some [([], sg_slices_Contains_string_string)]),
  (59, some [([30], sg_slices_IndexFunc_string_string_i_BoxShow_1)]),
  (60, some [([], sg_i_wordOk)]),
  (61, some [([], sg_i_floatShow)]),
  (62, some [([], sg_strings_Join)]),
  (63, some [([], sg_w_eqPair)]),
  (71, some [([], sg_s_l11Letter)]),
  (72, some [([], sg_s_l11Digit)]),
  (75, some [([], sg_s_l11Plain)]),
  (79, some [([], sg_i_isLetter)]),
  (80, some [([], sg_i_isFigure)]),
  (89, some [([], sg_s_l11Word)]),
  (90, some [([], sg_s_l1Width)]),
  (91, some [([], sg_s_l22Power)]),
  (92, some [([], sg_s_l22Tens)]),
  (93, some [([], sg_s_l5Div)]),
  (94, some [([], sg_s_l5Mul)]),
  (95, some [([], sg_s_l5Add)]),
  (96, some [([], sg_s_NatText)]),
  (97, some [([], sg_s_l21Int)]),
  (98, some [([], sg_s_BitPartOf)]),
  (99, some [([], sg_s_NatOf)]),
  (100, some [([], sg_s_l5Pow2)]),
  (101, some [([56], sg_slices_IndexFunc_impl_Pair_impl_Pair_i_BoxOk_1)]),
  (102, some [([], sg_i_BitTop)]),
  (103, some [([], sg_i_BitOk)]),
  (104, some [([], sg_slices_Index_string_string)]),
  (105, some [([], sg_i_show)]),
  (106, some [([], sg_i_value)]),
  (113, some [([], sg_strconv_Itoa)]),
  (133, some [([], sg_s_l8Cmp)]),
  (134, some [([], sg_s_l7Tens)]),
  (135, some [([], sg_s_l5Cmp)]),
  (136, some [([], sg_s_l5Trim)]),
  (137, some [([], sg_s_l5DivSmall)]),
  (138, some [([], sg_s_l5Times)]),
  (139, some [([], sg_s_l5Top)]),
  (140, some [([], sg_s_l5Shl)]),
  (141, some [([], sg_s_l5At)]),
  (142, some [([], sg_s_l5Sub)]),
  (143, some [([], sg_s_NatOk)]),
  (144, some [([], sg_s_FracText)]),
  (145, some [([], sg_s_FracInt)]),
  (146, some [([], sg_s_l1Least)]),
  (147, some [([], sg_s_l1Frac)]),
  (148, some [([], sg_i_formatOf)]),
  (149, some [([], sg_i_natCmp)]),
  (150, some [([], sg_i_natMul)]),
  (151, some [([], sg_i_natDiv)]),
  (152, some [([], sg_i_natText)]),
  (153, some [([], sg_i_ten)]),
  (154, some [([], sg_i_natAdd)]),
  (155, some [([], sg_strings_TrimRight)]),
  (156, some [([], sg_i_BitPartOf)]),
  (157, some [([], sg_i_natOf)]),
  (158, some [([], sg_i_whole)]),
  (159, some [([], sg_i_natShift)]),
  (160, some [([], sg_i_lowest)]),
  (171, some [([], sg_s_FracOk)]),
  (172, some [([], sg_s_l6One)]),
  (173, some [([], sg_i_trim)]),
  (174, some [([], sg_math_bits_Len)]),
  (175, some [([], sg_slices_Clone_int_int)]),
  (176, some [([], sg_strings_Repeat)]),
  (181, some [([], sg_i_size)]),
  (182, some [([], sg_i_natGcd)]),
  (197, some [([], sg_s_l5Gcd)]),
  (199, some [([], sg_math_bits_Len64)])]
end Go.Px.Seat
