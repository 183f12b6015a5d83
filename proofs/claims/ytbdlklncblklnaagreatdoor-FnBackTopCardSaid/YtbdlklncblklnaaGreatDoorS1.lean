/- Own texts, part S1: PxSeat. -/
import Derived.Test.YtbdlklncblklnaaGreatDoorA5
import Derived.Test.YtbdlklncblklnaaGreatDoorProg
set_option linter.unusedVariables false

namespace Go.Px.Seat
open Go
def T : Types := [
  (2, some ⟨(.int .i64), (.int .i64), 1, 8, false⟩),
  (3, some ⟨(.int .i64), (.int .i64), 1, 8, false⟩),
  (4, some ⟨.bool, .bool, 1, 1, false⟩),
  (5, some ⟨(.int .u8), (.int .u8), 1, 1, false⟩),
  (6, some ⟨(.int .u8), (.int .u8), 1, 1, false⟩),
  (7, some ⟨(.struct [(0, 2), (1, 3), (2, 4), (3, 6)]), (.cons (.int .i64) (.cons (.int .i64) (.cons .bool (.cons (.int .u8) .nil)))), 4, 24, true⟩),
  (8, some ⟨(.struct [(0, 2), (1, 3), (2, 4), (3, 6)]), (.cons (.int .i64) (.cons (.int .i64) (.cons .bool (.cons (.int .u8) .nil)))), 4, 24, true⟩),
  (9, some ⟨.string, .str, 1, 16, false⟩),
  (10, some ⟨.string, .str, 1, 16, false⟩),
  (11, some ⟨.string, .str, 1, 16, false⟩),
  (12, some ⟨(.int .u64), (.int .u64), 1, 8, false⟩),
  (13, some ⟨(.struct [(0, 9), (1, 12)]), (.cons .str (.cons (.int .u64) .nil)), 2, 24, false⟩),
  (14, some ⟨(.struct [(0, 9), (1, 12)]), (.cons .str (.cons (.int .u64) .nil)), 2, 24, false⟩),
  (21, some ⟨(.int .i32), (.int .i32), 1, 4, false⟩),
  (22, some ⟨(.slice 5), (.slice (.int .u8)), 1, 24, false⟩),
  (23, some ⟨(.struct [(0, 4), (1, 3), (2, 3)]), (.cons .bool (.cons (.int .i64) (.cons (.int .i64) .nil))), 3, 24, true⟩),
  (24, some ⟨(.struct [(0, 4), (1, 3), (2, 3)]), (.cons .bool (.cons (.int .i64) (.cons (.int .i64) .nil))), 3, 24, true⟩),
  (25, some ⟨(.slice 3), (.slice (.int .i64)), 1, 24, false⟩),
  (26, some ⟨(.struct [(0, 4), (1, 25), (2, 25)]), (.cons .bool (.cons (.slice (.int .i64)) (.cons (.slice (.int .i64)) .nil))), 3, 56, false⟩),
  (27, some ⟨(.struct [(0, 4), (1, 25), (2, 25)]), (.cons .bool (.cons (.slice (.int .i64)) (.cons (.slice (.int .i64)) .nil))), 3, 56, false⟩),
  (37, some ⟨(.slice 27), (.slice (.cons .bool (.cons (.slice (.int .i64)) (.cons (.slice (.int .i64)) .nil)))), 1, 24, false⟩),
  (45, some ⟨(.struct [(0, 3), (1, 3)]), (.cons (.int .i64) (.cons (.int .i64) .nil)), 2, 16, true⟩),
  (46, some ⟨(.struct [(0, 3), (1, 3)]), (.cons (.int .i64) (.cons (.int .i64) .nil)), 2, 16, true⟩),
  (71, some ⟨(.int .u64), (.int .u64), 1, 8, false⟩),
  (72, some ⟨(.struct [(0, 4), (1, 71), (2, 3)]), (.cons .bool (.cons (.int .u64) (.cons (.int .i64) .nil))), 3, 24, true⟩),
  (73, some ⟨(.struct [(0, 4), (1, 71), (2, 3)]), (.cons .bool (.cons (.int .u64) (.cons (.int .i64) .nil))), 3, 24, true⟩),
  (76, some ⟨(.struct [(0, 4), (1, 25), (2, 25)]), (.cons .bool (.cons (.slice (.int .i64)) (.cons (.slice (.int .i64)) .nil))), 3, 56, false⟩),
  (77, some ⟨(.struct [(0, 4), (1, 25), (2, 25)]), (.cons .bool (.cons (.slice (.int .i64)) (.cons (.slice (.int .i64)) .nil))), 3, 56, false⟩),
  (81, some ⟨(.struct [(0, 3), (1, 27)]), (.cons (.int .i64) (.cons (.cons .bool (.cons (.slice (.int .i64)) (.cons (.slice (.int .i64)) .nil))) .nil)), 4, 64, false⟩),
  (82, some ⟨(.struct [(0, 3), (1, 27)]), (.cons (.int .i64) (.cons (.cons .bool (.cons (.slice (.int .i64)) (.cons (.slice (.int .i64)) .nil))) .nil)), 4, 64, false⟩),
  (121, some ⟨(.struct [(0, 22), (1, 3)]), (.cons (.slice (.int .u8)) (.cons (.int .i64) .nil)), 2, 32, false⟩),
  (122, some ⟨(.struct [(0, 22), (1, 3)]), (.cons (.slice (.int .u8)) (.cons (.int .i64) .nil)), 2, 32, false⟩),
  (124, some ⟨(.int .u64), (.int .u64), 1, 8, false⟩),
  (128, some ⟨(.slice 24), (.slice (.cons .bool (.cons (.int .i64) (.cons (.int .i64) .nil)))), 1, 24, false⟩),
  (142, some ⟨(.struct [(0, 3), (1, 3), (2, 3), (3, 3)]), (.cons (.int .i64) (.cons (.int .i64) (.cons (.int .i64) (.cons (.int .i64) .nil)))), 4, 32, true⟩),
  (143, some ⟨(.struct [(0, 3), (1, 3), (2, 3), (3, 3)]), (.cons (.int .i64) (.cons (.int .i64) (.cons (.int .i64) (.cons (.int .i64) .nil)))), 4, 32, true⟩),
  (180, some ⟨(.int .u32), (.int .u32), 1, 4, false⟩),
  (190, some ⟨.err, .err, 1, 16, false⟩),
  (199, some ⟨(.slice 25), (.slice (.slice (.int .i64))), 1, 24, false⟩),
  (201, some ⟨(.array 64 5), (.cons (.int .u8) (.cons (.int .u8) (.cons (.int .u8) (.cons (.int .u8) (.cons (.int .u8) (.cons (.int .u8) (.cons (.int .u8) (.cons (.int .u8) (.cons (.int .u8) (.cons (.int .u8) (.cons (.int .u8) (.cons (.int .u8) (.cons (.int .u8) (.cons (.int .u8) (.cons (.int .u8) (.cons (.int .u8) (.cons (.int .u8) (.cons (.int .u8) (.cons (.int .u8) (.cons (.int .u8) (.cons (.int .u8) (.cons (.int .u8) (.cons (.int .u8) (.cons (.int .u8) (.cons (.int .u8) (.cons (.int .u8) (.cons (.int .u8) (.cons (.int .u8) (.cons (.int .u8) (.cons (.int .u8) (.cons (.int .u8) (.cons (.int .u8) (.cons (.int .u8) (.cons (.int .u8) (.cons (.int .u8) (.cons (.int .u8) (.cons (.int .u8) (.cons (.int .u8) (.cons (.int .u8) (.cons (.int .u8) (.cons (.int .u8) (.cons (.int .u8) (.cons (.int .u8) (.cons (.int .u8) (.cons (.int .u8) (.cons (.int .u8) (.cons (.int .u8) (.cons (.int .u8) (.cons (.int .u8) (.cons (.int .u8) (.cons (.int .u8) (.cons (.int .u8) (.cons (.int .u8) (.cons (.int .u8) (.cons (.int .u8) (.cons (.int .u8) (.cons (.int .u8) (.cons (.int .u8) (.cons (.int .u8) (.cons (.int .u8) (.cons (.int .u8) (.cons (.int .u8) (.cons (.int .u8) (.cons (.int .u8) .nil)))))))))))))))))))))))))))))))))))))))))))))))))))))))))))))))), 64, 64, false⟩),
  (208, some ⟨(.array 24 5), (.cons (.int .u8) (.cons (.int .u8) (.cons (.int .u8) (.cons (.int .u8) (.cons (.int .u8) (.cons (.int .u8) (.cons (.int .u8) (.cons (.int .u8) (.cons (.int .u8) (.cons (.int .u8) (.cons (.int .u8) (.cons (.int .u8) (.cons (.int .u8) (.cons (.int .u8) (.cons (.int .u8) (.cons (.int .u8) (.cons (.int .u8) (.cons (.int .u8) (.cons (.int .u8) (.cons (.int .u8) (.cons (.int .u8) (.cons (.int .u8) (.cons (.int .u8) (.cons (.int .u8) .nil)))))))))))))))))))))))), 24, 24, false⟩),
  (221, some ⟨(.array 20 71), (.cons (.int .u64) (.cons (.int .u64) (.cons (.int .u64) (.cons (.int .u64) (.cons (.int .u64) (.cons (.int .u64) (.cons (.int .u64) (.cons (.int .u64) (.cons (.int .u64) (.cons (.int .u64) (.cons (.int .u64) (.cons (.int .u64) (.cons (.int .u64) (.cons (.int .u64) (.cons (.int .u64) (.cons (.int .u64) (.cons (.int .u64) (.cons (.int .u64) (.cons (.int .u64) (.cons (.int .u64) .nil)))))))))))))))))))), 20, 160, false⟩),
  (225, some ⟨(.struct [(0, 5), (1, 5)]), (.cons (.int .u8) (.cons (.int .u8) .nil)), 2, 2, true⟩),
  (226, some ⟨(.struct [(0, 5), (1, 5)]), (.cons (.int .u8) (.cons (.int .u8) .nil)), 2, 2, true⟩),
  (227, some ⟨(.array 16 226), (.cons (.cons (.int .u8) (.cons (.int .u8) .nil)) (.cons (.cons (.int .u8) (.cons (.int .u8) .nil)) (.cons (.cons (.int .u8) (.cons (.int .u8) .nil)) (.cons (.cons (.int .u8) (.cons (.int .u8) .nil)) (.cons (.cons (.int .u8) (.cons (.int .u8) .nil)) (.cons (.cons (.int .u8) (.cons (.int .u8) .nil)) (.cons (.cons (.int .u8) (.cons (.int .u8) .nil)) (.cons (.cons (.int .u8) (.cons (.int .u8) .nil)) (.cons (.cons (.int .u8) (.cons (.int .u8) .nil)) (.cons (.cons (.int .u8) (.cons (.int .u8) .nil)) (.cons (.cons (.int .u8) (.cons (.int .u8) .nil)) (.cons (.cons (.int .u8) (.cons (.int .u8) .nil)) (.cons (.cons (.int .u8) (.cons (.int .u8) .nil)) (.cons (.cons (.int .u8) (.cons (.int .u8) .nil)) (.cons (.cons (.int .u8) (.cons (.int .u8) .nil)) (.cons (.cons (.int .u8) (.cons (.int .u8) .nil)) .nil)))))))))))))))), 32, 32, false⟩),
  (228, some ⟨(.array 32 5), (.cons (.int .u8) (.cons (.int .u8) (.cons (.int .u8) (.cons (.int .u8) (.cons (.int .u8) (.cons (.int .u8) (.cons (.int .u8) (.cons (.int .u8) (.cons (.int .u8) (.cons (.int .u8) (.cons (.int .u8) (.cons (.int .u8) (.cons (.int .u8) (.cons (.int .u8) (.cons (.int .u8) (.cons (.int .u8) (.cons (.int .u8) (.cons (.int .u8) (.cons (.int .u8) (.cons (.int .u8) (.cons (.int .u8) (.cons (.int .u8) (.cons (.int .u8) (.cons (.int .u8) (.cons (.int .u8) (.cons (.int .u8) (.cons (.int .u8) (.cons (.int .u8) (.cons (.int .u8) (.cons (.int .u8) (.cons (.int .u8) (.cons (.int .u8) .nil)))))))))))))))))))))))))))))))), 32, 32, false⟩),
  (234, some ⟨(.int .u8), (.int .u8), 1, 1, false⟩),
  (235, some ⟨(.int .u8), (.int .u8), 1, 1, false⟩),
  (237, some ⟨(.int .i32), (.int .i32), 1, 4, false⟩),
  (238, some ⟨(.int .i32), (.int .i32), 1, 4, false⟩)]
noncomputable def F : Funcs := [(11, some Go.Proofs.Tryz.f11), (12, some Go.Proofs.Tryz.f12), (13, some Go.Proofs.Tryz.f13), (14, some Go.Proofs.Tryz.f14), (16, some Go.Proofs.Tryz.f16), (19, some Go.Proofs.Tryz.f19), (20, some Go.Proofs.Tryz.f20), (21, some Go.Proofs.Tryz.f21), (22, some Go.Proofs.Tryz.f22), (23, some Go.Proofs.Tryz.f23), (24, some Go.Proofs.Tryz.f24), (26, some Go.Proofs.Tryz.f26), (28, some Go.Proofs.Tryz.f28), (29, some Go.Proofs.Tryz.f29), (32, some Go.Proofs.Tryz.f32), (33, some Go.Proofs.Tryz.f33), (36, some Go.Proofs.Tryz.f36), (37, some Go.Proofs.Tryz.f37), (39, some Go.Proofs.Tryz.f39), (44, some Go.Proofs.Tryz.f44), (45, some Go.Proofs.Tryz.f45), (46, some Go.Proofs.Tryz.f46), (48, some Go.Proofs.Tryz.f48), (49, some Go.Proofs.Tryz.f49), (51, some Go.Proofs.Tryz.f51), (53, some Go.Proofs.Tryz.f53), (54, some Go.Proofs.Tryz.f54), (55, some Go.Proofs.Tryz.f55), (56, some Go.Proofs.Tryz.f56), (57, some Go.Proofs.Tryz.f57), (58, some Go.Proofs.Tryz.f58), (59, some Go.Proofs.Tryz.f59), (60, some Go.Proofs.Tryz.f60), (61, some Go.Proofs.Tryz.f61), (62, some Go.Proofs.Tryz.f62), (63, some Go.Proofs.Tryz.f63), (64, some Go.Proofs.Tryz.f64), (65, some Go.Proofs.Tryz.f65), (66, some Go.Proofs.Tryz.f66), (67, some Go.Proofs.Tryz.f67), (68, some Go.Proofs.Tryz.f68), (69, some Go.Proofs.Tryz.f69), (70, some Go.Proofs.Tryz.f70), (71, some Go.Proofs.Tryz.f71), (72, some Go.Proofs.Tryz.f72), (74, some Go.Proofs.Tryz.f74), (76, some Go.Proofs.Tryz.f76), (77, some Go.Proofs.Tryz.f77), (78, some Go.Proofs.Tryz.f78), (79, some Go.Proofs.Tryz.f79), (82, some Go.Proofs.Tryz.f82), (83, some Go.Proofs.Tryz.f83), (84, some Go.Proofs.Tryz.f84), (85, some Go.Proofs.Tryz.f85), (86, some Go.Proofs.Tryz.f86), (87, some Go.Proofs.Tryz.f87), (88, some Go.Proofs.Tryz.f88), (89, some Go.Proofs.Tryz.f89), (90, some Go.Proofs.Tryz.f90), (91, some Go.Proofs.Tryz.f91), (92, some Go.Proofs.Tryz.f92), (93, some Go.Proofs.Tryz.f93), (94, some Go.Proofs.Tryz.f94), (95, some Go.Proofs.Tryz.f95), (96, some Go.Proofs.Tryz.f96), (99, some Go.Proofs.Tryz.f99), (101, some Go.Proofs.Tryz.f101), (103, some Go.Proofs.Tryz.f103), (104, some Go.Proofs.Tryz.f104), (105, some Go.Proofs.Tryz.f105), (106, some Go.Proofs.Tryz.f106), (107, some Go.Proofs.Tryz.f107), (108, some Go.Proofs.Tryz.f108), (109, some Go.Proofs.Tryz.f109), (110, some Go.Proofs.Tryz.f110), (111, some Go.Proofs.Tryz.f111), (112, some Go.Proofs.Tryz.f112), (113, some Go.Proofs.Tryz.f113), (116, some Go.Proofs.Tryz.f116), (117, some Go.Proofs.Tryz.f117), (118, some Go.Proofs.Tryz.f118), (120, some Go.Proofs.Tryz.f120), (121, some Go.Proofs.Tryz.f121), (122, some Go.Proofs.Tryz.f122), (123, some Go.Proofs.Tryz.f123), (125, some Go.Proofs.Tryz.f125), (126, some Go.Proofs.Tryz.f126), (127, some Go.Proofs.Tryz.f127), (128, some Go.Proofs.Tryz.f128), (129, some Go.Proofs.Tryz.f129), (130, some Go.Proofs.Tryz.f130), (131, some Go.Proofs.Tryz.f131), (132, some Go.Proofs.Tryz.f132), (133, some Go.Proofs.Tryz.f133), (134, some Go.Proofs.Tryz.f134), (135, some Go.Proofs.Tryz.f135), (136, some Go.Proofs.Tryz.f136), (137, some Go.Proofs.Tryz.f137), (138, some Go.Proofs.Tryz.f138), (139, some Go.Proofs.Tryz.f139), (140, some Go.Proofs.Tryz.f140), (141, some Go.Proofs.Tryz.f141), (142, some Go.Proofs.Tryz.f142), (143, some Go.Proofs.Tryz.f143), (144, some Go.Proofs.Tryz.f144), (145, some Go.Proofs.Tryz.f145), (146, some Go.Proofs.Tryz.f146), (148, some Go.Proofs.Tryz.f148), (150, some Go.Proofs.Tryz.f150), (151, some Go.Proofs.Tryz.f151), (152, some Go.Proofs.Tryz.f152), (153, some Go.Proofs.Tryz.f153), (154, some Go.Proofs.Tryz.f154), (155, some Go.Proofs.Tryz.f155), (156, some Go.Proofs.Tryz.f156), (157, some Go.Proofs.Tryz.f157), (158, some Go.Proofs.Tryz.f158), (159, some Go.Proofs.Tryz.f159), (160, some Go.Proofs.Tryz.f160), (161, some Go.Proofs.Tryz.f161), (162, some Go.Proofs.Tryz.f162), (163, some Go.Proofs.Tryz.f163), (164, some Go.Proofs.Tryz.f164), (169, some Go.Proofs.Tryz.f169), (171, some Go.Proofs.Tryz.f171), (172, some Go.Proofs.Tryz.f172), (173, some Go.Proofs.Tryz.f173), (174, some Go.Proofs.Tryz.f174), (178, some Go.Proofs.Tryz.f178), (180, some Go.Proofs.Tryz.f180), (182, some Go.Proofs.Tryz.f182), (183, some Go.Proofs.Tryz.f183), (184, some Go.Proofs.Tryz.f184), (185, some Go.Proofs.Tryz.f185), (186, some Go.Proofs.Tryz.f186), (187, some Go.Proofs.Tryz.f187), (188, some Go.Proofs.Tryz.f188), (189, some Go.Proofs.Tryz.f189), (190, some Go.Proofs.Tryz.f190), (191, some Go.Proofs.Tryz.f191), (192, some Go.Proofs.Tryz.f192), (193, some Go.Proofs.Tryz.f193), (194, some Go.Proofs.Tryz.f194), (195, some Go.Proofs.Tryz.f195), (197, some Go.Proofs.Tryz.f197), (198, some Go.Proofs.Tryz.f198), (199, some Go.Proofs.Tryz.f199), (200, some Go.Proofs.Tryz.f200), (201, some Go.Proofs.Tryz.f201), (207, some Go.Proofs.Tryz.f207), (208, some Go.Proofs.Tryz.f208), (209, some Go.Proofs.Tryz.f209), (212, some Go.Proofs.Tryz.f212), (213, some Go.Proofs.Tryz.f213), (214, some Go.Proofs.Tryz.f214), (215, some Go.Proofs.Tryz.f215), (216, some Go.Proofs.Tryz.f216), (217, some Go.Proofs.Tryz.f217), (218, some Go.Proofs.Tryz.f218), (226, some Go.Proofs.Tryz.f226), (228, some Go.Proofs.Tryz.f228), (240, some Go.Proofs.Tryz.f240), (241, some Go.Proofs.Tryz.f241), (242, some Go.Proofs.Tryz.f242), (255, some Go.Proofs.Tryz.f255), (256, some Go.Proofs.Tryz.f256), (257, some Go.Proofs.Tryz.f257), (269, some Go.Proofs.Tryz.f269)]
def sg_w_FnBackTop : Sig := ⟨[.cell (.val (.slice (.int .u8)) false), .cell (.val (.slice (.int .u8)) false)], [(0, [.val .bool true])]⟩
def sg_s_Fine : Sig := ⟨[.cell (.val (.slice (.int .u8)) false)], [(0, [.val (.int .i64) true]), (1, [.val .bool true, .val (.int .i64) true, .val (.int .i64) true]), (1, [.val .bool true, .val (.slice (.int .i64)) true, .val (.slice (.int .i64)) true])]⟩
def sg_s_FineOf : Sig := ⟨[.cell (.val (.int .i64) false), .cell (.val (.slice (.int .u8)) false)], [(1, [.val .bool true, .val (.int .i64) true, .val (.int .i64) true]), (1, [.val .bool true, .val (.slice (.int .i64)) true, .val (.slice (.int .i64)) true])]⟩
def sg_s_FloatFrac : Sig := ⟨[.cell (.val (.int .i64) false), .cell (.val (.int .i64) false)], [(1, [.val .bool true, .val (.slice (.int .i64)) true, .val (.slice (.int .i64)) true]), (0, [.val .bool true])]⟩
def sg_s_FracAdd : Sig := ⟨[.agg [.val .bool false, .val (.slice (.int .i64)) false, .val (.slice (.int .i64)) false], .agg [.val .bool false, .val (.slice (.int .i64)) false, .val (.slice (.int .i64)) false]], [(1, [.val .bool true, .val (.slice (.int .i64)) true, .val (.slice (.int .i64)) true]), (0, [.val .bool true])]⟩
def sg_s_FracSub : Sig := ⟨[.agg [.val .bool false, .val (.slice (.int .i64)) false, .val (.slice (.int .i64)) false], .agg [.val .bool false, .val (.slice (.int .i64)) false, .val (.slice (.int .i64)) false]], [(1, [.val .bool true, .val (.slice (.int .i64)) true, .val (.slice (.int .i64)) true]), (0, [.val .bool true])]⟩
def sg_i_SpanMul : Sig := ⟨[.cell (.val (.int .i64) false), .agg [.val .bool false, .val (.int .i64) false, .val (.int .i64) false], .agg [.val .bool false, .val (.int .i64) false, .val (.int .i64) false]], [(1, [.val .bool true, .val (.int .i64) true, .val (.int .i64) true])]⟩
def sg_s_FracMul : Sig := ⟨[.agg [.val .bool false, .val (.slice (.int .i64)) false, .val (.slice (.int .i64)) false], .agg [.val .bool false, .val (.slice (.int .i64)) false, .val (.slice (.int .i64)) false]], [(1, [.val .bool true, .val (.slice (.int .i64)) true, .val (.slice (.int .i64)) true]), (0, [.val .bool true])]⟩
def sg_s_FracCmp : Sig := ⟨[.agg [.val .bool false, .val (.slice (.int .i64)) false, .val (.slice (.int .i64)) false], .agg [.val .bool false, .val (.slice (.int .i64)) false, .val (.slice (.int .i64)) false]], [(0, [.val (.int .i64) true])]⟩
def sg_i_SpanDivTwo : Sig := ⟨[.cell (.val (.int .i64) false), .agg [.val .bool false, .val (.int .i64) false, .val (.int .i64) false], .agg [.val .bool false, .val (.int .i64) false, .val (.int .i64) false]], [(1, [.val .bool true, .val (.int .i64) true, .val (.int .i64) true]), (1, [.val .bool true, .val (.int .i64) true, .val (.int .i64) true])]⟩
def sg_s_SpanDivTwo : Sig := ⟨[.cell (.val (.int .i64) false), .agg [.val .bool false, .val (.int .i64) false, .val (.int .i64) false], .agg [.val .bool false, .val (.int .i64) false, .val (.int .i64) false]], [(1, [.val .bool true, .val (.int .i64) true, .val (.int .i64) true]), (1, [.val .bool true, .val (.int .i64) true, .val (.int .i64) true])]⟩
def sg_s_SpanHull : Sig := ⟨[.cell (.val (.int .i64) false), .agg [.val .bool false, .val (.int .i64) false, .val (.int .i64) false], .agg [.val .bool false, .val (.int .i64) false, .val (.int .i64) false]], [(1, [.val .bool true, .val (.int .i64) true, .val (.int .i64) true])]⟩
def sg_w_psIn : Sig := ⟨[.cell (.val (.int .i64) false), .agg [.val .bool false, .val (.int .i64) false, .val (.int .i64) false], .agg [.val .bool false, .val (.slice (.int .i64)) false, .val (.slice (.int .i64)) false]], [(0, [.val .bool true])]⟩
def sg_w_psTurn : Sig := ⟨[.cell (.val (.slice (.int .u8)) false)], [(0, [.val (.slice (.int .u8)) true])]⟩
def sg_i_BackMul : Sig := ⟨[.cell (.val (.int .i64) false), .agg [.val .bool false, .val (.int .i64) false, .val (.int .i64) false], .agg [.val .bool false, .val (.int .i64) false, .val (.int .i64) false], .agg [.val .bool false, .val (.int .i64) false, .val (.int .i64) false]], [(1, [.val .bool true, .val (.int .i64) true, .val (.int .i64) true])]⟩
def sg_w_psIs : Sig := ⟨[.agg [.val .bool false, .val (.int .i64) false, .val (.int .i64) false], .agg [.val .bool false, .val (.int .i64) false, .val (.int .i64) false]], [(0, [.val .bool true])]⟩
def sg_s_Within : Sig := ⟨[.cell (.val (.int .i64) false), .agg [.val .bool false, .val (.int .i64) false, .val (.int .i64) false], .cell (.val (.slice (.int .u8)) false)], [(1, [.val .bool true, .val (.int .i64) true, .val (.int .i64) true])]⟩
def sg_i_SpanPow : Sig := ⟨[.cell (.val (.int .i64) false), .agg [.val .bool false, .val (.int .i64) false, .val (.int .i64) false], .cell (.val (.int .i64) false)], [(1, [.val .bool true, .val (.int .i64) true, .val (.int .i64) true])]⟩
def sg_i_SpanAbs : Sig := ⟨[.cell (.val (.int .i64) false), .agg [.val .bool false, .val (.int .i64) false, .val (.int .i64) false]], [(1, [.val .bool true, .val (.int .i64) true, .val (.int .i64) true])]⟩
def sg_s_FracDiv : Sig := ⟨[.agg [.val .bool false, .val (.slice (.int .i64)) false, .val (.slice (.int .i64)) false], .agg [.val .bool false, .val (.slice (.int .i64)) false, .val (.slice (.int .i64)) false]], [(1, [.val .bool true, .val (.slice (.int .i64)) true, .val (.slice (.int .i64)) true]), (0, [.val .bool true])]⟩
def sg_s_FracPow : Sig := ⟨[.agg [.val .bool false, .val (.slice (.int .i64)) false, .val (.slice (.int .i64)) false], .cell (.val (.int .i64) false)], [(1, [.val .bool true, .val (.slice (.int .i64)) true, .val (.slice (.int .i64)) true]), (0, [.val .bool true])]⟩
def sg_s_FracAbs : Sig := ⟨[.agg [.val .bool false, .val (.slice (.int .i64)) false, .val (.slice (.int .i64)) false]], [(1, [.val .bool true, .val (.slice (.int .i64)) true, .val (.slice (.int .i64)) true]), (0, [.val .bool true])]⟩
def sg_i_SpanNeg : Sig := ⟨[.cell (.val (.int .i64) false), .agg [.val .bool false, .val (.int .i64) false, .val (.int .i64) false]], [(1, [.val .bool true, .val (.int .i64) true, .val (.int .i64) true])]⟩
def sg_i_SpanHull : Sig := ⟨[.cell (.val (.int .i64) false), .agg [.val .bool false, .val (.int .i64) false, .val (.int .i64) false], .agg [.val .bool false, .val (.int .i64) false, .val (.int .i64) false]], [(1, [.val .bool true, .val (.int .i64) true, .val (.int .i64) true])]⟩
def sg_s_BitOk : Sig := ⟨[.cell (.val (.int .i64) false), .cell (.val (.int .i64) false)], [(0, [.val .bool true])]⟩
def sg_s_FracInt : Sig := ⟨[.cell (.val (.int .i64) false)], [(1, [.val .bool true, .val (.slice (.int .i64)) true, .val (.slice (.int .i64)) true])]⟩
def sg_s_SpanMul : Sig := ⟨[.cell (.val (.int .i64) false), .agg [.val .bool false, .val (.int .i64) false, .val (.int .i64) false], .agg [.val .bool false, .val (.int .i64) false, .val (.int .i64) false]], [(1, [.val .bool true, .val (.int .i64) true, .val (.int .i64) true])]⟩
def sg_s_SpanDiv : Sig := ⟨[.cell (.val (.int .i64) false), .agg [.val .bool false, .val (.int .i64) false, .val (.int .i64) false], .agg [.val .bool false, .val (.int .i64) false, .val (.int .i64) false]], [(1, [.val .bool true, .val (.int .i64) true, .val (.int .i64) true])]⟩
def sg_s_SpanPow : Sig := ⟨[.cell (.val (.int .i64) false), .agg [.val .bool false, .val (.int .i64) false, .val (.int .i64) false], .cell (.val (.int .i64) false)], [(1, [.val .bool true, .val (.int .i64) true, .val (.int .i64) true])]⟩
def sg_i_BackTop : Sig := ⟨[.cell (.val (.int .i64) false), .agg [.val .bool false, .val (.int .i64) false, .val (.int .i64) false], .agg [.val .bool false, .val (.int .i64) false, .val (.int .i64) false], .agg [.val .bool false, .val (.int .i64) false, .val (.int .i64) false]], [(1, [.val .bool true, .val (.int .i64) true, .val (.int .i64) true])]⟩
def sg_i_BackBottom : Sig := ⟨[.cell (.val (.int .i64) false), .agg [.val .bool false, .val (.int .i64) false, .val (.int .i64) false], .agg [.val .bool false, .val (.int .i64) false, .val (.int .i64) false], .agg [.val .bool false, .val (.int .i64) false, .val (.int .i64) false]], [(1, [.val .bool true, .val (.int .i64) true, .val (.int .i64) true])]⟩
def sg_i_BackPow : Sig := ⟨[.cell (.val (.int .i64) false), .agg [.val .bool false, .val (.int .i64) false, .val (.int .i64) false], .cell (.val (.int .i64) false), .agg [.val .bool false, .val (.int .i64) false, .val (.int .i64) false]], [(1, [.val .bool true, .val (.int .i64) true, .val (.int .i64) true])]⟩
def sg_i_BackRoot : Sig := ⟨[.cell (.val (.int .i64) false), .agg [.val .bool false, .val (.int .i64) false, .val (.int .i64) false], .agg [.val .bool false, .val (.int .i64) false, .val (.int .i64) false]], [(1, [.val .bool true, .val (.int .i64) true, .val (.int .i64) true])]⟩
def sg_i_BackAbs : Sig := ⟨[.cell (.val (.int .i64) false), .agg [.val .bool false, .val (.int .i64) false, .val (.int .i64) false], .agg [.val .bool false, .val (.int .i64) false, .val (.int .i64) false]], [(1, [.val .bool true, .val (.int .i64) true, .val (.int .i64) true])]⟩
def sg_s_FracRoot : Sig := ⟨[.agg [.val .bool false, .val (.slice (.int .i64)) false, .val (.slice (.int .i64)) false]], [(1, [.val .bool true, .val (.slice (.int .i64)) true, .val (.slice (.int .i64)) true]), (0, [.val .bool true])]⟩
def sg_i_BackMin : Sig := ⟨[.cell (.val (.int .i64) false), .agg [.val .bool false, .val (.int .i64) false, .val (.int .i64) false], .agg [.val .bool false, .val (.int .i64) false, .val (.int .i64) false], .agg [.val .bool false, .val (.int .i64) false, .val (.int .i64) false]], [(1, [.val .bool true, .val (.int .i64) true, .val (.int .i64) true])]⟩
def sg_i_BackMax : Sig := ⟨[.cell (.val (.int .i64) false), .agg [.val .bool false, .val (.int .i64) false, .val (.int .i64) false], .agg [.val .bool false, .val (.int .i64) false, .val (.int .i64) false], .agg [.val .bool false, .val (.int .i64) false, .val (.int .i64) false]], [(1, [.val .bool true, .val (.int .i64) true, .val (.int .i64) true])]⟩
def sg_s_l31Open : Sig := ⟨[.cell (.val (.slice (.int .u8)) false)], [(2, [.val (.slice (.int .u8)) false, .val (.int .i64) false])]⟩
def sg_s_l31Rd_real : Sig := ⟨[.box [.val (.slice (.int .u8)) false, .val (.int .i64) false]], [(0, [.val (.int .i64) true])]⟩
def sg_s_l31Rd_fine : Sig := ⟨[.box [.val (.slice (.int .u8)) false, .val (.int .i64) false], .cell (.val (.int .i64) false)], [(1, [.val .bool true, .val (.int .i64) true, .val (.int .i64) true])]⟩
def sg_s_l31Rd_inside : Sig := ⟨[.box [.val (.slice (.int .u8)) false, .val (.int .i64) false], .cell (.val (.int .i64) false), .agg [.val .bool false, .val (.int .i64) false, .val (.int .i64) false]], [(1, [.val .bool true, .val (.slice (.int .i64)) true, .val (.slice (.int .i64)) true])]⟩
def sg_s_BitPartOf : Sig := ⟨[.cell (.val (.int .i64) false), .cell (.val (.int .i64) false)], [(1, [.val .bool true, .val (.int .u64) true, .val (.int .i64) true]), (0, [.val .bool true])]⟩
def sg_s_l8Of : Sig := ⟨[.cell (.val (.int .i64) false), .cell (.val (.int .i64) false)], [(1, [.val .bool true, .val (.slice (.int .i64)) true, .val (.slice (.int .i64)) true])]⟩
def sg_s_l6Make : Sig := ⟨[.cell (.val .bool false), .cell (.val (.slice (.int .i64)) false), .cell (.val (.slice (.int .i64)) false)], [(1, [.val .bool true, .val (.slice (.int .i64)) true, .val (.slice (.int .i64)) true]), (0, [.val .bool true])]⟩
def sg_i_full : Sig := ⟨[.cell (.val (.int .i64) false), .cell (.val (.slice (.cons .bool (.cons (.int .i64) (.cons (.int .i64) .nil)))) false)], [(0, [.val .bool true])]⟩
def sg_i_limitOf : Sig := ⟨[.cell (.val (.int .i64) false), .cell (.val (.int .i64) false)], [(1, [.val (.int .i64) true, .val .bool true, .val (.slice (.int .i64)) true, .val (.slice (.int .i64)) true])]⟩
def sg_i_limit_floats : Sig := ⟨[.agg [.val (.int .i64) false, .val .bool false, .val (.slice (.int .i64)) false, .val (.slice (.int .i64)) false], .cell (.val (.int .i64) false)], [(0, [.val (.int .i64) true]), (0, [.val (.int .i64) true])]⟩
def sg_i_some : Sig := ⟨[.cell (.val (.int .i64) false), .cell (.val (.int .i64) false)], [(1, [.val .bool true, .val (.int .i64) true, .val (.int .i64) true])]⟩
def sg_s_FracOk : Sig := ⟨[.agg [.val .bool false, .val (.slice (.int .i64)) false, .val (.slice (.int .i64)) false]], [(0, [.val .bool true])]⟩
def sg_s_l6Sum : Sig := ⟨[.agg [.val .bool false, .val (.slice (.int .i64)) false, .val (.slice (.int .i64)) false], .agg [.val .bool false, .val (.slice (.int .i64)) false, .val (.slice (.int .i64)) false]], [(0, [.val .bool true]), (0, [.val (.slice (.int .i64)) true]), (0, [.val (.slice (.int .i64)) true])]⟩
def sg_s_l6Neg : Sig := ⟨[.agg [.val .bool false, .val (.slice (.int .i64)) false, .val (.slice (.int .i64)) false]], [(1, [.val .bool true, .val (.slice (.int .i64)) true, .val (.slice (.int .i64)) true])]⟩
def sg_i_limit_times : Sig := ⟨[.agg [.val (.int .i64) false, .val .bool false, .val (.slice (.int .i64)) false, .val (.slice (.int .i64)) false], .agg [.val (.int .i64) false, .val .bool false, .val (.slice (.int .i64)) false, .val (.slice (.int .i64)) false]], [(1, [.val (.int .i64) true, .val .bool true, .val (.slice (.int .i64)) true, .val (.slice (.int .i64)) true])]⟩
def sg_s_l5Mul : Sig := ⟨[.cell (.val (.slice (.int .i64)) false), .cell (.val (.slice (.int .i64)) false)], [(0, [.val (.slice (.int .i64)) true])]⟩
def sg_i_divAbove : Sig := ⟨[.cell (.val (.int .i64) false), .agg [.val .bool false, .val (.int .i64) false, .val (.int .i64) false], .agg [.val .bool false, .val (.int .i64) false, .val (.int .i64) false]], [(1, [.val .bool true, .val (.int .i64) true, .val (.int .i64) true])]⟩
def sg_s_l9Both : Sig := ⟨[.cell (.val (.int .i64) false), .agg [.val .bool false, .val (.int .i64) false, .val (.int .i64) false], .agg [.val .bool false, .val (.int .i64) false, .val (.int .i64) false]], [(0, [.val .bool true])]⟩
def sg_s_l9Part : Sig := ⟨[.cell (.val (.int .i64) false), .agg [.val .bool false, .val (.int .i64) false, .val (.int .i64) false], .agg [.val .bool false, .val (.int .i64) false, .val (.int .i64) false]], [(1, [.val .bool true, .val (.int .i64) true, .val (.int .i64) true])]⟩
def sg_s_SpanNeg : Sig := ⟨[.cell (.val (.int .i64) false), .agg [.val .bool false, .val (.int .i64) false, .val (.int .i64) false]], [(1, [.val .bool true, .val (.int .i64) true, .val (.int .i64) true])]⟩
def sg_s_SpanMeet : Sig := ⟨[.cell (.val (.int .i64) false), .agg [.val .bool false, .val (.int .i64) false, .val (.int .i64) false], .agg [.val .bool false, .val (.int .i64) false, .val (.int .i64) false]], [(1, [.val .bool true, .val (.int .i64) true, .val (.int .i64) true])]⟩
def sg_s_SpanOk : Sig := ⟨[.cell (.val (.int .i64) false), .agg [.val .bool false, .val (.int .i64) false, .val (.int .i64) false]], [(0, [.val .bool true])]⟩
def sg_s_l9Of : Sig := ⟨[.cell (.val (.int .i64) false), .cell (.val (.int .i64) false)], [(1, [.val .bool true, .val (.int .i64) true, .val (.int .i64) true])]⟩
def sg_s_l3Min : Sig := ⟨[.cell (.val (.int .i64) false), .cell (.val (.int .i64) false)], [(0, [.val (.int .i64) true])]⟩
def sg_s_l3Max : Sig := ⟨[.cell (.val (.int .i64) false), .cell (.val (.int .i64) false)], [(0, [.val (.int .i64) true])]⟩
def sg_s_SpanHas : Sig := ⟨[.cell (.val (.int .i64) false), .agg [.val .bool false, .val (.int .i64) false, .val (.int .i64) false], .agg [.val .bool false, .val (.slice (.int .i64)) false, .val (.slice (.int .i64)) false]], [(0, [.val .bool true])]⟩
def sg_i_Span_zero : Sig := ⟨[.agg [.val .bool false, .val (.int .i64) false, .val (.int .i64) false]], [(0, [.val .bool true])]⟩
def sg_i_backParts : Sig := ⟨[.cell (.val (.int .i64) false), .agg [.val .bool false, .val (.int .i64) false, .val (.int .i64) false], .agg [.val .bool false, .val (.int .i64) false, .val (.int .i64) false], .agg [.val .bool false, .val (.int .i64) false, .val (.int .i64) false]], [(1, [.val .bool true, .val (.int .i64) true, .val (.int .i64) true]), (1, [.val .bool true, .val (.int .i64) true, .val (.int .i64) true])]⟩
def sg_s_BitTop : Sig := ⟨[.cell (.val (.int .i64) false)], [(0, [.val (.int .i64) true])]⟩
def sg_i_BitOk : Sig := ⟨[.cell (.val (.int .i64) false), .cell (.val (.int .i64) false)], [(0, [.val .bool true])]⟩
def sg_s_l31Rd_within : Sig := ⟨[.box [.val (.slice (.int .u8)) false, .val (.int .i64) false], .cell (.val (.int .i64) false), .agg [.val (.int .i64) false, .val (.int .i64) false]], [(1, [.val (.int .i64) true, .val (.int .i64) true])]⟩
def sg_s_l9Pair : Sig := ⟨[.agg [.val .bool false, .val (.int .i64) false, .val (.int .i64) false]], [(1, [.val (.int .i64) true, .val (.int .i64) true])]⟩
def sg_s_PairOk : Sig := ⟨[.cell (.val (.int .i64) false), .agg [.val (.int .i64) false, .val (.int .i64) false]], [(0, [.val .bool true])]⟩
def sg_s_PairIs : Sig := ⟨[.agg [.val (.int .i64) false, .val (.int .i64) false], .agg [.val (.int .i64) false, .val (.int .i64) false]], [(0, [.val .bool true])]⟩
def sg_i_in : Sig := ⟨[.cell (.val (.int .i64) false), .cell (.val (.int .i64) false), .cell (.val (.int .i64) false)], [(0, [.val .bool true])]⟩
def sg_i_power : Sig := ⟨[.cell (.val (.int .i64) false), .cell (.val (.int .i64) false), .cell (.val (.int .i64) false)], [(0, [.val (.int .i64) true]), (0, [.val (.int .i64) true])]⟩
def sg_i_SpanMeet : Sig := ⟨[.cell (.val (.int .i64) false), .agg [.val .bool false, .val (.int .i64) false, .val (.int .i64) false], .agg [.val .bool false, .val (.int .i64) false, .val (.int .i64) false]], [(1, [.val .bool true, .val (.int .i64) true, .val (.int .i64) true])]⟩
def sg_i_from : Sig := ⟨[.cell (.val (.int .i64) false), .cell (.val (.int .i64) false)], [(1, [.val .bool true, .val (.int .i64) true, .val (.int .i64) true])]⟩
def sg_i_rootDown : Sig := ⟨[.cell (.val (.int .i64) false), .cell (.val (.int .i64) false), .cell (.val (.int .i64) false)], [(0, [.val (.int .i64) true])]⟩
def sg_i_rootUp : Sig := ⟨[.cell (.val (.int .i64) false), .cell (.val (.int .i64) false), .cell (.val (.int .i64) false)], [(0, [.val (.int .i64) true])]⟩
def sg_i_size : Sig := ⟨[.cell (.val (.int .i64) false)], [(0, [.val (.int .i64) true])]⟩
def sg_s_NatPow : Sig := ⟨[.cell (.val (.slice (.int .i64)) false), .cell (.val (.int .i64) false)], [(0, [.val (.slice (.int .i64)) true]), (0, [.val .bool true])]⟩
def sg_s_l5Trim : Sig := ⟨[.cell (.val (.slice (.int .i64)) false)], [(0, [.val (.slice (.int .i64)) true])]⟩
def sg_i_SpanOk : Sig := ⟨[.cell (.val (.int .i64) false), .agg [.val .bool false, .val (.int .i64) false, .val (.int .i64) false]], [(0, [.val .bool true])]⟩
def sg_s_l31Rd_ord : Sig := ⟨[.box [.val (.slice (.int .u8)) false, .val (.int .i64) false], .cell (.val (.int .i64) false)], [(0, [.val (.int .i64) true])]⟩
def sg_s_l31Rd_pick : Sig := ⟨[.box [.val (.slice (.int .u8)) false, .val (.int .i64) false], .cell (.val (.int .i64) false)], [(0, [.val (.int .i64) true])]⟩
def sg_s_l1Width : Sig := ⟨[.cell (.val (.int .i64) false)], [(0, [.val .bool true])]⟩
def sg_s_l31Rd_nice : Sig := ⟨[.box [.val (.slice (.int .u8)) false, .val (.int .i64) false], .cell (.val (.int .i64) false)], [(0, [.val (.int .i64) true])]⟩
def sg_s_NatOf : Sig := ⟨[.cell (.val (.int .u64) false)], [(0, [.val (.slice (.int .i64)) true])]⟩
def sg_s_l9Mul : Sig := ⟨[.cell (.val (.int .i64) false), .cell (.val (.int .i64) false), .cell (.val (.int .i64) false), .cell (.val .bool false)], [(0, [.val (.int .i64) true])]⟩
def sg_s_l9One : Sig := ⟨[.cell (.val (.int .i64) false)], [(0, [.val (.int .i64) true])]⟩
def sg_s_SpanAbs : Sig := ⟨[.cell (.val (.int .i64) false), .agg [.val .bool false, .val (.int .i64) false, .val (.int .i64) false]], [(1, [.val .bool true, .val (.int .i64) true, .val (.int .i64) true])]⟩
def sg_s_l9Pow : Sig := ⟨[.cell (.val (.int .i64) false), .cell (.val (.int .i64) false), .cell (.val (.int .i64) false), .cell (.val .bool false)], [(0, [.val (.int .i64) true])]⟩
def sg_i_Span_nought : Sig := ⟨[.agg [.val .bool false, .val (.int .i64) false, .val (.int .i64) false]], [(0, [.val .bool true])]⟩
def sg_i_SpanHas : Sig := ⟨[.cell (.val (.int .i64) false), .agg [.val .bool false, .val (.int .i64) false, .val (.int .i64) false], .agg [.val .bool false, .val (.slice (.int .i64)) false, .val (.slice (.int .i64)) false]], [(0, [.val .bool true])]⟩
def sg_i_whole : Sig := ⟨[.cell (.val .bool false), .cell (.val (.slice (.int .i64)) false)], [(1, [.val .bool false, .val (.slice (.int .i64)) false, .val (.slice (.int .i64)) false])]⟩
def sg_i_either : Sig := ⟨[.cell (.val (.int .i64) false), .agg [.val .bool false, .val (.int .i64) false, .val (.int .i64) false], .agg [.val .bool false, .val (.int .i64) false, .val (.int .i64) false]], [(1, [.val .bool true, .val (.int .i64) true, .val (.int .i64) true])]⟩
def sg_s_NatRoot : Sig := ⟨[.cell (.val (.slice (.int .i64)) false)], [(0, [.val (.slice (.int .i64)) true]), (0, [.val .bool true]), (0, [.val .bool true])]⟩
def sg_s_l31Rd_bound : Sig := ⟨[.box [.val (.slice (.int .u8)) false, .val (.int .i64) false], .cell (.val (.int .i64) false)], [(0, [.val (.int .i64) true])]⟩
def sg_s_BitGap : Sig := ⟨[.cell (.val (.int .i64) false), .cell (.val (.int .i64) false)], [(0, [.val (.int .u64) true])]⟩
def sg_s_FracOf : Sig := ⟨[.cell (.val .bool false), .cell (.val (.slice (.int .i64)) false), .cell (.val (.slice (.int .i64)) false)], [(1, [.val .bool true, .val (.slice (.int .i64)) true, .val (.slice (.int .i64)) true]), (0, [.val .bool true])]⟩
def sg_s_l1Least : Sig := ⟨[.cell (.val (.int .i64) false)], [(0, [.val (.int .i64) true])]⟩
def sg_s_l1Frac : Sig := ⟨[.cell (.val (.int .i64) false)], [(0, [.val (.int .i64) true])]⟩
def sg_s_l5Pow2 : Sig := ⟨[.cell (.val (.int .i64) false)], [(0, [.val (.slice (.int .i64)) true])]⟩
def sg_s_l5Gcd : Sig := ⟨[.cell (.val (.slice (.int .i64)) false), .cell (.val (.slice (.int .i64)) false)], [(0, [.val (.slice (.int .i64)) true])]⟩
def sg_s_l5Div : Sig := ⟨[.cell (.val (.slice (.int .i64)) false), .cell (.val (.slice (.int .i64)) false)], [(0, [.val (.slice (.int .i64)) true]), (0, [.val (.slice (.int .i64)) true])]⟩
def sg_i_BitTop : Sig := ⟨[.cell (.val (.int .i64) false)], [(0, [.val (.int .i64) true])]⟩
def sg_i_value : Sig := ⟨[.cell (.val (.int .i64) false), .cell (.val (.int .i64) false)], [(1, [.val .bool true, .val (.slice (.int .i64)) true, .val (.slice (.int .i64)) true])]⟩
def sg_i_natMul : Sig := ⟨[.cell (.val (.slice (.int .i64)) false), .cell (.val (.slice (.int .i64)) false)], [(0, [.val (.slice (.int .i64)) true])]⟩
def sg_i_lowest : Sig := ⟨[.cell (.val .bool false), .cell (.val (.slice (.int .i64)) false), .cell (.val (.slice (.int .i64)) false)], [(1, [.val .bool false, .val (.slice (.int .i64)) false, .val (.slice (.int .i64)) false])]⟩
def sg_i_natCmp : Sig := ⟨[.cell (.val (.slice (.int .i64)) false), .cell (.val (.slice (.int .i64)) false)], [(0, [.val (.int .i64) true])]⟩
def sg_i_around : Sig := ⟨[.cell (.val (.int .i64) false), .agg [.val .bool false, .val (.slice (.int .i64)) false, .val (.slice (.int .i64)) false]], [(0, [.val (.int .i64) true]), (0, [.val (.int .i64) true])]⟩
def sg_s_NatOk : Sig := ⟨[.cell (.val (.slice (.int .i64)) false)], [(0, [.val .bool true])]⟩
def sg_s_l6One : Sig := ⟨[.cell (.val (.slice (.int .i64)) false)], [(0, [.val .bool true])]⟩
def sg_s_l5Add : Sig := ⟨[.cell (.val (.slice (.int .i64)) false), .cell (.val (.slice (.int .i64)) false)], [(0, [.val (.slice (.int .i64)) true])]⟩
def sg_s_l5Cmp : Sig := ⟨[.cell (.val (.slice (.int .i64)) false), .cell (.val (.slice (.int .i64)) false)], [(0, [.val (.int .i64) true])]⟩
def sg_s_l5Sub : Sig := ⟨[.cell (.val (.slice (.int .i64)) false), .cell (.val (.slice (.int .i64)) false)], [(0, [.val (.slice (.int .i64)) true])]⟩
def sg_s_l8Round : Sig := ⟨[.cell (.val (.int .i64) false), .agg [.val .bool false, .val (.slice (.int .i64)) false, .val (.slice (.int .i64)) false], .cell (.val .bool false)], [(0, [.val (.int .i64) true])]⟩
def sg_s_l8Frac : Sig := ⟨[.agg [.val .bool false, .val (.slice (.int .i64)) false, .val (.slice (.int .i64)) false]], [(1, [.val .bool false, .val (.slice (.int .i64)) false, .val (.slice (.int .i64)) false])]⟩
def sg_i_limit_sign : Sig := ⟨[.agg [.val (.int .i64) false, .val .bool false, .val (.slice (.int .i64)) false, .val (.slice (.int .i64)) false]], [(0, [.val (.int .i64) true])]⟩
def sg_i_Frac_mul : Sig := ⟨[.agg [.val .bool false, .val (.slice (.int .i64)) false, .val (.slice (.int .i64)) false], .agg [.val .bool false, .val (.slice (.int .i64)) false, .val (.slice (.int .i64)) false]], [(1, [.val .bool true, .val (.slice (.int .i64)) true, .val (.slice (.int .i64)) true])]⟩
def sg_i_divAbove_1 : Sig := ⟨[.agg [.val (.int .i64) false, .val .bool false, .val (.slice (.int .i64)) false, .val (.slice (.int .i64)) false], .box [.val .bool false, .val (.int .i64) false, .val (.int .i64) false], .box [.val (.int .i64) false]], [(1, [.val (.int .i64) false, .val .bool false, .val (.slice (.int .i64)) false, .val (.slice (.int .i64)) false])]⟩
def sg_i_limit_by : Sig := ⟨[.agg [.val (.int .i64) false, .val .bool false, .val (.slice (.int .i64)) false, .val (.slice (.int .i64)) false], .agg [.val (.int .i64) false, .val .bool false, .val (.slice (.int .i64)) false, .val (.slice (.int .i64)) false]], [(1, [.val (.int .i64) false, .val .bool false, .val (.slice (.int .i64)) false, .val (.slice (.int .i64)) false])]⟩
def sg_s_l9Quot : Sig := ⟨[.cell (.val (.int .i64) false), .cell (.val (.int .i64) false), .cell (.val (.int .i64) false), .cell (.val .bool false)], [(0, [.val (.int .i64) true])]⟩
def sg_s_PairMeet : Sig := ⟨[.cell (.val (.int .i64) false), .agg [.val (.int .i64) false, .val (.int .i64) false], .agg [.val (.int .i64) false, .val (.int .i64) false]], [(1, [.val (.int .i64) true, .val (.int .i64) true]), (0, [.val .bool true])]⟩
def sg_s_PairHas : Sig := ⟨[.cell (.val (.int .i64) false), .agg [.val (.int .i64) false, .val (.int .i64) false], .agg [.val .bool false, .val (.slice (.int .i64)) false, .val (.slice (.int .i64)) false]], [(0, [.val .bool true])]⟩
def sg_i_formatOf : Sig := ⟨[.cell (.val (.int .i64) false)], [(1, [.val (.int .i64) true, .val (.int .i64) true, .val (.int .i64) true, .val (.int .i64) true]), (0, [.val .bool true])]⟩
def sg_s_l31Rd_pair : Sig := ⟨[.box [.val (.slice (.int .u8)) false, .val (.int .i64) false], .cell (.val (.int .i64) false)], [(1, [.val (.int .i64) true, .val (.int .i64) true])]⟩
def sg_s_l31Rd_big : Sig := ⟨[.box [.val (.slice (.int .u8)) false, .val (.int .i64) false]], [(0, [.val (.int .u64) true])]⟩
def sg_i_Frac_pow : Sig := ⟨[.agg [.val .bool false, .val (.slice (.int .i64)) false, .val (.slice (.int .i64)) false], .cell (.val (.int .i64) false)], [(1, [.val .bool true, .val (.slice (.int .i64)) true, .val (.slice (.int .i64)) true])]⟩
def sg_i_root : Sig := ⟨[.cell (.val (.int .i64) false), .cell (.val (.int .i64) false), .cell (.val (.int .i64) false)], [(0, [.val (.int .i64) true]), (0, [.val .bool true])]⟩
def sg_i_PairOk : Sig := ⟨[.cell (.val (.int .i64) false), .agg [.val (.int .i64) false, .val (.int .i64) false]], [(0, [.val .bool true])]⟩
def sg_s_l5Times : Sig := ⟨[.cell (.val (.slice (.int .i64)) false), .cell (.val (.int .i64) false)], [(0, [.val (.slice (.int .i64)) true])]⟩
def sg_s_l9Infinite : Sig := ⟨[.cell (.val (.int .i64) false), .cell (.val (.int .i64) false)], [(0, [.val .bool true])]⟩
def sg_s_l9Power : Sig := ⟨[.agg [.val .bool false, .val (.slice (.int .i64)) false, .val (.slice (.int .i64)) false], .cell (.val (.int .i64) false)], [(1, [.val .bool false, .val (.slice (.int .i64)) false, .val (.slice (.int .i64)) false])]⟩
def sg_i_PairHas : Sig := ⟨[.cell (.val (.int .i64) false), .agg [.val (.int .i64) false, .val (.int .i64) false], .agg [.val .bool false, .val (.slice (.int .i64)) false, .val (.slice (.int .i64)) false]], [(0, [.val .bool true])]⟩
def sg_s_l5Root : Sig := ⟨[.cell (.val (.slice (.int .i64)) false)], [(0, [.val (.slice (.int .i64)) true])]⟩
def sg_s_l5Shl : Sig := ⟨[.cell (.val (.slice (.int .i64)) false), .cell (.val (.int .i64) false)], [(0, [.val (.slice (.int .i64)) true])]⟩
def sg_s_l5DivSmall : Sig := ⟨[.cell (.val (.slice (.int .i64)) false), .cell (.val (.int .i64) false)], [(0, [.val (.slice (.int .i64)) true]), (0, [.val (.int .i64) true])]⟩
def sg_s_l5Top : Sig := ⟨[.cell (.val (.slice (.int .i64)) false), .cell (.val (.int .i64) false)], [(0, [.val (.slice (.int .i64)) true])]⟩
def sg_s_l5At : Sig := ⟨[.cell (.val (.slice (.int .i64)) false), .cell (.val (.int .i64) false)], [(0, [.val (.int .i64) true])]⟩
def sg_i_BitPartOf : Sig := ⟨[.cell (.val (.int .i64) false), .cell (.val (.int .i64) false)], [(1, [.val .bool true, .val (.int .u64) true, .val (.int .i64) true]), (0, [.val .bool true])]⟩
def sg_i_natOf : Sig := ⟨[.cell (.val (.int .u64) false)], [(0, [.val (.slice (.int .i64)) true])]⟩
def sg_i_natShift : Sig := ⟨[.cell (.val (.slice (.int .i64)) false), .cell (.val (.int .i64) false)], [(0, [.val (.slice (.int .i64)) true])]⟩
def sg_i_trim : Sig := ⟨[.cell (.val (.slice (.int .i64)) false)], [(0, [.val (.slice (.int .i64)) false])]⟩
def sg_i_natGcd : Sig := ⟨[.cell (.val (.slice (.int .i64)) false), .cell (.val (.slice (.int .i64)) false)], [(0, [.val (.slice (.int .i64)) false])]⟩
def sg_i_natDiv : Sig := ⟨[.cell (.val (.slice (.int .i64)) false), .cell (.val (.slice (.int .i64)) false)], [(0, [.val (.slice (.int .i64)) false]), (0, [.val (.slice (.int .i64)) false])]⟩
def sg_slices_Clone_int_int : Sig := ⟨[.cell (.val (.slice (.int .i64)) false)], [(0, [.row (.int .i64) 3 true])]⟩
def sg_i_truncated : Sig := ⟨[.cell (.val (.int .i64) false), .agg [.val .bool false, .val (.slice (.int .i64)) false, .val (.slice (.int .i64)) false]], [(0, [.val (.int .i64) true]), (0, [.val .bool true])]⟩
def sg_s_l8Size : Sig := ⟨[.cell (.val (.int .i64) false), .agg [.val .bool false, .val (.slice (.int .i64)) false, .val (.slice (.int .i64)) false]], [(0, [.val (.int .i64) true]), (0, [.val .bool true])]⟩
def sg_i_Frac_sign : Sig := ⟨[.agg [.val .bool false, .val (.slice (.int .i64)) false, .val (.slice (.int .i64)) false]], [(0, [.val (.int .i64) true])]⟩
def sg_i_Frac_div : Sig := ⟨[.agg [.val .bool false, .val (.slice (.int .i64)) false, .val (.slice (.int .i64)) false], .agg [.val .bool false, .val (.slice (.int .i64)) false, .val (.slice (.int .i64)) false]], [(1, [.val .bool true, .val (.slice (.int .i64)) true, .val (.slice (.int .i64)) true])]⟩
def sg_s_l8Cmp : Sig := ⟨[.agg [.val .bool false, .val (.slice (.int .i64)) false, .val (.slice (.int .i64)) false], .agg [.val .bool false, .val (.slice (.int .i64)) false, .val (.slice (.int .i64)) false]], [(0, [.val (.int .i64) true])]⟩
def sg_i_natPow : Sig := ⟨[.cell (.val (.slice (.int .i64)) false), .cell (.val (.int .i64) false)], [(0, [.val (.slice (.int .i64)) true])]⟩
def sg_i_powerAbove : Sig := ⟨[.cell (.val (.int .i64) false), .cell (.val (.int .i64) false), .cell (.val (.int .i64) false), .agg [.val .bool false, .val (.slice (.int .i64)) false, .val (.slice (.int .i64)) false]], [(0, [.val .bool true])]⟩
def sg_i_Frac_cmp : Sig := ⟨[.agg [.val .bool false, .val (.slice (.int .i64)) false, .val (.slice (.int .i64)) false], .agg [.val .bool false, .val (.slice (.int .i64)) false, .val (.slice (.int .i64)) false]], [(0, [.val (.int .i64) true])]⟩
def sg_i_FracOk : Sig := ⟨[.agg [.val .bool false, .val (.slice (.int .i64)) false, .val (.slice (.int .i64)) false]], [(0, [.val .bool true])]⟩
def sg_s_l5Bits : Sig := ⟨[.cell (.val (.slice (.int .i64)) false)], [(0, [.val (.int .i64) true])]⟩
def sg_math_bits_Len : Sig := ⟨[.cell (.val (.int .u64) false)], [(0, [.val (.int .i64) true])]⟩
def sg_i_natBits : Sig := ⟨[.cell (.val (.slice (.int .i64)) false)], [(0, [.val (.int .i64) true])]⟩
def sg_i_BitMake : Sig := ⟨[.cell (.val (.int .i64) false), .agg [.val .bool false, .val (.int .u64) false, .val (.int .i64) false]], [(0, [.val (.int .i64) true]), (0, [.val .bool true])]⟩
def sg_s_l8Scaled : Sig := ⟨[.agg [.val .bool false, .val (.slice (.int .i64)) false, .val (.slice (.int .i64)) false], .cell (.val (.int .i64) false)], [(0, [.val (.slice (.int .i64)) true]), (0, [.val .bool true])]⟩
def sg_s_NatSmall : Sig := ⟨[.cell (.val (.slice (.int .i64)) false)], [(0, [.val (.int .u64) true]), (0, [.val .bool true])]⟩
def sg_i_nats : Sig := ⟨[.cell (.val (.slice (.slice (.int .i64))) false)], [(0, [.val .bool true])]⟩
def sg_math_bits_Len64 : Sig := ⟨[.cell (.val (.int .u64) false)], [(0, [.val (.int .i64) true])]⟩
def sg_math_bits_TrailingZeros64 : Sig := ⟨[.cell (.val (.int .u64) false)], [(0, [.val (.int .i64) true])]⟩
def sg_slices_ContainsFunc_int_int_i_nats_1 : Sig := ⟨[.cell (.val (.slice (.slice (.int .i64))) false), .fn 241 []], [(0, [.val .bool true])]⟩
def sg_i_nats_1 : Sig := ⟨[.cell (.val (.slice (.int .i64)) false)], [(0, [.val .bool true])]⟩
def sg_i_NatOk : Sig := ⟨[.cell (.val (.slice (.int .i64)) false)], [(0, [.val .bool true])]⟩
def sg_slices_IndexFunc_int_int_i_nats_1 : Sig := ⟨[.cell (.val (.slice (.slice (.int .i64))) false), .fn 241 []], [(0, [.val (.int .i64) true])]⟩
def sg_slices_ContainsFunc_int_int'_i_NatOk_1 : Sig := ⟨[.cell (.val (.slice (.int .i64)) false), .fn 257 []], [(0, [.val .bool true])]⟩
def sg_i_NatOk_1 : Sig := ⟨[.cell (.val (.int .i64) false)], [(0, [.val .bool true])]⟩
def sg_slices_IndexFunc_int_int'_i_NatOk_1 : Sig := ⟨[.cell (.val (.slice (.int .i64)) false), .fn 257 []], [(0, [.val (.int .i64) true])]⟩
def S : Sigs := [
  (11, some [([], sg_w_FnBackTop)]),
  (12, some [([], sg_s_Fine)]),
  (13, some [([], sg_s_FineOf)]),
  (14, some [([], sg_s_FloatFrac)]),
  (16, some [([], sg_s_FracAdd)]),
  (19, some [([], sg_s_FracSub)]),
  (20, some [([], sg_i_SpanMul)]),
  (21, some [([], sg_s_FracMul)]),
  (22, some [([], sg_s_FracCmp)]),
  (23, some [([], sg_i_SpanDivTwo)]),
  (24, some [([], sg_s_SpanDivTwo)]),
  (26, some [([], sg_s_SpanHull)]),
  (28, some [([], sg_w_psIn)]),
  (29, some [([], sg_w_psTurn)]),
  (32, some [([], sg_i_BackMul)]),
  (33, some [([], sg_w_psIs)]),
  (36, some [([], sg_s_Within)]),
  (37, some [([], sg_i_SpanPow)]),
  (39, some [([], sg_i_SpanAbs)]),
  (44, some [([], sg_s_FracDiv)]),
  (45, some [([], sg_s_FracPow)]),
  (46, some [([], sg_s_FracAbs)]),
  (48, some [([], sg_i_SpanNeg)]),
  (49, some [([], sg_i_SpanHull)]),
  (51, some [([], sg_s_BitOk)]),
  (53, some [([], sg_s_FracInt)]),
  (54, some [([], sg_s_SpanMul)]),
  (55, some [([], sg_s_SpanDiv)]),
  (56, some [([], sg_s_SpanPow)]),
  (57, some [([], sg_i_BackTop)]),
  (58, some [([], sg_i_BackBottom)]),
  (59, some [([], sg_i_BackPow)]),
  (60, some [([], sg_i_BackRoot)]),
  (61, some [([], sg_i_BackAbs)]),
  (62, some [([], sg_s_FracRoot)]),
  (63, some [([], sg_i_BackMin)]),
  (64, some [([], sg_i_BackMax)]),
  (65, some [([], sg_s_l31Open)]),
  (66, some [([], sg_s_l31Rd_real)]),
  (67, some [([], sg_s_l31Rd_fine)]),
  (68, some [([], sg_s_l31Rd_inside)]),
  (69, some [([], sg_s_BitPartOf)]),
  (70, some [([], sg_s_l8Of)]),
  (71, some [([], sg_s_l6Make)]),
  (72, some [([], sg_i_full)]),
  (74, some [([], sg_i_limitOf)]),
  (76, some [([], sg_i_limit_floats)]),
  (77, some [([], sg_i_some)]),
  (78, some [([], sg_s_FracOk)]),
  (79, some [([], sg_s_l6Sum)]),
  (82, some [([], sg_s_l6Neg)]),
  (83, some [([], sg_i_limit_times)]),
  (84, some [([], sg_s_l5Mul)]),
  (85, some [([], sg_i_divAbove)]),
  (86, some [([], sg_s_l9Both)]),
  (87, some [([], sg_s_l9Part)]),
  (88, some [([], sg_s_SpanNeg)]),
  (89, some [([], sg_s_SpanMeet)]),
  (90, some [([], sg_s_SpanOk)]),
  (91, some [([], sg_s_l9Of)]),
  (92, some [([], sg_s_l3Min)]),
  (93, some [([], sg_s_l3Max)]),
  (94, some [([], sg_s_SpanHas)]),
  (95, some [([], sg_i_Span_zero)]),
  (96, some [([], sg_i_backParts)]),
  (99, some [([], sg_s_BitTop)]),
  (101, some [([], sg_i_BitOk)]),
  (103, some [([], sg_s_l31Rd_within)]),
  (104, some [([], sg_s_l9Pair)]),
  (105, some [([], sg_s_PairOk)]),
  (106, some [([], sg_s_PairIs)]),
  (107, some [([], sg_i_in)]),
  (108, some [([], sg_i_power)]),
  (109, some [([], sg_i_SpanMeet)]),
  (110, some [([], sg_i_from)]),
  (111, some [([], sg_i_rootDown)]),
  (112, some [([], sg_i_rootUp)]),
  (113, some [([], sg_i_size)]),
  (116, some [([], sg_s_NatPow)]),
  (117, some [([], sg_s_l5Trim)]),
  (118, some [([], sg_i_SpanOk)]),
  (120, some [([], sg_s_l31Rd_ord)]),
  (121, some [([], sg_s_l31Rd_pick)]),
  (122, some [([], sg_s_l1Width)]),
  (123, some [([], sg_s_l31Rd_nice)]),
  (125, some [([], sg_s_NatOf)]),
  (126, some [([], sg_s_l9Mul)]),
  (127, some [([], sg_s_l9One)]),
  (128, some [([], sg_s_SpanAbs)]),
  (129, some [([], sg_s_l9Pow)]),
  (130, some [([], sg_i_Span_nought)]),
  (131, some [([], sg_i_SpanHas)]),
  (132, some [([], sg_i_whole)]),
  (133, some [([], sg_i_either)]),
  (134, some [([], sg_s_NatRoot)]),
  (135, some [([], sg_s_l31Rd_bound)]),
  (136, some [([], sg_s_BitGap)]),
  (137, some [([], sg_s_FracOf)]),
  (138, some [([], sg_s_l1Least)]),
  (139, some [([], sg_s_l1Frac)]),
  (140, some [([], sg_s_l5Pow2)]),
  (141, some [([], sg_s_l5Gcd)]),
  (142, some [([], sg_s_l5Div)]),
  (143, some [([], sg_i_BitTop)]),
  (144, some [([], sg_i_value)]),
  (145, some [([], sg_i_natMul)]),
  (146, some [([], sg_i_lowest)]),
  (148, some [([], sg_i_natCmp)]),
  (150, some [([], sg_i_around)]),
  (151, some [([], sg_s_NatOk)]),
  (152, some [([], sg_s_l6One)]),
  (153, some [([], sg_s_l5Add)]),
  (154, some [([], sg_s_l5Cmp)]),
  (155, some [([], sg_s_l5Sub)]),
  (156, some [([], sg_s_l8Round)]),
  (157, some [([], sg_s_l8Frac)]),
  (158, some [([], sg_i_limit_sign)]),
  (159, some [([], sg_i_Frac_mul)]),
  (160, some [([], sg_i_divAbove_1)]),
  (161, some [([], sg_i_limit_by)]),
  (162, some [([], sg_s_l9Quot)]),
  (163, some [([], sg_s_PairMeet)]),
  (164, some [([], sg_s_PairHas)]),
  (169, some [([], sg_i_formatOf)]),
  (171, some [([], sg_s_l31Rd_pair)]),
  (172, some [([], sg_s_l31Rd_big)]),
  (173, some [([], sg_i_Frac_pow)]),
  (174, some [([], sg_i_root)]),
  (178, some [([], sg_i_PairOk)]),
  (180, some [([], sg_s_l5Times)]),
  (182, some [([], sg_s_l9Infinite)]),
  (183, some [([], sg_s_l9Power)]),
  (184, some [([], sg_i_PairHas)]),
  (185, some [([], sg_s_l5Root)]),
  (186, some [([], sg_s_l5Shl)]),
  (187, some [([], sg_s_l5DivSmall)]),
  (188, some [([], sg_s_l5Top)]),
  (189, some [([], sg_s_l5At)]),
  (190, some [([], sg_i_BitPartOf)]),
  (191, some [([], sg_i_natOf)]),
  (192, some [([], sg_i_natShift)]),
  (193, some [([], sg_i_trim)]),
  (194, some [([], sg_i_natGcd)]),
  (195, some [([], sg_i_natDiv)]),
  (196, some [([], sg_slices_Clone_int_int)]),
  (197, some [([], sg_i_truncated)]),
  (198, some [([], sg_s_l8Size)]),
  (199, some [([], sg_i_Frac_sign)]),
  (200, some [([], sg_i_Frac_div)]),
  (201, some [([], sg_s_l8Cmp)]),
  (207, some [([], sg_i_natPow)]),
  (208, some [([], sg_i_powerAbove)]),
  (209, some [([], sg_i_Frac_cmp)]),
  (212, some [([], sg_i_FracOk)]),
  (213, some [([], sg_s_l5Bits)]),
  (214, some [([], sg_math_bits_Len)]),
  (215, some [([], sg_i_natBits)]),
  (216, some [([], sg_i_BitMake)]),
  (217, some [([], sg_s_l8Scaled)]),
  (218, some [([], sg_s_NatSmall)]),
  (226, some [([], sg_i_nats)]),
  (228, some [([], sg_math_bits_Len64)]),
  (229, some [([], sg_math_bits_TrailingZeros64)]),
  (240, some [([241], sg_slices_ContainsFunc_int_int_i_nats_1)]),
  (241, some [([], sg_i_nats_1)]),
  (242, some [([], sg_i_NatOk)]),
  (255, some [([241], sg_slices_IndexFunc_int_int_i_nats_1)]),
  (256, some [([257], sg_slices_ContainsFunc_int_int'_i_NatOk_1)]),
  (257, some [([], sg_i_NatOk_1)]),
  (269, some [([257], sg_slices_IndexFunc_int_int'_i_NatOk_1)])]
end Go.Px.Seat
