/- Own texts, part S1: PxSeat. -/
import Derived.Test.YtbdlklncblklnaaGreatA5
import Derived.Test.YtbdlklncblklnaaGreatProg
set_option linter.unusedVariables false

namespace Go.Px.Seat
open Go
def T : Types := [
  (2, some ⟨(.int .i64), (.int .i64), 1, 8, false⟩),
  (3, some ⟨(.int .i64), (.int .i64), 1, 8, false⟩),
  (4, some ⟨.bool, .bool, 1, 1, false⟩),
  (5, some ⟨(.int .u8), (.int .u8), 1, 1, false⟩),
  (6, some ⟨(.int .u8), (.int .u8), 1, 1, false⟩),
  (7, some ⟨(.struct [(0, 2), (1, 3), (2, 4), (3, 6)]), (.cons (.int .i64) (.cons (.int .i64) (.cons .bool (.cons (.int .u8) .nil)))), 4, 24, true⟩),
  (8, some ⟨(.struct [(0, 2), (1, 3), (2, 4), (3, 6)]), (.cons (.int .i64) (.cons (.int .i64) (.cons .bool (.cons (.int .u8) .nil)))), 4, 24, true⟩),
  (9, some ⟨.string, .str, 1, 16, false⟩),
  (10, some ⟨.string, .str, 1, 16, false⟩),
  (11, some ⟨.string, .str, 1, 16, false⟩),
  (12, some ⟨(.int .u64), (.int .u64), 1, 8, false⟩),
  (13, some ⟨(.struct [(0, 9), (1, 12)]), (.cons .str (.cons (.int .u64) .nil)), 2, 24, false⟩),
  (14, some ⟨(.struct [(0, 9), (1, 12)]), (.cons .str (.cons (.int .u64) .nil)), 2, 24, false⟩),
  (21, some ⟨(.int .i32), (.int .i32), 1, 4, false⟩),
  (22, some ⟨(.slice 5), (.slice (.int .u8)), 1, 24, false⟩),
  (23, some ⟨(.struct [(0, 4), (1, 3), (2, 3)]), (.cons .bool (.cons (.int .i64) (.cons (.int .i64) .nil))), 3, 24, true⟩),
  (24, some ⟨(.struct [(0, 4), (1, 3), (2, 3)]), (.cons .bool (.cons (.int .i64) (.cons (.int .i64) .nil))), 3, 24, true⟩),
  (25, some ⟨(.slice 3), (.slice (.int .i64)), 1, 24, false⟩),
  (26, some ⟨(.struct [(0, 4), (1, 25), (2, 25)]), (.cons .bool (.cons (.slice (.int .i64)) (.cons (.slice (.int .i64)) .nil))), 3, 56, false⟩),
  (27, some ⟨(.struct [(0, 4), (1, 25), (2, 25)]), (.cons .bool (.cons (.slice (.int .i64)) (.cons (.slice (.int .i64)) .nil))), 3, 56, false⟩),
  (54, some ⟨(.struct [(0, 22), (1, 3)]), (.cons (.slice (.int .u8)) (.cons (.int .i64) .nil)), 2, 32, false⟩),
  (55, some ⟨(.struct [(0, 22), (1, 3)]), (.cons (.slice (.int .u8)) (.cons (.int .i64) .nil)), 2, 32, false⟩),
  (57, some ⟨(.struct [(0, 3), (1, 3)]), (.cons (.int .i64) (.cons (.int .i64) .nil)), 2, 16, true⟩),
  (58, some ⟨(.struct [(0, 3), (1, 3)]), (.cons (.int .i64) (.cons (.int .i64) .nil)), 2, 16, true⟩),
  (63, some ⟨(.int .u64), (.int .u64), 1, 8, false⟩),
  (67, some ⟨(.struct [(0, 3), (1, 3), (2, 3), (3, 3)]), (.cons (.int .i64) (.cons (.int .i64) (.cons (.int .i64) (.cons (.int .i64) .nil)))), 4, 32, true⟩),
  (68, some ⟨(.struct [(0, 3), (1, 3), (2, 3), (3, 3)]), (.cons (.int .i64) (.cons (.int .i64) (.cons (.int .i64) (.cons (.int .i64) .nil)))), 4, 32, true⟩),
  (71, some ⟨(.slice 27), (.slice (.cons .bool (.cons (.slice (.int .i64)) (.cons (.slice (.int .i64)) .nil)))), 1, 24, false⟩),
  (82, some ⟨(.slice 24), (.slice (.cons .bool (.cons (.int .i64) (.cons (.int .i64) .nil)))), 1, 24, false⟩),
  (86, some ⟨(.struct [(0, 4), (1, 25), (2, 25)]), (.cons .bool (.cons (.slice (.int .i64)) (.cons (.slice (.int .i64)) .nil))), 3, 56, false⟩),
  (87, some ⟨(.struct [(0, 4), (1, 25), (2, 25)]), (.cons .bool (.cons (.slice (.int .i64)) (.cons (.slice (.int .i64)) .nil))), 3, 56, false⟩),
  (88, some ⟨(.struct [(0, 4), (1, 63), (2, 3)]), (.cons .bool (.cons (.int .u64) (.cons (.int .i64) .nil))), 3, 24, true⟩),
  (89, some ⟨(.struct [(0, 4), (1, 63), (2, 3)]), (.cons .bool (.cons (.int .u64) (.cons (.int .i64) .nil))), 3, 24, true⟩),
  (96, some ⟨(.int .u64), (.int .u64), 1, 8, false⟩),
  (106, some ⟨(.slice 25), (.slice (.slice (.int .i64))), 1, 24, false⟩),
  (122, some ⟨(.int .u32), (.int .u32), 1, 4, false⟩),
  (130, some ⟨(.int .u8), (.int .u8), 1, 1, false⟩),
  (131, some ⟨(.int .u8), (.int .u8), 1, 1, false⟩),
  (134, some ⟨(.int .i32), (.int .i32), 1, 4, false⟩),
  (135, some ⟨(.int .i32), (.int .i32), 1, 4, false⟩)]
noncomputable def F : Funcs := [(3, some Go.Proofs.Tryz.f3), (4, some Go.Proofs.Tryz.f4), (5, some Go.Proofs.Tryz.f5), (6, some Go.Proofs.Tryz.f6), (7, some Go.Proofs.Tryz.f7), (8, some Go.Proofs.Tryz.f8), (9, some Go.Proofs.Tryz.f9), (10, some Go.Proofs.Tryz.f10), (11, some Go.Proofs.Tryz.f11), (12, some Go.Proofs.Tryz.f12), (13, some Go.Proofs.Tryz.f13), (14, some Go.Proofs.Tryz.f14), (15, some Go.Proofs.Tryz.f15), (16, some Go.Proofs.Tryz.f16), (17, some Go.Proofs.Tryz.f17), (18, some Go.Proofs.Tryz.f18), (19, some Go.Proofs.Tryz.f19), (20, some Go.Proofs.Tryz.f20), (21, some Go.Proofs.Tryz.f21), (22, some Go.Proofs.Tryz.f22), (23, some Go.Proofs.Tryz.f23), (24, some Go.Proofs.Tryz.f24), (25, some Go.Proofs.Tryz.f25), (26, some Go.Proofs.Tryz.f26), (27, some Go.Proofs.Tryz.f27), (28, some Go.Proofs.Tryz.f28), (29, some Go.Proofs.Tryz.f29), (30, some Go.Proofs.Tryz.f30), (31, some Go.Proofs.Tryz.f31), (32, some Go.Proofs.Tryz.f32), (33, some Go.Proofs.Tryz.f33), (34, some Go.Proofs.Tryz.f34), (35, some Go.Proofs.Tryz.f35), (36, some Go.Proofs.Tryz.f36), (37, some Go.Proofs.Tryz.f37), (38, some Go.Proofs.Tryz.f38), (39, some Go.Proofs.Tryz.f39), (40, some Go.Proofs.Tryz.f40), (41, some Go.Proofs.Tryz.f41), (42, some Go.Proofs.Tryz.f42), (43, some Go.Proofs.Tryz.f43), (44, some Go.Proofs.Tryz.f44), (45, some Go.Proofs.Tryz.f45), (46, some Go.Proofs.Tryz.f46), (47, some Go.Proofs.Tryz.f47), (48, some Go.Proofs.Tryz.f48), (49, some Go.Proofs.Tryz.f49), (50, some Go.Proofs.Tryz.f50), (51, some Go.Proofs.Tryz.f51), (52, some Go.Proofs.Tryz.f52), (53, some Go.Proofs.Tryz.f53), (54, some Go.Proofs.Tryz.f54), (55, some Go.Proofs.Tryz.f55), (56, some Go.Proofs.Tryz.f56), (57, some Go.Proofs.Tryz.f57), (58, some Go.Proofs.Tryz.f58), (59, some Go.Proofs.Tryz.f59), (60, some Go.Proofs.Tryz.f60), (61, some Go.Proofs.Tryz.f61), (62, some Go.Proofs.Tryz.f62), (63, some Go.Proofs.Tryz.f63), (64, some Go.Proofs.Tryz.f64), (65, some Go.Proofs.Tryz.f65), (66, some Go.Proofs.Tryz.f66), (67, some Go.Proofs.Tryz.f67), (68, some Go.Proofs.Tryz.f68), (69, some Go.Proofs.Tryz.f69), (70, some Go.Proofs.Tryz.f70), (71, some Go.Proofs.Tryz.f71), (72, some Go.Proofs.Tryz.f72), (73, some Go.Proofs.Tryz.f73), (74, some Go.Proofs.Tryz.f74), (75, some Go.Proofs.Tryz.f75), (76, some Go.Proofs.Tryz.f76), (77, some Go.Proofs.Tryz.f77), (78, some Go.Proofs.Tryz.f78), (79, some Go.Proofs.Tryz.f79), (80, some Go.Proofs.Tryz.f80), (81, some Go.Proofs.Tryz.f81), (82, some Go.Proofs.Tryz.f82), (83, some Go.Proofs.Tryz.f83), (84, some Go.Proofs.Tryz.f84), (85, some Go.Proofs.Tryz.f85), (86, some Go.Proofs.Tryz.f86), (87, some Go.Proofs.Tryz.f87), (88, some Go.Proofs.Tryz.f88), (89, some Go.Proofs.Tryz.f89), (90, some Go.Proofs.Tryz.f90), (91, some Go.Proofs.Tryz.f91), (92, some Go.Proofs.Tryz.f92), (93, some Go.Proofs.Tryz.f93), (94, some Go.Proofs.Tryz.f94), (95, some Go.Proofs.Tryz.f95), (96, some Go.Proofs.Tryz.f96), (97, some Go.Proofs.Tryz.f97), (98, some Go.Proofs.Tryz.f98), (99, some Go.Proofs.Tryz.f99), (100, some Go.Proofs.Tryz.f100), (101, some Go.Proofs.Tryz.f101), (102, some Go.Proofs.Tryz.f102), (103, some Go.Proofs.Tryz.f103), (104, some Go.Proofs.Tryz.f104), (106, some Go.Proofs.Tryz.f106), (107, some Go.Proofs.Tryz.f107), (108, some Go.Proofs.Tryz.f108)]
def sg_w_FnRel : Sig := ⟨[.cell (.val (.slice (.int .u8)) false), .cell (.val (.slice (.int .u8)) false)], [(0, [.val .bool true])]⟩
def sg_s_Fine : Sig := ⟨[.cell (.val (.slice (.int .u8)) false)], [(0, [.val (.int .i64) true]), (1, [.val .bool true, .val (.int .i64) true, .val (.int .i64) true]), (1, [.val .bool true, .val (.slice (.int .i64)) true, .val (.slice (.int .i64)) true])]⟩
def sg_s_FineOf : Sig := ⟨[.cell (.val (.int .i64) false), .cell (.val (.slice (.int .u8)) false)], [(1, [.val .bool true, .val (.int .i64) true, .val (.int .i64) true]), (1, [.val .bool true, .val (.slice (.int .i64)) true, .val (.slice (.int .i64)) true])]⟩
def sg_i_RelSure : Sig := ⟨[.cell (.val (.int .i64) false), .cell (.val (.int .i64) false), .agg [.val .bool false, .val (.int .i64) false, .val (.int .i64) false], .agg [.val .bool false, .val (.int .i64) false, .val (.int .i64) false]], [(0, [.val (.int .i64) true])]⟩
def sg_i_RelHolds : Sig := ⟨[.cell (.val (.int .i64) false), .agg [.val .bool false, .val (.slice (.int .i64)) false, .val (.slice (.int .i64)) false], .agg [.val .bool false, .val (.slice (.int .i64)) false, .val (.slice (.int .i64)) false]], [(0, [.val .bool true])]⟩
def sg_s_RelSure : Sig := ⟨[.cell (.val (.int .i64) false), .cell (.val (.int .i64) false), .agg [.val .bool false, .val (.int .i64) false, .val (.int .i64) false], .agg [.val .bool false, .val (.int .i64) false, .val (.int .i64) false]], [(0, [.val (.int .i64) true])]⟩
def sg_s_RelHolds : Sig := ⟨[.cell (.val (.int .i64) false), .agg [.val .bool false, .val (.slice (.int .i64)) false, .val (.slice (.int .i64)) false], .agg [.val .bool false, .val (.slice (.int .i64)) false, .val (.slice (.int .i64)) false]], [(0, [.val .bool true])]⟩
def sg_i_RelMeet : Sig := ⟨[.cell (.val (.int .i64) false), .cell (.val (.int .i64) false), .agg [.val .bool false, .val (.int .i64) false, .val (.int .i64) false], .agg [.val .bool false, .val (.int .i64) false, .val (.int .i64) false]], [(1, [.val .bool true, .val (.int .i64) true, .val (.int .i64) true]), (1, [.val .bool true, .val (.int .i64) true, .val (.int .i64) true])]⟩
def sg_w_psIs : Sig := ⟨[.agg [.val .bool false, .val (.int .i64) false, .val (.int .i64) false], .agg [.val .bool false, .val (.int .i64) false, .val (.int .i64) false]], [(0, [.val .bool true])]⟩
def sg_w_psIn : Sig := ⟨[.cell (.val (.int .i64) false), .agg [.val .bool false, .val (.int .i64) false, .val (.int .i64) false], .agg [.val .bool false, .val (.slice (.int .i64)) false, .val (.slice (.int .i64)) false]], [(0, [.val .bool true])]⟩
def sg_s_l31Open : Sig := ⟨[.cell (.val (.slice (.int .u8)) false)], [(2, [.val (.slice (.int .u8)) false, .val (.int .i64) false])]⟩
def sg_s_l31Rd_real : Sig := ⟨[.box [.val (.slice (.int .u8)) false, .val (.int .i64) false]], [(0, [.val (.int .i64) true])]⟩
def sg_s_l31Rd_fine : Sig := ⟨[.box [.val (.slice (.int .u8)) false, .val (.int .i64) false], .cell (.val (.int .i64) false)], [(1, [.val .bool true, .val (.int .i64) true, .val (.int .i64) true])]⟩
def sg_s_l31Rd_inside : Sig := ⟨[.box [.val (.slice (.int .u8)) false, .val (.int .i64) false], .cell (.val (.int .i64) false), .agg [.val .bool false, .val (.int .i64) false, .val (.int .i64) false]], [(1, [.val .bool true, .val (.slice (.int .i64)) true, .val (.slice (.int .i64)) true])]⟩
def sg_i_SpanOk : Sig := ⟨[.cell (.val (.int .i64) false), .agg [.val .bool false, .val (.int .i64) false, .val (.int .i64) false]], [(0, [.val .bool true])]⟩
def sg_i_in : Sig := ⟨[.cell (.val (.int .i64) false), .cell (.val (.int .i64) false), .cell (.val (.int .i64) false)], [(0, [.val .bool true])]⟩
def sg_i_SpanMeet : Sig := ⟨[.cell (.val (.int .i64) false), .agg [.val .bool false, .val (.int .i64) false, .val (.int .i64) false], .agg [.val .bool false, .val (.int .i64) false, .val (.int .i64) false]], [(1, [.val .bool true, .val (.int .i64) true, .val (.int .i64) true])]⟩
def sg_i_fracs : Sig := ⟨[.cell (.val (.slice (.cons .bool (.cons (.slice (.int .i64)) (.cons (.slice (.int .i64)) .nil)))) false)], [(0, [.val .bool true])]⟩
def sg_i_Frac_cmp : Sig := ⟨[.agg [.val .bool false, .val (.slice (.int .i64)) false, .val (.slice (.int .i64)) false], .agg [.val .bool false, .val (.slice (.int .i64)) false, .val (.slice (.int .i64)) false]], [(0, [.val (.int .i64) true])]⟩
def sg_s_SpanOk : Sig := ⟨[.cell (.val (.int .i64) false), .agg [.val .bool false, .val (.int .i64) false, .val (.int .i64) false]], [(0, [.val .bool true])]⟩
def sg_s_l10Rel : Sig := ⟨[.cell (.val (.int .i64) false)], [(0, [.val .bool true])]⟩
def sg_s_SpanMeet : Sig := ⟨[.cell (.val (.int .i64) false), .agg [.val .bool false, .val (.int .i64) false, .val (.int .i64) false], .agg [.val .bool false, .val (.int .i64) false, .val (.int .i64) false]], [(1, [.val .bool true, .val (.int .i64) true, .val (.int .i64) true])]⟩
def sg_s_FracCmp : Sig := ⟨[.agg [.val .bool false, .val (.slice (.int .i64)) false, .val (.slice (.int .i64)) false], .agg [.val .bool false, .val (.slice (.int .i64)) false, .val (.slice (.int .i64)) false]], [(0, [.val (.int .i64) true])]⟩
def sg_i_full : Sig := ⟨[.cell (.val (.int .i64) false), .cell (.val (.slice (.cons .bool (.cons (.int .i64) (.cons (.int .i64) .nil)))) false)], [(0, [.val .bool true])]⟩
def sg_i_some : Sig := ⟨[.cell (.val (.int .i64) false), .cell (.val (.int .i64) false)], [(1, [.val .bool true, .val (.int .i64) true, .val (.int .i64) true])]⟩
def sg_i_BitTop : Sig := ⟨[.cell (.val (.int .i64) false)], [(0, [.val (.int .i64) true])]⟩
def sg_i_from : Sig := ⟨[.cell (.val (.int .i64) false), .cell (.val (.int .i64) false)], [(1, [.val .bool true, .val (.int .i64) true, .val (.int .i64) true])]⟩
def sg_s_SpanHas : Sig := ⟨[.cell (.val (.int .i64) false), .agg [.val .bool false, .val (.int .i64) false, .val (.int .i64) false], .agg [.val .bool false, .val (.slice (.int .i64)) false, .val (.slice (.int .i64)) false]], [(0, [.val .bool true])]⟩
def sg_s_l31Rd_pick : Sig := ⟨[.box [.val (.slice (.int .u8)) false, .val (.int .i64) false], .cell (.val (.int .i64) false)], [(0, [.val (.int .i64) true])]⟩
def sg_s_l31Rd_bound : Sig := ⟨[.box [.val (.slice (.int .u8)) false, .val (.int .i64) false], .cell (.val (.int .i64) false)], [(0, [.val (.int .i64) true])]⟩
def sg_s_PairOk : Sig := ⟨[.cell (.val (.int .i64) false), .agg [.val (.int .i64) false, .val (.int .i64) false]], [(0, [.val .bool true])]⟩
def sg_s_l9Of : Sig := ⟨[.cell (.val (.int .i64) false), .cell (.val (.int .i64) false)], [(1, [.val .bool true, .val (.int .i64) true, .val (.int .i64) true])]⟩
def sg_s_l9One : Sig := ⟨[.cell (.val (.int .i64) false)], [(0, [.val (.int .i64) true])]⟩
def sg_s_BitTop : Sig := ⟨[.cell (.val (.int .i64) false)], [(0, [.val (.int .i64) true])]⟩
def sg_s_l3Min : Sig := ⟨[.cell (.val (.int .i64) false), .cell (.val (.int .i64) false)], [(0, [.val (.int .i64) true])]⟩
def sg_s_l3Max : Sig := ⟨[.cell (.val (.int .i64) false), .cell (.val (.int .i64) false)], [(0, [.val (.int .i64) true])]⟩
def sg_s_FloatFrac : Sig := ⟨[.cell (.val (.int .i64) false), .cell (.val (.int .i64) false)], [(1, [.val .bool true, .val (.slice (.int .i64)) true, .val (.slice (.int .i64)) true]), (0, [.val .bool true])]⟩
def sg_s_FracInt : Sig := ⟨[.cell (.val (.int .i64) false)], [(1, [.val .bool true, .val (.slice (.int .i64)) true, .val (.slice (.int .i64)) true])]⟩
def sg_s_BitGap : Sig := ⟨[.cell (.val (.int .i64) false), .cell (.val (.int .i64) false)], [(0, [.val (.int .u64) true])]⟩
def sg_s_FracSub : Sig := ⟨[.agg [.val .bool false, .val (.slice (.int .i64)) false, .val (.slice (.int .i64)) false], .agg [.val .bool false, .val (.slice (.int .i64)) false, .val (.slice (.int .i64)) false]], [(1, [.val .bool true, .val (.slice (.int .i64)) true, .val (.slice (.int .i64)) true]), (0, [.val .bool true])]⟩
def sg_s_FracOf : Sig := ⟨[.cell (.val .bool false), .cell (.val (.slice (.int .i64)) false), .cell (.val (.slice (.int .i64)) false)], [(1, [.val .bool true, .val (.slice (.int .i64)) true, .val (.slice (.int .i64)) true]), (0, [.val .bool true])]⟩
def sg_s_FracMul : Sig := ⟨[.agg [.val .bool false, .val (.slice (.int .i64)) false, .val (.slice (.int .i64)) false], .agg [.val .bool false, .val (.slice (.int .i64)) false, .val (.slice (.int .i64)) false]], [(1, [.val .bool true, .val (.slice (.int .i64)) true, .val (.slice (.int .i64)) true]), (0, [.val .bool true])]⟩
def sg_s_FracAdd : Sig := ⟨[.agg [.val .bool false, .val (.slice (.int .i64)) false, .val (.slice (.int .i64)) false], .agg [.val .bool false, .val (.slice (.int .i64)) false, .val (.slice (.int .i64)) false]], [(1, [.val .bool true, .val (.slice (.int .i64)) true, .val (.slice (.int .i64)) true]), (0, [.val .bool true])]⟩
def sg_i_formatOf : Sig := ⟨[.cell (.val (.int .i64) false)], [(1, [.val (.int .i64) true, .val (.int .i64) true, .val (.int .i64) true, .val (.int .i64) true]), (0, [.val .bool true])]⟩
def sg_i_PairOk : Sig := ⟨[.cell (.val (.int .i64) false), .agg [.val (.int .i64) false, .val (.int .i64) false]], [(0, [.val .bool true])]⟩
def sg_i_FracOk : Sig := ⟨[.agg [.val .bool false, .val (.slice (.int .i64)) false, .val (.slice (.int .i64)) false]], [(0, [.val .bool true])]⟩
def sg_i_Frac_sign : Sig := ⟨[.agg [.val .bool false, .val (.slice (.int .i64)) false, .val (.slice (.int .i64)) false]], [(0, [.val (.int .i64) true])]⟩
def sg_i_natCmp : Sig := ⟨[.cell (.val (.slice (.int .i64)) false), .cell (.val (.slice (.int .i64)) false)], [(0, [.val (.int .i64) true])]⟩
def sg_i_natMul : Sig := ⟨[.cell (.val (.slice (.int .i64)) false), .cell (.val (.slice (.int .i64)) false)], [(0, [.val (.slice (.int .i64)) true])]⟩
def sg_s_l1Width : Sig := ⟨[.cell (.val (.int .i64) false)], [(0, [.val .bool true])]⟩
def sg_s_l9Pair : Sig := ⟨[.agg [.val .bool false, .val (.int .i64) false, .val (.int .i64) false]], [(1, [.val (.int .i64) true, .val (.int .i64) true])]⟩
def sg_s_l9Both : Sig := ⟨[.cell (.val (.int .i64) false), .agg [.val .bool false, .val (.int .i64) false, .val (.int .i64) false], .agg [.val .bool false, .val (.int .i64) false, .val (.int .i64) false]], [(0, [.val .bool true])]⟩
def sg_s_PairMeet : Sig := ⟨[.cell (.val (.int .i64) false), .agg [.val (.int .i64) false, .val (.int .i64) false], .agg [.val (.int .i64) false, .val (.int .i64) false]], [(1, [.val (.int .i64) true, .val (.int .i64) true]), (0, [.val .bool true])]⟩
def sg_s_FracOk : Sig := ⟨[.agg [.val .bool false, .val (.slice (.int .i64)) false, .val (.slice (.int .i64)) false]], [(0, [.val .bool true])]⟩
def sg_s_l6Sum : Sig := ⟨[.agg [.val .bool false, .val (.slice (.int .i64)) false, .val (.slice (.int .i64)) false], .agg [.val .bool false, .val (.slice (.int .i64)) false, .val (.slice (.int .i64)) false]], [(0, [.val .bool true]), (0, [.val (.slice (.int .i64)) true]), (0, [.val (.slice (.int .i64)) true])]⟩
def sg_s_l6Neg : Sig := ⟨[.agg [.val .bool false, .val (.slice (.int .i64)) false, .val (.slice (.int .i64)) false]], [(1, [.val .bool true, .val (.slice (.int .i64)) true, .val (.slice (.int .i64)) true])]⟩
def sg_s_PairHas : Sig := ⟨[.cell (.val (.int .i64) false), .agg [.val (.int .i64) false, .val (.int .i64) false], .agg [.val .bool false, .val (.slice (.int .i64)) false, .val (.slice (.int .i64)) false]], [(0, [.val .bool true])]⟩
def sg_s_l31Rd_nice : Sig := ⟨[.box [.val (.slice (.int .u8)) false, .val (.int .i64) false], .cell (.val (.int .i64) false)], [(0, [.val (.int .i64) true])]⟩
def sg_s_l31Rd_ord : Sig := ⟨[.box [.val (.slice (.int .u8)) false, .val (.int .i64) false], .cell (.val (.int .i64) false)], [(0, [.val (.int .i64) true])]⟩
def sg_s_BitOk : Sig := ⟨[.cell (.val (.int .i64) false), .cell (.val (.int .i64) false)], [(0, [.val .bool true])]⟩
def sg_s_l8Round : Sig := ⟨[.cell (.val (.int .i64) false), .agg [.val .bool false, .val (.slice (.int .i64)) false, .val (.slice (.int .i64)) false], .cell (.val .bool false)], [(0, [.val (.int .i64) true])]⟩
def sg_s_BitPartOf : Sig := ⟨[.cell (.val (.int .i64) false), .cell (.val (.int .i64) false)], [(1, [.val .bool true, .val (.int .u64) true, .val (.int .i64) true]), (0, [.val .bool true])]⟩
def sg_s_l8Of : Sig := ⟨[.cell (.val (.int .i64) false), .cell (.val (.int .i64) false)], [(1, [.val .bool true, .val (.slice (.int .i64)) true, .val (.slice (.int .i64)) true])]⟩
def sg_s_l6Make : Sig := ⟨[.cell (.val .bool false), .cell (.val (.slice (.int .i64)) false), .cell (.val (.slice (.int .i64)) false)], [(1, [.val .bool true, .val (.slice (.int .i64)) true, .val (.slice (.int .i64)) true]), (0, [.val .bool true])]⟩
def sg_s_NatOf : Sig := ⟨[.cell (.val (.int .u64) false)], [(0, [.val (.slice (.int .i64)) true])]⟩
def sg_s_NatOk : Sig := ⟨[.cell (.val (.slice (.int .i64)) false)], [(0, [.val .bool true])]⟩
def sg_s_l5Mul : Sig := ⟨[.cell (.val (.slice (.int .i64)) false), .cell (.val (.slice (.int .i64)) false)], [(0, [.val (.slice (.int .i64)) true])]⟩
def sg_i_BitOk : Sig := ⟨[.cell (.val (.int .i64) false), .cell (.val (.int .i64) false)], [(0, [.val .bool true])]⟩
def sg_i_nats : Sig := ⟨[.cell (.val (.slice (.slice (.int .i64))) false)], [(0, [.val .bool true])]⟩
def sg_i_natGcd : Sig := ⟨[.cell (.val (.slice (.int .i64)) false), .cell (.val (.slice (.int .i64)) false)], [(0, [.val (.slice (.int .i64)) false])]⟩
def sg_i_trim : Sig := ⟨[.cell (.val (.slice (.int .i64)) false)], [(0, [.val (.slice (.int .i64)) false])]⟩
def sg_s_l6One : Sig := ⟨[.cell (.val (.slice (.int .i64)) false)], [(0, [.val .bool true])]⟩
def sg_s_l5Gcd : Sig := ⟨[.cell (.val (.slice (.int .i64)) false), .cell (.val (.slice (.int .i64)) false)], [(0, [.val (.slice (.int .i64)) true])]⟩
def sg_s_l5Add : Sig := ⟨[.cell (.val (.slice (.int .i64)) false), .cell (.val (.slice (.int .i64)) false)], [(0, [.val (.slice (.int .i64)) true])]⟩
def sg_s_l5Cmp : Sig := ⟨[.cell (.val (.slice (.int .i64)) false), .cell (.val (.slice (.int .i64)) false)], [(0, [.val (.int .i64) true])]⟩
def sg_s_l5Sub : Sig := ⟨[.cell (.val (.slice (.int .i64)) false), .cell (.val (.slice (.int .i64)) false)], [(0, [.val (.slice (.int .i64)) true])]⟩
def sg_s_l5Trim : Sig := ⟨[.cell (.val (.slice (.int .i64)) false)], [(0, [.val (.slice (.int .i64)) true])]⟩
def sg_s_l8Cmp : Sig := ⟨[.agg [.val .bool false, .val (.slice (.int .i64)) false, .val (.slice (.int .i64)) false], .agg [.val .bool false, .val (.slice (.int .i64)) false, .val (.slice (.int .i64)) false]], [(0, [.val (.int .i64) true])]⟩
def sg_s_l8Frac : Sig := ⟨[.agg [.val .bool false, .val (.slice (.int .i64)) false, .val (.slice (.int .i64)) false]], [(1, [.val .bool false, .val (.slice (.int .i64)) false, .val (.slice (.int .i64)) false])]⟩
def sg_s_l31Rd_big : Sig := ⟨[.box [.val (.slice (.int .u8)) false, .val (.int .i64) false]], [(0, [.val (.int .u64) true])]⟩
def sg_s_l8Size : Sig := ⟨[.cell (.val (.int .i64) false), .agg [.val .bool false, .val (.slice (.int .i64)) false, .val (.slice (.int .i64)) false]], [(0, [.val (.int .i64) true]), (0, [.val .bool true])]⟩
def sg_s_l1Least : Sig := ⟨[.cell (.val (.int .i64) false)], [(0, [.val (.int .i64) true])]⟩
def sg_s_l1Frac : Sig := ⟨[.cell (.val (.int .i64) false)], [(0, [.val (.int .i64) true])]⟩
def sg_s_l5Pow2 : Sig := ⟨[.cell (.val (.int .i64) false)], [(0, [.val (.slice (.int .i64)) true])]⟩
def sg_s_l5Div : Sig := ⟨[.cell (.val (.slice (.int .i64)) false), .cell (.val (.slice (.int .i64)) false)], [(0, [.val (.slice (.int .i64)) true]), (0, [.val (.slice (.int .i64)) true])]⟩
def sg_slices_ContainsFunc_int_int_i_nats_1 : Sig := ⟨[.cell (.val (.slice (.slice (.int .i64))) false), .fn 89 []], [(0, [.val .bool true])]⟩
def sg_i_nats_1 : Sig := ⟨[.cell (.val (.slice (.int .i64)) false)], [(0, [.val .bool true])]⟩
def sg_i_NatOk : Sig := ⟨[.cell (.val (.slice (.int .i64)) false)], [(0, [.val .bool true])]⟩
def sg_i_natDiv : Sig := ⟨[.cell (.val (.slice (.int .i64)) false), .cell (.val (.slice (.int .i64)) false)], [(0, [.val (.slice (.int .i64)) false]), (0, [.val (.slice (.int .i64)) false])]⟩
def sg_s_l5At : Sig := ⟨[.cell (.val (.slice (.int .i64)) false), .cell (.val (.int .i64) false)], [(0, [.val (.int .i64) true])]⟩
def sg_s_l5Bits : Sig := ⟨[.cell (.val (.slice (.int .i64)) false)], [(0, [.val (.int .i64) true])]⟩
def sg_s_l8Scaled : Sig := ⟨[.agg [.val .bool false, .val (.slice (.int .i64)) false, .val (.slice (.int .i64)) false], .cell (.val (.int .i64) false)], [(0, [.val (.slice (.int .i64)) true]), (0, [.val .bool true])]⟩
def sg_s_NatSmall : Sig := ⟨[.cell (.val (.slice (.int .i64)) false)], [(0, [.val (.int .u64) true]), (0, [.val .bool true])]⟩
def sg_s_l5Shl : Sig := ⟨[.cell (.val (.slice (.int .i64)) false), .cell (.val (.int .i64) false)], [(0, [.val (.slice (.int .i64)) true])]⟩
def sg_s_l5DivSmall : Sig := ⟨[.cell (.val (.slice (.int .i64)) false), .cell (.val (.int .i64) false)], [(0, [.val (.slice (.int .i64)) true]), (0, [.val (.int .i64) true])]⟩
def sg_s_l5Times : Sig := ⟨[.cell (.val (.slice (.int .i64)) false), .cell (.val (.int .i64) false)], [(0, [.val (.slice (.int .i64)) true])]⟩
def sg_s_l5Top : Sig := ⟨[.cell (.val (.slice (.int .i64)) false), .cell (.val (.int .i64) false)], [(0, [.val (.slice (.int .i64)) true])]⟩
def sg_slices_IndexFunc_int_int_i_nats_1 : Sig := ⟨[.cell (.val (.slice (.slice (.int .i64))) false), .fn 89 []], [(0, [.val (.int .i64) true])]⟩
def sg_slices_ContainsFunc_int_int'_i_NatOk_1 : Sig := ⟨[.cell (.val (.slice (.int .i64)) false), .fn 102 []], [(0, [.val .bool true])]⟩
def sg_i_NatOk_1 : Sig := ⟨[.cell (.val (.int .i64) false)], [(0, [.val .bool true])]⟩
def sg_math_bits_Len : Sig := ⟨[.cell (.val (.int .u64) false)], [(0, [.val (.int .i64) true])]⟩
def sg_i_natShift : Sig := ⟨[.cell (.val (.slice (.int .i64)) false), .cell (.val (.int .i64) false)], [(0, [.val (.slice (.int .i64)) true])]⟩
def sg_slices_Clone_int_int : Sig := ⟨[.cell (.val (.slice (.int .i64)) false)], [(0, [.row (.int .i64) 3 true])]⟩
def sg_slices_IndexFunc_int_int'_i_NatOk_1 : Sig := ⟨[.cell (.val (.slice (.int .i64)) false), .fn 102 []], [(0, [.val (.int .i64) true])]⟩
def sg_math_bits_Len32 : Sig := ⟨[.cell (.val (.int .u32) false)], [(0, [.val (.int .i64) true])]⟩
def sg_math_bits_Len64 : Sig := ⟨[.cell (.val (.int .u64) false)], [(0, [.val (.int .i64) true])]⟩
def S : Sigs := [
  (3, some [([], sg_w_FnRel)]),
  (4, some [([], sg_s_Fine)]),
  (5, some [([], sg_s_FineOf)]),
  (6, some [([], sg_i_RelSure)]),
  (7, some [([], sg_i_RelHolds)]),
  (8, some [([], sg_s_RelSure)]),
  (9, some [([], sg_s_RelHolds)]),
  (10, some [([], sg_i_RelMeet)]),
  (11, some [([], sg_w_psIs)]),
  (12, some [([], sg_w_psIn)]),
  (13, some [([], sg_s_l31Open)]),
  (14, some [([], sg_s_l31Rd_real)]),
  (15, some [([], sg_s_l31Rd_fine)]),
  (16, some [([], sg_s_l31Rd_inside)]),
  (17, some [([], sg_i_SpanOk)]),
  (18, some [([], sg_i_in)]),
  (19, some [([], sg_i_SpanMeet)]),
  (20, some [([], sg_i_fracs)]),
  (21, some [([], sg_i_Frac_cmp)]),
  (22, some [([], sg_s_SpanOk)]),
  (23, some [([], sg_s_l10Rel)]),
  (24, some [([], sg_s_SpanMeet)]),
  (25, some [([], sg_s_FracCmp)]),
  (26, some [([], sg_i_full)]),
  (27, some [([], sg_i_some)]),
  (28, some [([], sg_i_BitTop)]),
  (29, some [([], sg_i_from)]),
  (30, some [([], sg_s_SpanHas)]),
  (31, some [([], sg_s_l31Rd_pick)]),
  (32, some [([], sg_s_l31Rd_bound)]),
  (33, some [([], sg_s_PairOk)]),
  (34, some [([], sg_s_l9Of)]),
  (35, some [([], sg_s_l9One)]),
  (36, some [([], sg_s_BitTop)]),
  (37, some [([], sg_s_l3Min)]),
  (38, some [([], sg_s_l3Max)]),
  (39, some [([], sg_s_FloatFrac)]),
  (40, some [([], sg_s_FracInt)]),
  (41, some [([], sg_s_BitGap)]),
  (42, some [([], sg_s_FracSub)]),
  (43, some [([], sg_s_FracOf)]),
  (44, some [([], sg_s_FracMul)]),
  (45, some [([], sg_s_FracAdd)]),
  (46, some [([], sg_i_formatOf)]),
  (47, some [([], sg_i_PairOk)]),
  (48, some [([], sg_i_FracOk)]),
  (49, some [([], sg_i_Frac_sign)]),
  (50, some [([], sg_i_natCmp)]),
  (51, some [([], sg_i_natMul)]),
  (52, some [([], sg_s_l1Width)]),
  (53, some [([], sg_s_l9Pair)]),
  (54, some [([], sg_s_l9Both)]),
  (55, some [([], sg_s_PairMeet)]),
  (56, some [([], sg_s_FracOk)]),
  (57, some [([], sg_s_l6Sum)]),
  (58, some [([], sg_s_l6Neg)]),
  (59, some [([], sg_s_PairHas)]),
  (60, some [([], sg_s_l31Rd_nice)]),
  (61, some [([], sg_s_l31Rd_ord)]),
  (62, some [([], sg_s_BitOk)]),
  (63, some [([], sg_s_l8Round)]),
  (64, some [([], sg_s_BitPartOf)]),
  (65, some [([], sg_s_l8Of)]),
  (66, some [([], sg_s_l6Make)]),
  (67, some [([], sg_s_NatOf)]),
  (68, some [([], sg_s_NatOk)]),
  (69, some [([], sg_s_l5Mul)]),
  (70, some [([], sg_i_BitOk)]),
  (71, some [([], sg_i_nats)]),
  (72, some [([], sg_i_natGcd)]),
  (73, some [([], sg_i_trim)]),
  (74, some [([], sg_s_l6One)]),
  (75, some [([], sg_s_l5Gcd)]),
  (76, some [([], sg_s_l5Add)]),
  (77, some [([], sg_s_l5Cmp)]),
  (78, some [([], sg_s_l5Sub)]),
  (79, some [([], sg_s_l5Trim)]),
  (80, some [([], sg_s_l8Cmp)]),
  (81, some [([], sg_s_l8Frac)]),
  (82, some [([], sg_s_l31Rd_big)]),
  (83, some [([], sg_s_l8Size)]),
  (84, some [([], sg_s_l1Least)]),
  (85, some [([], sg_s_l1Frac)]),
  (86, some [([], sg_s_l5Pow2)]),
  (87, some [([], sg_s_l5Div)]),
  (88, some [([89], sg_slices_ContainsFunc_int_int_i_nats_1)]),
  (89, some [([], sg_i_nats_1)]),
  (90, some [([], sg_i_NatOk)]),
  (91, some [([], sg_i_natDiv)]),
  (92, some [([], sg_s_l5At)]),
  (93, some [([], sg_s_l5Bits)]),
  (94, some [([], sg_s_l8Scaled)]),
  (95, some [([], sg_s_NatSmall)]),
  (96, some [([], sg_s_l5Shl)]),
  (97, some [([], sg_s_l5DivSmall)]),
  (98, some [([], sg_s_l5Times)]),
  (99, some [([], sg_s_l5Top)]),
  (100, some [([89], sg_slices_IndexFunc_int_int_i_nats_1)]),
  (101, some [([102], sg_slices_ContainsFunc_int_int'_i_NatOk_1)]),
  (102, some [([], sg_i_NatOk_1)]),
  (103, some [([], sg_math_bits_Len)]),
  (104, some [([], sg_i_natShift)]),
  (105, some [([], sg_slices_Clone_int_int)]),
  (106, some [([102], sg_slices_IndexFunc_int_int'_i_NatOk_1)]),
  (107, some [([], sg_math_bits_Len32)]),
  (108, some [([], sg_math_bits_Len64)])]
end Go.Px.Seat
