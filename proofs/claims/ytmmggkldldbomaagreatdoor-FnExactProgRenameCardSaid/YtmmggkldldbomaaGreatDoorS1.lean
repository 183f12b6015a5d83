/- Own texts, part S1: PxSeat. -/
import Derived.Test.YtmmggkldldbomaaGreatDoorA5
import Derived.Test.YtmmggkldldbomaaGreatDoorProg
set_option linter.unusedVariables false
namespace Go.Px.Seat
open Go
def T : Types := [
 (2, some ⟨(.int .i64), (.int .i64), 1, 8, false⟩),
 (3, some ⟨(.int .i64), (.int .i64), 1, 8, false⟩),
 (4, some ⟨.bool, .bool, 1, 1, false⟩),
 (5, some ⟨(.int .u8), (.int .u8), 1, 1, false⟩),
 (6, some ⟨(.int .u8), (.int .u8), 1, 1, false⟩),
 (7, some ⟨(.struct [(0, 2), (1, 3), (2, 4), (3, 6)]), (.cons (.int .i64) (.cons (.int .i64) (.cons .bool (.cons (.int .u8) .nil)))), 4, 24, false⟩),
 (8, some ⟨(.struct [(0, 2), (1, 3), (2, 4), (3, 6)]), (.cons (.int .i64) (.cons (.int .i64) (.cons .bool (.cons (.int .u8) .nil)))), 4, 24, false⟩),
 (9, some ⟨.string, .str, 1, 16, false⟩),
 (10, some ⟨.string, .str, 1, 16, false⟩),
 (11, some ⟨.string, .str, 1, 16, false⟩),
 (12, some ⟨(.int .u64), (.int .u64), 1, 8, false⟩),
 (13, some ⟨(.struct [(0, 9), (1, 12)]), (.cons .str (.cons (.int .u64) .nil)), 2, 24, false⟩),
 (14, some ⟨(.struct [(0, 9), (1, 12)]), (.cons .str (.cons (.int .u64) .nil)), 2, 24, false⟩),
 (21, some ⟨(.int .i32), (.int .i32), 1, 4, false⟩),
 (22, some ⟨(.slice 5), (.slice (.int .u8)), 1, 24, false⟩),
 (23, some ⟨(.slice 59), (.slice (.cons .str (.cons (.slice .str) (.cons (.cons (.slice (.cons (.int .i64) (.cons (.int .i64) (.cons .str .nil)))) .nil) .nil)))), 1, 24, false⟩),
 (24, some ⟨(.slice 9), (.slice .str), 1, 24, false⟩),
 (25, some ⟨(.slice 57), (.slice (.cons (.int .i64) (.cons (.cons (.slice (.cons (.int .i64) (.cons (.int .i64) (.cons .str .nil)))) .nil) (.cons (.cons (.slice (.cons (.int .i64) (.cons (.int .i64) (.cons .str .nil)))) .nil) .nil)))), 1, 24, false⟩),
 (26, some ⟨(.struct [(0, 23), (1, 24), (2, 25)]), (.cons (.slice (.cons .str (.cons (.slice .str) (.cons (.cons (.slice (.cons (.int .i64) (.cons (.int .i64) (.cons .str .nil)))) .nil) .nil)))) (.cons (.slice .str) (.cons (.slice (.cons (.int .i64) (.cons (.cons (.slice (.cons (.int .i64) (.cons (.int .i64) (.cons .str .nil)))) .nil) (.cons (.cons (.slice (.cons (.int .i64) (.cons (.int .i64) (.cons .str .nil)))) .nil) .nil)))) .nil))), 3, 72, false⟩),
 (27, some ⟨(.struct [(0, 23), (1, 24), (2, 25)]), (.cons (.slice (.cons .str (.cons (.slice .str) (.cons (.cons (.slice (.cons (.int .i64) (.cons (.int .i64) (.cons .str .nil)))) .nil) .nil)))) (.cons (.slice .str) (.cons (.slice (.cons (.int .i64) (.cons (.cons (.slice (.cons (.int .i64) (.cons (.int .i64) (.cons .str .nil)))) .nil) (.cons (.cons (.slice (.cons (.int .i64) (.cons (.int .i64) (.cons .str .nil)))) .nil) .nil)))) .nil))), 3, 72, false⟩),
 (39, some ⟨(.slice 129), (.slice (.cons .str (.cons (.slice .str) (.cons (.cons (.slice (.cons (.int .i64) (.cons (.int .i64) (.cons .str .nil)))) .nil) .nil)))), 1, 24, false⟩),
 (40, some ⟨(.slice 132), (.slice (.cons (.int .i64) (.cons (.cons (.slice (.cons (.int .i64) (.cons (.int .i64) (.cons .str .nil)))) .nil) (.cons (.cons (.slice (.cons (.int .i64) (.cons (.int .i64) (.cons .str .nil)))) .nil) .nil)))), 1, 24, false⟩),
 (41, some ⟨(.struct [(0, 39), (1, 24), (2, 40)]), (.cons (.slice (.cons .str (.cons (.slice .str) (.cons (.cons (.slice (.cons (.int .i64) (.cons (.int .i64) (.cons .str .nil)))) .nil) .nil)))) (.cons (.slice .str) (.cons (.slice (.cons (.int .i64) (.cons (.cons (.slice (.cons (.int .i64) (.cons (.int .i64) (.cons .str .nil)))) .nil) (.cons (.cons (.slice (.cons (.int .i64) (.cons (.int .i64) (.cons .str .nil)))) .nil) .nil)))) .nil))), 3, 72, false⟩),
 (42, some ⟨(.struct [(0, 39), (1, 24), (2, 40)]), (.cons (.slice (.cons .str (.cons (.slice .str) (.cons (.cons (.slice (.cons (.int .i64) (.cons (.int .i64) (.cons .str .nil)))) .nil) .nil)))) (.cons (.slice .str) (.cons (.slice (.cons (.int .i64) (.cons (.cons (.slice (.cons (.int .i64) (.cons (.int .i64) (.cons .str .nil)))) .nil) (.cons (.cons (.slice (.cons (.int .i64) (.cons (.int .i64) (.cons .str .nil)))) .nil) .nil)))) .nil))), 3, 72, false⟩),
 (53, some ⟨(.slice 73), (.slice (.cons (.int .i64) (.cons (.int .i64) (.cons .str .nil)))), 1, 24, false⟩),
 (54, some ⟨(.struct [(0, 53)]), (.cons (.slice (.cons (.int .i64) (.cons (.int .i64) (.cons .str .nil)))) .nil), 1, 24, false⟩),
 (55, some ⟨(.struct [(0, 53)]), (.cons (.slice (.cons (.int .i64) (.cons (.int .i64) (.cons .str .nil)))) .nil), 1, 24, false⟩),
 (56, some ⟨(.struct [(0, 3), (1, 55), (2, 55)]), (.cons (.int .i64) (.cons (.cons (.slice (.cons (.int .i64) (.cons (.int .i64) (.cons .str .nil)))) .nil) (.cons (.cons (.slice (.cons (.int .i64) (.cons (.int .i64) (.cons .str .nil)))) .nil) .nil))), 3, 56, false⟩),
 (57, some ⟨(.struct [(0, 3), (1, 55), (2, 55)]), (.cons (.int .i64) (.cons (.cons (.slice (.cons (.int .i64) (.cons (.int .i64) (.cons .str .nil)))) .nil) (.cons (.cons (.slice (.cons (.int .i64) (.cons (.int .i64) (.cons .str .nil)))) .nil) .nil))), 3, 56, false⟩),
 (58, some ⟨(.struct [(0, 9), (1, 24), (2, 55)]), (.cons .str (.cons (.slice .str) (.cons (.cons (.slice (.cons (.int .i64) (.cons (.int .i64) (.cons .str .nil)))) .nil) .nil))), 3, 64, false⟩),
 (59, some ⟨(.struct [(0, 9), (1, 24), (2, 55)]), (.cons .str (.cons (.slice .str) (.cons (.cons (.slice (.cons (.int .i64) (.cons (.int .i64) (.cons .str .nil)))) .nil) .nil))), 3, 64, false⟩),
 (71, some ⟨(.slice 53), (.slice (.slice (.cons (.int .i64) (.cons (.int .i64) (.cons .str .nil))))), 1, 24, false⟩),
 (72, some ⟨(.struct [(0, 3), (1, 3), (2, 9)]), (.cons (.int .i64) (.cons (.int .i64) (.cons .str .nil))), 3, 32, true⟩),
 (73, some ⟨(.struct [(0, 3), (1, 3), (2, 9)]), (.cons (.int .i64) (.cons (.int .i64) (.cons .str .nil))), 3, 32, true⟩),
 (104, some ⟨(.struct [(0, 22), (1, 3)]), (.cons (.slice (.int .u8)) (.cons (.int .i64) .nil)), 2, 32, false⟩),
 (105, some ⟨(.struct [(0, 22), (1, 3)]), (.cons (.slice (.int .u8)) (.cons (.int .i64) .nil)), 2, 32, false⟩),
 (111, some ⟨(.slice 113), (.slice (.slice .bool)), 1, 24, false⟩),
 (113, some ⟨(.slice 4), (.slice .bool), 1, 24, false⟩),
 (122, some ⟨(.slice 24), (.slice (.slice .str)), 1, 24, false⟩),
 (125, some ⟨(.slice 181), (.slice (.cons (.int .i64) (.cons (.int .i64) (.cons .str .nil)))), 1, 24, false⟩),
 (126, some ⟨(.struct [(0, 125)]), (.cons (.slice (.cons (.int .i64) (.cons (.int .i64) (.cons .str .nil)))) .nil), 1, 24, false⟩),
 (127, some ⟨(.struct [(0, 125)]), (.cons (.slice (.cons (.int .i64) (.cons (.int .i64) (.cons .str .nil)))) .nil), 1, 24, false⟩),
 (128, some ⟨(.struct [(0, 9), (1, 24), (2, 127)]), (.cons .str (.cons (.slice .str) (.cons (.cons (.slice (.cons (.int .i64) (.cons (.int .i64) (.cons .str .nil)))) .nil) .nil))), 3, 64, false⟩),
 (129, some ⟨(.struct [(0, 9), (1, 24), (2, 127)]), (.cons .str (.cons (.slice .str) (.cons (.cons (.slice (.cons (.int .i64) (.cons (.int .i64) (.cons .str .nil)))) .nil) .nil))), 3, 64, false⟩),
 (131, some ⟨(.struct [(0, 3), (1, 127), (2, 127)]), (.cons (.int .i64) (.cons (.cons (.slice (.cons (.int .i64) (.cons (.int .i64) (.cons .str .nil)))) .nil) (.cons (.cons (.slice (.cons (.int .i64) (.cons (.int .i64) (.cons .str .nil)))) .nil) .nil))), 3, 56, false⟩),
 (132, some ⟨(.struct [(0, 3), (1, 127), (2, 127)]), (.cons (.int .i64) (.cons (.cons (.slice (.cons (.int .i64) (.cons (.int .i64) (.cons .str .nil)))) .nil) (.cons (.cons (.slice (.cons (.int .i64) (.cons (.int .i64) (.cons .str .nil)))) .nil) .nil))), 3, 56, false⟩),
 (145, some ⟨(.slice 3), (.slice (.int .i64)), 1, 24, false⟩),
 (179, some ⟨(.int .u64), (.int .u64), 1, 8, false⟩),
 (181, some ⟨(.struct [(0, 3), (1, 3), (2, 9)]), (.cons (.int .i64) (.cons (.int .i64) (.cons .str .nil))), 3, 32, true⟩),
 (197, some ⟨(.int .u32), (.int .u32), 1, 4, false⟩),
 (199, some ⟨(.int .u64), (.int .u64), 1, 8, false⟩),
 (205, some ⟨.err, .err, 1, 16, false⟩),
 (208, some ⟨(.int .u64), (.int .u64), 1, 8, false⟩),
 (254, some ⟨(.int .u8), (.int .u8), 1, 1, false⟩),
 (255, some ⟨(.int .u8), (.int .u8), 1, 1, false⟩),
 (257, some ⟨(.int .i32), (.int .i32), 1, 4, false⟩),
 (258, some ⟨(.int .i32), (.int .i32), 1, 4, false⟩)]
def ey : List (Nat × Ty) := [(59, (.cons .str (.cons (.aI 9 .str) (.cons (.cons (.aI 73 (.cons (.int .i64) (.cons (.int .i64) (.cons .str .nil)))) .nil) .nil)))), (57, (.cons (.int .i64) (.cons (.cons (.aI 73 (.cons (.int .i64) (.cons (.int .i64) (.cons .str .nil)))) .nil) (.cons (.cons (.aI 73 (.cons (.int .i64) (.cons (.int .i64) (.cons .str .nil)))) .nil) .nil)))), (9, .str), (73, (.cons (.int .i64) (.cons (.int .i64) (.cons .str .nil))))]
def Od : Types := [
 (2, some ⟨(.int .i64), (.int .i64), 1, 8, false⟩),
 (3, some ⟨(.int .i64), (.int .i64), 1, 8, false⟩),
 (4, some ⟨.bool, .bool, 1, 1, false⟩),
 (5, some ⟨(.int .u8), (.int .u8), 1, 1, false⟩),
 (6, some ⟨(.int .u8), (.int .u8), 1, 1, false⟩),
 (7, some ⟨(.struct [(0, 2), (1, 3), (2, 4), (3, 6)]), (.cons (.int .i64) (.cons (.int .i64) (.cons .bool (.cons (.int .u8) .nil)))), 4, 24, false⟩),
 (8, some ⟨(.struct [(0, 2), (1, 3), (2, 4), (3, 6)]), (.cons (.int .i64) (.cons (.int .i64) (.cons .bool (.cons (.int .u8) .nil)))), 4, 24, false⟩),
 (9, some ⟨.string, .str, 1, 16, false⟩),
 (10, some ⟨.string, .str, 1, 16, false⟩),
 (11, some ⟨.string, .str, 1, 16, false⟩),
 (12, some ⟨(.int .u64), (.int .u64), 1, 8, false⟩),
 (13, some ⟨(.struct [(0, 9), (1, 12)]), (.cons .str (.cons (.int .u64) .nil)), 2, 24, false⟩),
 (14, some ⟨(.struct [(0, 9), (1, 12)]), (.cons .str (.cons (.int .u64) .nil)), 2, 24, false⟩),
 (21, some ⟨(.int .i32), (.int .i32), 1, 4, false⟩),
 (22, some ⟨(.slice 5), (.slice (.int .u8)), 1, 24, false⟩),
 (23, some ⟨(.slice 59), (.aI 59 (.cons .str (.cons (.aI 9 .str) (.cons (.cons (.aI 73 (.cons (.int .i64) (.cons (.int .i64) (.cons .str .nil)))) .nil) .nil)))), 1, 24, false⟩),
 (24, some ⟨(.slice 9), (.aI 9 .str), 1, 24, false⟩),
 (25, some ⟨(.slice 57), (.aI 57 (.cons (.int .i64) (.cons (.cons (.aI 73 (.cons (.int .i64) (.cons (.int .i64) (.cons .str .nil)))) .nil) (.cons (.cons (.aI 73 (.cons (.int .i64) (.cons (.int .i64) (.cons .str .nil)))) .nil) .nil)))), 1, 24, false⟩),
 (26, some ⟨(.struct [(0, 23), (1, 24), (2, 25)]), (.cons (.aI 59 (.cons .str (.cons (.aI 9 .str) (.cons (.cons (.aI 73 (.cons (.int .i64) (.cons (.int .i64) (.cons .str .nil)))) .nil) .nil)))) (.cons (.aI 9 .str) (.cons (.aI 57 (.cons (.int .i64) (.cons (.cons (.aI 73 (.cons (.int .i64) (.cons (.int .i64) (.cons .str .nil)))) .nil) (.cons (.cons (.aI 73 (.cons (.int .i64) (.cons (.int .i64) (.cons .str .nil)))) .nil) .nil)))) .nil))), 3, 72, false⟩),
 (27, some ⟨(.struct [(0, 23), (1, 24), (2, 25)]), (.cons (.aI 59 (.cons .str (.cons (.aI 9 .str) (.cons (.cons (.aI 73 (.cons (.int .i64) (.cons (.int .i64) (.cons .str .nil)))) .nil) .nil)))) (.cons (.aI 9 .str) (.cons (.aI 57 (.cons (.int .i64) (.cons (.cons (.aI 73 (.cons (.int .i64) (.cons (.int .i64) (.cons .str .nil)))) .nil) (.cons (.cons (.aI 73 (.cons (.int .i64) (.cons (.int .i64) (.cons .str .nil)))) .nil) .nil)))) .nil))), 3, 72, false⟩),
 (39, some ⟨(.slice 129), (.slice (.cons .str (.cons (.slice .str) (.cons (.cons (.slice (.cons (.int .i64) (.cons (.int .i64) (.cons .str .nil)))) .nil) .nil)))), 1, 24, false⟩),
 (40, some ⟨(.slice 132), (.slice (.cons (.int .i64) (.cons (.cons (.slice (.cons (.int .i64) (.cons (.int .i64) (.cons .str .nil)))) .nil) (.cons (.cons (.slice (.cons (.int .i64) (.cons (.int .i64) (.cons .str .nil)))) .nil) .nil)))), 1, 24, false⟩),
 (41, some ⟨(.struct [(0, 39), (1, 24), (2, 40)]), (.cons (.slice (.cons .str (.cons (.slice .str) (.cons (.cons (.slice (.cons (.int .i64) (.cons (.int .i64) (.cons .str .nil)))) .nil) .nil)))) (.cons (.aI 9 .str) (.cons (.slice (.cons (.int .i64) (.cons (.cons (.slice (.cons (.int .i64) (.cons (.int .i64) (.cons .str .nil)))) .nil) (.cons (.cons (.slice (.cons (.int .i64) (.cons (.int .i64) (.cons .str .nil)))) .nil) .nil)))) .nil))), 3, 72, false⟩),
 (42, some ⟨(.struct [(0, 39), (1, 24), (2, 40)]), (.cons (.slice (.cons .str (.cons (.slice .str) (.cons (.cons (.slice (.cons (.int .i64) (.cons (.int .i64) (.cons .str .nil)))) .nil) .nil)))) (.cons (.slice .str) (.cons (.slice (.cons (.int .i64) (.cons (.cons (.slice (.cons (.int .i64) (.cons (.int .i64) (.cons .str .nil)))) .nil) (.cons (.cons (.slice (.cons (.int .i64) (.cons (.int .i64) (.cons .str .nil)))) .nil) .nil)))) .nil))), 3, 72, false⟩),
 (53, some ⟨(.slice 73), (.aI 73 (.cons (.int .i64) (.cons (.int .i64) (.cons .str .nil)))), 1, 24, false⟩),
 (54, some ⟨(.struct [(0, 53)]), (.cons (.aI 73 (.cons (.int .i64) (.cons (.int .i64) (.cons .str .nil)))) .nil), 1, 24, false⟩),
 (55, some ⟨(.struct [(0, 53)]), (.cons (.aI 73 (.cons (.int .i64) (.cons (.int .i64) (.cons .str .nil)))) .nil), 1, 24, false⟩),
 (56, some ⟨(.struct [(0, 3), (1, 55), (2, 55)]), (.cons (.int .i64) (.cons (.cons (.aI 73 (.cons (.int .i64) (.cons (.int .i64) (.cons .str .nil)))) .nil) (.cons (.cons (.aI 73 (.cons (.int .i64) (.cons (.int .i64) (.cons .str .nil)))) .nil) .nil))), 3, 56, false⟩),
 (57, some ⟨(.struct [(0, 3), (1, 55), (2, 55)]), (.cons (.int .i64) (.cons (.cons (.aI 73 (.cons (.int .i64) (.cons (.int .i64) (.cons .str .nil)))) .nil) (.cons (.cons (.aI 73 (.cons (.int .i64) (.cons (.int .i64) (.cons .str .nil)))) .nil) .nil))), 3, 56, false⟩),
 (58, some ⟨(.struct [(0, 9), (1, 24), (2, 55)]), (.cons .str (.cons (.aI 9 .str) (.cons (.cons (.aI 73 (.cons (.int .i64) (.cons (.int .i64) (.cons .str .nil)))) .nil) .nil))), 3, 64, false⟩),
 (59, some ⟨(.struct [(0, 9), (1, 24), (2, 55)]), (.cons .str (.cons (.aI 9 .str) (.cons (.cons (.aI 73 (.cons (.int .i64) (.cons (.int .i64) (.cons .str .nil)))) .nil) .nil))), 3, 64, false⟩),
 (71, some ⟨(.slice 53), (.slice (.aI 73 (.cons (.int .i64) (.cons (.int .i64) (.cons .str .nil))))), 1, 24, false⟩),
 (72, some ⟨(.struct [(0, 3), (1, 3), (2, 9)]), (.cons (.int .i64) (.cons (.int .i64) (.cons .str .nil))), 3, 32, true⟩),
 (73, some ⟨(.struct [(0, 3), (1, 3), (2, 9)]), (.cons (.int .i64) (.cons (.int .i64) (.cons .str .nil))), 3, 32, true⟩),
 (104, some ⟨(.struct [(0, 22), (1, 3)]), (.cons (.slice (.int .u8)) (.cons (.int .i64) .nil)), 2, 32, false⟩),
 (105, some ⟨(.struct [(0, 22), (1, 3)]), (.cons (.slice (.int .u8)) (.cons (.int .i64) .nil)), 2, 32, false⟩),
 (111, some ⟨(.slice 113), (.slice (.slice .bool)), 1, 24, false⟩),
 (113, some ⟨(.slice 4), (.slice .bool), 1, 24, false⟩),
 (122, some ⟨(.slice 24), (.slice (.aI 9 .str)), 1, 24, false⟩),
 (125, some ⟨(.slice 181), (.slice (.cons (.int .i64) (.cons (.int .i64) (.cons .str .nil)))), 1, 24, false⟩),
 (126, some ⟨(.struct [(0, 125)]), (.cons (.slice (.cons (.int .i64) (.cons (.int .i64) (.cons .str .nil)))) .nil), 1, 24, false⟩),
 (127, some ⟨(.struct [(0, 125)]), (.cons (.slice (.cons (.int .i64) (.cons (.int .i64) (.cons .str .nil)))) .nil), 1, 24, false⟩),
 (128, some ⟨(.struct [(0, 9), (1, 24), (2, 127)]), (.cons .str (.cons (.aI 9 .str) (.cons (.cons (.slice (.cons (.int .i64) (.cons (.int .i64) (.cons .str .nil)))) .nil) .nil))), 3, 64, false⟩),
 (129, some ⟨(.struct [(0, 9), (1, 24), (2, 127)]), (.cons .str (.cons (.slice .str) (.cons (.cons (.slice (.cons (.int .i64) (.cons (.int .i64) (.cons .str .nil)))) .nil) .nil))), 3, 64, false⟩),
 (131, some ⟨(.struct [(0, 3), (1, 127), (2, 127)]), (.cons (.int .i64) (.cons (.cons (.slice (.cons (.int .i64) (.cons (.int .i64) (.cons .str .nil)))) .nil) (.cons (.cons (.slice (.cons (.int .i64) (.cons (.int .i64) (.cons .str .nil)))) .nil) .nil))), 3, 56, false⟩),
 (132, some ⟨(.struct [(0, 3), (1, 127), (2, 127)]), (.cons (.int .i64) (.cons (.cons (.slice (.cons (.int .i64) (.cons (.int .i64) (.cons .str .nil)))) .nil) (.cons (.cons (.slice (.cons (.int .i64) (.cons (.int .i64) (.cons .str .nil)))) .nil) .nil))), 3, 56, false⟩),
 (147, some ⟨(.slice 150), (.slice (.cons .str (.cons (.int .i64) .nil))), 1, 24, false⟩),
 (149, some ⟨(.struct [(0, 9), (1, 3)]), (.cons .str (.cons (.int .i64) .nil)), 2, 24, true⟩),
 (150, some ⟨(.struct [(0, 9), (1, 3)]), (.cons .str (.cons (.int .i64) .nil)), 2, 24, true⟩),
 (181, some ⟨(.struct [(0, 3), (1, 3), (2, 9)]), (.cons (.int .i64) (.cons (.int .i64) (.cons .str .nil))), 3, 32, true⟩),
 (197, some ⟨(.int .u32), (.int .u32), 1, 4, false⟩),
 (254, some ⟨(.int .u8), (.int .u8), 1, 1, false⟩),
 (255, some ⟨(.int .u8), (.int .u8), 1, 1, false⟩),
 (257, some ⟨(.int .i32), (.int .i32), 1, 4, false⟩),
 (258, some ⟨(.int .i32), (.int .i32), 1, 4, false⟩)]
def Np : List (Nat × Ty) := [(4, .bool)]
def Oe : Types := [
 (2, some ⟨(.int .i64), (.int .i64), 1, 8, false⟩),
 (3, some ⟨(.int .i64), (.int .i64), 1, 8, false⟩),
 (4, some ⟨.bool, .bool, 1, 1, false⟩),
 (5, some ⟨(.int .u8), (.int .u8), 1, 1, false⟩),
 (6, some ⟨(.int .u8), (.int .u8), 1, 1, false⟩),
 (7, some ⟨(.struct [(0, 2), (1, 3), (2, 4), (3, 6)]), (.cons (.int .i64) (.cons (.int .i64) (.cons .bool (.cons (.int .u8) .nil)))), 4, 24, false⟩),
 (8, some ⟨(.struct [(0, 2), (1, 3), (2, 4), (3, 6)]), (.cons (.int .i64) (.cons (.int .i64) (.cons .bool (.cons (.int .u8) .nil)))), 4, 24, false⟩),
 (9, some ⟨.string, .str, 1, 16, false⟩),
 (10, some ⟨.string, .str, 1, 16, false⟩),
 (11, some ⟨.string, .str, 1, 16, false⟩),
 (12, some ⟨(.int .u64), (.int .u64), 1, 8, false⟩),
 (13, some ⟨(.struct [(0, 9), (1, 12)]), (.cons .str (.cons (.int .u64) .nil)), 2, 24, false⟩),
 (14, some ⟨(.struct [(0, 9), (1, 12)]), (.cons .str (.cons (.int .u64) .nil)), 2, 24, false⟩),
 (21, some ⟨(.int .i32), (.int .i32), 1, 4, false⟩),
 (22, some ⟨(.slice 5), (.slice (.int .u8)), 1, 24, false⟩),
 (23, some ⟨(.slice 59), (.slice (.cons .str (.cons (.slice .str) (.cons (.cons (.slice (.cons (.int .i64) (.cons (.int .i64) (.cons .str .nil)))) .nil) .nil)))), 1, 24, false⟩),
 (24, some ⟨(.slice 9), (.slice .str), 1, 24, false⟩),
 (25, some ⟨(.slice 57), (.slice (.cons (.int .i64) (.cons (.cons (.slice (.cons (.int .i64) (.cons (.int .i64) (.cons .str .nil)))) .nil) (.cons (.cons (.slice (.cons (.int .i64) (.cons (.int .i64) (.cons .str .nil)))) .nil) .nil)))), 1, 24, false⟩),
 (26, some ⟨(.struct [(0, 23), (1, 24), (2, 25)]), (.cons (.slice (.cons .str (.cons (.slice .str) (.cons (.cons (.slice (.cons (.int .i64) (.cons (.int .i64) (.cons .str .nil)))) .nil) .nil)))) (.cons (.slice .str) (.cons (.slice (.cons (.int .i64) (.cons (.cons (.slice (.cons (.int .i64) (.cons (.int .i64) (.cons .str .nil)))) .nil) (.cons (.cons (.slice (.cons (.int .i64) (.cons (.int .i64) (.cons .str .nil)))) .nil) .nil)))) .nil))), 3, 72, false⟩),
 (27, some ⟨(.struct [(0, 23), (1, 24), (2, 25)]), (.cons (.slice (.cons .str (.cons (.slice .str) (.cons (.cons (.slice (.cons (.int .i64) (.cons (.int .i64) (.cons .str .nil)))) .nil) .nil)))) (.cons (.slice .str) (.cons (.slice (.cons (.int .i64) (.cons (.cons (.slice (.cons (.int .i64) (.cons (.int .i64) (.cons .str .nil)))) .nil) (.cons (.cons (.slice (.cons (.int .i64) (.cons (.int .i64) (.cons .str .nil)))) .nil) .nil)))) .nil))), 3, 72, false⟩),
 (39, some ⟨(.slice 129), (.slice (.cons .str (.cons (.slice .str) (.cons (.cons (.slice (.cons (.int .i64) (.cons (.int .i64) (.cons .str .nil)))) .nil) .nil)))), 1, 24, false⟩),
 (40, some ⟨(.slice 132), (.slice (.cons (.int .i64) (.cons (.cons (.slice (.cons (.int .i64) (.cons (.int .i64) (.cons .str .nil)))) .nil) (.cons (.cons (.slice (.cons (.int .i64) (.cons (.int .i64) (.cons .str .nil)))) .nil) .nil)))), 1, 24, false⟩),
 (41, some ⟨(.struct [(0, 39), (1, 24), (2, 40)]), (.cons (.slice (.cons .str (.cons (.slice .str) (.cons (.cons (.slice (.cons (.int .i64) (.cons (.int .i64) (.cons .str .nil)))) .nil) .nil)))) (.cons (.slice .str) (.cons (.slice (.cons (.int .i64) (.cons (.cons (.slice (.cons (.int .i64) (.cons (.int .i64) (.cons .str .nil)))) .nil) (.cons (.cons (.slice (.cons (.int .i64) (.cons (.int .i64) (.cons .str .nil)))) .nil) .nil)))) .nil))), 3, 72, false⟩),
 (42, some ⟨(.struct [(0, 39), (1, 24), (2, 40)]), (.cons (.slice (.cons .str (.cons (.slice .str) (.cons (.cons (.slice (.cons (.int .i64) (.cons (.int .i64) (.cons .str .nil)))) .nil) .nil)))) (.cons (.slice .str) (.cons (.slice (.cons (.int .i64) (.cons (.cons (.slice (.cons (.int .i64) (.cons (.int .i64) (.cons .str .nil)))) .nil) (.cons (.cons (.slice (.cons (.int .i64) (.cons (.int .i64) (.cons .str .nil)))) .nil) .nil)))) .nil))), 3, 72, false⟩),
 (53, some ⟨(.slice 73), (.slice (.cons (.int .i64) (.cons (.int .i64) (.cons .str .nil)))), 1, 24, false⟩),
 (54, some ⟨(.struct [(0, 53)]), (.cons (.slice (.cons (.int .i64) (.cons (.int .i64) (.cons .str .nil)))) .nil), 1, 24, false⟩),
 (55, some ⟨(.struct [(0, 53)]), (.cons (.slice (.cons (.int .i64) (.cons (.int .i64) (.cons .str .nil)))) .nil), 1, 24, false⟩),
 (56, some ⟨(.struct [(0, 3), (1, 55), (2, 55)]), (.cons (.int .i64) (.cons (.cons (.slice (.cons (.int .i64) (.cons (.int .i64) (.cons .str .nil)))) .nil) (.cons (.cons (.slice (.cons (.int .i64) (.cons (.int .i64) (.cons .str .nil)))) .nil) .nil))), 3, 56, false⟩),
 (57, some ⟨(.struct [(0, 3), (1, 55), (2, 55)]), (.cons (.int .i64) (.cons (.cons (.slice (.cons (.int .i64) (.cons (.int .i64) (.cons .str .nil)))) .nil) (.cons (.cons (.slice (.cons (.int .i64) (.cons (.int .i64) (.cons .str .nil)))) .nil) .nil))), 3, 56, false⟩),
 (58, some ⟨(.struct [(0, 9), (1, 24), (2, 55)]), (.cons .str (.cons (.slice .str) (.cons (.cons (.slice (.cons (.int .i64) (.cons (.int .i64) (.cons .str .nil)))) .nil) .nil))), 3, 64, false⟩),
 (59, some ⟨(.struct [(0, 9), (1, 24), (2, 55)]), (.cons .str (.cons (.slice .str) (.cons (.cons (.slice (.cons (.int .i64) (.cons (.int .i64) (.cons .str .nil)))) .nil) .nil))), 3, 64, false⟩),
 (71, some ⟨(.slice 53), (.slice (.slice (.cons (.int .i64) (.cons (.int .i64) (.cons .str .nil))))), 1, 24, false⟩),
 (72, some ⟨(.struct [(0, 3), (1, 3), (2, 9)]), (.cons (.int .i64) (.cons (.int .i64) (.cons .str .nil))), 3, 32, true⟩),
 (73, some ⟨(.struct [(0, 3), (1, 3), (2, 9)]), (.cons (.int .i64) (.cons (.int .i64) (.cons .str .nil))), 3, 32, true⟩),
 (104, some ⟨(.struct [(0, 22), (1, 3)]), (.cons (.slice (.int .u8)) (.cons (.int .i64) .nil)), 2, 32, false⟩),
 (105, some ⟨(.struct [(0, 22), (1, 3)]), (.cons (.slice (.int .u8)) (.cons (.int .i64) .nil)), 2, 32, false⟩),
 (111, some ⟨(.slice 113), (.slice (.aI 4 .bool)), 1, 24, false⟩),
 (113, some ⟨(.slice 4), (.aI 4 .bool), 1, 24, false⟩),
 (125, some ⟨(.slice 181), (.slice (.cons (.int .i64) (.cons (.int .i64) (.cons .str .nil)))), 1, 24, false⟩),
 (126, some ⟨(.struct [(0, 125)]), (.cons (.slice (.cons (.int .i64) (.cons (.int .i64) (.cons .str .nil)))) .nil), 1, 24, false⟩),
 (127, some ⟨(.struct [(0, 125)]), (.cons (.slice (.cons (.int .i64) (.cons (.int .i64) (.cons .str .nil)))) .nil), 1, 24, false⟩),
 (128, some ⟨(.struct [(0, 9), (1, 24), (2, 127)]), (.cons .str (.cons (.slice .str) (.cons (.cons (.slice (.cons (.int .i64) (.cons (.int .i64) (.cons .str .nil)))) .nil) .nil))), 3, 64, false⟩),
 (129, some ⟨(.struct [(0, 9), (1, 24), (2, 127)]), (.cons .str (.cons (.slice .str) (.cons (.cons (.slice (.cons (.int .i64) (.cons (.int .i64) (.cons .str .nil)))) .nil) .nil))), 3, 64, false⟩),
 (131, some ⟨(.struct [(0, 3), (1, 127), (2, 127)]), (.cons (.int .i64) (.cons (.cons (.slice (.cons (.int .i64) (.cons (.int .i64) (.cons .str .nil)))) .nil) (.cons (.cons (.slice (.cons (.int .i64) (.cons (.int .i64) (.cons .str .nil)))) .nil) .nil))), 3, 56, false⟩),
 (132, some ⟨(.struct [(0, 3), (1, 127), (2, 127)]), (.cons (.int .i64) (.cons (.cons (.slice (.cons (.int .i64) (.cons (.int .i64) (.cons .str .nil)))) .nil) (.cons (.cons (.slice (.cons (.int .i64) (.cons (.int .i64) (.cons .str .nil)))) .nil) .nil))), 3, 56, false⟩),
 (181, some ⟨(.struct [(0, 3), (1, 3), (2, 9)]), (.cons (.int .i64) (.cons (.int .i64) (.cons .str .nil))), 3, 32, true⟩),
 (197, some ⟨(.int .u32), (.int .u32), 1, 4, false⟩),
 (254, some ⟨(.int .u8), (.int .u8), 1, 1, false⟩),
 (255, some ⟨(.int .u8), (.int .u8), 1, 1, false⟩),
 (257, some ⟨(.int .i32), (.int .i32), 1, 4, false⟩),
 (258, some ⟨(.int .i32), (.int .i32), 1, 4, false⟩)]
def JW : List (Nat × Ty) := [(9, .str)]
def Of : Types := [
 (2, some ⟨(.int .i64), (.int .i64), 1, 8, false⟩),
 (3, some ⟨(.int .i64), (.int .i64), 1, 8, false⟩),
 (4, some ⟨.bool, .bool, 1, 1, false⟩),
 (5, some ⟨(.int .u8), (.int .u8), 1, 1, false⟩),
 (6, some ⟨(.int .u8), (.int .u8), 1, 1, false⟩),
 (7, some ⟨(.struct [(0, 2), (1, 3), (2, 4), (3, 6)]), (.cons (.int .i64) (.cons (.int .i64) (.cons .bool (.cons (.int .u8) .nil)))), 4, 24, false⟩),
 (8, some ⟨(.struct [(0, 2), (1, 3), (2, 4), (3, 6)]), (.cons (.int .i64) (.cons (.int .i64) (.cons .bool (.cons (.int .u8) .nil)))), 4, 24, false⟩),
 (9, some ⟨.string, .str, 1, 16, false⟩),
 (10, some ⟨.string, .str, 1, 16, false⟩),
 (11, some ⟨.string, .str, 1, 16, false⟩),
 (12, some ⟨(.int .u64), (.int .u64), 1, 8, false⟩),
 (13, some ⟨(.struct [(0, 9), (1, 12)]), (.cons .str (.cons (.int .u64) .nil)), 2, 24, false⟩),
 (14, some ⟨(.struct [(0, 9), (1, 12)]), (.cons .str (.cons (.int .u64) .nil)), 2, 24, false⟩),
 (21, some ⟨(.int .i32), (.int .i32), 1, 4, false⟩),
 (22, some ⟨(.slice 5), (.slice (.int .u8)), 1, 24, false⟩),
 (23, some ⟨(.slice 59), (.slice (.cons .str (.cons (.aI 9 .str) (.cons (.cons (.slice (.cons (.int .i64) (.cons (.int .i64) (.cons .str .nil)))) .nil) .nil)))), 1, 24, false⟩),
 (24, some ⟨(.slice 9), (.aI 9 .str), 1, 24, false⟩),
 (25, some ⟨(.slice 57), (.slice (.cons (.int .i64) (.cons (.cons (.slice (.cons (.int .i64) (.cons (.int .i64) (.cons .str .nil)))) .nil) (.cons (.cons (.slice (.cons (.int .i64) (.cons (.int .i64) (.cons .str .nil)))) .nil) .nil)))), 1, 24, false⟩),
 (26, some ⟨(.struct [(0, 23), (1, 24), (2, 25)]), (.cons (.slice (.cons .str (.cons (.aI 9 .str) (.cons (.cons (.slice (.cons (.int .i64) (.cons (.int .i64) (.cons .str .nil)))) .nil) .nil)))) (.cons (.aI 9 .str) (.cons (.slice (.cons (.int .i64) (.cons (.cons (.slice (.cons (.int .i64) (.cons (.int .i64) (.cons .str .nil)))) .nil) (.cons (.cons (.slice (.cons (.int .i64) (.cons (.int .i64) (.cons .str .nil)))) .nil) .nil)))) .nil))), 3, 72, false⟩),
 (27, some ⟨(.struct [(0, 23), (1, 24), (2, 25)]), (.cons (.slice (.cons .str (.cons (.aI 9 .str) (.cons (.cons (.slice (.cons (.int .i64) (.cons (.int .i64) (.cons .str .nil)))) .nil) .nil)))) (.cons (.aI 9 .str) (.cons (.slice (.cons (.int .i64) (.cons (.cons (.slice (.cons (.int .i64) (.cons (.int .i64) (.cons .str .nil)))) .nil) (.cons (.cons (.slice (.cons (.int .i64) (.cons (.int .i64) (.cons .str .nil)))) .nil) .nil)))) .nil))), 3, 72, false⟩),
 (39, some ⟨(.slice 129), (.slice (.cons .str (.cons (.slice .str) (.cons (.cons (.slice (.cons (.int .i64) (.cons (.int .i64) (.cons .str .nil)))) .nil) .nil)))), 1, 24, false⟩),
 (40, some ⟨(.slice 132), (.slice (.cons (.int .i64) (.cons (.cons (.slice (.cons (.int .i64) (.cons (.int .i64) (.cons .str .nil)))) .nil) (.cons (.cons (.slice (.cons (.int .i64) (.cons (.int .i64) (.cons .str .nil)))) .nil) .nil)))), 1, 24, false⟩),
 (41, some ⟨(.struct [(0, 39), (1, 24), (2, 40)]), (.cons (.slice (.cons .str (.cons (.slice .str) (.cons (.cons (.slice (.cons (.int .i64) (.cons (.int .i64) (.cons .str .nil)))) .nil) .nil)))) (.cons (.aI 9 .str) (.cons (.slice (.cons (.int .i64) (.cons (.cons (.slice (.cons (.int .i64) (.cons (.int .i64) (.cons .str .nil)))) .nil) (.cons (.cons (.slice (.cons (.int .i64) (.cons (.int .i64) (.cons .str .nil)))) .nil) .nil)))) .nil))), 3, 72, false⟩),
 (42, some ⟨(.struct [(0, 39), (1, 24), (2, 40)]), (.cons (.slice (.cons .str (.cons (.slice .str) (.cons (.cons (.slice (.cons (.int .i64) (.cons (.int .i64) (.cons .str .nil)))) .nil) .nil)))) (.cons (.slice .str) (.cons (.slice (.cons (.int .i64) (.cons (.cons (.slice (.cons (.int .i64) (.cons (.int .i64) (.cons .str .nil)))) .nil) (.cons (.cons (.slice (.cons (.int .i64) (.cons (.int .i64) (.cons .str .nil)))) .nil) .nil)))) .nil))), 3, 72, false⟩),
 (53, some ⟨(.slice 73), (.slice (.cons (.int .i64) (.cons (.int .i64) (.cons .str .nil)))), 1, 24, false⟩),
 (54, some ⟨(.struct [(0, 53)]), (.cons (.slice (.cons (.int .i64) (.cons (.int .i64) (.cons .str .nil)))) .nil), 1, 24, false⟩),
 (55, some ⟨(.struct [(0, 53)]), (.cons (.slice (.cons (.int .i64) (.cons (.int .i64) (.cons .str .nil)))) .nil), 1, 24, false⟩),
 (56, some ⟨(.struct [(0, 3), (1, 55), (2, 55)]), (.cons (.int .i64) (.cons (.cons (.slice (.cons (.int .i64) (.cons (.int .i64) (.cons .str .nil)))) .nil) (.cons (.cons (.slice (.cons (.int .i64) (.cons (.int .i64) (.cons .str .nil)))) .nil) .nil))), 3, 56, false⟩),
 (57, some ⟨(.struct [(0, 3), (1, 55), (2, 55)]), (.cons (.int .i64) (.cons (.cons (.slice (.cons (.int .i64) (.cons (.int .i64) (.cons .str .nil)))) .nil) (.cons (.cons (.slice (.cons (.int .i64) (.cons (.int .i64) (.cons .str .nil)))) .nil) .nil))), 3, 56, false⟩),
 (58, some ⟨(.struct [(0, 9), (1, 24), (2, 55)]), (.cons .str (.cons (.aI 9 .str) (.cons (.cons (.slice (.cons (.int .i64) (.cons (.int .i64) (.cons .str .nil)))) .nil) .nil))), 3, 64, false⟩),
 (59, some ⟨(.struct [(0, 9), (1, 24), (2, 55)]), (.cons .str (.cons (.aI 9 .str) (.cons (.cons (.slice (.cons (.int .i64) (.cons (.int .i64) (.cons .str .nil)))) .nil) .nil))), 3, 64, false⟩),
 (72, some ⟨(.struct [(0, 3), (1, 3), (2, 9)]), (.cons (.int .i64) (.cons (.int .i64) (.cons .str .nil))), 3, 32, true⟩),
 (73, some ⟨(.struct [(0, 3), (1, 3), (2, 9)]), (.cons (.int .i64) (.cons (.int .i64) (.cons .str .nil))), 3, 32, true⟩),
 (125, some ⟨(.slice 181), (.slice (.cons (.int .i64) (.cons (.int .i64) (.cons .str .nil)))), 1, 24, false⟩),
 (126, some ⟨(.struct [(0, 125)]), (.cons (.slice (.cons (.int .i64) (.cons (.int .i64) (.cons .str .nil)))) .nil), 1, 24, false⟩),
 (127, some ⟨(.struct [(0, 125)]), (.cons (.slice (.cons (.int .i64) (.cons (.int .i64) (.cons .str .nil)))) .nil), 1, 24, false⟩),
 (128, some ⟨(.struct [(0, 9), (1, 24), (2, 127)]), (.cons .str (.cons (.aI 9 .str) (.cons (.cons (.slice (.cons (.int .i64) (.cons (.int .i64) (.cons .str .nil)))) .nil) .nil))), 3, 64, false⟩),
 (129, some ⟨(.struct [(0, 9), (1, 24), (2, 127)]), (.cons .str (.cons (.slice .str) (.cons (.cons (.slice (.cons (.int .i64) (.cons (.int .i64) (.cons .str .nil)))) .nil) .nil))), 3, 64, false⟩),
 (131, some ⟨(.struct [(0, 3), (1, 127), (2, 127)]), (.cons (.int .i64) (.cons (.cons (.slice (.cons (.int .i64) (.cons (.int .i64) (.cons .str .nil)))) .nil) (.cons (.cons (.slice (.cons (.int .i64) (.cons (.int .i64) (.cons .str .nil)))) .nil) .nil))), 3, 56, false⟩),
 (132, some ⟨(.struct [(0, 3), (1, 127), (2, 127)]), (.cons (.int .i64) (.cons (.cons (.slice (.cons (.int .i64) (.cons (.int .i64) (.cons .str .nil)))) .nil) (.cons (.cons (.slice (.cons (.int .i64) (.cons (.int .i64) (.cons .str .nil)))) .nil) .nil))), 3, 56, false⟩),
 (161, some ⟨(.slice 55), (.slice (.cons (.slice (.cons (.int .i64) (.cons (.int .i64) (.cons .str .nil)))) .nil)), 1, 24, false⟩),
 (179, some ⟨(.int .u64), (.int .u64), 1, 8, false⟩),
 (181, some ⟨(.struct [(0, 3), (1, 3), (2, 9)]), (.cons (.int .i64) (.cons (.int .i64) (.cons .str .nil))), 3, 32, true⟩),
 (197, some ⟨(.int .u32), (.int .u32), 1, 4, false⟩),
 (254, some ⟨(.int .u8), (.int .u8), 1, 1, false⟩),
 (255, some ⟨(.int .u8), (.int .u8), 1, 1, false⟩),
 (257, some ⟨(.int .i32), (.int .i32), 1, 4, false⟩),
 (258, some ⟨(.int .i32), (.int .i32), 1, 4, false⟩)]
def md : Nat → Nat × Types := fun k => (cond (Nat.beq k 59) (777, Od) (cond (Nat.beq k 4) (778, Oe) (cond (Nat.beq k 9) (779, Of) (0, T))))
def L : List (Nat × Option (List (Nat × Ty))) := [(41, some Np), (145, some JW)]
noncomputable def F : AT := [(5, some Go.Proofs.Tryz.f5), (10, some Go.Proofs.Tryz.f10), (11, some Go.Proofs.Tryz.f11), (13, some Go.Proofs.Tryz.f13), (18, some Go.Proofs.Tryz.f18), (19, some Go.Proofs.Tryz.f19), (20, some Go.Proofs.Tryz.f20), (21, some Go.Proofs.Tryz.f21), (22, some Go.Proofs.Tryz.f22), (35, some Go.Proofs.Tryz.f35), (37, some Go.Proofs.Tryz.f37), (38, some Go.Proofs.Tryz.f38), (39, some Go.Proofs.Tryz.f39), (40, some Go.Proofs.Tryz.f40), (41, some Go.Proofs.Tryz.f41), (42, some Go.Proofs.Tryz.f42), (43, some Go.Proofs.Tryz.f43), (44, some Go.Proofs.Tryz.f44), (45, some Go.Proofs.Tryz.f45), (47, some Go.Proofs.Tryz.f47), (48, some Go.Proofs.Tryz.f48), (49, some Go.Proofs.Tryz.f49), (50, some Go.Proofs.Tryz.f50), (51, some Go.Proofs.Tryz.f51), (52, some Go.Proofs.Tryz.f52), (53, some Go.Proofs.Tryz.f53), (54, some Go.Proofs.Tryz.f54), (56, some Go.Proofs.Tryz.f56), (57, some Go.Proofs.Tryz.f57), (58, some Go.Proofs.Tryz.f58), (59, some Go.Proofs.Tryz.f59), (60, some Go.Proofs.Tryz.f60), (61, some Go.Proofs.Tryz.f61), (62, some Go.Proofs.Tryz.f62), (63, some Go.Proofs.Tryz.f63), (64, some Go.Proofs.Tryz.f64), (65, some Go.Proofs.Tryz.f65), (66, some Go.Proofs.Tryz.f66), (67, some Go.Proofs.Tryz.f67), (68, some Go.Proofs.Tryz.f68), (69, some Go.Proofs.Tryz.f69), (70, some Go.Proofs.Tryz.f70), (72, some Go.Proofs.Tryz.f72), (74, some Go.Proofs.Tryz.f74), (76, some Go.Proofs.Tryz.f76), (77, some Go.Proofs.Tryz.f77), (83, some Go.Proofs.Tryz.f83), (84, some Go.Proofs.Tryz.f84), (85, some Go.Proofs.Tryz.f85), (86, some Go.Proofs.Tryz.f86), (87, some Go.Proofs.Tryz.f87), (88, some Go.Proofs.Tryz.f88), (89, some Go.Proofs.Tryz.f89), (90, some Go.Proofs.Tryz.f90), (91, some Go.Proofs.Tryz.f91), (92, some Go.Proofs.Tryz.f92), (93, some Go.Proofs.Tryz.f93), (94, some Go.Proofs.Tryz.f94), (95, some Go.Proofs.Tryz.f95), (96, some Go.Proofs.Tryz.f96), (97, some Go.Proofs.Tryz.f97), (98, some Go.Proofs.Tryz.f98), (99, some Go.Proofs.Tryz.f99), (100, some Go.Proofs.Tryz.f100), (101, some Go.Proofs.Tryz.f101), (102, some Go.Proofs.Tryz.f102), (103, some Go.Proofs.Tryz.f103), (104, some Go.Proofs.Tryz.f104), (105, some Go.Proofs.Tryz.f105), (106, some Go.Proofs.Tryz.f106), (108, some Go.Proofs.Tryz.f108), (109, some Go.Proofs.Tryz.f109), (110, some Go.Proofs.Tryz.f110), (111, some Go.Proofs.Tryz.f111), (112, some Go.Proofs.Tryz.f112), (113, some Go.Proofs.Tryz.f113), (114, some Go.Proofs.Tryz.f114), (115, some Go.Proofs.Tryz.f115), (116, some Go.Proofs.Tryz.f116), (117, some Go.Proofs.Tryz.f117), (118, some Go.Proofs.Tryz.f118), (123, some Go.Proofs.Tryz.f123), (127, some Go.Proofs.Tryz.f127), (128, some Go.Proofs.Tryz.f128), (129, some Go.Proofs.Tryz.f129), (132, some Go.Proofs.Tryz.f132), (134, some Go.Proofs.Tryz.f134), (136, some Go.Proofs.Tryz.f136), (137, some Go.Proofs.Tryz.f137), (138, some Go.Proofs.Tryz.f138), (139, some Go.Proofs.Tryz.f139), (140, some Go.Proofs.Tryz.f140), (141, some Go.Proofs.Tryz.f141), (142, some Go.Proofs.Tryz.f142), (143, some Go.Proofs.Tryz.f143), (145, some Go.Proofs.Tryz.f145), (146, some Go.Proofs.Tryz.f146), (147, some Go.Proofs.Tryz.f147), (148, some Go.Proofs.Tryz.f148), (154, some Go.Proofs.Tryz.f154), (158, some Go.Proofs.Tryz.f158), (159, some Go.Proofs.Tryz.f159), (160, some Go.Proofs.Tryz.f160), (163, some Go.Proofs.Tryz.f163), (164, some Go.Proofs.Tryz.f164), (165, some Go.Proofs.Tryz.f165), (169, some Go.Proofs.Tryz.f169), (172, some Go.Proofs.Tryz.f172), (175, some Go.Proofs.Tryz.f175), (176, some Go.Proofs.Tryz.f176), (177, some Go.Proofs.Tryz.f177), (179, some Go.Proofs.Tryz.f179), (191, some Go.Proofs.Tryz.f191), (192, some Go.Proofs.Tryz.f192), (193, some Go.Proofs.Tryz.f193), (194, some Go.Proofs.Tryz.f194), (202, some Go.Proofs.Tryz.f202), (203, some Go.Proofs.Tryz.f203), (208, some Go.Proofs.Tryz.f208)]
def cP : bh := ⟨[.agg [.val (.slice (.cons .str (.cons (.slice .str) (.cons (.cons (.slice (.cons (.int .i64) (.cons (.int .i64) (.cons .str .nil)))) .nil) .nil)))) false, .val (.slice .str) false, .val (.slice (.cons (.int .i64) (.cons (.cons (.slice (.cons (.int .i64) (.cons (.int .i64) (.cons .str .nil)))) .nil) (.cons (.cons (.slice (.cons (.int .i64) (.cons (.int .i64) (.cons .str .nil)))) .nil) .nil)))) false], .cell (.val .str false), .cell (.val .str false)], [(0, [.val .bool true])], ey⟩
def j1 : bh := ⟨[.agg [.val (.aI 59 (.cons .str (.cons (.aI 9 .str) (.cons (.cons (.aI 73 (.cons (.int .i64) (.cons (.int .i64) (.cons .str .nil)))) .nil) .nil)))) false, .val (.aI 9 .str) false, .val (.aI 57 (.cons (.int .i64) (.cons (.cons (.aI 73 (.cons (.int .i64) (.cons (.int .i64) (.cons .str .nil)))) .nil) (.cons (.cons (.aI 73 (.cons (.int .i64) (.cons (.int .i64) (.cons .str .nil)))) .nil) .nil)))) false], .cell (.val .str false), .cell (.val .str false)], [(1, [.val (.aI 59 (.cons .str (.cons (.aI 9 .str) (.cons (.cons (.aI 73 (.cons (.int .i64) (.cons (.int .i64) (.cons .str .nil)))) .nil) .nil)))) true, .val (.aI 9 .str) true, .val (.aI 57 (.cons (.int .i64) (.cons (.cons (.aI 73 (.cons (.int .i64) (.cons (.int .i64) (.cons .str .nil)))) .nil) (.cons (.cons (.aI 73 (.cons (.int .i64) (.cons (.int .i64) (.cons .str .nil)))) .nil) .nil)))) true]), (0, [.val .bool true])], ey⟩
def j2 : bh := ⟨[.agg [.val (.aI 59 (.cons .str (.cons (.aI 9 .str) (.cons (.cons (.aI 73 (.cons (.int .i64) (.cons (.int .i64) (.cons .str .nil)))) .nil) .nil)))) false, .val (.aI 9 .str) false, .val (.aI 57 (.cons (.int .i64) (.cons (.cons (.aI 73 (.cons (.int .i64) (.cons (.int .i64) (.cons .str .nil)))) .nil) (.cons (.cons (.aI 73 (.cons (.int .i64) (.cons (.int .i64) (.cons .str .nil)))) .nil) .nil)))) false], .cell (.val .str false), .cell (.val .str false)], [(1, [.val (.aI 59 (.cons .str (.cons (.aI 9 .str) (.cons (.cons (.aI 73 (.cons (.int .i64) (.cons (.int .i64) (.cons .str .nil)))) .nil) .nil)))) true, .val (.aI 9 .str) true, .val (.aI 57 (.cons (.int .i64) (.cons (.cons (.aI 73 (.cons (.int .i64) (.cons (.int .i64) (.cons .str .nil)))) .nil) (.cons (.cons (.aI 73 (.cons (.int .i64) (.cons (.int .i64) (.cons .str .nil)))) .nil) .nil)))) true]), (0, [.val .bool true])], ey⟩
def sG : bh := ⟨[.agg [.val (.slice (.cons .str (.cons (.slice .str) (.cons (.cons (.slice (.cons (.int .i64) (.cons (.int .i64) (.cons .str .nil)))) .nil) .nil)))) false, .val (.slice .str) false, .val (.slice (.cons (.int .i64) (.cons (.cons (.slice (.cons (.int .i64) (.cons (.int .i64) (.cons .str .nil)))) .nil) (.cons (.cons (.slice (.cons (.int .i64) (.cons (.int .i64) (.cons .str .nil)))) .nil) .nil)))) false]], [(0, [.val (.int .i64) true])], []⟩
def wY : bh := ⟨[.agg [.val (.slice (.cons .str (.cons (.slice .str) (.cons (.cons (.slice (.cons (.int .i64) (.cons (.int .i64) (.cons .str .nil)))) .nil) .nil)))) false, .val (.slice .str) false, .val (.slice (.cons (.int .i64) (.cons (.cons (.slice (.cons (.int .i64) (.cons (.int .i64) (.cons .str .nil)))) .nil) (.cons (.cons (.slice (.cons (.int .i64) (.cons (.int .i64) (.cons .str .nil)))) .nil) .nil)))) false], .cell (.val (.int .i64) false)], [(0, [.val (.int .i64) true])], []⟩
def od : bh := ⟨[.agg [.val (.slice (.cons .str (.cons (.slice .str) (.cons (.cons (.slice (.cons (.int .i64) (.cons (.int .i64) (.cons .str .nil)))) .nil) .nil)))) false, .val (.slice .str) false, .val (.slice (.cons (.int .i64) (.cons (.cons (.slice (.cons (.int .i64) (.cons (.int .i64) (.cons .str .nil)))) .nil) (.cons (.cons (.slice (.cons (.int .i64) (.cons (.int .i64) (.cons .str .nil)))) .nil) .nil)))) false]], [(1, [.val (.aI 59 (.cons .str (.cons (.aI 9 .str) (.cons (.cons (.aI 73 (.cons (.int .i64) (.cons (.int .i64) (.cons .str .nil)))) .nil) .nil)))) true, .val (.aI 9 .str) true, .val (.aI 57 (.cons (.int .i64) (.cons (.cons (.aI 73 (.cons (.int .i64) (.cons (.int .i64) (.cons .str .nil)))) .nil) (.cons (.cons (.aI 73 (.cons (.int .i64) (.cons (.int .i64) (.cons .str .nil)))) .nil) .nil)))) true])], ey⟩
def wZ : bh := ⟨[.agg [.val (.slice (.cons .str (.cons (.slice .str) (.cons (.cons (.slice (.cons (.int .i64) (.cons (.int .i64) (.cons .str .nil)))) .nil) .nil)))) false, .val (.slice .str) false, .val (.slice (.cons (.int .i64) (.cons (.cons (.slice (.cons (.int .i64) (.cons (.int .i64) (.cons .str .nil)))) .nil) (.cons (.cons (.slice (.cons (.int .i64) (.cons (.int .i64) (.cons .str .nil)))) .nil) .nil)))) false], .agg [.val (.slice (.cons .str (.cons (.slice .str) (.cons (.cons (.slice (.cons (.int .i64) (.cons (.int .i64) (.cons .str .nil)))) .nil) .nil)))) false, .val (.slice .str) false, .val (.slice (.cons (.int .i64) (.cons (.cons (.slice (.cons (.int .i64) (.cons (.int .i64) (.cons .str .nil)))) .nil) (.cons (.cons (.slice (.cons (.int .i64) (.cons (.int .i64) (.cons .str .nil)))) .nil) .nil)))) false]], [(0, [.val .bool true])], []⟩
def l6 : bh := ⟨[.agg [.val (.aI 59 (.cons .str (.cons (.aI 9 .str) (.cons (.cons (.aI 73 (.cons (.int .i64) (.cons (.int .i64) (.cons .str .nil)))) .nil) .nil)))) false, .val (.aI 9 .str) false, .val (.aI 57 (.cons (.int .i64) (.cons (.cons (.aI 73 (.cons (.int .i64) (.cons (.int .i64) (.cons .str .nil)))) .nil) (.cons (.cons (.aI 73 (.cons (.int .i64) (.cons (.int .i64) (.cons .str .nil)))) .nil) .nil)))) false], .cell (.val (.int .i64) false)], [(0, [.val (.int .i64) true])], ey⟩
def sH : bh := ⟨[.agg [.val (.slice (.cons .str (.cons (.slice .str) (.cons (.cons (.slice (.cons (.int .i64) (.cons (.int .i64) (.cons .str .nil)))) .nil) .nil)))) false, .val (.slice .str) false, .val (.slice (.cons (.int .i64) (.cons (.cons (.slice (.cons (.int .i64) (.cons (.int .i64) (.cons .str .nil)))) .nil) (.cons (.cons (.slice (.cons (.int .i64) (.cons (.int .i64) (.cons .str .nil)))) .nil) .nil)))) false], .cell (.val (.int .i64) false)], [(0, [.val (.int .i64) true])], []⟩
def fC : bh := ⟨[.cell (.val (.slice .str) false), .cell (.val .str false)], [(0, [.val (.int .i64) true])], []⟩
def dk : bh := ⟨[.cell (.val .str false)], [(0, [.val .bool true])], []⟩
def eP : bh := ⟨[.cell (.val (.slice .str) false), .cell (.val .str false)], [(0, [.val .bool true])], []⟩
def mX : bh := ⟨[.agg [.val (.slice (.cons .str (.cons (.slice .str) (.cons (.cons (.slice (.cons (.int .i64) (.cons (.int .i64) (.cons .str .nil)))) .nil) .nil)))) false, .val (.slice .str) false, .val (.slice (.cons (.int .i64) (.cons (.cons (.slice (.cons (.int .i64) (.cons (.int .i64) (.cons .str .nil)))) .nil) (.cons (.cons (.slice (.cons (.int .i64) (.cons (.int .i64) (.cons .str .nil)))) .nil) .nil)))) false]], [(0, [.val (.slice .str) true])], []⟩
def jg : bh := ⟨[.agg [.val (.aI 59 (.cons .str (.cons (.aI 9 .str) (.cons (.cons (.aI 73 (.cons (.int .i64) (.cons (.int .i64) (.cons .str .nil)))) .nil) .nil)))) false, .val (.aI 9 .str) false, .val (.aI 57 (.cons (.int .i64) (.cons (.cons (.aI 73 (.cons (.int .i64) (.cons (.int .i64) (.cons .str .nil)))) .nil) (.cons (.cons (.aI 73 (.cons (.int .i64) (.cons (.int .i64) (.cons .str .nil)))) .nil) .nil)))) false]], [(1, [.val (.aI 59 (.cons .str (.cons (.aI 9 .str) (.cons (.cons (.aI 73 (.cons (.int .i64) (.cons (.int .i64) (.cons .str .nil)))) .nil) .nil)))) true, .val (.aI 9 .str) true, .val (.aI 57 (.cons (.int .i64) (.cons (.cons (.aI 73 (.cons (.int .i64) (.cons (.int .i64) (.cons .str .nil)))) .nil) (.cons (.cons (.aI 73 (.cons (.int .i64) (.cons (.int .i64) (.cons .str .nil)))) .nil) .nil)))) true])], ey⟩
def uF : bh := ⟨[.cell (.val (.slice .str) false), .cell (.val .str false)], [(0, [.val (.int .i64) true])], []⟩
def sI : bh := ⟨[.agg [.val (.slice (.cons .str (.cons (.slice .str) (.cons (.cons (.slice (.cons (.int .i64) (.cons (.int .i64) (.cons .str .nil)))) .nil) .nil)))) false, .val (.slice .str) false, .val (.slice (.cons (.int .i64) (.cons (.cons (.slice (.cons (.int .i64) (.cons (.int .i64) (.cons .str .nil)))) .nil) (.cons (.cons (.slice (.cons (.int .i64) (.cons (.int .i64) (.cons .str .nil)))) .nil) .nil)))) false]], [(0, [.val (.int .i64) true])], []⟩
def px : bh := ⟨[.cell (.val .str false)], [(0, [.val .bool true])], []⟩
def sJ : bh := ⟨[.agg [.val (.slice (.cons .str (.cons (.slice .str) (.cons (.cons (.slice (.cons (.int .i64) (.cons (.int .i64) (.cons .str .nil)))) .nil) .nil)))) false, .val (.slice .str) false, .val (.slice (.cons (.int .i64) (.cons (.cons (.slice (.cons (.int .i64) (.cons (.int .i64) (.cons .str .nil)))) .nil) (.cons (.cons (.slice (.cons (.int .i64) (.cons (.int .i64) (.cons .str .nil)))) .nil) .nil)))) false], .cell (.val .str false)], [(0, [.val .bool true])], []⟩
def oe : bh := ⟨[.agg [.val (.aI 59 (.cons .str (.cons (.aI 9 .str) (.cons (.cons (.aI 73 (.cons (.int .i64) (.cons (.int .i64) (.cons .str .nil)))) .nil) .nil)))) false, .val (.aI 9 .str) false, .val (.aI 57 (.cons (.int .i64) (.cons (.cons (.aI 73 (.cons (.int .i64) (.cons (.int .i64) (.cons .str .nil)))) .nil) (.cons (.cons (.aI 73 (.cons (.int .i64) (.cons (.int .i64) (.cons .str .nil)))) .nil) .nil)))) false]], [(1, [.val (.aI 59 (.cons .str (.cons (.aI 9 .str) (.cons (.cons (.aI 73 (.cons (.int .i64) (.cons (.int .i64) (.cons .str .nil)))) .nil) .nil)))) true, .val (.aI 9 .str) true, .val (.aI 57 (.cons (.int .i64) (.cons (.cons (.aI 73 (.cons (.int .i64) (.cons (.int .i64) (.cons .str .nil)))) .nil) (.cons (.cons (.aI 73 (.cons (.int .i64) (.cons (.int .i64) (.cons .str .nil)))) .nil) .nil)))) true])], ey⟩
def mY : bh := ⟨[.agg [.val (.aI 73 (.cons (.int .i64) (.cons (.int .i64) (.cons .str .nil)))) false], .cell (.val .str false), .cell (.val .str false)], [], ey⟩
def og : bh := ⟨[.agg [.val (.slice (.cons .str (.cons (.slice .str) (.cons (.cons (.slice (.cons (.int .i64) (.cons (.int .i64) (.cons .str .nil)))) .nil) .nil)))) false, .val (.slice .str) false, .val (.slice (.cons (.int .i64) (.cons (.cons (.slice (.cons (.int .i64) (.cons (.int .i64) (.cons .str .nil)))) .nil) (.cons (.cons (.slice (.cons (.int .i64) (.cons (.int .i64) (.cons .str .nil)))) .nil) .nil)))) false]], [(0, [.val .bool true])], []⟩
def qw : bh := ⟨[.agg [.val (.slice (.cons .str (.cons (.slice .str) (.cons (.cons (.slice (.cons (.int .i64) (.cons (.int .i64) (.cons .str .nil)))) .nil) .nil)))) false, .val (.slice .str) false, .val (.slice (.cons (.int .i64) (.cons (.cons (.slice (.cons (.int .i64) (.cons (.int .i64) (.cons .str .nil)))) .nil) (.cons (.cons (.slice (.cons (.int .i64) (.cons (.int .i64) (.cons .str .nil)))) .nil) .nil)))) false]], [(0, [.val .bool true])], []⟩
def py : bh := ⟨[.agg [.val (.slice (.cons .str (.cons (.slice .str) (.cons (.cons (.slice (.cons (.int .i64) (.cons (.int .i64) (.cons .str .nil)))) .nil) .nil)))) false, .val (.slice .str) false, .val (.slice (.cons (.int .i64) (.cons (.cons (.slice (.cons (.int .i64) (.cons (.int .i64) (.cons .str .nil)))) .nil) (.cons (.cons (.slice (.cons (.int .i64) (.cons (.int .i64) (.cons .str .nil)))) .nil) .nil)))) false]], [(0, [.val .bool true])], []⟩
def mZ : bh := ⟨[.agg [.val (.slice (.cons .str (.cons (.slice .str) (.cons (.cons (.slice (.cons (.int .i64) (.cons (.int .i64) (.cons .str .nil)))) .nil) .nil)))) false, .val (.slice .str) false, .val (.slice (.cons (.int .i64) (.cons (.cons (.slice (.cons (.int .i64) (.cons (.int .i64) (.cons .str .nil)))) .nil) (.cons (.cons (.slice (.cons (.int .i64) (.cons (.int .i64) (.cons .str .nil)))) .nil) .nil)))) false], .agg [.val .str false, .val (.slice .str) false, .val (.slice (.cons (.int .i64) (.cons (.int .i64) (.cons .str .nil)))) false]], [(0, [.val (.int .i64) true])], []⟩
def na : bh := ⟨[.agg [.val (.slice (.cons .str (.cons (.slice .str) (.cons (.cons (.slice (.cons (.int .i64) (.cons (.int .i64) (.cons .str .nil)))) .nil) .nil)))) false, .val (.slice .str) false, .val (.slice (.cons (.int .i64) (.cons (.cons (.slice (.cons (.int .i64) (.cons (.int .i64) (.cons .str .nil)))) .nil) (.cons (.cons (.slice (.cons (.int .i64) (.cons (.int .i64) (.cons .str .nil)))) .nil) .nil)))) false], .agg [.val (.int .i64) false, .val (.slice (.cons (.int .i64) (.cons (.int .i64) (.cons .str .nil)))) false, .val (.slice (.cons (.int .i64) (.cons (.int .i64) (.cons .str .nil)))) false]], [(0, [.val (.int .i64) true])], []⟩
def qy : bh := ⟨[.agg [.val (.slice (.cons .str (.cons (.slice .str) (.cons (.cons (.slice (.cons (.int .i64) (.cons (.int .i64) (.cons .str .nil)))) .nil) .nil)))) false, .val (.slice .str) false, .val (.slice (.cons (.int .i64) (.cons (.cons (.slice (.cons (.int .i64) (.cons (.int .i64) (.cons .str .nil)))) .nil) (.cons (.cons (.slice (.cons (.int .i64) (.cons (.int .i64) (.cons .str .nil)))) .nil) .nil)))) false]], [(0, [.val (.int .i64) true])], []⟩
def GJ : bh := ⟨[.cell (.val (.int .i64) false), .cell (.val (.int .i64) false), .cell (.val (.int .i64) false)], [(0, [.val .bool true])], []⟩
def fK : bh := ⟨[.cell (.row .str 9 false)], [(0, [.row .str 9 false])], []⟩
def pz : bh := ⟨[.cell (.val (.slice (.cons .str (.cons (.slice .str) (.cons (.cons (.slice (.cons (.int .i64) (.cons (.int .i64) (.cons .str .nil)))) .nil) .nil)))) false), .cell (.val (.int .i64) false)], [(0, [.val (.int .i64) true])], []⟩
def qz : bh := ⟨[.cell (.val (.slice .str) false), .cell (.val (.int .i64) false)], [(0, [.val (.int .i64) true])], []⟩
def pA : bh := ⟨[.cell (.val (.slice (.cons (.int .i64) (.cons (.cons (.slice (.cons (.int .i64) (.cons (.int .i64) (.cons .str .nil)))) .nil) (.cons (.cons (.slice (.cons (.int .i64) (.cons (.int .i64) (.cons .str .nil)))) .nil) .nil)))) false), .cell (.val (.int .i64) false)], [(0, [.val (.int .i64) true])], []⟩
def j3 : bh := ⟨[.cell (.val (.slice (.cons .str (.cons (.slice .str) (.cons (.cons (.slice (.cons (.int .i64) (.cons (.int .i64) (.cons .str .nil)))) .nil) .nil)))) false)], [(0, [.val (.aI 59 (.cons .str (.cons (.aI 9 .str) (.cons (.cons (.aI 73 (.cons (.int .i64) (.cons (.int .i64) (.cons .str .nil)))) .nil) .nil)))) true])], ey⟩
def kO : bh := ⟨[.cell (.val (.slice .str) false)], [(0, [.val (.aI 9 .str) true])], ey⟩
def j4 : bh := ⟨[.cell (.val (.slice (.cons (.int .i64) (.cons (.cons (.slice (.cons (.int .i64) (.cons (.int .i64) (.cons .str .nil)))) .nil) (.cons (.cons (.slice (.cons (.int .i64) (.cons (.int .i64) (.cons .str .nil)))) .nil) .nil)))) false)], [(0, [.val (.aI 57 (.cons (.int .i64) (.cons (.cons (.aI 73 (.cons (.int .i64) (.cons (.int .i64) (.cons .str .nil)))) .nil) (.cons (.cons (.aI 73 (.cons (.int .i64) (.cons (.int .i64) (.cons .str .nil)))) .nil) .nil)))) true])], ey⟩
def pB : bh := ⟨[.cell (.val (.slice (.cons .str (.cons (.slice .str) (.cons (.cons (.slice (.cons (.int .i64) (.cons (.int .i64) (.cons .str .nil)))) .nil) .nil)))) false), .cell (.val (.slice (.cons .str (.cons (.slice .str) (.cons (.cons (.slice (.cons (.int .i64) (.cons (.int .i64) (.cons .str .nil)))) .nil) .nil)))) false)], [(0, [.val .bool true])], []⟩
def qA : bh := ⟨[.cell (.val (.slice .str) false), .cell (.val (.slice .str) false)], [(0, [.val .bool true])], []⟩
def pC : bh := ⟨[.cell (.val (.slice (.cons (.int .i64) (.cons (.cons (.slice (.cons (.int .i64) (.cons (.int .i64) (.cons .str .nil)))) .nil) (.cons (.cons (.slice (.cons (.int .i64) (.cons (.int .i64) (.cons .str .nil)))) .nil) .nil)))) false), .cell (.val (.slice (.cons (.int .i64) (.cons (.cons (.slice (.cons (.int .i64) (.cons (.int .i64) (.cons .str .nil)))) .nil) (.cons (.cons (.slice (.cons (.int .i64) (.cons (.int .i64) (.cons .str .nil)))) .nil) .nil)))) false)], [(0, [.val .bool true])], []⟩
def iL : bh := ⟨[.cell (.val (.aI 59 (.cons .str (.cons (.aI 9 .str) (.cons (.cons (.aI 73 (.cons (.int .i64) (.cons (.int .i64) (.cons .str .nil)))) .nil) .nil)))) false), .cell (.val (.int .i64) false)], [(0, [.val (.int .i64) true])], ey⟩
def jh : bh := ⟨[.cell (.val (.aI 9 .str) false), .cell (.val (.int .i64) false)], [(0, [.val (.int .i64) true])], ey⟩
def iM : bh := ⟨[.cell (.val (.aI 57 (.cons (.int .i64) (.cons (.cons (.aI 73 (.cons (.int .i64) (.cons (.int .i64) (.cons .str .nil)))) .nil) (.cons (.cons (.aI 73 (.cons (.int .i64) (.cons (.int .i64) (.cons .str .nil)))) .nil) .nil)))) false), .cell (.val (.int .i64) false)], [(0, [.val (.int .i64) true])], ey⟩
def nb : bh := ⟨[.cell (.val (.slice (.cons .str (.cons (.slice .str) (.cons (.cons (.slice (.cons (.int .i64) (.cons (.int .i64) (.cons .str .nil)))) .nil) .nil)))) false), .cell (.val (.int .i64) false)], [(0, [.val (.int .i64) true])], []⟩
def oh : bh := ⟨[.cell (.val (.slice .str) false), .cell (.val (.int .i64) false)], [(0, [.val (.int .i64) true])], []⟩
def nc : bh := ⟨[.cell (.val (.slice (.cons (.int .i64) (.cons (.cons (.slice (.cons (.int .i64) (.cons (.int .i64) (.cons .str .nil)))) .nil) (.cons (.cons (.slice (.cons (.int .i64) (.cons (.int .i64) (.cons .str .nil)))) .nil) .nil)))) false), .cell (.val (.int .i64) false)], [(0, [.val (.int .i64) true])], []⟩
def pD : bh := ⟨[.agg [.val (.slice (.cons .str (.cons (.slice .str) (.cons (.cons (.slice (.cons (.int .i64) (.cons (.int .i64) (.cons .str .nil)))) .nil) .nil)))) false, .val (.slice .str) false, .val (.slice (.cons (.int .i64) (.cons (.cons (.slice (.cons (.int .i64) (.cons (.int .i64) (.cons .str .nil)))) .nil) (.cons (.cons (.slice (.cons (.int .i64) (.cons (.int .i64) (.cons .str .nil)))) .nil) .nil)))) false], .cell (.val .str false)], [(0, [.val (.int .i64) true])], []⟩
def w3 : bh := ⟨[.agg [.val (.slice (.cons .str (.cons (.slice .str) (.cons (.cons (.slice (.cons (.int .i64) (.cons (.int .i64) (.cons .str .nil)))) .nil) .nil)))) false, .val (.slice .str) false, .val (.slice (.cons (.int .i64) (.cons (.cons (.slice (.cons (.int .i64) (.cons (.int .i64) (.cons .str .nil)))) .nil) (.cons (.cons (.slice (.cons (.int .i64) (.cons (.int .i64) (.cons .str .nil)))) .nil) .nil)))) false], .cell (.val .str false)], [(0, [.val (.int .i64) true])], []⟩
def uG : bh := ⟨[.cell (.val (.slice .str) false)], [(0, [.row .str 9 true])], []⟩
def w4 : bh := ⟨[.agg [.val (.slice (.cons (.int .i64) (.cons (.int .i64) (.cons .str .nil)))) false]], [(0, [.val .bool true])], []⟩
def nf : bh := ⟨[.cell (.val .str false)], [(0, [.val .bool true])], []⟩
def fL : bh := ⟨[.cell (.val (.aI 59 (.cons .str (.cons (.aI 9 .str) (.cons (.cons (.aI 73 (.cons (.int .i64) (.cons (.int .i64) (.cons .str .nil)))) .nil) .nil)))) false)], [(0, [.val (.aI 59 (.cons .str (.cons (.aI 9 .str) (.cons (.cons (.aI 73 (.cons (.int .i64) (.cons (.int .i64) (.cons .str .nil)))) .nil) .nil)))) true])], ey⟩
def ng : bh := ⟨[.cell (.val (.slice .str) false)], [(0, [.row .str 9 true])], []⟩
def fM : bh := ⟨[.cell (.val (.aI 57 (.cons (.int .i64) (.cons (.cons (.aI 73 (.cons (.int .i64) (.cons (.int .i64) (.cons .str .nil)))) .nil) (.cons (.cons (.aI 73 (.cons (.int .i64) (.cons (.int .i64) (.cons .str .nil)))) .nil) .nil)))) false)], [(0, [.val (.aI 57 (.cons (.int .i64) (.cons (.cons (.aI 73 (.cons (.int .i64) (.cons (.int .i64) (.cons .str .nil)))) .nil) (.cons (.cons (.aI 73 (.cons (.int .i64) (.cons (.int .i64) (.cons .str .nil)))) .nil) .nil)))) true])], ey⟩
def hO : bh := ⟨[.cell (.val (.slice (.cons (.int .i64) (.cons (.int .i64) (.cons .str .nil)))) false)], [(0, [.row (.cons (.int .i64) (.cons (.int .i64) (.cons .str .nil))) 73 true])], []⟩
def sK : bh := ⟨[.agg [.val (.slice (.cons .str (.cons (.slice .str) (.cons (.cons (.slice (.cons (.int .i64) (.cons (.int .i64) (.cons .str .nil)))) .nil) .nil)))) false, .val (.slice .str) false, .val (.slice (.cons (.int .i64) (.cons (.cons (.slice (.cons (.int .i64) (.cons (.int .i64) (.cons .str .nil)))) .nil) (.cons (.cons (.slice (.cons (.int .i64) (.cons (.int .i64) (.cons .str .nil)))) .nil) .nil)))) false]], [(0, [.val (.int .i64) true])], []⟩
def pE : bh := ⟨[.agg [.val (.slice (.cons .str (.cons (.slice .str) (.cons (.cons (.slice (.cons (.int .i64) (.cons (.int .i64) (.cons .str .nil)))) .nil) .nil)))) false, .val (.slice .str) false, .val (.slice (.cons (.int .i64) (.cons (.cons (.slice (.cons (.int .i64) (.cons (.int .i64) (.cons .str .nil)))) .nil) (.cons (.cons (.slice (.cons (.int .i64) (.cons (.int .i64) (.cons .str .nil)))) .nil) .nil)))) false], .agg [.val .str false, .val (.slice .str) false, .val (.slice (.cons (.int .i64) (.cons (.int .i64) (.cons .str .nil)))) false]], [(0, [.val (.int .i64) true])], []⟩
def pF : bh := ⟨[.agg [.val (.slice (.cons .str (.cons (.slice .str) (.cons (.cons (.slice (.cons (.int .i64) (.cons (.int .i64) (.cons .str .nil)))) .nil) .nil)))) false, .val (.slice .str) false, .val (.slice (.cons (.int .i64) (.cons (.cons (.slice (.cons (.int .i64) (.cons (.int .i64) (.cons .str .nil)))) .nil) (.cons (.cons (.slice (.cons (.int .i64) (.cons (.int .i64) (.cons .str .nil)))) .nil) .nil)))) false], .agg [.val (.int .i64) false, .val (.slice (.cons (.int .i64) (.cons (.int .i64) (.cons .str .nil)))) false, .val (.slice (.cons (.int .i64) (.cons (.int .i64) (.cons .str .nil)))) false]], [(0, [.val (.int .i64) true])], []⟩
def l7 : bh := ⟨[.agg [.val (.slice (.cons .str (.cons (.slice .str) (.cons (.cons (.slice (.cons (.int .i64) (.cons (.int .i64) (.cons .str .nil)))) .nil) .nil)))) false, .val (.slice .str) false, .val (.slice (.cons (.int .i64) (.cons (.cons (.slice (.cons (.int .i64) (.cons (.int .i64) (.cons .str .nil)))) .nil) (.cons (.cons (.slice (.cons (.int .i64) (.cons (.int .i64) (.cons .str .nil)))) .nil) .nil)))) false]], [(0, [.val (.slice (.aI 4 .bool)) true])], Np⟩
def sL : bh := ⟨[.cell (.val .str false)], [(0, [.val .bool true])], []⟩
def uH : bh := ⟨[.cell (.val .str false)], [(0, [.val .bool true])], []⟩
def uI : bh := ⟨[.agg [.val (.slice (.cons (.int .i64) (.cons (.int .i64) (.cons .str .nil)))) false]], [(1, [.row (.cons (.int .i64) (.cons (.int .i64) (.cons .str .nil))) 73 true])], []⟩
def w5 : bh := ⟨[.agg [.val (.slice (.cons (.int .i64) (.cons (.int .i64) (.cons .str .nil)))) false]], [(0, [.val .bool true])], []⟩
def b8 : bh := ⟨[.cell (.val (.slice .str) false), .fn 97 []], [(0, [.val .bool true])], []⟩
def b9 : bh := ⟨[.cell (.val (.slice .str) false), .fn 98 []], [(0, [.val .bool true])], []⟩
def b5 : bh := ⟨[.cell (.val (.slice .str) false), .fn 103 [[.val (.slice (.cons .str (.cons (.slice .str) (.cons (.cons (.slice (.cons (.int .i64) (.cons (.int .i64) (.cons .str .nil)))) .nil) .nil)))) false, .val (.slice .str) false, .val (.slice (.cons (.int .i64) (.cons (.cons (.slice (.cons (.int .i64) (.cons (.int .i64) (.cons .str .nil)))) .nil) (.cons (.cons (.slice (.cons (.int .i64) (.cons (.int .i64) (.cons .str .nil)))) .nil) .nil)))) false]]], [(0, [.val .bool true])], []⟩
def l8 : bh := ⟨[.cell (.val .str false)], [(0, [.val .bool true])], []⟩
def l9 : bh := ⟨[.cell (.val .str false)], [(0, [.val .bool true])], []⟩
def bB : bh := ⟨[.cell (.val (.slice (.cons .str (.cons (.slice .str) (.cons (.cons (.slice (.cons (.int .i64) (.cons (.int .i64) (.cons .str .nil)))) .nil) .nil)))) false), .fn 100 []], [(0, [.val .bool true])], []⟩
def bw : bh := ⟨[.cell (.val (.slice (.cons .str (.cons (.slice .str) (.cons (.cons (.slice (.cons (.int .i64) (.cons (.int .i64) (.cons .str .nil)))) .nil) .nil)))) false), .fn 102 []], [(0, [.val .bool true])], []⟩
def oi : bh := ⟨[.agg [.val .str false, .val (.slice .str) false, .val (.slice (.cons (.int .i64) (.cons (.int .i64) (.cons .str .nil)))) false]], [(0, [.val .bool true])], []⟩
def zk : bh := ⟨[.cell (.val (.slice .str) false)], [(0, [.val .bool true])], []⟩
def nh : bh := ⟨[.agg [.val .str false, .val (.slice .str) false, .val (.slice (.cons (.int .i64) (.cons (.int .i64) (.cons .str .nil)))) false]], [(0, [.val .bool true])], []⟩
def kP : bh := ⟨[.cell (.val .str false), .box [.val (.slice (.cons .str (.cons (.slice .str) (.cons (.cons (.slice (.cons (.int .i64) (.cons (.int .i64) (.cons .str .nil)))) .nil) .nil)))) false, .val (.slice .str) false, .val (.slice (.cons (.int .i64) (.cons (.cons (.slice (.cons (.int .i64) (.cons (.int .i64) (.cons .str .nil)))) .nil) (.cons (.cons (.slice (.cons (.int .i64) (.cons (.int .i64) (.cons .str .nil)))) .nil) .nil)))) false]], [(0, [.val .bool true])], []⟩
def qB : bh := ⟨[.agg [.val (.slice (.cons .str (.cons (.slice .str) (.cons (.cons (.slice (.cons (.int .i64) (.cons (.int .i64) (.cons .str .nil)))) .nil) .nil)))) false, .val (.slice .str) false, .val (.slice (.cons (.int .i64) (.cons (.cons (.slice (.cons (.int .i64) (.cons (.int .i64) (.cons .str .nil)))) .nil) (.cons (.cons (.slice (.cons (.int .i64) (.cons (.int .i64) (.cons .str .nil)))) .nil) .nil)))) false], .cell (.val (.slice (.cons (.int .i64) (.cons (.int .i64) (.cons .str .nil)))) false), .cell (.val (.slice .str) false)], [(0, [.val (.int .i64) true])], []⟩
def cI : bh := ⟨[.cell (.val (.slice (.slice (.cons (.int .i64) (.cons (.int .i64) (.cons .str .nil))))) false)], [(0, [.row (.cons (.int .i64) (.cons (.int .i64) (.cons .str .nil))) 73 true])], []⟩
def qC : bh := ⟨[.agg [.val (.slice (.cons .str (.cons (.slice .str) (.cons (.cons (.slice (.cons (.int .i64) (.cons (.int .i64) (.cons .str .nil)))) .nil) .nil)))) false, .val (.slice .str) false, .val (.slice (.cons (.int .i64) (.cons (.cons (.slice (.cons (.int .i64) (.cons (.int .i64) (.cons .str .nil)))) .nil) (.cons (.cons (.slice (.cons (.int .i64) (.cons (.int .i64) (.cons .str .nil)))) .nil) .nil)))) false], .cell (.val (.int .i64) false)], [(0, [.val (.slice .bool) true])], []⟩
def aR : bh := ⟨[.cell (.row .str 9 false), .cell (.val (.int .i64) false)], [(0, [.row .str 9 true])], []⟩
def qD : bh := ⟨[.agg [.val .str false, .val (.slice .str) false, .val (.slice (.cons (.int .i64) (.cons (.int .i64) (.cons .str .nil)))) false], .cell (.val (.int .i64) false)], [(0, [.val (.int .i64) true])], []⟩
def qE : bh := ⟨[.agg [.val (.int .i64) false, .val (.slice (.cons (.int .i64) (.cons (.int .i64) (.cons .str .nil)))) false, .val (.slice (.cons (.int .i64) (.cons (.int .i64) (.cons .str .nil)))) false], .cell (.val (.int .i64) false)], [(0, [.val (.int .i64) true])], []⟩
def kQ : bh := ⟨[.agg [.val .str false, .val (.slice .str) false, .val (.slice (.cons (.int .i64) (.cons (.int .i64) (.cons .str .nil)))) false]], [(1, [.val .str true, .val (.aI 9 .str) true, .val (.aI 73 (.cons (.int .i64) (.cons (.int .i64) (.cons .str .nil)))) true])], ey⟩
def kR : bh := ⟨[.agg [.val (.int .i64) false, .val (.slice (.cons (.int .i64) (.cons (.int .i64) (.cons .str .nil)))) false, .val (.slice (.cons (.int .i64) (.cons (.int .i64) (.cons .str .nil)))) false]], [(1, [.val (.int .i64) true, .val (.aI 73 (.cons (.int .i64) (.cons (.int .i64) (.cons .str .nil)))) true, .val (.aI 73 (.cons (.int .i64) (.cons (.int .i64) (.cons .str .nil)))) true])], ey⟩
def qF : bh := ⟨[.agg [.val .str false, .val (.slice .str) false, .val (.slice (.cons (.int .i64) (.cons (.int .i64) (.cons .str .nil)))) false], .agg [.val .str false, .val (.slice .str) false, .val (.slice (.cons (.int .i64) (.cons (.int .i64) (.cons .str .nil)))) false]], [(0, [.val .bool true])], []⟩
def qG : bh := ⟨[.agg [.val (.int .i64) false, .val (.slice (.cons (.int .i64) (.cons (.int .i64) (.cons .str .nil)))) false, .val (.slice (.cons (.int .i64) (.cons (.int .i64) (.cons .str .nil)))) false], .agg [.val (.int .i64) false, .val (.slice (.cons (.int .i64) (.cons (.int .i64) (.cons .str .nil)))) false, .val (.slice (.cons (.int .i64) (.cons (.int .i64) (.cons .str .nil)))) false]], [(0, [.val .bool true])], []⟩
def sM : bh := ⟨[.cell (.val (.int .i64) false)], [(0, [.val .str true])], []⟩
def ix : bh := ⟨[.cell (.val (.aI 73 (.cons (.int .i64) (.cons (.int .i64) (.cons .str .nil)))) false), .cell (.val (.int .i64) false)], [(0, [.val (.int .i64) true])], ey⟩
def ma : bh := ⟨[.cell (.val (.slice (.cons (.int .i64) (.cons (.int .i64) (.cons .str .nil)))) false), .cell (.val (.int .i64) false)], [(0, [.val (.int .i64) true])], []⟩
def bL : bh := ⟨[.cell (.val (.slice (.cons .str (.cons (.slice .str) (.cons (.cons (.slice (.cons (.int .i64) (.cons (.int .i64) (.cons .str .nil)))) .nil) .nil)))) false), .fn 100 []], [(0, [.val (.int .i64) true])], []⟩
def bF : bh := ⟨[.cell (.val (.slice (.cons .str (.cons (.slice .str) (.cons (.cons (.slice (.cons (.int .i64) (.cons (.int .i64) (.cons .str .nil)))) .nil) .nil)))) false), .fn 102 []], [(0, [.val (.int .i64) true])], []⟩
def bG : bh := ⟨[.cell (.val (.slice (.cons .str (.cons (.slice .str) (.cons (.cons (.slice (.cons (.int .i64) (.cons (.int .i64) (.cons .str .nil)))) .nil) .nil)))) false), .fn 118 [[.val .str false]]], [(0, [.val (.int .i64) true])], []⟩
def ni : bh := ⟨[.agg [.val .str false, .val (.slice .str) false, .val (.slice (.cons (.int .i64) (.cons (.int .i64) (.cons .str .nil)))) false], .box [.val .str false]], [(0, [.val .bool true])], []⟩
def uJ : bh := ⟨[.agg [.val (.int .i64) false, .val (.int .i64) false, .val .str false]], [(0, [.val (.int .i64) true])], []⟩
def sN : bh := ⟨[.cell (.val (.int .u8) false)], [(0, [.val .bool true])], []⟩
def sO : bh := ⟨[.cell (.val (.int .u8) false)], [(0, [.val .bool true])], []⟩
def cF : bh := ⟨[.cell (.val (.aI 59 (.cons .str (.cons (.aI 9 .str) (.cons (.cons (.aI 73 (.cons (.int .i64) (.cons (.int .i64) (.cons .str .nil)))) .nil) .nil)))) false)], [(0, [.val (.aI 59 (.cons .str (.cons (.aI 9 .str) (.cons (.cons (.aI 73 (.cons (.int .i64) (.cons (.int .i64) (.cons .str .nil)))) .nil) .nil)))) true])], ey⟩
def av : bh := ⟨[.cell (.val (.aI 59 (.cons .str (.cons (.aI 9 .str) (.cons (.cons (.aI 73 (.cons (.int .i64) (.cons (.int .i64) (.cons .str .nil)))) .nil) .nil)))) false)], [(0, [.row (.cons .str (.cons (.aI 9 .str) (.cons (.cons (.aI 73 (.cons (.int .i64) (.cons (.int .i64) (.cons .str .nil)))) .nil) .nil))) 59 true])], ey⟩
def aO : bh := ⟨[.cell (.val (.slice .str) false)], [(0, [.row .str 9 true])], []⟩
def cG : bh := ⟨[.cell (.val (.aI 57 (.cons (.int .i64) (.cons (.cons (.aI 73 (.cons (.int .i64) (.cons (.int .i64) (.cons .str .nil)))) .nil) (.cons (.cons (.aI 73 (.cons (.int .i64) (.cons (.int .i64) (.cons .str .nil)))) .nil) .nil)))) false)], [(0, [.val (.aI 57 (.cons (.int .i64) (.cons (.cons (.aI 73 (.cons (.int .i64) (.cons (.int .i64) (.cons .str .nil)))) .nil) (.cons (.cons (.aI 73 (.cons (.int .i64) (.cons (.int .i64) (.cons .str .nil)))) .nil) .nil)))) true])], ey⟩
def aw : bh := ⟨[.cell (.val (.aI 57 (.cons (.int .i64) (.cons (.cons (.aI 73 (.cons (.int .i64) (.cons (.int .i64) (.cons .str .nil)))) .nil) (.cons (.cons (.aI 73 (.cons (.int .i64) (.cons (.int .i64) (.cons .str .nil)))) .nil) .nil)))) false)], [(0, [.row (.cons (.int .i64) (.cons (.cons (.aI 73 (.cons (.int .i64) (.cons (.int .i64) (.cons .str .nil)))) .nil) (.cons (.cons (.aI 73 (.cons (.int .i64) (.cons (.int .i64) (.cons .str .nil)))) .nil) .nil))) 57 true])], ey⟩
def c7 : bh := ⟨[.cell (.row (.cons (.int .i64) (.cons (.int .i64) (.cons .str .nil))) 73 false)], [(0, [.row (.cons (.int .i64) (.cons (.int .i64) (.cons .str .nil))) 73 false])], []⟩
def aA : bh := ⟨[.cell (.val (.slice (.cons (.int .i64) (.cons (.int .i64) (.cons .str .nil)))) false)], [(0, [.row (.cons (.int .i64) (.cons (.int .i64) (.cons .str .nil))) 73 true])], []⟩
def qH : bh := ⟨[.agg [.val (.slice (.cons .str (.cons (.slice .str) (.cons (.cons (.slice (.cons (.int .i64) (.cons (.int .i64) (.cons .str .nil)))) .nil) .nil)))) false, .val (.slice .str) false, .val (.slice (.cons (.int .i64) (.cons (.cons (.slice (.cons (.int .i64) (.cons (.int .i64) (.cons .str .nil)))) .nil) (.cons (.cons (.slice (.cons (.int .i64) (.cons (.int .i64) (.cons .str .nil)))) .nil) .nil)))) false]], [(0, [.val .bool true])], []⟩
def oj : bh := ⟨[.cell (.val (.slice .str) false)], [(0, [.val .bool true])], []⟩
def sP : bh := ⟨[.agg [.val (.slice (.cons .str (.cons (.slice .str) (.cons (.cons (.slice (.cons (.int .i64) (.cons (.int .i64) (.cons .str .nil)))) .nil) .nil)))) false, .val (.slice .str) false, .val (.slice (.cons (.int .i64) (.cons (.cons (.slice (.cons (.int .i64) (.cons (.int .i64) (.cons .str .nil)))) .nil) (.cons (.cons (.slice (.cons (.int .i64) (.cons (.int .i64) (.cons .str .nil)))) .nil) .nil)))) false], .agg [.val (.slice (.cons (.int .i64) (.cons (.int .i64) (.cons .str .nil)))) false], .cell (.val (.slice .str) false)], [(0, [.val (.int .i64) true])], []⟩
def pG : bh := ⟨[.agg [.val (.slice (.cons .str (.cons (.slice .str) (.cons (.cons (.slice (.cons (.int .i64) (.cons (.int .i64) (.cons .str .nil)))) .nil) .nil)))) false, .val (.slice .str) false, .val (.slice (.cons (.int .i64) (.cons (.cons (.slice (.cons (.int .i64) (.cons (.int .i64) (.cons .str .nil)))) .nil) (.cons (.cons (.slice (.cons (.int .i64) (.cons (.int .i64) (.cons .str .nil)))) .nil) .nil)))) false], .cell (.val (.int .i64) false), .cell (.val (.int .i64) false), .cell (.val (.int .i64) false)], [(0, [.val .bool true])], []⟩
def qI : bh := ⟨[.cell (.val (.int .u8) false)], [(0, [.val .bool true])], []⟩
def sQ : bh := ⟨[.cell (.val (.int .u8) false)], [(0, [.val .bool true])], []⟩
def kS : bh := ⟨[.agg [.val (.int .i64) false, .val (.int .i64) false, .val .str false]], [(0, [.val (.int .i64) true])], []⟩
def cr : bh := ⟨[.cell (.val (.slice .str) false), .fn 97 []], [(0, [.val (.int .i64) true])], []⟩
def ct : bh := ⟨[.cell (.val (.slice .str) false), .fn 98 []], [(0, [.val (.int .i64) true])], []⟩
def cm : bh := ⟨[.cell (.val (.slice .str) false), .fn 103 [[.val (.slice (.cons .str (.cons (.slice .str) (.cons (.cons (.slice (.cons (.int .i64) (.cons (.int .i64) (.cons .str .nil)))) .nil) .nil)))) false, .val (.slice .str) false, .val (.slice (.cons (.int .i64) (.cons (.cons (.slice (.cons (.int .i64) (.cons (.int .i64) (.cons .str .nil)))) .nil) (.cons (.cons (.slice (.cons (.int .i64) (.cons (.int .i64) (.cons .str .nil)))) .nil) .nil)))) false]]], [(0, [.val (.int .i64) true])], []⟩
def ay : bh := ⟨[.cell (.row (.cons (.int .i64) (.cons (.int .i64) (.cons .str .nil))) 73 false), .cell (.val (.int .i64) false)], [(0, [.row (.cons (.int .i64) (.cons (.int .i64) (.cons .str .nil))) 73 true])], []⟩
def pH : bh := ⟨[.agg [.val (.slice (.cons (.int .i64) (.cons (.int .i64) (.cons .str .nil)))) false]], [(0, [.row .str 9 true])], []⟩
def w6 : bh := ⟨[.agg [.val (.slice (.cons (.int .i64) (.cons (.int .i64) (.cons .str .nil)))) false], .cell (.val (.int .i64) false)], [(0, [.val (.int .i64) true])], []⟩
def om : bh := ⟨[.agg [.val (.slice (.cons (.int .i64) (.cons (.int .i64) (.cons .str .nil)))) false]], [(1, [.val (.aI 73 (.cons (.int .i64) (.cons (.int .i64) (.cons .str .nil)))) true])], ey⟩
def w7 : bh := ⟨[.agg [.val (.slice (.cons (.int .i64) (.cons (.int .i64) (.cons .str .nil)))) false], .agg [.val (.slice (.cons (.int .i64) (.cons (.int .i64) (.cons .str .nil)))) false]], [(0, [.val .bool true])], []⟩
def qJ : bh := ⟨[.cell (.val .str false)], [(0, [.val .bool true])], []⟩
def sS : bh := ⟨[.cell (.val (.slice .str) false)], [(0, [.val .bool true])], []⟩
def uK : bh := ⟨[.cell (.val (.int .i64) false)], [(0, [.val .bool true])], []⟩
def qK : bh := ⟨[.cell (.val .str false)], [(0, [.val .bool true])], []⟩
def aH : bh := ⟨[.cell (.val (.aI 9 .str) false)], [], JW⟩
def az : bh := ⟨[.cell (.val (.aI 9 .str) false)], [(0, [.row .str 9 true])], JW⟩
def oq : bh := ⟨[.cell (.val (.slice (.cons (.int .i64) (.cons (.int .i64) (.cons .str .nil)))) false), .cell (.val (.int .i64) false)], [(0, [.val (.int .i64) true])], []⟩
def ji : bh := ⟨[.cell (.val (.slice (.cons (.int .i64) (.cons (.int .i64) (.cons .str .nil)))) false)], [(0, [.val (.aI 73 (.cons (.int .i64) (.cons (.int .i64) (.cons .str .nil)))) true])], ey⟩
def ot : bh := ⟨[.cell (.val (.slice (.cons (.int .i64) (.cons (.int .i64) (.cons .str .nil)))) false), .cell (.val (.slice (.cons (.int .i64) (.cons (.int .i64) (.cons .str .nil)))) false)], [(0, [.val .bool true])], []⟩
def w8 : bh := ⟨[.cell (.val .str false), .cell (.val (.int .i64) false)], [(0, [.val (.int .i64) true])], []⟩
def zl : bh := ⟨[.cell (.val .str false)], [(0, [.val .bool true])], []⟩
def pI : bh := ⟨[.agg [.val (.int .i64) false, .val (.int .i64) false, .val .str false], .cell (.val (.int .i64) false)], [(0, [.val (.int .i64) true])], []⟩
def pJ : bh := ⟨[.agg [.val (.int .i64) false, .val (.int .i64) false, .val .str false]], [(1, [.val (.int .i64) true, .val (.int .i64) true, .val .str true])], []⟩
def pK : bh := ⟨[.agg [.val (.int .i64) false, .val (.int .i64) false, .val .str false], .agg [.val (.int .i64) false, .val (.int .i64) false, .val .str false]], [(0, [.val .bool true])], []⟩
def uL : bh := ⟨[.cell (.val .str false)], [(0, [.val .str true]), (0, [.val .str true]), (0, [.val (.int .i64) true]), (0, [.val .bool true])], []⟩
def qL : bh := ⟨[.cell (.val .str false), .cell (.val .str false)], [(0, [.val .str true]), (0, [.val .str true]), (0, [.val .bool true])], []⟩
def ou : bh := ⟨[.cell (.val .str false)], [(0, [.val .bool true])], []⟩
def sT : bh := ⟨[.cell (.val .str false)], [(0, [.val .bool true])], []⟩
def j5 : bh := ⟨[.cell (.val .str false), .cell (.val .str false)], [(0, [.val .str true]), (0, [.val .bool true])], []⟩
def cq : bh := ⟨[.cell (.val .str false)], [(0, [.val (.int .i64) true]), (0, [.val .err true])], []⟩
def gf : bh := ⟨[.cell (.val .str false), .cell (.val .str false)], [(0, [.val .str true]), (0, [.val .str true]), (0, [.val .bool true])], []⟩
def eA : bh := ⟨[.cell (.val .str false), .cell (.val .str false)], [(0, [.val .str true]), (0, [.val .bool true])], []⟩
def aM : bh := ⟨[.cell (.val .str false), .cell (.val .str false)], [(0, [.val (.int .i64) true])], []⟩
def eB : bh := ⟨[.cell (.val .str false), .cell (.val .str false)], [(0, [.val .bool true])], []⟩
def S : Lf := [
 (5, some [([777], cP)]),
 (10, some [([777], j1)]),
 (11, some [([777], j2)]),
 (13, some [([], sG)]),
 (18, some [([], wY)]),
 (19, some [([777], od)]),
 (20, some [([], wZ)]),
 (21, some [([777], l6)]),
 (22, some [([], sH)]),
 (35, some [([], fC)]),
 (36, some [([], dk)]),
 (37, some [([], eP)]),
 (38, some [([], mX)]),
 (39, some [([777], jg)]),
 (40, some [([], uF)]),
 (41, some [([], sI)]),
 (42, some [([], px)]),
 (43, some [([], sJ)]),
 (44, some [([777], oe)]),
 (45, some [([777], mY)]),
 (47, some [([], og)]),
 (48, some [([], qw)]),
 (49, some [([], py)]),
 (50, some [([], mZ)]),
 (51, some [([], na)]),
 (52, some [([], qy)]),
 (53, some [([], GJ)]),
 (54, some [([], fK)]),
 (56, some [([], pz)]),
 (57, some [([], qz)]),
 (58, some [([], pA)]),
 (59, some [([777], j3)]),
 (60, some [([777], kO)]),
 (61, some [([777], j4)]),
 (62, some [([], pB)]),
 (63, some [([], qA)]),
 (64, some [([], pC)]),
 (65, some [([777], iL)]),
 (66, some [([777], jh)]),
 (67, some [([777], iM)]),
 (68, some [([], nb)]),
 (69, some [([], oh)]),
 (70, some [([], nc)]),
 (72, some [([], pD)]),
 (74, some [([], w3)]),
 (76, some [([], uG)]),
 (77, some [([], w4)]),
 (83, some [([], nf)]),
 (84, some [([777], fL)]),
 (85, some [([], ng)]),
 (86, some [([777], fM)]),
 (87, some [([], hO)]),
 (88, some [([], sK)]),
 (89, some [([], pE)]),
 (90, some [([], pF)]),
 (91, some [([778], l7)]),
 (92, some [([], sL)]),
 (93, some [([], uH)]),
 (94, some [([], uI)]),
 (95, some [([], w5)]),
 (96, some [([97], b8), ([98], b9), ([103], b5)]),
 (97, some [([], l8)]),
 (98, some [([], l9)]),
 (99, some [([100], bB), ([102], bw)]),
 (100, some [([], oi)]),
 (101, some [([], zk)]),
 (102, some [([], nh)]),
 (103, some [([], kP)]),
 (104, some [([], qB)]),
 (105, some [([], cI)]),
 (106, some [([], qC)]),
 (107, some [([], aR)]),
 (108, some [([], qD)]),
 (109, some [([], qE)]),
 (110, some [([777], kQ)]),
 (111, some [([777], kR)]),
 (112, some [([], qF)]),
 (113, some [([], qG)]),
 (114, some [([], sM)]),
 (115, some [([777], ix)]),
 (116, some [([], ma)]),
 (117, some [([100], bL), ([102], bF), ([118], bG)]),
 (118, some [([], ni)]),
 (123, some [([], uJ)]),
 (127, some [([], sN)]),
 (128, some [([], sO)]),
 (129, some [([777], cF)]),
 (130, some [([777], av)]),
 (131, some [([], aO)]),
 (132, some [([777], cG)]),
 (133, some [([777], aw)]),
 (134, some [([], c7)]),
 (135, some [([], aA)]),
 (136, some [([], qH)]),
 (137, some [([], oj)]),
 (138, some [([], sP)]),
 (139, some [([], pG)]),
 (140, some [([], qI)]),
 (141, some [([], sQ)]),
 (142, some [([], kS)]),
 (143, some [([97], cr), ([98], ct), ([103], cm)]),
 (144, some [([], ay)]),
 (145, some [([], pH)]),
 (146, some [([], w6)]),
 (147, some [([777], om)]),
 (148, some [([], w7)]),
 (154, some [([], qJ)]),
 (158, some [([], sS)]),
 (159, some [([], uK)]),
 (160, some [([], qK)]),
 (161, some [([779], aH)]),
 (162, some [([779], az)]),
 (163, some [([], oq)]),
 (164, some [([777], ji)]),
 (165, some [([], ot)]),
 (169, some [([], w8)]),
 (172, some [([], zl)]),
 (175, some [([], pI)]),
 (176, some [([], pJ)]),
 (177, some [([], pK)]),
 (179, some [([], uL)]),
 (191, some [([], qL)]),
 (192, some [([], ou)]),
 (193, some [([], sT)]),
 (194, some [([], j5)]),
 (195, some [([], cq)]),
 (202, some [([], gf)]),
 (203, some [([], eA)]),
 (207, some [([], aM)]),
 (208, some [([], eB)])]
end Go.Px.Seat
