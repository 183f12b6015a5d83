/- Own texts, part S1: PxSeat. -/
import Derived.Test.YtmmggkldldbomaaGreatDoorA5
import Derived.Test.YtmmggkldldbomaaGreatDoorProg
set_option linter.unusedVariables false

namespace Go.Px.Seat
open Go
def T : Types := [
  (2, some ⟨(.int .i64), (.int .i64), 1, 8, false⟩),
  (3, some ⟨(.int .i64), (.int .i64), 1, 8, false⟩),
  (4, some ⟨.bool, .bool, 1, 1, false⟩),
  (5, some ⟨(.int .u8), (.int .u8), 1, 1, false⟩),
  (6, some ⟨(.int .u8), (.int .u8), 1, 1, false⟩),
  (7, some ⟨(.struct [(0, 2), (1, 3), (2, 4), (3, 6)]), (.cons (.int .i64) (.cons (.int .i64) (.cons .bool (.cons (.int .u8) .nil)))), 4, 24, false⟩),
  (8, some ⟨(.struct [(0, 2), (1, 3), (2, 4), (3, 6)]), (.cons (.int .i64) (.cons (.int .i64) (.cons .bool (.cons (.int .u8) .nil)))), 4, 24, false⟩),
  (9, some ⟨.string, .str, 1, 16, false⟩),
  (10, some ⟨.string, .str, 1, 16, false⟩),
  (11, some ⟨.string, .str, 1, 16, false⟩),
  (12, some ⟨(.int .u64), (.int .u64), 1, 8, false⟩),
  (13, some ⟨(.struct [(0, 9), (1, 12)]), (.cons .str (.cons (.int .u64) .nil)), 2, 24, false⟩),
  (14, some ⟨(.struct [(0, 9), (1, 12)]), (.cons .str (.cons (.int .u64) .nil)), 2, 24, false⟩),
  (21, some ⟨(.int .i32), (.int .i32), 1, 4, false⟩),
  (22, some ⟨(.slice 5), (.slice (.int .u8)), 1, 24, false⟩),
  (23, some ⟨(.slice 59), (.slice (.cons .str (.cons (.slice .str) (.cons (.cons (.slice (.cons (.int .i64) (.cons (.int .i64) (.cons .str .nil)))) .nil) .nil)))), 1, 24, false⟩),
  (24, some ⟨(.slice 9), (.slice .str), 1, 24, false⟩),
  (25, some ⟨(.slice 57), (.slice (.cons (.int .i64) (.cons (.cons (.slice (.cons (.int .i64) (.cons (.int .i64) (.cons .str .nil)))) .nil) (.cons (.cons (.slice (.cons (.int .i64) (.cons (.int .i64) (.cons .str .nil)))) .nil) .nil)))), 1, 24, false⟩),
  (26, some ⟨(.struct [(0, 23), (1, 24), (2, 25)]), (.cons (.slice (.cons .str (.cons (.slice .str) (.cons (.cons (.slice (.cons (.int .i64) (.cons (.int .i64) (.cons .str .nil)))) .nil) .nil)))) (.cons (.slice .str) (.cons (.slice (.cons (.int .i64) (.cons (.cons (.slice (.cons (.int .i64) (.cons (.int .i64) (.cons .str .nil)))) .nil) (.cons (.cons (.slice (.cons (.int .i64) (.cons (.int .i64) (.cons .str .nil)))) .nil) .nil)))) .nil))), 3, 72, false⟩),
  (27, some ⟨(.struct [(0, 23), (1, 24), (2, 25)]), (.cons (.slice (.cons .str (.cons (.slice .str) (.cons (.cons (.slice (.cons (.int .i64) (.cons (.int .i64) (.cons .str .nil)))) .nil) .nil)))) (.cons (.slice .str) (.cons (.slice (.cons (.int .i64) (.cons (.cons (.slice (.cons (.int .i64) (.cons (.int .i64) (.cons .str .nil)))) .nil) (.cons (.cons (.slice (.cons (.int .i64) (.cons (.int .i64) (.cons .str .nil)))) .nil) .nil)))) .nil))), 3, 72, false⟩),
  (39, some ⟨(.slice 129), (.slice (.cons .str (.cons (.slice .str) (.cons (.cons (.slice (.cons (.int .i64) (.cons (.int .i64) (.cons .str .nil)))) .nil) .nil)))), 1, 24, false⟩),
  (40, some ⟨(.slice 132), (.slice (.cons (.int .i64) (.cons (.cons (.slice (.cons (.int .i64) (.cons (.int .i64) (.cons .str .nil)))) .nil) (.cons (.cons (.slice (.cons (.int .i64) (.cons (.int .i64) (.cons .str .nil)))) .nil) .nil)))), 1, 24, false⟩),
  (41, some ⟨(.struct [(0, 39), (1, 24), (2, 40)]), (.cons (.slice (.cons .str (.cons (.slice .str) (.cons (.cons (.slice (.cons (.int .i64) (.cons (.int .i64) (.cons .str .nil)))) .nil) .nil)))) (.cons (.slice .str) (.cons (.slice (.cons (.int .i64) (.cons (.cons (.slice (.cons (.int .i64) (.cons (.int .i64) (.cons .str .nil)))) .nil) (.cons (.cons (.slice (.cons (.int .i64) (.cons (.int .i64) (.cons .str .nil)))) .nil) .nil)))) .nil))), 3, 72, false⟩),
  (42, some ⟨(.struct [(0, 39), (1, 24), (2, 40)]), (.cons (.slice (.cons .str (.cons (.slice .str) (.cons (.cons (.slice (.cons (.int .i64) (.cons (.int .i64) (.cons .str .nil)))) .nil) .nil)))) (.cons (.slice .str) (.cons (.slice (.cons (.int .i64) (.cons (.cons (.slice (.cons (.int .i64) (.cons (.int .i64) (.cons .str .nil)))) .nil) (.cons (.cons (.slice (.cons (.int .i64) (.cons (.int .i64) (.cons .str .nil)))) .nil) .nil)))) .nil))), 3, 72, false⟩),
  (53, some ⟨(.slice 73), (.slice (.cons (.int .i64) (.cons (.int .i64) (.cons .str .nil)))), 1, 24, false⟩),
  (54, some ⟨(.struct [(0, 53)]), (.cons (.slice (.cons (.int .i64) (.cons (.int .i64) (.cons .str .nil)))) .nil), 1, 24, false⟩),
  (55, some ⟨(.struct [(0, 53)]), (.cons (.slice (.cons (.int .i64) (.cons (.int .i64) (.cons .str .nil)))) .nil), 1, 24, false⟩),
  (56, some ⟨(.struct [(0, 3), (1, 55), (2, 55)]), (.cons (.int .i64) (.cons (.cons (.slice (.cons (.int .i64) (.cons (.int .i64) (.cons .str .nil)))) .nil) (.cons (.cons (.slice (.cons (.int .i64) (.cons (.int .i64) (.cons .str .nil)))) .nil) .nil))), 3, 56, false⟩),
  (57, some ⟨(.struct [(0, 3), (1, 55), (2, 55)]), (.cons (.int .i64) (.cons (.cons (.slice (.cons (.int .i64) (.cons (.int .i64) (.cons .str .nil)))) .nil) (.cons (.cons (.slice (.cons (.int .i64) (.cons (.int .i64) (.cons .str .nil)))) .nil) .nil))), 3, 56, false⟩),
  (58, some ⟨(.struct [(0, 9), (1, 24), (2, 55)]), (.cons .str (.cons (.slice .str) (.cons (.cons (.slice (.cons (.int .i64) (.cons (.int .i64) (.cons .str .nil)))) .nil) .nil))), 3, 64, false⟩),
  (59, some ⟨(.struct [(0, 9), (1, 24), (2, 55)]), (.cons .str (.cons (.slice .str) (.cons (.cons (.slice (.cons (.int .i64) (.cons (.int .i64) (.cons .str .nil)))) .nil) .nil))), 3, 64, false⟩),
  (71, some ⟨(.slice 53), (.slice (.slice (.cons (.int .i64) (.cons (.int .i64) (.cons .str .nil))))), 1, 24, false⟩),
  (72, some ⟨(.struct [(0, 3), (1, 3), (2, 9)]), (.cons (.int .i64) (.cons (.int .i64) (.cons .str .nil))), 3, 32, true⟩),
  (73, some ⟨(.struct [(0, 3), (1, 3), (2, 9)]), (.cons (.int .i64) (.cons (.int .i64) (.cons .str .nil))), 3, 32, true⟩),
  (104, some ⟨(.struct [(0, 22), (1, 3)]), (.cons (.slice (.int .u8)) (.cons (.int .i64) .nil)), 2, 32, false⟩),
  (105, some ⟨(.struct [(0, 22), (1, 3)]), (.cons (.slice (.int .u8)) (.cons (.int .i64) .nil)), 2, 32, false⟩),
  (111, some ⟨(.slice 113), (.slice (.slice .bool)), 1, 24, false⟩),
  (113, some ⟨(.slice 4), (.slice .bool), 1, 24, false⟩),
  (122, some ⟨(.slice 24), (.slice (.slice .str)), 1, 24, false⟩),
  (125, some ⟨(.slice 181), (.slice (.cons (.int .i64) (.cons (.int .i64) (.cons .str .nil)))), 1, 24, false⟩),
  (126, some ⟨(.struct [(0, 125)]), (.cons (.slice (.cons (.int .i64) (.cons (.int .i64) (.cons .str .nil)))) .nil), 1, 24, false⟩),
  (127, some ⟨(.struct [(0, 125)]), (.cons (.slice (.cons (.int .i64) (.cons (.int .i64) (.cons .str .nil)))) .nil), 1, 24, false⟩),
  (128, some ⟨(.struct [(0, 9), (1, 24), (2, 127)]), (.cons .str (.cons (.slice .str) (.cons (.cons (.slice (.cons (.int .i64) (.cons (.int .i64) (.cons .str .nil)))) .nil) .nil))), 3, 64, false⟩),
  (129, some ⟨(.struct [(0, 9), (1, 24), (2, 127)]), (.cons .str (.cons (.slice .str) (.cons (.cons (.slice (.cons (.int .i64) (.cons (.int .i64) (.cons .str .nil)))) .nil) .nil))), 3, 64, false⟩),
  (131, some ⟨(.struct [(0, 3), (1, 127), (2, 127)]), (.cons (.int .i64) (.cons (.cons (.slice (.cons (.int .i64) (.cons (.int .i64) (.cons .str .nil)))) .nil) (.cons (.cons (.slice (.cons (.int .i64) (.cons (.int .i64) (.cons .str .nil)))) .nil) .nil))), 3, 56, false⟩),
  (132, some ⟨(.struct [(0, 3), (1, 127), (2, 127)]), (.cons (.int .i64) (.cons (.cons (.slice (.cons (.int .i64) (.cons (.int .i64) (.cons .str .nil)))) .nil) (.cons (.cons (.slice (.cons (.int .i64) (.cons (.int .i64) (.cons .str .nil)))) .nil) .nil))), 3, 56, false⟩),
  (145, some ⟨(.slice 3), (.slice (.int .i64)), 1, 24, false⟩),
  (179, some ⟨(.int .u64), (.int .u64), 1, 8, false⟩),
  (181, some ⟨(.struct [(0, 3), (1, 3), (2, 9)]), (.cons (.int .i64) (.cons (.int .i64) (.cons .str .nil))), 3, 32, true⟩),
  (197, some ⟨(.int .u32), (.int .u32), 1, 4, false⟩),
  (199, some ⟨(.int .u64), (.int .u64), 1, 8, false⟩),
  (205, some ⟨.err, .err, 1, 16, false⟩),
  (208, some ⟨(.int .u64), (.int .u64), 1, 8, false⟩),
  (254, some ⟨(.int .u8), (.int .u8), 1, 1, false⟩),
  (255, some ⟨(.int .u8), (.int .u8), 1, 1, false⟩),
  (257, some ⟨(.int .i32), (.int .i32), 1, 4, false⟩),
  (258, some ⟨(.int .i32), (.int .i32), 1, 4, false⟩)]
def MS777 : List (Nat × Ty) := [(59, (.cons .str (.cons (.hdr 9 .str) (.cons (.cons (.hdr 73 (.cons (.int .i64) (.cons (.int .i64) (.cons .str .nil)))) .nil) .nil)))), (57, (.cons (.int .i64) (.cons (.cons (.hdr 73 (.cons (.int .i64) (.cons (.int .i64) (.cons .str .nil)))) .nil) (.cons (.cons (.hdr 73 (.cons (.int .i64) (.cons (.int .i64) (.cons .str .nil)))) .nil) .nil)))), (9, .str), (73, (.cons (.int .i64) (.cons (.int .i64) (.cons .str .nil))))]
def T777 : Types := [
  (2, some ⟨(.int .i64), (.int .i64), 1, 8, false⟩),
  (3, some ⟨(.int .i64), (.int .i64), 1, 8, false⟩),
  (4, some ⟨.bool, .bool, 1, 1, false⟩),
  (5, some ⟨(.int .u8), (.int .u8), 1, 1, false⟩),
  (6, some ⟨(.int .u8), (.int .u8), 1, 1, false⟩),
  (7, some ⟨(.struct [(0, 2), (1, 3), (2, 4), (3, 6)]), (.cons (.int .i64) (.cons (.int .i64) (.cons .bool (.cons (.int .u8) .nil)))), 4, 24, false⟩),
  (8, some ⟨(.struct [(0, 2), (1, 3), (2, 4), (3, 6)]), (.cons (.int .i64) (.cons (.int .i64) (.cons .bool (.cons (.int .u8) .nil)))), 4, 24, false⟩),
  (9, some ⟨.string, .str, 1, 16, false⟩),
  (10, some ⟨.string, .str, 1, 16, false⟩),
  (11, some ⟨.string, .str, 1, 16, false⟩),
  (12, some ⟨(.int .u64), (.int .u64), 1, 8, false⟩),
  (13, some ⟨(.struct [(0, 9), (1, 12)]), (.cons .str (.cons (.int .u64) .nil)), 2, 24, false⟩),
  (14, some ⟨(.struct [(0, 9), (1, 12)]), (.cons .str (.cons (.int .u64) .nil)), 2, 24, false⟩),
  (21, some ⟨(.int .i32), (.int .i32), 1, 4, false⟩),
  (22, some ⟨(.slice 5), (.slice (.int .u8)), 1, 24, false⟩),
  (23, some ⟨(.slice 59), (.hdr 59 (.cons .str (.cons (.hdr 9 .str) (.cons (.cons (.hdr 73 (.cons (.int .i64) (.cons (.int .i64) (.cons .str .nil)))) .nil) .nil)))), 1, 24, false⟩),
  (24, some ⟨(.slice 9), (.hdr 9 .str), 1, 24, false⟩),
  (25, some ⟨(.slice 57), (.hdr 57 (.cons (.int .i64) (.cons (.cons (.hdr 73 (.cons (.int .i64) (.cons (.int .i64) (.cons .str .nil)))) .nil) (.cons (.cons (.hdr 73 (.cons (.int .i64) (.cons (.int .i64) (.cons .str .nil)))) .nil) .nil)))), 1, 24, false⟩),
  (26, some ⟨(.struct [(0, 23), (1, 24), (2, 25)]), (.cons (.hdr 59 (.cons .str (.cons (.hdr 9 .str) (.cons (.cons (.hdr 73 (.cons (.int .i64) (.cons (.int .i64) (.cons .str .nil)))) .nil) .nil)))) (.cons (.hdr 9 .str) (.cons (.hdr 57 (.cons (.int .i64) (.cons (.cons (.hdr 73 (.cons (.int .i64) (.cons (.int .i64) (.cons .str .nil)))) .nil) (.cons (.cons (.hdr 73 (.cons (.int .i64) (.cons (.int .i64) (.cons .str .nil)))) .nil) .nil)))) .nil))), 3, 72, false⟩),
  (27, some ⟨(.struct [(0, 23), (1, 24), (2, 25)]), (.cons (.hdr 59 (.cons .str (.cons (.hdr 9 .str) (.cons (.cons (.hdr 73 (.cons (.int .i64) (.cons (.int .i64) (.cons .str .nil)))) .nil) .nil)))) (.cons (.hdr 9 .str) (.cons (.hdr 57 (.cons (.int .i64) (.cons (.cons (.hdr 73 (.cons (.int .i64) (.cons (.int .i64) (.cons .str .nil)))) .nil) (.cons (.cons (.hdr 73 (.cons (.int .i64) (.cons (.int .i64) (.cons .str .nil)))) .nil) .nil)))) .nil))), 3, 72, false⟩),
  (39, some ⟨(.slice 129), (.slice (.cons .str (.cons (.slice .str) (.cons (.cons (.slice (.cons (.int .i64) (.cons (.int .i64) (.cons .str .nil)))) .nil) .nil)))), 1, 24, false⟩),
  (40, some ⟨(.slice 132), (.slice (.cons (.int .i64) (.cons (.cons (.slice (.cons (.int .i64) (.cons (.int .i64) (.cons .str .nil)))) .nil) (.cons (.cons (.slice (.cons (.int .i64) (.cons (.int .i64) (.cons .str .nil)))) .nil) .nil)))), 1, 24, false⟩),
  (41, some ⟨(.struct [(0, 39), (1, 24), (2, 40)]), (.cons (.slice (.cons .str (.cons (.slice .str) (.cons (.cons (.slice (.cons (.int .i64) (.cons (.int .i64) (.cons .str .nil)))) .nil) .nil)))) (.cons (.hdr 9 .str) (.cons (.slice (.cons (.int .i64) (.cons (.cons (.slice (.cons (.int .i64) (.cons (.int .i64) (.cons .str .nil)))) .nil) (.cons (.cons (.slice (.cons (.int .i64) (.cons (.int .i64) (.cons .str .nil)))) .nil) .nil)))) .nil))), 3, 72, false⟩),
  (42, some ⟨(.struct [(0, 39), (1, 24), (2, 40)]), (.cons (.slice (.cons .str (.cons (.slice .str) (.cons (.cons (.slice (.cons (.int .i64) (.cons (.int .i64) (.cons .str .nil)))) .nil) .nil)))) (.cons (.slice .str) (.cons (.slice (.cons (.int .i64) (.cons (.cons (.slice (.cons (.int .i64) (.cons (.int .i64) (.cons .str .nil)))) .nil) (.cons (.cons (.slice (.cons (.int .i64) (.cons (.int .i64) (.cons .str .nil)))) .nil) .nil)))) .nil))), 3, 72, false⟩),
  (53, some ⟨(.slice 73), (.hdr 73 (.cons (.int .i64) (.cons (.int .i64) (.cons .str .nil)))), 1, 24, false⟩),
  (54, some ⟨(.struct [(0, 53)]), (.cons (.hdr 73 (.cons (.int .i64) (.cons (.int .i64) (.cons .str .nil)))) .nil), 1, 24, false⟩),
  (55, some ⟨(.struct [(0, 53)]), (.cons (.hdr 73 (.cons (.int .i64) (.cons (.int .i64) (.cons .str .nil)))) .nil), 1, 24, false⟩),
  (56, some ⟨(.struct [(0, 3), (1, 55), (2, 55)]), (.cons (.int .i64) (.cons (.cons (.hdr 73 (.cons (.int .i64) (.cons (.int .i64) (.cons .str .nil)))) .nil) (.cons (.cons (.hdr 73 (.cons (.int .i64) (.cons (.int .i64) (.cons .str .nil)))) .nil) .nil))), 3, 56, false⟩),
  (57, some ⟨(.struct [(0, 3), (1, 55), (2, 55)]), (.cons (.int .i64) (.cons (.cons (.hdr 73 (.cons (.int .i64) (.cons (.int .i64) (.cons .str .nil)))) .nil) (.cons (.cons (.hdr 73 (.cons (.int .i64) (.cons (.int .i64) (.cons .str .nil)))) .nil) .nil))), 3, 56, false⟩),
  (58, some ⟨(.struct [(0, 9), (1, 24), (2, 55)]), (.cons .str (.cons (.hdr 9 .str) (.cons (.cons (.hdr 73 (.cons (.int .i64) (.cons (.int .i64) (.cons .str .nil)))) .nil) .nil))), 3, 64, false⟩),
  (59, some ⟨(.struct [(0, 9), (1, 24), (2, 55)]), (.cons .str (.cons (.hdr 9 .str) (.cons (.cons (.hdr 73 (.cons (.int .i64) (.cons (.int .i64) (.cons .str .nil)))) .nil) .nil))), 3, 64, false⟩),
  (71, some ⟨(.slice 53), (.slice (.hdr 73 (.cons (.int .i64) (.cons (.int .i64) (.cons .str .nil))))), 1, 24, false⟩),
  (72, some ⟨(.struct [(0, 3), (1, 3), (2, 9)]), (.cons (.int .i64) (.cons (.int .i64) (.cons .str .nil))), 3, 32, true⟩),
  (73, some ⟨(.struct [(0, 3), (1, 3), (2, 9)]), (.cons (.int .i64) (.cons (.int .i64) (.cons .str .nil))), 3, 32, true⟩),
  (104, some ⟨(.struct [(0, 22), (1, 3)]), (.cons (.slice (.int .u8)) (.cons (.int .i64) .nil)), 2, 32, false⟩),
  (105, some ⟨(.struct [(0, 22), (1, 3)]), (.cons (.slice (.int .u8)) (.cons (.int .i64) .nil)), 2, 32, false⟩),
  (111, some ⟨(.slice 113), (.slice (.slice .bool)), 1, 24, false⟩),
  (113, some ⟨(.slice 4), (.slice .bool), 1, 24, false⟩),
  (122, some ⟨(.slice 24), (.slice (.hdr 9 .str)), 1, 24, false⟩),
  (125, some ⟨(.slice 181), (.slice (.cons (.int .i64) (.cons (.int .i64) (.cons .str .nil)))), 1, 24, false⟩),
  (126, some ⟨(.struct [(0, 125)]), (.cons (.slice (.cons (.int .i64) (.cons (.int .i64) (.cons .str .nil)))) .nil), 1, 24, false⟩),
  (127, some ⟨(.struct [(0, 125)]), (.cons (.slice (.cons (.int .i64) (.cons (.int .i64) (.cons .str .nil)))) .nil), 1, 24, false⟩),
  (128, some ⟨(.struct [(0, 9), (1, 24), (2, 127)]), (.cons .str (.cons (.hdr 9 .str) (.cons (.cons (.slice (.cons (.int .i64) (.cons (.int .i64) (.cons .str .nil)))) .nil) .nil))), 3, 64, false⟩),
  (129, some ⟨(.struct [(0, 9), (1, 24), (2, 127)]), (.cons .str (.cons (.slice .str) (.cons (.cons (.slice (.cons (.int .i64) (.cons (.int .i64) (.cons .str .nil)))) .nil) .nil))), 3, 64, false⟩),
  (131, some ⟨(.struct [(0, 3), (1, 127), (2, 127)]), (.cons (.int .i64) (.cons (.cons (.slice (.cons (.int .i64) (.cons (.int .i64) (.cons .str .nil)))) .nil) (.cons (.cons (.slice (.cons (.int .i64) (.cons (.int .i64) (.cons .str .nil)))) .nil) .nil))), 3, 56, false⟩),
  (132, some ⟨(.struct [(0, 3), (1, 127), (2, 127)]), (.cons (.int .i64) (.cons (.cons (.slice (.cons (.int .i64) (.cons (.int .i64) (.cons .str .nil)))) .nil) (.cons (.cons (.slice (.cons (.int .i64) (.cons (.int .i64) (.cons .str .nil)))) .nil) .nil))), 3, 56, false⟩),
  (147, some ⟨(.slice 150), (.slice (.cons .str (.cons (.int .i64) .nil))), 1, 24, false⟩),
  (149, some ⟨(.struct [(0, 9), (1, 3)]), (.cons .str (.cons (.int .i64) .nil)), 2, 24, true⟩),
  (150, some ⟨(.struct [(0, 9), (1, 3)]), (.cons .str (.cons (.int .i64) .nil)), 2, 24, true⟩),
  (181, some ⟨(.struct [(0, 3), (1, 3), (2, 9)]), (.cons (.int .i64) (.cons (.int .i64) (.cons .str .nil))), 3, 32, true⟩),
  (197, some ⟨(.int .u32), (.int .u32), 1, 4, false⟩),
  (254, some ⟨(.int .u8), (.int .u8), 1, 1, false⟩),
  (255, some ⟨(.int .u8), (.int .u8), 1, 1, false⟩),
  (257, some ⟨(.int .i32), (.int .i32), 1, 4, false⟩),
  (258, some ⟨(.int .i32), (.int .i32), 1, 4, false⟩)]
def MS778 : List (Nat × Ty) := [(4, .bool)]
def T778 : Types := [
  (2, some ⟨(.int .i64), (.int .i64), 1, 8, false⟩),
  (3, some ⟨(.int .i64), (.int .i64), 1, 8, false⟩),
  (4, some ⟨.bool, .bool, 1, 1, false⟩),
  (5, some ⟨(.int .u8), (.int .u8), 1, 1, false⟩),
  (6, some ⟨(.int .u8), (.int .u8), 1, 1, false⟩),
  (7, some ⟨(.struct [(0, 2), (1, 3), (2, 4), (3, 6)]), (.cons (.int .i64) (.cons (.int .i64) (.cons .bool (.cons (.int .u8) .nil)))), 4, 24, false⟩),
  (8, some ⟨(.struct [(0, 2), (1, 3), (2, 4), (3, 6)]), (.cons (.int .i64) (.cons (.int .i64) (.cons .bool (.cons (.int .u8) .nil)))), 4, 24, false⟩),
  (9, some ⟨.string, .str, 1, 16, false⟩),
  (10, some ⟨.string, .str, 1, 16, false⟩),
  (11, some ⟨.string, .str, 1, 16, false⟩),
  (12, some ⟨(.int .u64), (.int .u64), 1, 8, false⟩),
  (13, some ⟨(.struct [(0, 9), (1, 12)]), (.cons .str (.cons (.int .u64) .nil)), 2, 24, false⟩),
  (14, some ⟨(.struct [(0, 9), (1, 12)]), (.cons .str (.cons (.int .u64) .nil)), 2, 24, false⟩),
  (21, some ⟨(.int .i32), (.int .i32), 1, 4, false⟩),
  (22, some ⟨(.slice 5), (.slice (.int .u8)), 1, 24, false⟩),
  (23, some ⟨(.slice 59), (.slice (.cons .str (.cons (.slice .str) (.cons (.cons (.slice (.cons (.int .i64) (.cons (.int .i64) (.cons .str .nil)))) .nil) .nil)))), 1, 24, false⟩),
  (24, some ⟨(.slice 9), (.slice .str), 1, 24, false⟩),
  (25, some ⟨(.slice 57), (.slice (.cons (.int .i64) (.cons (.cons (.slice (.cons (.int .i64) (.cons (.int .i64) (.cons .str .nil)))) .nil) (.cons (.cons (.slice (.cons (.int .i64) (.cons (.int .i64) (.cons .str .nil)))) .nil) .nil)))), 1, 24, false⟩),
  (26, some ⟨(.struct [(0, 23), (1, 24), (2, 25)]), (.cons (.slice (.cons .str (.cons (.slice .str) (.cons (.cons (.slice (.cons (.int .i64) (.cons (.int .i64) (.cons .str .nil)))) .nil) .nil)))) (.cons (.slice .str) (.cons (.slice (.cons (.int .i64) (.cons (.cons (.slice (.cons (.int .i64) (.cons (.int .i64) (.cons .str .nil)))) .nil) (.cons (.cons (.slice (.cons (.int .i64) (.cons (.int .i64) (.cons .str .nil)))) .nil) .nil)))) .nil))), 3, 72, false⟩),
  (27, some ⟨(.struct [(0, 23), (1, 24), (2, 25)]), (.cons (.slice (.cons .str (.cons (.slice .str) (.cons (.cons (.slice (.cons (.int .i64) (.cons (.int .i64) (.cons .str .nil)))) .nil) .nil)))) (.cons (.slice .str) (.cons (.slice (.cons (.int .i64) (.cons (.cons (.slice (.cons (.int .i64) (.cons (.int .i64) (.cons .str .nil)))) .nil) (.cons (.cons (.slice (.cons (.int .i64) (.cons (.int .i64) (.cons .str .nil)))) .nil) .nil)))) .nil))), 3, 72, false⟩),
  (39, some ⟨(.slice 129), (.slice (.cons .str (.cons (.slice .str) (.cons (.cons (.slice (.cons (.int .i64) (.cons (.int .i64) (.cons .str .nil)))) .nil) .nil)))), 1, 24, false⟩),
  (40, some ⟨(.slice 132), (.slice (.cons (.int .i64) (.cons (.cons (.slice (.cons (.int .i64) (.cons (.int .i64) (.cons .str .nil)))) .nil) (.cons (.cons (.slice (.cons (.int .i64) (.cons (.int .i64) (.cons .str .nil)))) .nil) .nil)))), 1, 24, false⟩),
  (41, some ⟨(.struct [(0, 39), (1, 24), (2, 40)]), (.cons (.slice (.cons .str (.cons (.slice .str) (.cons (.cons (.slice (.cons (.int .i64) (.cons (.int .i64) (.cons .str .nil)))) .nil) .nil)))) (.cons (.slice .str) (.cons (.slice (.cons (.int .i64) (.cons (.cons (.slice (.cons (.int .i64) (.cons (.int .i64) (.cons .str .nil)))) .nil) (.cons (.cons (.slice (.cons (.int .i64) (.cons (.int .i64) (.cons .str .nil)))) .nil) .nil)))) .nil))), 3, 72, false⟩),
  (42, some ⟨(.struct [(0, 39), (1, 24), (2, 40)]), (.cons (.slice (.cons .str (.cons (.slice .str) (.cons (.cons (.slice (.cons (.int .i64) (.cons (.int .i64) (.cons .str .nil)))) .nil) .nil)))) (.cons (.slice .str) (.cons (.slice (.cons (.int .i64) (.cons (.cons (.slice (.cons (.int .i64) (.cons (.int .i64) (.cons .str .nil)))) .nil) (.cons (.cons (.slice (.cons (.int .i64) (.cons (.int .i64) (.cons .str .nil)))) .nil) .nil)))) .nil))), 3, 72, false⟩),
  (53, some ⟨(.slice 73), (.slice (.cons (.int .i64) (.cons (.int .i64) (.cons .str .nil)))), 1, 24, false⟩),
  (54, some ⟨(.struct [(0, 53)]), (.cons (.slice (.cons (.int .i64) (.cons (.int .i64) (.cons .str .nil)))) .nil), 1, 24, false⟩),
  (55, some ⟨(.struct [(0, 53)]), (.cons (.slice (.cons (.int .i64) (.cons (.int .i64) (.cons .str .nil)))) .nil), 1, 24, false⟩),
  (56, some ⟨(.struct [(0, 3), (1, 55), (2, 55)]), (.cons (.int .i64) (.cons (.cons (.slice (.cons (.int .i64) (.cons (.int .i64) (.cons .str .nil)))) .nil) (.cons (.cons (.slice (.cons (.int .i64) (.cons (.int .i64) (.cons .str .nil)))) .nil) .nil))), 3, 56, false⟩),
  (57, some ⟨(.struct [(0, 3), (1, 55), (2, 55)]), (.cons (.int .i64) (.cons (.cons (.slice (.cons (.int .i64) (.cons (.int .i64) (.cons .str .nil)))) .nil) (.cons (.cons (.slice (.cons (.int .i64) (.cons (.int .i64) (.cons .str .nil)))) .nil) .nil))), 3, 56, false⟩),
  (58, some ⟨(.struct [(0, 9), (1, 24), (2, 55)]), (.cons .str (.cons (.slice .str) (.cons (.cons (.slice (.cons (.int .i64) (.cons (.int .i64) (.cons .str .nil)))) .nil) .nil))), 3, 64, false⟩),
  (59, some ⟨(.struct [(0, 9), (1, 24), (2, 55)]), (.cons .str (.cons (.slice .str) (.cons (.cons (.slice (.cons (.int .i64) (.cons (.int .i64) (.cons .str .nil)))) .nil) .nil))), 3, 64, false⟩),
  (71, some ⟨(.slice 53), (.slice (.slice (.cons (.int .i64) (.cons (.int .i64) (.cons .str .nil))))), 1, 24, false⟩),
  (72, some ⟨(.struct [(0, 3), (1, 3), (2, 9)]), (.cons (.int .i64) (.cons (.int .i64) (.cons .str .nil))), 3, 32, true⟩),
  (73, some ⟨(.struct [(0, 3), (1, 3), (2, 9)]), (.cons (.int .i64) (.cons (.int .i64) (.cons .str .nil))), 3, 32, true⟩),
  (104, some ⟨(.struct [(0, 22), (1, 3)]), (.cons (.slice (.int .u8)) (.cons (.int .i64) .nil)), 2, 32, false⟩),
  (105, some ⟨(.struct [(0, 22), (1, 3)]), (.cons (.slice (.int .u8)) (.cons (.int .i64) .nil)), 2, 32, false⟩),
  (111, some ⟨(.slice 113), (.slice (.hdr 4 .bool)), 1, 24, false⟩),
  (113, some ⟨(.slice 4), (.hdr 4 .bool), 1, 24, false⟩),
  (125, some ⟨(.slice 181), (.slice (.cons (.int .i64) (.cons (.int .i64) (.cons .str .nil)))), 1, 24, false⟩),
  (126, some ⟨(.struct [(0, 125)]), (.cons (.slice (.cons (.int .i64) (.cons (.int .i64) (.cons .str .nil)))) .nil), 1, 24, false⟩),
  (127, some ⟨(.struct [(0, 125)]), (.cons (.slice (.cons (.int .i64) (.cons (.int .i64) (.cons .str .nil)))) .nil), 1, 24, false⟩),
  (128, some ⟨(.struct [(0, 9), (1, 24), (2, 127)]), (.cons .str (.cons (.slice .str) (.cons (.cons (.slice (.cons (.int .i64) (.cons (.int .i64) (.cons .str .nil)))) .nil) .nil))), 3, 64, false⟩),
  (129, some ⟨(.struct [(0, 9), (1, 24), (2, 127)]), (.cons .str (.cons (.slice .str) (.cons (.cons (.slice (.cons (.int .i64) (.cons (.int .i64) (.cons .str .nil)))) .nil) .nil))), 3, 64, false⟩),
  (131, some ⟨(.struct [(0, 3), (1, 127), (2, 127)]), (.cons (.int .i64) (.cons (.cons (.slice (.cons (.int .i64) (.cons (.int .i64) (.cons .str .nil)))) .nil) (.cons (.cons (.slice (.cons (.int .i64) (.cons (.int .i64) (.cons .str .nil)))) .nil) .nil))), 3, 56, false⟩),
  (132, some ⟨(.struct [(0, 3), (1, 127), (2, 127)]), (.cons (.int .i64) (.cons (.cons (.slice (.cons (.int .i64) (.cons (.int .i64) (.cons .str .nil)))) .nil) (.cons (.cons (.slice (.cons (.int .i64) (.cons (.int .i64) (.cons .str .nil)))) .nil) .nil))), 3, 56, false⟩),
  (181, some ⟨(.struct [(0, 3), (1, 3), (2, 9)]), (.cons (.int .i64) (.cons (.int .i64) (.cons .str .nil))), 3, 32, true⟩),
  (197, some ⟨(.int .u32), (.int .u32), 1, 4, false⟩),
  (254, some ⟨(.int .u8), (.int .u8), 1, 1, false⟩),
  (255, some ⟨(.int .u8), (.int .u8), 1, 1, false⟩),
  (257, some ⟨(.int .i32), (.int .i32), 1, 4, false⟩),
  (258, some ⟨(.int .i32), (.int .i32), 1, 4, false⟩)]
def MS779 : List (Nat × Ty) := [(9, .str)]
def T779 : Types := [
  (2, some ⟨(.int .i64), (.int .i64), 1, 8, false⟩),
  (3, some ⟨(.int .i64), (.int .i64), 1, 8, false⟩),
  (4, some ⟨.bool, .bool, 1, 1, false⟩),
  (5, some ⟨(.int .u8), (.int .u8), 1, 1, false⟩),
  (6, some ⟨(.int .u8), (.int .u8), 1, 1, false⟩),
  (7, some ⟨(.struct [(0, 2), (1, 3), (2, 4), (3, 6)]), (.cons (.int .i64) (.cons (.int .i64) (.cons .bool (.cons (.int .u8) .nil)))), 4, 24, false⟩),
  (8, some ⟨(.struct [(0, 2), (1, 3), (2, 4), (3, 6)]), (.cons (.int .i64) (.cons (.int .i64) (.cons .bool (.cons (.int .u8) .nil)))), 4, 24, false⟩),
  (9, some ⟨.string, .str, 1, 16, false⟩),
  (10, some ⟨.string, .str, 1, 16, false⟩),
  (11, some ⟨.string, .str, 1, 16, false⟩),
  (12, some ⟨(.int .u64), (.int .u64), 1, 8, false⟩),
  (13, some ⟨(.struct [(0, 9), (1, 12)]), (.cons .str (.cons (.int .u64) .nil)), 2, 24, false⟩),
  (14, some ⟨(.struct [(0, 9), (1, 12)]), (.cons .str (.cons (.int .u64) .nil)), 2, 24, false⟩),
  (21, some ⟨(.int .i32), (.int .i32), 1, 4, false⟩),
  (22, some ⟨(.slice 5), (.slice (.int .u8)), 1, 24, false⟩),
  (23, some ⟨(.slice 59), (.slice (.cons .str (.cons (.hdr 9 .str) (.cons (.cons (.slice (.cons (.int .i64) (.cons (.int .i64) (.cons .str .nil)))) .nil) .nil)))), 1, 24, false⟩),
  (24, some ⟨(.slice 9), (.hdr 9 .str), 1, 24, false⟩),
  (25, some ⟨(.slice 57), (.slice (.cons (.int .i64) (.cons (.cons (.slice (.cons (.int .i64) (.cons (.int .i64) (.cons .str .nil)))) .nil) (.cons (.cons (.slice (.cons (.int .i64) (.cons (.int .i64) (.cons .str .nil)))) .nil) .nil)))), 1, 24, false⟩),
  (26, some ⟨(.struct [(0, 23), (1, 24), (2, 25)]), (.cons (.slice (.cons .str (.cons (.hdr 9 .str) (.cons (.cons (.slice (.cons (.int .i64) (.cons (.int .i64) (.cons .str .nil)))) .nil) .nil)))) (.cons (.hdr 9 .str) (.cons (.slice (.cons (.int .i64) (.cons (.cons (.slice (.cons (.int .i64) (.cons (.int .i64) (.cons .str .nil)))) .nil) (.cons (.cons (.slice (.cons (.int .i64) (.cons (.int .i64) (.cons .str .nil)))) .nil) .nil)))) .nil))), 3, 72, false⟩),
  (27, some ⟨(.struct [(0, 23), (1, 24), (2, 25)]), (.cons (.slice (.cons .str (.cons (.hdr 9 .str) (.cons (.cons (.slice (.cons (.int .i64) (.cons (.int .i64) (.cons .str .nil)))) .nil) .nil)))) (.cons (.hdr 9 .str) (.cons (.slice (.cons (.int .i64) (.cons (.cons (.slice (.cons (.int .i64) (.cons (.int .i64) (.cons .str .nil)))) .nil) (.cons (.cons (.slice (.cons (.int .i64) (.cons (.int .i64) (.cons .str .nil)))) .nil) .nil)))) .nil))), 3, 72, false⟩),
  (39, some ⟨(.slice 129), (.slice (.cons .str (.cons (.slice .str) (.cons (.cons (.slice (.cons (.int .i64) (.cons (.int .i64) (.cons .str .nil)))) .nil) .nil)))), 1, 24, false⟩),
  (40, some ⟨(.slice 132), (.slice (.cons (.int .i64) (.cons (.cons (.slice (.cons (.int .i64) (.cons (.int .i64) (.cons .str .nil)))) .nil) (.cons (.cons (.slice (.cons (.int .i64) (.cons (.int .i64) (.cons .str .nil)))) .nil) .nil)))), 1, 24, false⟩),
  (41, some ⟨(.struct [(0, 39), (1, 24), (2, 40)]), (.cons (.slice (.cons .str (.cons (.slice .str) (.cons (.cons (.slice (.cons (.int .i64) (.cons (.int .i64) (.cons .str .nil)))) .nil) .nil)))) (.cons (.hdr 9 .str) (.cons (.slice (.cons (.int .i64) (.cons (.cons (.slice (.cons (.int .i64) (.cons (.int .i64) (.cons .str .nil)))) .nil) (.cons (.cons (.slice (.cons (.int .i64) (.cons (.int .i64) (.cons .str .nil)))) .nil) .nil)))) .nil))), 3, 72, false⟩),
  (42, some ⟨(.struct [(0, 39), (1, 24), (2, 40)]), (.cons (.slice (.cons .str (.cons (.slice .str) (.cons (.cons (.slice (.cons (.int .i64) (.cons (.int .i64) (.cons .str .nil)))) .nil) .nil)))) (.cons (.slice .str) (.cons (.slice (.cons (.int .i64) (.cons (.cons (.slice (.cons (.int .i64) (.cons (.int .i64) (.cons .str .nil)))) .nil) (.cons (.cons (.slice (.cons (.int .i64) (.cons (.int .i64) (.cons .str .nil)))) .nil) .nil)))) .nil))), 3, 72, false⟩),
  (53, some ⟨(.slice 73), (.slice (.cons (.int .i64) (.cons (.int .i64) (.cons .str .nil)))), 1, 24, false⟩),
  (54, some ⟨(.struct [(0, 53)]), (.cons (.slice (.cons (.int .i64) (.cons (.int .i64) (.cons .str .nil)))) .nil), 1, 24, false⟩),
  (55, some ⟨(.struct [(0, 53)]), (.cons (.slice (.cons (.int .i64) (.cons (.int .i64) (.cons .str .nil)))) .nil), 1, 24, false⟩),
  (56, some ⟨(.struct [(0, 3), (1, 55), (2, 55)]), (.cons (.int .i64) (.cons (.cons (.slice (.cons (.int .i64) (.cons (.int .i64) (.cons .str .nil)))) .nil) (.cons (.cons (.slice (.cons (.int .i64) (.cons (.int .i64) (.cons .str .nil)))) .nil) .nil))), 3, 56, false⟩),
  (57, some ⟨(.struct [(0, 3), (1, 55), (2, 55)]), (.cons (.int .i64) (.cons (.cons (.slice (.cons (.int .i64) (.cons (.int .i64) (.cons .str .nil)))) .nil) (.cons (.cons (.slice (.cons (.int .i64) (.cons (.int .i64) (.cons .str .nil)))) .nil) .nil))), 3, 56, false⟩),
  (58, some ⟨(.struct [(0, 9), (1, 24), (2, 55)]), (.cons .str (.cons (.hdr 9 .str) (.cons (.cons (.slice (.cons (.int .i64) (.cons (.int .i64) (.cons .str .nil)))) .nil) .nil))), 3, 64, false⟩),
  (59, some ⟨(.struct [(0, 9), (1, 24), (2, 55)]), (.cons .str (.cons (.hdr 9 .str) (.cons (.cons (.slice (.cons (.int .i64) (.cons (.int .i64) (.cons .str .nil)))) .nil) .nil))), 3, 64, false⟩),
  (72, some ⟨(.struct [(0, 3), (1, 3), (2, 9)]), (.cons (.int .i64) (.cons (.int .i64) (.cons .str .nil))), 3, 32, true⟩),
  (73, some ⟨(.struct [(0, 3), (1, 3), (2, 9)]), (.cons (.int .i64) (.cons (.int .i64) (.cons .str .nil))), 3, 32, true⟩),
  (125, some ⟨(.slice 181), (.slice (.cons (.int .i64) (.cons (.int .i64) (.cons .str .nil)))), 1, 24, false⟩),
  (126, some ⟨(.struct [(0, 125)]), (.cons (.slice (.cons (.int .i64) (.cons (.int .i64) (.cons .str .nil)))) .nil), 1, 24, false⟩),
  (127, some ⟨(.struct [(0, 125)]), (.cons (.slice (.cons (.int .i64) (.cons (.int .i64) (.cons .str .nil)))) .nil), 1, 24, false⟩),
  (128, some ⟨(.struct [(0, 9), (1, 24), (2, 127)]), (.cons .str (.cons (.hdr 9 .str) (.cons (.cons (.slice (.cons (.int .i64) (.cons (.int .i64) (.cons .str .nil)))) .nil) .nil))), 3, 64, false⟩),
  (129, some ⟨(.struct [(0, 9), (1, 24), (2, 127)]), (.cons .str (.cons (.slice .str) (.cons (.cons (.slice (.cons (.int .i64) (.cons (.int .i64) (.cons .str .nil)))) .nil) .nil))), 3, 64, false⟩),
  (131, some ⟨(.struct [(0, 3), (1, 127), (2, 127)]), (.cons (.int .i64) (.cons (.cons (.slice (.cons (.int .i64) (.cons (.int .i64) (.cons .str .nil)))) .nil) (.cons (.cons (.slice (.cons (.int .i64) (.cons (.int .i64) (.cons .str .nil)))) .nil) .nil))), 3, 56, false⟩),
  (132, some ⟨(.struct [(0, 3), (1, 127), (2, 127)]), (.cons (.int .i64) (.cons (.cons (.slice (.cons (.int .i64) (.cons (.int .i64) (.cons .str .nil)))) .nil) (.cons (.cons (.slice (.cons (.int .i64) (.cons (.int .i64) (.cons .str .nil)))) .nil) .nil))), 3, 56, false⟩),
  (161, some ⟨(.slice 55), (.slice (.cons (.slice (.cons (.int .i64) (.cons (.int .i64) (.cons .str .nil)))) .nil)), 1, 24, false⟩),
  (179, some ⟨(.int .u64), (.int .u64), 1, 8, false⟩),
  (181, some ⟨(.struct [(0, 3), (1, 3), (2, 9)]), (.cons (.int .i64) (.cons (.int .i64) (.cons .str .nil))), 3, 32, true⟩),
  (197, some ⟨(.int .u32), (.int .u32), 1, 4, false⟩),
  (254, some ⟨(.int .u8), (.int .u8), 1, 1, false⟩),
  (255, some ⟨(.int .u8), (.int .u8), 1, 1, false⟩),
  (257, some ⟨(.int .i32), (.int .i32), 1, 4, false⟩),
  (258, some ⟨(.int .i32), (.int .i32), 1, 4, false⟩)]
def md : Nat → Nat × Types := fun k => (cond (Nat.beq k 59) (777, T777) (cond (Nat.beq k 4) (778, T778) (cond (Nat.beq k 9) (779, T779) (0, T))))
def L : List (Nat × Option (List (Nat × Ty))) := [(41, some MS778), (145, some MS779)]
noncomputable def F : Funcs := [(4, some Go.Proofs.Tryz.f4), (13, some Go.Proofs.Tryz.f13), (16, some Go.Proofs.Tryz.f16), (17, some Go.Proofs.Tryz.f17), (18, some Go.Proofs.Tryz.f18), (19, some Go.Proofs.Tryz.f19), (20, some Go.Proofs.Tryz.f20), (21, some Go.Proofs.Tryz.f21), (22, some Go.Proofs.Tryz.f22), (35, some Go.Proofs.Tryz.f35), (37, some Go.Proofs.Tryz.f37), (38, some Go.Proofs.Tryz.f38), (39, some Go.Proofs.Tryz.f39), (40, some Go.Proofs.Tryz.f40), (41, some Go.Proofs.Tryz.f41), (42, some Go.Proofs.Tryz.f42), (44, some Go.Proofs.Tryz.f44), (47, some Go.Proofs.Tryz.f47), (48, some Go.Proofs.Tryz.f48), (49, some Go.Proofs.Tryz.f49), (50, some Go.Proofs.Tryz.f50), (51, some Go.Proofs.Tryz.f51), (52, some Go.Proofs.Tryz.f52), (53, some Go.Proofs.Tryz.f53), (54, some Go.Proofs.Tryz.f54), (55, some Go.Proofs.Tryz.f55), (56, some Go.Proofs.Tryz.f56), (57, some Go.Proofs.Tryz.f57), (58, some Go.Proofs.Tryz.f58), (59, some Go.Proofs.Tryz.f59), (60, some Go.Proofs.Tryz.f60), (61, some Go.Proofs.Tryz.f61), (62, some Go.Proofs.Tryz.f62), (63, some Go.Proofs.Tryz.f63), (64, some Go.Proofs.Tryz.f64), (65, some Go.Proofs.Tryz.f65), (66, some Go.Proofs.Tryz.f66), (67, some Go.Proofs.Tryz.f67), (68, some Go.Proofs.Tryz.f68), (69, some Go.Proofs.Tryz.f69), (70, some Go.Proofs.Tryz.f70), (72, some Go.Proofs.Tryz.f72), (74, some Go.Proofs.Tryz.f74), (76, some Go.Proofs.Tryz.f76), (77, some Go.Proofs.Tryz.f77), (83, some Go.Proofs.Tryz.f83), (84, some Go.Proofs.Tryz.f84), (85, some Go.Proofs.Tryz.f85), (86, some Go.Proofs.Tryz.f86), (87, some Go.Proofs.Tryz.f87), (88, some Go.Proofs.Tryz.f88), (89, some Go.Proofs.Tryz.f89), (90, some Go.Proofs.Tryz.f90), (91, some Go.Proofs.Tryz.f91), (92, some Go.Proofs.Tryz.f92), (93, some Go.Proofs.Tryz.f93), (94, some Go.Proofs.Tryz.f94), (95, some Go.Proofs.Tryz.f95), (96, some Go.Proofs.Tryz.f96), (97, some Go.Proofs.Tryz.f97), (98, some Go.Proofs.Tryz.f98), (99, some Go.Proofs.Tryz.f99), (100, some Go.Proofs.Tryz.f100), (101, some Go.Proofs.Tryz.f101), (102, some Go.Proofs.Tryz.f102), (103, some Go.Proofs.Tryz.f103), (104, some Go.Proofs.Tryz.f104), (105, some Go.Proofs.Tryz.f105), (106, some Go.Proofs.Tryz.f106), (108, some Go.Proofs.Tryz.f108), (109, some Go.Proofs.Tryz.f109), (110, some Go.Proofs.Tryz.f110), (111, some Go.Proofs.Tryz.f111), (112, some Go.Proofs.Tryz.f112), (113, some Go.Proofs.Tryz.f113), (114, some Go.Proofs.Tryz.f114), (115, some Go.Proofs.Tryz.f115), (116, some Go.Proofs.Tryz.f116), (117, some Go.Proofs.Tryz.f117), (118, some Go.Proofs.Tryz.f118), (123, some Go.Proofs.Tryz.f123), (127, some Go.Proofs.Tryz.f127), (128, some Go.Proofs.Tryz.f128), (129, some Go.Proofs.Tryz.f129), (132, some Go.Proofs.Tryz.f132), (134, some Go.Proofs.Tryz.f134), (136, some Go.Proofs.Tryz.f136), (137, some Go.Proofs.Tryz.f137), (138, some Go.Proofs.Tryz.f138), (139, some Go.Proofs.Tryz.f139), (140, some Go.Proofs.Tryz.f140), (141, some Go.Proofs.Tryz.f141), (142, some Go.Proofs.Tryz.f142), (143, some Go.Proofs.Tryz.f143), (145, some Go.Proofs.Tryz.f145), (146, some Go.Proofs.Tryz.f146), (147, some Go.Proofs.Tryz.f147), (148, some Go.Proofs.Tryz.f148), (154, some Go.Proofs.Tryz.f154), (158, some Go.Proofs.Tryz.f158), (159, some Go.Proofs.Tryz.f159), (160, some Go.Proofs.Tryz.f160), (163, some Go.Proofs.Tryz.f163), (164, some Go.Proofs.Tryz.f164), (165, some Go.Proofs.Tryz.f165), (169, some Go.Proofs.Tryz.f169), (172, some Go.Proofs.Tryz.f172), (175, some Go.Proofs.Tryz.f175), (176, some Go.Proofs.Tryz.f176), (177, some Go.Proofs.Tryz.f177), (179, some Go.Proofs.Tryz.f179), (191, some Go.Proofs.Tryz.f191), (192, some Go.Proofs.Tryz.f192), (193, some Go.Proofs.Tryz.f193), (194, some Go.Proofs.Tryz.f194), (202, some Go.Proofs.Tryz.f202), (203, some Go.Proofs.Tryz.f203), (208, some Go.Proofs.Tryz.f208)]
def sg_w_FnExactProgShift_deep : Sig := ⟨[.agg [.val (.slice (.cons .str (.cons (.slice .str) (.cons (.cons (.slice (.cons (.int .i64) (.cons (.int .i64) (.cons .str .nil)))) .nil) .nil)))) false, .val (.slice .str) false, .val (.slice (.cons (.int .i64) (.cons (.cons (.slice (.cons (.int .i64) (.cons (.int .i64) (.cons .str .nil)))) .nil) (.cons (.cons (.slice (.cons (.int .i64) (.cons (.int .i64) (.cons .str .nil)))) .nil) .nil)))) false], .cell (.val (.int .i64) false)], [(0, [.val .bool true])], MS777⟩
def sg_i_ProgCode : Sig := ⟨[.agg [.val (.slice (.cons .str (.cons (.slice .str) (.cons (.cons (.slice (.cons (.int .i64) (.cons (.int .i64) (.cons .str .nil)))) .nil) .nil)))) false, .val (.slice .str) false, .val (.slice (.cons (.int .i64) (.cons (.cons (.slice (.cons (.int .i64) (.cons (.int .i64) (.cons .str .nil)))) .nil) (.cons (.cons (.slice (.cons (.int .i64) (.cons (.int .i64) (.cons .str .nil)))) .nil) .nil)))) false]], [(0, [.val (.int .i64) true])], []⟩
def sg_i_ProgShift_deep : Sig := ⟨[.agg [.val (.hdr 59 (.cons .str (.cons (.hdr 9 .str) (.cons (.cons (.hdr 73 (.cons (.int .i64) (.cons (.int .i64) (.cons .str .nil)))) .nil) .nil)))) false, .val (.hdr 9 .str) false, .val (.hdr 57 (.cons (.int .i64) (.cons (.cons (.hdr 73 (.cons (.int .i64) (.cons (.int .i64) (.cons .str .nil)))) .nil) (.cons (.cons (.hdr 73 (.cons (.int .i64) (.cons (.int .i64) (.cons .str .nil)))) .nil) .nil)))) false], .cell (.val (.int .i64) false)], [(1, [.val (.hdr 59 (.cons .str (.cons (.hdr 9 .str) (.cons (.cons (.hdr 73 (.cons (.int .i64) (.cons (.int .i64) (.cons .str .nil)))) .nil) .nil)))) true, .val (.hdr 9 .str) true, .val (.hdr 57 (.cons (.int .i64) (.cons (.cons (.hdr 73 (.cons (.int .i64) (.cons (.int .i64) (.cons .str .nil)))) .nil) (.cons (.cons (.hdr 73 (.cons (.int .i64) (.cons (.int .i64) (.cons .str .nil)))) .nil) .nil)))) true]), (0, [.val .bool true])], MS777⟩
def sg_s_ProgShift : Sig := ⟨[.agg [.val (.slice (.cons .str (.cons (.slice .str) (.cons (.cons (.slice (.cons (.int .i64) (.cons (.int .i64) (.cons .str .nil)))) .nil) .nil)))) false, .val (.slice .str) false, .val (.slice (.cons (.int .i64) (.cons (.cons (.slice (.cons (.int .i64) (.cons (.int .i64) (.cons .str .nil)))) .nil) (.cons (.cons (.slice (.cons (.int .i64) (.cons (.int .i64) (.cons .str .nil)))) .nil) .nil)))) false], .cell (.val (.int .i64) false)], [(1, [.val (.slice (.cons .str (.cons (.slice .str) (.cons (.cons (.slice (.cons (.int .i64) (.cons (.int .i64) (.cons .str .nil)))) .nil) .nil)))) true, .val (.slice .str) true, .val (.slice (.cons (.int .i64) (.cons (.cons (.slice (.cons (.int .i64) (.cons (.int .i64) (.cons .str .nil)))) .nil) (.cons (.cons (.slice (.cons (.int .i64) (.cons (.int .i64) (.cons .str .nil)))) .nil) .nil)))) true]), (0, [.val .bool true])], []⟩
def sg_w_szProg : Sig := ⟨[.agg [.val (.slice (.cons .str (.cons (.slice .str) (.cons (.cons (.slice (.cons (.int .i64) (.cons (.int .i64) (.cons .str .nil)))) .nil) .nil)))) false, .val (.slice .str) false, .val (.slice (.cons (.int .i64) (.cons (.cons (.slice (.cons (.int .i64) (.cons (.int .i64) (.cons .str .nil)))) .nil) (.cons (.cons (.slice (.cons (.int .i64) (.cons (.int .i64) (.cons .str .nil)))) .nil) .nil)))) false], .cell (.val (.int .i64) false)], [(0, [.val (.int .i64) true])], []⟩
def sg_w_toProg_deep : Sig := ⟨[.agg [.val (.slice (.cons .str (.cons (.slice .str) (.cons (.cons (.slice (.cons (.int .i64) (.cons (.int .i64) (.cons .str .nil)))) .nil) .nil)))) false, .val (.slice .str) false, .val (.slice (.cons (.int .i64) (.cons (.cons (.slice (.cons (.int .i64) (.cons (.int .i64) (.cons .str .nil)))) .nil) (.cons (.cons (.slice (.cons (.int .i64) (.cons (.int .i64) (.cons .str .nil)))) .nil) .nil)))) false]], [(1, [.val (.hdr 59 (.cons .str (.cons (.hdr 9 .str) (.cons (.cons (.hdr 73 (.cons (.int .i64) (.cons (.int .i64) (.cons .str .nil)))) .nil) .nil)))) true, .val (.hdr 9 .str) true, .val (.hdr 57 (.cons (.int .i64) (.cons (.cons (.hdr 73 (.cons (.int .i64) (.cons (.int .i64) (.cons .str .nil)))) .nil) (.cons (.cons (.hdr 73 (.cons (.int .i64) (.cons (.int .i64) (.cons .str .nil)))) .nil) .nil)))) true])], MS777⟩
def sg_w_eqProg : Sig := ⟨[.agg [.val (.slice (.cons .str (.cons (.slice .str) (.cons (.cons (.slice (.cons (.int .i64) (.cons (.int .i64) (.cons .str .nil)))) .nil) .nil)))) false, .val (.slice .str) false, .val (.slice (.cons (.int .i64) (.cons (.cons (.slice (.cons (.int .i64) (.cons (.int .i64) (.cons .str .nil)))) .nil) (.cons (.cons (.slice (.cons (.int .i64) (.cons (.int .i64) (.cons .str .nil)))) .nil) .nil)))) false], .agg [.val (.slice (.cons .str (.cons (.slice .str) (.cons (.cons (.slice (.cons (.int .i64) (.cons (.int .i64) (.cons .str .nil)))) .nil) .nil)))) false, .val (.slice .str) false, .val (.slice (.cons (.int .i64) (.cons (.cons (.slice (.cons (.int .i64) (.cons (.int .i64) (.cons .str .nil)))) .nil) (.cons (.cons (.slice (.cons (.int .i64) (.cons (.int .i64) (.cons .str .nil)))) .nil) .nil)))) false]], [(0, [.val .bool true])], []⟩
def sg_w_markProg_deep : Sig := ⟨[.agg [.val (.hdr 59 (.cons .str (.cons (.hdr 9 .str) (.cons (.cons (.hdr 73 (.cons (.int .i64) (.cons (.int .i64) (.cons .str .nil)))) .nil) .nil)))) false, .val (.hdr 9 .str) false, .val (.hdr 57 (.cons (.int .i64) (.cons (.cons (.hdr 73 (.cons (.int .i64) (.cons (.int .i64) (.cons .str .nil)))) .nil) (.cons (.cons (.hdr 73 (.cons (.int .i64) (.cons (.int .i64) (.cons .str .nil)))) .nil) .nil)))) false], .cell (.val (.int .i64) false)], [(0, [.val (.int .i64) true])], MS777⟩
def sg_w_heldProg : Sig := ⟨[.agg [.val (.slice (.cons .str (.cons (.slice .str) (.cons (.cons (.slice (.cons (.int .i64) (.cons (.int .i64) (.cons .str .nil)))) .nil) .nil)))) false, .val (.slice .str) false, .val (.slice (.cons (.int .i64) (.cons (.cons (.slice (.cons (.int .i64) (.cons (.int .i64) (.cons .str .nil)))) .nil) (.cons (.cons (.slice (.cons (.int .i64) (.cons (.int .i64) (.cons .str .nil)))) .nil) .nil)))) false], .cell (.val (.int .i64) false)], [(0, [.val (.int .i64) true])], []⟩
def sg_slices_Index_string_string : Sig := ⟨[.cell (.val (.slice .str) false), .cell (.val .str false)], [(0, [.val (.int .i64) true])], []⟩
def sg_i_LangNameOk : Sig := ⟨[.cell (.val .str false)], [(0, [.val .bool true])], []⟩
def sg_slices_Contains_string_string : Sig := ⟨[.cell (.val (.slice .str) false), .cell (.val .str false)], [(0, [.val .bool true])], []⟩
def sg_i_Prog_namesOf : Sig := ⟨[.agg [.val (.slice (.cons .str (.cons (.slice .str) (.cons (.cons (.slice (.cons (.int .i64) (.cons (.int .i64) (.cons .str .nil)))) .nil) .nil)))) false, .val (.slice .str) false, .val (.slice (.cons (.int .i64) (.cons (.cons (.slice (.cons (.int .i64) (.cons (.int .i64) (.cons .str .nil)))) .nil) (.cons (.cons (.slice (.cons (.int .i64) (.cons (.int .i64) (.cons .str .nil)))) .nil) .nil)))) false]], [(0, [.val (.slice .str) true])], []⟩
def sg_i_Prog_copyOf_deep : Sig := ⟨[.agg [.val (.hdr 59 (.cons .str (.cons (.hdr 9 .str) (.cons (.cons (.hdr 73 (.cons (.int .i64) (.cons (.int .i64) (.cons .str .nil)))) .nil) .nil)))) false, .val (.hdr 9 .str) false, .val (.hdr 57 (.cons (.int .i64) (.cons (.cons (.hdr 73 (.cons (.int .i64) (.cons (.int .i64) (.cons .str .nil)))) .nil) (.cons (.cons (.hdr 73 (.cons (.int .i64) (.cons (.int .i64) (.cons .str .nil)))) .nil) .nil)))) false]], [(1, [.val (.hdr 59 (.cons .str (.cons (.hdr 9 .str) (.cons (.cons (.hdr 73 (.cons (.int .i64) (.cons (.int .i64) (.cons .str .nil)))) .nil) .nil)))) true, .val (.hdr 9 .str) true, .val (.hdr 57 (.cons (.int .i64) (.cons (.cons (.hdr 73 (.cons (.int .i64) (.cons (.int .i64) (.cons .str .nil)))) .nil) (.cons (.cons (.hdr 73 (.cons (.int .i64) (.cons (.int .i64) (.cons .str .nil)))) .nil) .nil)))) true])], MS777⟩
def sg_s_l12Find : Sig := ⟨[.cell (.val (.slice .str) false), .cell (.val .str false)], [(0, [.val (.int .i64) true])], []⟩
def sg_s_ProgCode : Sig := ⟨[.agg [.val (.slice (.cons .str (.cons (.slice .str) (.cons (.cons (.slice (.cons (.int .i64) (.cons (.int .i64) (.cons .str .nil)))) .nil) .nil)))) false, .val (.slice .str) false, .val (.slice (.cons (.int .i64) (.cons (.cons (.slice (.cons (.int .i64) (.cons (.int .i64) (.cons .str .nil)))) .nil) (.cons (.cons (.slice (.cons (.int .i64) (.cons (.int .i64) (.cons .str .nil)))) .nil) .nil)))) false]], [(0, [.val (.int .i64) true])], []⟩
def sg_s_LangNameOk : Sig := ⟨[.cell (.val .str false)], [(0, [.val .bool true])], []⟩
def sg_s_l14Own : Sig := ⟨[.agg [.val (.slice (.cons .str (.cons (.slice .str) (.cons (.cons (.slice (.cons (.int .i64) (.cons (.int .i64) (.cons .str .nil)))) .nil) .nil)))) false, .val (.slice .str) false, .val (.slice (.cons (.int .i64) (.cons (.cons (.slice (.cons (.int .i64) (.cons (.int .i64) (.cons .str .nil)))) .nil) (.cons (.cons (.slice (.cons (.int .i64) (.cons (.int .i64) (.cons .str .nil)))) .nil) .nil)))) false]], [(1, [.row (.cons .str (.cons (.slice .str) (.cons (.cons (.slice (.cons (.int .i64) (.cons (.int .i64) (.cons .str .nil)))) .nil) .nil))) 59 true, .row .str 9 true, .row (.cons (.int .i64) (.cons (.cons (.slice (.cons (.int .i64) (.cons (.int .i64) (.cons .str .nil)))) .nil) (.cons (.cons (.slice (.cons (.int .i64) (.cons (.int .i64) (.cons .str .nil)))) .nil) .nil))) 57 true])], []⟩
def sg_i_Prog_formed : Sig := ⟨[.agg [.val (.slice (.cons .str (.cons (.slice .str) (.cons (.cons (.slice (.cons (.int .i64) (.cons (.int .i64) (.cons .str .nil)))) .nil) .nil)))) false, .val (.slice .str) false, .val (.slice (.cons (.int .i64) (.cons (.cons (.slice (.cons (.int .i64) (.cons (.int .i64) (.cons .str .nil)))) .nil) (.cons (.cons (.slice (.cons (.int .i64) (.cons (.int .i64) (.cons .str .nil)))) .nil) .nil)))) false]], [(0, [.val .bool true])], []⟩
def sg_i_Prog_many : Sig := ⟨[.agg [.val (.slice (.cons .str (.cons (.slice .str) (.cons (.cons (.slice (.cons (.int .i64) (.cons (.int .i64) (.cons .str .nil)))) .nil) .nil)))) false, .val (.slice .str) false, .val (.slice (.cons (.int .i64) (.cons (.cons (.slice (.cons (.int .i64) (.cons (.int .i64) (.cons .str .nil)))) .nil) (.cons (.cons (.slice (.cons (.int .i64) (.cons (.int .i64) (.cons .str .nil)))) .nil) .nil)))) false]], [(0, [.val .bool true])], []⟩
def sg_i_Prog_again : Sig := ⟨[.agg [.val (.slice (.cons .str (.cons (.slice .str) (.cons (.cons (.slice (.cons (.int .i64) (.cons (.int .i64) (.cons .str .nil)))) .nil) .nil)))) false, .val (.slice .str) false, .val (.slice (.cons (.int .i64) (.cons (.cons (.slice (.cons (.int .i64) (.cons (.int .i64) (.cons .str .nil)))) .nil) (.cons (.cons (.slice (.cons (.int .i64) (.cons (.int .i64) (.cons .str .nil)))) .nil) .nil)))) false]], [(0, [.val .bool true])], []⟩
def sg_i_Prog_defCode : Sig := ⟨[.agg [.val (.slice (.cons .str (.cons (.slice .str) (.cons (.cons (.slice (.cons (.int .i64) (.cons (.int .i64) (.cons .str .nil)))) .nil) .nil)))) false, .val (.slice .str) false, .val (.slice (.cons (.int .i64) (.cons (.cons (.slice (.cons (.int .i64) (.cons (.int .i64) (.cons .str .nil)))) .nil) (.cons (.cons (.slice (.cons (.int .i64) (.cons (.int .i64) (.cons .str .nil)))) .nil) .nil)))) false], .agg [.val .str false, .val (.slice .str) false, .val (.slice (.cons (.int .i64) (.cons (.int .i64) (.cons .str .nil)))) false]], [(0, [.val (.int .i64) true])], []⟩
def sg_i_Prog_relCode : Sig := ⟨[.agg [.val (.slice (.cons .str (.cons (.slice .str) (.cons (.cons (.slice (.cons (.int .i64) (.cons (.int .i64) (.cons .str .nil)))) .nil) .nil)))) false, .val (.slice .str) false, .val (.slice (.cons (.int .i64) (.cons (.cons (.slice (.cons (.int .i64) (.cons (.int .i64) (.cons .str .nil)))) .nil) (.cons (.cons (.slice (.cons (.int .i64) (.cons (.int .i64) (.cons .str .nil)))) .nil) .nil)))) false], .agg [.val (.int .i64) false, .val (.slice (.cons (.int .i64) (.cons (.int .i64) (.cons .str .nil)))) false, .val (.slice (.cons (.int .i64) (.cons (.int .i64) (.cons .str .nil)))) false]], [(0, [.val (.int .i64) true])], []⟩
def sg_i_Prog_loop : Sig := ⟨[.agg [.val (.slice (.cons .str (.cons (.slice .str) (.cons (.cons (.slice (.cons (.int .i64) (.cons (.int .i64) (.cons .str .nil)))) .nil) .nil)))) false, .val (.slice .str) false, .val (.slice (.cons (.int .i64) (.cons (.cons (.slice (.cons (.int .i64) (.cons (.int .i64) (.cons .str .nil)))) .nil) (.cons (.cons (.slice (.cons (.int .i64) (.cons (.int .i64) (.cons .str .nil)))) .nil) .nil)))) false]], [(0, [.val (.int .i64) true])], []⟩
def sg_i_in : Sig := ⟨[.cell (.val (.int .i64) false), .cell (.val (.int .i64) false), .cell (.val (.int .i64) false)], [(0, [.val .bool true])], []⟩
def sg_slices_Clip_string_string : Sig := ⟨[.cell (.row .str 9 false)], [(0, [.row .str 9 false])], []⟩
def sg_slices_Concat_string_string : Sig := ⟨[.cell (.val (.slice (.slice .str)) false)], [(0, [.row .str 9 true])], []⟩
def sg_w_szProgDefS : Sig := ⟨[.cell (.val (.slice (.cons .str (.cons (.slice .str) (.cons (.cons (.slice (.cons (.int .i64) (.cons (.int .i64) (.cons .str .nil)))) .nil) .nil)))) false), .cell (.val (.int .i64) false)], [(0, [.val (.int .i64) true])], []⟩
def sg_w_szStringS : Sig := ⟨[.cell (.val (.slice .str) false), .cell (.val (.int .i64) false)], [(0, [.val (.int .i64) true])], []⟩
def sg_w_szProgRelS : Sig := ⟨[.cell (.val (.slice (.cons (.int .i64) (.cons (.cons (.slice (.cons (.int .i64) (.cons (.int .i64) (.cons .str .nil)))) .nil) (.cons (.cons (.slice (.cons (.int .i64) (.cons (.int .i64) (.cons .str .nil)))) .nil) .nil)))) false), .cell (.val (.int .i64) false)], [(0, [.val (.int .i64) true])], []⟩
def sg_w_toProgDefS_deep : Sig := ⟨[.cell (.val (.slice (.cons .str (.cons (.slice .str) (.cons (.cons (.slice (.cons (.int .i64) (.cons (.int .i64) (.cons .str .nil)))) .nil) .nil)))) false)], [(0, [.val (.hdr 59 (.cons .str (.cons (.hdr 9 .str) (.cons (.cons (.hdr 73 (.cons (.int .i64) (.cons (.int .i64) (.cons .str .nil)))) .nil) .nil)))) true])], MS777⟩
def sg_w_toStringS_deep : Sig := ⟨[.cell (.val (.slice .str) false)], [(0, [.val (.hdr 9 .str) true])], MS777⟩
def sg_w_toProgRelS_deep : Sig := ⟨[.cell (.val (.slice (.cons (.int .i64) (.cons (.cons (.slice (.cons (.int .i64) (.cons (.int .i64) (.cons .str .nil)))) .nil) (.cons (.cons (.slice (.cons (.int .i64) (.cons (.int .i64) (.cons .str .nil)))) .nil) .nil)))) false)], [(0, [.val (.hdr 57 (.cons (.int .i64) (.cons (.cons (.hdr 73 (.cons (.int .i64) (.cons (.int .i64) (.cons .str .nil)))) .nil) (.cons (.cons (.hdr 73 (.cons (.int .i64) (.cons (.int .i64) (.cons .str .nil)))) .nil) .nil)))) true])], MS777⟩
def sg_w_eqProgDefS : Sig := ⟨[.cell (.val (.slice (.cons .str (.cons (.slice .str) (.cons (.cons (.slice (.cons (.int .i64) (.cons (.int .i64) (.cons .str .nil)))) .nil) .nil)))) false), .cell (.val (.slice (.cons .str (.cons (.slice .str) (.cons (.cons (.slice (.cons (.int .i64) (.cons (.int .i64) (.cons .str .nil)))) .nil) .nil)))) false)], [(0, [.val .bool true])], []⟩
def sg_w_eqStringS : Sig := ⟨[.cell (.val (.slice .str) false), .cell (.val (.slice .str) false)], [(0, [.val .bool true])], []⟩
def sg_w_eqProgRelS : Sig := ⟨[.cell (.val (.slice (.cons (.int .i64) (.cons (.cons (.slice (.cons (.int .i64) (.cons (.int .i64) (.cons .str .nil)))) .nil) (.cons (.cons (.slice (.cons (.int .i64) (.cons (.int .i64) (.cons .str .nil)))) .nil) .nil)))) false), .cell (.val (.slice (.cons (.int .i64) (.cons (.cons (.slice (.cons (.int .i64) (.cons (.int .i64) (.cons .str .nil)))) .nil) (.cons (.cons (.slice (.cons (.int .i64) (.cons (.int .i64) (.cons .str .nil)))) .nil) .nil)))) false)], [(0, [.val .bool true])], []⟩
def sg_w_markProgDefS_deep : Sig := ⟨[.cell (.val (.hdr 59 (.cons .str (.cons (.hdr 9 .str) (.cons (.cons (.hdr 73 (.cons (.int .i64) (.cons (.int .i64) (.cons .str .nil)))) .nil) .nil)))) false), .cell (.val (.int .i64) false)], [(0, [.val (.int .i64) true])], MS777⟩
def sg_w_markStringS_deep : Sig := ⟨[.cell (.val (.hdr 9 .str) false), .cell (.val (.int .i64) false)], [(0, [.val (.int .i64) true])], MS777⟩
def sg_w_markProgRelS_deep : Sig := ⟨[.cell (.val (.hdr 57 (.cons (.int .i64) (.cons (.cons (.hdr 73 (.cons (.int .i64) (.cons (.int .i64) (.cons .str .nil)))) .nil) (.cons (.cons (.hdr 73 (.cons (.int .i64) (.cons (.int .i64) (.cons .str .nil)))) .nil) .nil)))) false), .cell (.val (.int .i64) false)], [(0, [.val (.int .i64) true])], MS777⟩
def sg_w_heldProgDefS : Sig := ⟨[.cell (.val (.slice (.cons .str (.cons (.slice .str) (.cons (.cons (.slice (.cons (.int .i64) (.cons (.int .i64) (.cons .str .nil)))) .nil) .nil)))) false), .cell (.val (.int .i64) false)], [(0, [.val (.int .i64) true])], []⟩
def sg_w_heldStringS : Sig := ⟨[.cell (.val (.slice .str) false), .cell (.val (.int .i64) false)], [(0, [.val (.int .i64) true])], []⟩
def sg_w_heldProgRelS : Sig := ⟨[.cell (.val (.slice (.cons (.int .i64) (.cons (.cons (.slice (.cons (.int .i64) (.cons (.int .i64) (.cons .str .nil)))) .nil) (.cons (.cons (.slice (.cons (.int .i64) (.cons (.int .i64) (.cons .str .nil)))) .nil) .nil)))) false), .cell (.val (.int .i64) false)], [(0, [.val (.int .i64) true])], []⟩
def sg_i_Prog_defAt : Sig := ⟨[.agg [.val (.slice (.cons .str (.cons (.slice .str) (.cons (.cons (.slice (.cons (.int .i64) (.cons (.int .i64) (.cons .str .nil)))) .nil) .nil)))) false, .val (.slice .str) false, .val (.slice (.cons (.int .i64) (.cons (.cons (.slice (.cons (.int .i64) (.cons (.int .i64) (.cons .str .nil)))) .nil) (.cons (.cons (.slice (.cons (.int .i64) (.cons (.int .i64) (.cons .str .nil)))) .nil) .nil)))) false], .cell (.val .str false)], [(0, [.val (.int .i64) true])], []⟩
def sg_s_l13Def : Sig := ⟨[.agg [.val (.slice (.cons .str (.cons (.slice .str) (.cons (.cons (.slice (.cons (.int .i64) (.cons (.int .i64) (.cons .str .nil)))) .nil) .nil)))) false, .val (.slice .str) false, .val (.slice (.cons (.int .i64) (.cons (.cons (.slice (.cons (.int .i64) (.cons (.int .i64) (.cons .str .nil)))) .nil) (.cons (.cons (.slice (.cons (.int .i64) (.cons (.int .i64) (.cons .str .nil)))) .nil) .nil)))) false], .cell (.val .str false)], [(0, [.val (.int .i64) true])], []⟩
def sg_s_l14Copy : Sig := ⟨[.cell (.val (.slice .str) false)], [(0, [.row .str 9 true])], []⟩
def sg_s_TermOk : Sig := ⟨[.agg [.val (.slice (.cons (.int .i64) (.cons (.int .i64) (.cons .str .nil)))) false]], [(0, [.val .bool true])], []⟩
def sg_i_wordOk : Sig := ⟨[.cell (.val .str false)], [(0, [.val .bool true])], []⟩
def sg_i_clone_impl_ProgDef_deep : Sig := ⟨[.cell (.val (.hdr 59 (.cons .str (.cons (.hdr 9 .str) (.cons (.cons (.hdr 73 (.cons (.int .i64) (.cons (.int .i64) (.cons .str .nil)))) .nil) .nil)))) false)], [(0, [.val (.hdr 59 (.cons .str (.cons (.hdr 9 .str) (.cons (.cons (.hdr 73 (.cons (.int .i64) (.cons (.int .i64) (.cons .str .nil)))) .nil) .nil)))) true])], MS777⟩
def sg_i_clone_string : Sig := ⟨[.cell (.val (.slice .str) false)], [(0, [.row .str 9 true])], []⟩
def sg_i_clone_impl_ProgRel_deep : Sig := ⟨[.cell (.val (.hdr 57 (.cons (.int .i64) (.cons (.cons (.hdr 73 (.cons (.int .i64) (.cons (.int .i64) (.cons .str .nil)))) .nil) (.cons (.cons (.hdr 73 (.cons (.int .i64) (.cons (.int .i64) (.cons .str .nil)))) .nil) .nil)))) false)], [(0, [.val (.hdr 57 (.cons (.int .i64) (.cons (.cons (.hdr 73 (.cons (.int .i64) (.cons (.int .i64) (.cons .str .nil)))) .nil) (.cons (.cons (.hdr 73 (.cons (.int .i64) (.cons (.int .i64) (.cons .str .nil)))) .nil) .nil)))) true])], MS777⟩
def sg_i_clone_impl_TermNode : Sig := ⟨[.cell (.val (.slice (.cons (.int .i64) (.cons (.int .i64) (.cons .str .nil)))) false)], [(0, [.row (.cons (.int .i64) (.cons (.int .i64) (.cons .str .nil))) 73 true])], []⟩
def sg_s_l13Shape : Sig := ⟨[.agg [.val (.slice (.cons .str (.cons (.slice .str) (.cons (.cons (.slice (.cons (.int .i64) (.cons (.int .i64) (.cons .str .nil)))) .nil) .nil)))) false, .val (.slice .str) false, .val (.slice (.cons (.int .i64) (.cons (.cons (.slice (.cons (.int .i64) (.cons (.int .i64) (.cons .str .nil)))) .nil) (.cons (.cons (.slice (.cons (.int .i64) (.cons (.int .i64) (.cons .str .nil)))) .nil) .nil)))) false]], [(0, [.val (.int .i64) true])], []⟩
def sg_s_l13DefCode : Sig := ⟨[.agg [.val (.slice (.cons .str (.cons (.slice .str) (.cons (.cons (.slice (.cons (.int .i64) (.cons (.int .i64) (.cons .str .nil)))) .nil) .nil)))) false, .val (.slice .str) false, .val (.slice (.cons (.int .i64) (.cons (.cons (.slice (.cons (.int .i64) (.cons (.int .i64) (.cons .str .nil)))) .nil) (.cons (.cons (.slice (.cons (.int .i64) (.cons (.int .i64) (.cons .str .nil)))) .nil) .nil)))) false], .agg [.val .str false, .val (.slice .str) false, .val (.slice (.cons (.int .i64) (.cons (.int .i64) (.cons .str .nil)))) false]], [(0, [.val (.int .i64) true])], []⟩
def sg_s_l13RelCode : Sig := ⟨[.agg [.val (.slice (.cons .str (.cons (.slice .str) (.cons (.cons (.slice (.cons (.int .i64) (.cons (.int .i64) (.cons .str .nil)))) .nil) .nil)))) false, .val (.slice .str) false, .val (.slice (.cons (.int .i64) (.cons (.cons (.slice (.cons (.int .i64) (.cons (.int .i64) (.cons .str .nil)))) .nil) (.cons (.cons (.slice (.cons (.int .i64) (.cons (.int .i64) (.cons .str .nil)))) .nil) .nil)))) false], .agg [.val (.int .i64) false, .val (.slice (.cons (.int .i64) (.cons (.int .i64) (.cons .str .nil)))) false, .val (.slice (.cons (.int .i64) (.cons (.int .i64) (.cons .str .nil)))) false]], [(0, [.val (.int .i64) true])], []⟩
def sg_s_l13Table_k778 : Sig := ⟨[.agg [.val (.slice (.cons .str (.cons (.slice .str) (.cons (.cons (.slice (.cons (.int .i64) (.cons (.int .i64) (.cons .str .nil)))) .nil) .nil)))) false, .val (.slice .str) false, .val (.slice (.cons (.int .i64) (.cons (.cons (.slice (.cons (.int .i64) (.cons (.int .i64) (.cons .str .nil)))) .nil) (.cons (.cons (.slice (.cons (.int .i64) (.cons (.int .i64) (.cons .str .nil)))) .nil) .nil)))) false]], [(0, [.val (.slice (.hdr 4 .bool)) true])], MS778⟩
def sg_s_l11Plain : Sig := ⟨[.cell (.val .str false)], [(0, [.val .bool true])], []⟩
def sg_s_l11Word : Sig := ⟨[.cell (.val .str false)], [(0, [.val .bool true])], []⟩
def sg_s_l14Same : Sig := ⟨[.agg [.val (.slice (.cons (.int .i64) (.cons (.int .i64) (.cons .str .nil)))) false]], [(1, [.val (.slice (.cons (.int .i64) (.cons (.int .i64) (.cons .str .nil)))) true])], []⟩
def sg_i_TermOk : Sig := ⟨[.agg [.val (.slice (.cons (.int .i64) (.cons (.int .i64) (.cons .str .nil)))) false]], [(0, [.val .bool true])], []⟩
def sg_slices_ContainsFunc_string_string_i_Prog_formed_1 : Sig := ⟨[.cell (.val (.slice .str) false), .fn 97 []], [(0, [.val .bool true])], []⟩
def sg_slices_ContainsFunc_string_string_i_Prog_formed_2 : Sig := ⟨[.cell (.val (.slice .str) false), .fn 98 []], [(0, [.val .bool true])], []⟩
def sg_slices_ContainsFunc_string_string_i_Prog_defCode_1 : Sig := ⟨[.cell (.val (.slice .str) false), .fn 103 [[.val (.slice (.cons .str (.cons (.slice .str) (.cons (.cons (.slice (.cons (.int .i64) (.cons (.int .i64) (.cons .str .nil)))) .nil) .nil)))) false, .val (.slice .str) false, .val (.slice (.cons (.int .i64) (.cons (.cons (.slice (.cons (.int .i64) (.cons (.int .i64) (.cons .str .nil)))) .nil) (.cons (.cons (.slice (.cons (.int .i64) (.cons (.int .i64) (.cons .str .nil)))) .nil) .nil)))) false]]], [(0, [.val .bool true])], []⟩
def sg_i_Prog_formed_1 : Sig := ⟨[.cell (.val .str false)], [(0, [.val .bool true])], []⟩
def sg_i_Prog_formed_2 : Sig := ⟨[.cell (.val .str false)], [(0, [.val .bool true])], []⟩
def sg_slices_ContainsFunc_impl_ProgDef_impl_ProgDef_i_Prog_many_1 : Sig := ⟨[.cell (.val (.slice (.cons .str (.cons (.slice .str) (.cons (.cons (.slice (.cons (.int .i64) (.cons (.int .i64) (.cons .str .nil)))) .nil) .nil)))) false), .fn 100 []], [(0, [.val .bool true])], []⟩
def sg_slices_ContainsFunc_impl_ProgDef_impl_ProgDef_i_Prog_again_1 : Sig := ⟨[.cell (.val (.slice (.cons .str (.cons (.slice .str) (.cons (.cons (.slice (.cons (.int .i64) (.cons (.int .i64) (.cons .str .nil)))) .nil) .nil)))) false), .fn 102 []], [(0, [.val .bool true])], []⟩
def sg_i_Prog_many_1 : Sig := ⟨[.agg [.val .str false, .val (.slice .str) false, .val (.slice (.cons (.int .i64) (.cons (.int .i64) (.cons .str .nil)))) false]], [(0, [.val .bool true])], []⟩
def sg_i_twice : Sig := ⟨[.cell (.val (.slice .str) false)], [(0, [.val .bool true])], []⟩
def sg_i_Prog_again_1 : Sig := ⟨[.agg [.val .str false, .val (.slice .str) false, .val (.slice (.cons (.int .i64) (.cons (.int .i64) (.cons .str .nil)))) false]], [(0, [.val .bool true])], []⟩
def sg_i_Prog_defCode_1 : Sig := ⟨[.cell (.val .str false), .box [.val (.slice (.cons .str (.cons (.slice .str) (.cons (.cons (.slice (.cons (.int .i64) (.cons (.int .i64) (.cons .str .nil)))) .nil) .nil)))) false, .val (.slice .str) false, .val (.slice (.cons (.int .i64) (.cons (.cons (.slice (.cons (.int .i64) (.cons (.int .i64) (.cons .str .nil)))) .nil) (.cons (.cons (.slice (.cons (.int .i64) (.cons (.int .i64) (.cons .str .nil)))) .nil) .nil)))) false]], [(0, [.val .bool true])], []⟩
def sg_i_Prog_fits : Sig := ⟨[.agg [.val (.slice (.cons .str (.cons (.slice .str) (.cons (.cons (.slice (.cons (.int .i64) (.cons (.int .i64) (.cons .str .nil)))) .nil) .nil)))) false, .val (.slice .str) false, .val (.slice (.cons (.int .i64) (.cons (.cons (.slice (.cons (.int .i64) (.cons (.int .i64) (.cons .str .nil)))) .nil) (.cons (.cons (.slice (.cons (.int .i64) (.cons (.int .i64) (.cons .str .nil)))) .nil) .nil)))) false], .cell (.val (.slice (.cons (.int .i64) (.cons (.int .i64) (.cons .str .nil)))) false), .cell (.val (.slice .str) false)], [(0, [.val (.int .i64) true])], []⟩
def sg_slices_Concat_impl_TermNode_impl_TermNode : Sig := ⟨[.cell (.val (.slice (.slice (.cons (.int .i64) (.cons (.int .i64) (.cons .str .nil))))) false)], [(0, [.row (.cons (.int .i64) (.cons (.int .i64) (.cons .str .nil))) 73 true])], []⟩
def sg_i_Prog_uses : Sig := ⟨[.agg [.val (.slice (.cons .str (.cons (.slice .str) (.cons (.cons (.slice (.cons (.int .i64) (.cons (.int .i64) (.cons .str .nil)))) .nil) .nil)))) false, .val (.slice .str) false, .val (.slice (.cons (.int .i64) (.cons (.cons (.slice (.cons (.int .i64) (.cons (.int .i64) (.cons .str .nil)))) .nil) (.cons (.cons (.slice (.cons (.int .i64) (.cons (.int .i64) (.cons .str .nil)))) .nil) .nil)))) false], .cell (.val (.int .i64) false)], [(0, [.val (.slice .bool) true])], []⟩
def sg_slices_Grow_string_string : Sig := ⟨[.cell (.row .str 9 false), .cell (.val (.int .i64) false)], [(0, [.row .str 9 true])], []⟩
def sg_w_szProgDef : Sig := ⟨[.agg [.val .str false, .val (.slice .str) false, .val (.slice (.cons (.int .i64) (.cons (.int .i64) (.cons .str .nil)))) false], .cell (.val (.int .i64) false)], [(0, [.val (.int .i64) true])], []⟩
def sg_w_szProgRel : Sig := ⟨[.agg [.val (.int .i64) false, .val (.slice (.cons (.int .i64) (.cons (.int .i64) (.cons .str .nil)))) false, .val (.slice (.cons (.int .i64) (.cons (.int .i64) (.cons .str .nil)))) false], .cell (.val (.int .i64) false)], [(0, [.val (.int .i64) true])], []⟩
def sg_w_toProgDef_deep : Sig := ⟨[.agg [.val .str false, .val (.slice .str) false, .val (.slice (.cons (.int .i64) (.cons (.int .i64) (.cons .str .nil)))) false]], [(1, [.val .str true, .val (.hdr 9 .str) true, .val (.hdr 73 (.cons (.int .i64) (.cons (.int .i64) (.cons .str .nil)))) true])], MS777⟩
def sg_w_toProgRel_deep : Sig := ⟨[.agg [.val (.int .i64) false, .val (.slice (.cons (.int .i64) (.cons (.int .i64) (.cons .str .nil)))) false, .val (.slice (.cons (.int .i64) (.cons (.int .i64) (.cons .str .nil)))) false]], [(1, [.val (.int .i64) true, .val (.hdr 73 (.cons (.int .i64) (.cons (.int .i64) (.cons .str .nil)))) true, .val (.hdr 73 (.cons (.int .i64) (.cons (.int .i64) (.cons .str .nil)))) true])], MS777⟩
def sg_w_eqProgDef : Sig := ⟨[.agg [.val .str false, .val (.slice .str) false, .val (.slice (.cons (.int .i64) (.cons (.int .i64) (.cons .str .nil)))) false], .agg [.val .str false, .val (.slice .str) false, .val (.slice (.cons (.int .i64) (.cons (.int .i64) (.cons .str .nil)))) false]], [(0, [.val .bool true])], []⟩
def sg_w_eqProgRel : Sig := ⟨[.agg [.val (.int .i64) false, .val (.slice (.cons (.int .i64) (.cons (.int .i64) (.cons .str .nil)))) false, .val (.slice (.cons (.int .i64) (.cons (.int .i64) (.cons .str .nil)))) false], .agg [.val (.int .i64) false, .val (.slice (.cons (.int .i64) (.cons (.int .i64) (.cons .str .nil)))) false, .val (.slice (.cons (.int .i64) (.cons (.int .i64) (.cons .str .nil)))) false]], [(0, [.val .bool true])], []⟩
def sg_w_markText : Sig := ⟨[.cell (.val (.int .i64) false)], [(0, [.val .str true])], []⟩
def sg_w_markTermNodeS_deep : Sig := ⟨[.cell (.val (.hdr 73 (.cons (.int .i64) (.cons (.int .i64) (.cons .str .nil)))) false), .cell (.val (.int .i64) false)], [(0, [.val (.int .i64) true])], MS777⟩
def sg_w_heldTermNodeS : Sig := ⟨[.cell (.val (.slice (.cons (.int .i64) (.cons (.int .i64) (.cons .str .nil)))) false), .cell (.val (.int .i64) false)], [(0, [.val (.int .i64) true])], []⟩
def sg_slices_IndexFunc_impl_ProgDef_impl_ProgDef_i_Prog_many_1 : Sig := ⟨[.cell (.val (.slice (.cons .str (.cons (.slice .str) (.cons (.cons (.slice (.cons (.int .i64) (.cons (.int .i64) (.cons .str .nil)))) .nil) .nil)))) false), .fn 100 []], [(0, [.val (.int .i64) true])], []⟩
def sg_slices_IndexFunc_impl_ProgDef_impl_ProgDef_i_Prog_again_1 : Sig := ⟨[.cell (.val (.slice (.cons .str (.cons (.slice .str) (.cons (.cons (.slice (.cons (.int .i64) (.cons (.int .i64) (.cons .str .nil)))) .nil) .nil)))) false), .fn 102 []], [(0, [.val (.int .i64) true])], []⟩
def sg_slices_IndexFunc_impl_ProgDef_impl_ProgDef_i_Prog_defAt_1 : Sig := ⟨[.cell (.val (.slice (.cons .str (.cons (.slice .str) (.cons (.cons (.slice (.cons (.int .i64) (.cons (.int .i64) (.cons .str .nil)))) .nil) .nil)))) false), .fn 118 [[.val .str false]]], [(0, [.val (.int .i64) true])], []⟩
def sg_i_Prog_defAt_1 : Sig := ⟨[.agg [.val .str false, .val (.slice .str) false, .val (.slice (.cons (.int .i64) (.cons (.int .i64) (.cons .str .nil)))) false], .box [.val .str false]], [(0, [.val .bool true])], []⟩
def sg_s_l12Args : Sig := ⟨[.agg [.val (.int .i64) false, .val (.int .i64) false, .val .str false]], [(0, [.val (.int .i64) true])], []⟩
def sg_i_isLetter : Sig := ⟨[.cell (.val (.int .u8) false)], [(0, [.val .bool true])], []⟩
def sg_i_isFigure : Sig := ⟨[.cell (.val (.int .u8) false)], [(0, [.val .bool true])], []⟩
def sg_slices_Clip_impl_ProgDef_impl_ProgDef_deep : Sig := ⟨[.cell (.val (.hdr 59 (.cons .str (.cons (.hdr 9 .str) (.cons (.cons (.hdr 73 (.cons (.int .i64) (.cons (.int .i64) (.cons .str .nil)))) .nil) .nil)))) false)], [(0, [.val (.hdr 59 (.cons .str (.cons (.hdr 9 .str) (.cons (.cons (.hdr 73 (.cons (.int .i64) (.cons (.int .i64) (.cons .str .nil)))) .nil) .nil)))) true])], MS777⟩
def sg_slices_Clone_impl_ProgDef_impl_ProgDef_deep : Sig := ⟨[.cell (.val (.hdr 59 (.cons .str (.cons (.hdr 9 .str) (.cons (.cons (.hdr 73 (.cons (.int .i64) (.cons (.int .i64) (.cons .str .nil)))) .nil) .nil)))) false)], [(0, [.row (.cons .str (.cons (.hdr 9 .str) (.cons (.cons (.hdr 73 (.cons (.int .i64) (.cons (.int .i64) (.cons .str .nil)))) .nil) .nil))) 59 true])], MS777⟩
def sg_slices_Clone_string_string : Sig := ⟨[.cell (.val (.slice .str) false)], [(0, [.row .str 9 true])], []⟩
def sg_slices_Clip_impl_ProgRel_impl_ProgRel_deep : Sig := ⟨[.cell (.val (.hdr 57 (.cons (.int .i64) (.cons (.cons (.hdr 73 (.cons (.int .i64) (.cons (.int .i64) (.cons .str .nil)))) .nil) (.cons (.cons (.hdr 73 (.cons (.int .i64) (.cons (.int .i64) (.cons .str .nil)))) .nil) .nil)))) false)], [(0, [.val (.hdr 57 (.cons (.int .i64) (.cons (.cons (.hdr 73 (.cons (.int .i64) (.cons (.int .i64) (.cons .str .nil)))) .nil) (.cons (.cons (.hdr 73 (.cons (.int .i64) (.cons (.int .i64) (.cons .str .nil)))) .nil) .nil)))) true])], MS777⟩
def sg_slices_Clone_impl_ProgRel_impl_ProgRel_deep : Sig := ⟨[.cell (.val (.hdr 57 (.cons (.int .i64) (.cons (.cons (.hdr 73 (.cons (.int .i64) (.cons (.int .i64) (.cons .str .nil)))) .nil) (.cons (.cons (.hdr 73 (.cons (.int .i64) (.cons (.int .i64) (.cons .str .nil)))) .nil) .nil)))) false)], [(0, [.row (.cons (.int .i64) (.cons (.cons (.hdr 73 (.cons (.int .i64) (.cons (.int .i64) (.cons .str .nil)))) .nil) (.cons (.cons (.hdr 73 (.cons (.int .i64) (.cons (.int .i64) (.cons .str .nil)))) .nil) .nil))) 57 true])], MS777⟩
def sg_slices_Clip_impl_TermNode_impl_TermNode : Sig := ⟨[.cell (.row (.cons (.int .i64) (.cons (.int .i64) (.cons .str .nil))) 73 false)], [(0, [.row (.cons (.int .i64) (.cons (.int .i64) (.cons .str .nil))) 73 false])], []⟩
def sg_slices_Clone_impl_TermNode_impl_TermNode : Sig := ⟨[.cell (.val (.slice (.cons (.int .i64) (.cons (.int .i64) (.cons .str .nil)))) false)], [(0, [.row (.cons (.int .i64) (.cons (.int .i64) (.cons .str .nil))) 73 true])], []⟩
def sg_s_l13Formed : Sig := ⟨[.agg [.val (.slice (.cons .str (.cons (.slice .str) (.cons (.cons (.slice (.cons (.int .i64) (.cons (.int .i64) (.cons .str .nil)))) .nil) .nil)))) false, .val (.slice .str) false, .val (.slice (.cons (.int .i64) (.cons (.cons (.slice (.cons (.int .i64) (.cons (.int .i64) (.cons .str .nil)))) .nil) (.cons (.cons (.slice (.cons (.int .i64) (.cons (.int .i64) (.cons .str .nil)))) .nil) .nil)))) false]], [(0, [.val .bool true])], []⟩
def sg_s_l13Distinct : Sig := ⟨[.cell (.val (.slice .str) false)], [(0, [.val .bool true])], []⟩
def sg_s_l13Known : Sig := ⟨[.agg [.val (.slice (.cons .str (.cons (.slice .str) (.cons (.cons (.slice (.cons (.int .i64) (.cons (.int .i64) (.cons .str .nil)))) .nil) .nil)))) false, .val (.slice .str) false, .val (.slice (.cons (.int .i64) (.cons (.cons (.slice (.cons (.int .i64) (.cons (.int .i64) (.cons .str .nil)))) .nil) (.cons (.cons (.slice (.cons (.int .i64) (.cons (.int .i64) (.cons .str .nil)))) .nil) .nil)))) false], .agg [.val (.slice (.cons (.int .i64) (.cons (.int .i64) (.cons .str .nil)))) false], .cell (.val (.slice .str) false)], [(0, [.val (.int .i64) true])], []⟩
def sg_s_l13Reaches : Sig := ⟨[.agg [.val (.slice (.cons .str (.cons (.slice .str) (.cons (.cons (.slice (.cons (.int .i64) (.cons (.int .i64) (.cons .str .nil)))) .nil) .nil)))) false, .val (.slice .str) false, .val (.slice (.cons (.int .i64) (.cons (.cons (.slice (.cons (.int .i64) (.cons (.int .i64) (.cons .str .nil)))) .nil) (.cons (.cons (.slice (.cons (.int .i64) (.cons (.int .i64) (.cons .str .nil)))) .nil) .nil)))) false], .cell (.val (.int .i64) false), .cell (.val (.int .i64) false), .cell (.val (.int .i64) false)], [(0, [.val .bool true])], []⟩
def sg_s_l11Letter : Sig := ⟨[.cell (.val (.int .u8) false)], [(0, [.val .bool true])], []⟩
def sg_s_l11Digit : Sig := ⟨[.cell (.val (.int .u8) false)], [(0, [.val .bool true])], []⟩
def sg_i_TermNode_parts : Sig := ⟨[.agg [.val (.int .i64) false, .val (.int .i64) false, .val .str false]], [(0, [.val (.int .i64) true])], []⟩
def sg_slices_IndexFunc_string_string_i_Prog_formed_1 : Sig := ⟨[.cell (.val (.slice .str) false), .fn 97 []], [(0, [.val (.int .i64) true])], []⟩
def sg_slices_IndexFunc_string_string_i_Prog_formed_2 : Sig := ⟨[.cell (.val (.slice .str) false), .fn 98 []], [(0, [.val (.int .i64) true])], []⟩
def sg_slices_IndexFunc_string_string_i_Prog_defCode_1 : Sig := ⟨[.cell (.val (.slice .str) false), .fn 103 [[.val (.slice (.cons .str (.cons (.slice .str) (.cons (.cons (.slice (.cons (.int .i64) (.cons (.int .i64) (.cons .str .nil)))) .nil) .nil)))) false, .val (.slice .str) false, .val (.slice (.cons (.int .i64) (.cons (.cons (.slice (.cons (.int .i64) (.cons (.int .i64) (.cons .str .nil)))) .nil) (.cons (.cons (.slice (.cons (.int .i64) (.cons (.int .i64) (.cons .str .nil)))) .nil) .nil)))) false]]], [(0, [.val (.int .i64) true])], []⟩
def sg_slices_Grow_impl_TermNode_impl_TermNode : Sig := ⟨[.cell (.row (.cons (.int .i64) (.cons (.int .i64) (.cons .str .nil))) 73 false), .cell (.val (.int .i64) false)], [(0, [.row (.cons (.int .i64) (.cons (.int .i64) (.cons .str .nil))) 73 true])], []⟩
def sg_i_Term_names : Sig := ⟨[.agg [.val (.slice (.cons (.int .i64) (.cons (.int .i64) (.cons .str .nil)))) false]], [(0, [.row .str 9 true])], []⟩
def sg_w_szTerm : Sig := ⟨[.agg [.val (.slice (.cons (.int .i64) (.cons (.int .i64) (.cons .str .nil)))) false], .cell (.val (.int .i64) false)], [(0, [.val (.int .i64) true])], []⟩
def sg_w_toTerm_deep : Sig := ⟨[.agg [.val (.slice (.cons (.int .i64) (.cons (.int .i64) (.cons .str .nil)))) false]], [(1, [.val (.hdr 73 (.cons (.int .i64) (.cons (.int .i64) (.cons .str .nil)))) true])], MS777⟩
def sg_w_eqTerm : Sig := ⟨[.agg [.val (.slice (.cons (.int .i64) (.cons (.int .i64) (.cons .str .nil)))) false], .agg [.val (.slice (.cons (.int .i64) (.cons (.int .i64) (.cons .str .nil)))) false]], [(0, [.val .bool true])], []⟩
def sg_s_LangNumOk : Sig := ⟨[.cell (.val .str false)], [(0, [.val .bool true])], []⟩
def sg_s_l13Names : Sig := ⟨[.cell (.val (.slice .str) false)], [(0, [.val .bool true])], []⟩
def sg_s_l13Kind : Sig := ⟨[.cell (.val (.int .i64) false)], [(0, [.val .bool true])], []⟩
def sg_i_LangNumOk : Sig := ⟨[.cell (.val .str false)], [(0, [.val .bool true])], []⟩
def sg_slices_Sort_string_string_k779 : Sig := ⟨[.cell (.val (.hdr 9 .str) false)], [], MS779⟩
def sg_slices_Compact_string_string_k779 : Sig := ⟨[.cell (.val (.hdr 9 .str) false)], [(0, [.row .str 9 true])], MS779⟩
def sg_w_szTermNodeS : Sig := ⟨[.cell (.val (.slice (.cons (.int .i64) (.cons (.int .i64) (.cons .str .nil)))) false), .cell (.val (.int .i64) false)], [(0, [.val (.int .i64) true])], []⟩
def sg_w_toTermNodeS_deep : Sig := ⟨[.cell (.val (.slice (.cons (.int .i64) (.cons (.int .i64) (.cons .str .nil)))) false)], [(0, [.val (.hdr 73 (.cons (.int .i64) (.cons (.int .i64) (.cons .str .nil)))) true])], MS777⟩
def sg_w_eqTermNodeS : Sig := ⟨[.cell (.val (.slice (.cons (.int .i64) (.cons (.int .i64) (.cons .str .nil)))) false), .cell (.val (.slice (.cons (.int .i64) (.cons (.int .i64) (.cons .str .nil)))) false)], [(0, [.val .bool true])], []⟩
def sg_s_l11Run : Sig := ⟨[.cell (.val .str false), .cell (.val (.int .i64) false)], [(0, [.val (.int .i64) true])], []⟩
def sg_i_DecOk : Sig := ⟨[.cell (.val .str false)], [(0, [.val .bool true])], []⟩
def sg_w_szTermNode : Sig := ⟨[.agg [.val (.int .i64) false, .val (.int .i64) false, .val .str false], .cell (.val (.int .i64) false)], [(0, [.val (.int .i64) true])], []⟩
def sg_w_toTermNode : Sig := ⟨[.agg [.val (.int .i64) false, .val (.int .i64) false, .val .str false]], [(1, [.val (.int .i64) true, .val (.int .i64) true, .val .str true])], []⟩
def sg_w_eqTermNode : Sig := ⟨[.agg [.val (.int .i64) false, .val (.int .i64) false, .val .str false], .agg [.val (.int .i64) false, .val (.int .i64) false, .val .str false]], [(0, [.val .bool true])], []⟩
def sg_i_literal : Sig := ⟨[.cell (.val .str false)], [(0, [.val .str true]), (0, [.val .str true]), (0, [.val (.int .i64) true]), (0, [.val .bool true])], []⟩
def sg_strings_Cut : Sig := ⟨[.cell (.val .str false), .cell (.val .str false)], [(0, [.val .str true]), (0, [.val .str true]), (0, [.val .bool true])], []⟩
def sg_i_wholeDigits : Sig := ⟨[.cell (.val .str false)], [(0, [.val .bool true])], []⟩
def sg_i_isDigits : Sig := ⟨[.cell (.val .str false)], [(0, [.val .bool true])], []⟩
def sg_strings_CutPrefix : Sig := ⟨[.cell (.val .str false), .cell (.val .str false)], [(0, [.val .str true]), (0, [.val .bool true])], []⟩
def sg_strconv_Atoi : Sig := ⟨[.cell (.val .str false)], [(0, [.val (.int .i64) true]), (0, [.val .err true])], []⟩
def sg_internal_stringslite_Cut : Sig := ⟨[.cell (.val .str false), .cell (.val .str false)], [(0, [.val .str true]), (0, [.val .str true]), (0, [.val .bool true])], []⟩
def sg_internal_stringslite_CutPrefix : Sig := ⟨[.cell (.val .str false), .cell (.val .str false)], [(0, [.val .str true]), (0, [.val .bool true])], []⟩
def sg_internal_stringslite_Index : Sig := ⟨[.cell (.val .str false), .cell (.val .str false)], [(0, [.val (.int .i64) true])], []⟩
def sg_internal_stringslite_HasPrefix : Sig := ⟨[.cell (.val .str false), .cell (.val .str false)], [(0, [.val .bool true])], []⟩
def S : Sigs := [
  (4, some [([777], sg_w_FnExactProgShift_deep)]),
  (13, some [([], sg_i_ProgCode)]),
  (16, some [([777], sg_i_ProgShift_deep)]),
  (17, some [([], sg_s_ProgShift)]),
  (18, some [([], sg_w_szProg)]),
  (19, some [([777], sg_w_toProg_deep)]),
  (20, some [([], sg_w_eqProg)]),
  (21, some [([777], sg_w_markProg_deep)]),
  (22, some [([], sg_w_heldProg)]),
  (35, some [([], sg_slices_Index_string_string)]),
  (36, some [([], sg_i_LangNameOk)]),
  (37, some [([], sg_slices_Contains_string_string)]),
  (38, some [([], sg_i_Prog_namesOf)]),
  (39, some [([777], sg_i_Prog_copyOf_deep)]),
  (40, some [([], sg_s_l12Find)]),
  (41, some [([], sg_s_ProgCode)]),
  (42, some [([], sg_s_LangNameOk)]),
  (44, some [([], sg_s_l14Own)]),
  (47, some [([], sg_i_Prog_formed)]),
  (48, some [([], sg_i_Prog_many)]),
  (49, some [([], sg_i_Prog_again)]),
  (50, some [([], sg_i_Prog_defCode)]),
  (51, some [([], sg_i_Prog_relCode)]),
  (52, some [([], sg_i_Prog_loop)]),
  (53, some [([], sg_i_in)]),
  (54, some [([], sg_slices_Clip_string_string)]),
  (55, some [([], sg_slices_Concat_string_string)]),
  (56, some [([], sg_w_szProgDefS)]),
  (57, some [([], sg_w_szStringS)]),
  (58, some [([], sg_w_szProgRelS)]),
  (59, some [([777], sg_w_toProgDefS_deep)]),
  (60, some [([777], sg_w_toStringS_deep)]),
  (61, some [([777], sg_w_toProgRelS_deep)]),
  (62, some [([], sg_w_eqProgDefS)]),
  (63, some [([], sg_w_eqStringS)]),
  (64, some [([], sg_w_eqProgRelS)]),
  (65, some [([777], sg_w_markProgDefS_deep)]),
  (66, some [([777], sg_w_markStringS_deep)]),
  (67, some [([777], sg_w_markProgRelS_deep)]),
  (68, some [([], sg_w_heldProgDefS)]),
  (69, some [([], sg_w_heldStringS)]),
  (70, some [([], sg_w_heldProgRelS)]),
  (72, some [([], sg_i_Prog_defAt)]),
  (74, some [([], sg_s_l13Def)]),
  (76, some [([], sg_s_l14Copy)]),
  (77, some [([], sg_s_TermOk)]),
  (83, some [([], sg_i_wordOk)]),
  (84, some [([777], sg_i_clone_impl_ProgDef_deep)]),
  (85, some [([], sg_i_clone_string)]),
  (86, some [([777], sg_i_clone_impl_ProgRel_deep)]),
  (87, some [([], sg_i_clone_impl_TermNode)]),
  (88, some [([], sg_s_l13Shape)]),
  (89, some [([], sg_s_l13DefCode)]),
  (90, some [([], sg_s_l13RelCode)]),
  (91, some [([778], sg_s_l13Table_k778)]),
  (92, some [([], sg_s_l11Plain)]),
  (93, some [([], sg_s_l11Word)]),
  (94, some [([], sg_s_l14Same)]),
  (95, some [([], sg_i_TermOk)]),
  (96, some [([97], sg_slices_ContainsFunc_string_string_i_Prog_formed_1), ([98], sg_slices_ContainsFunc_string_string_i_Prog_formed_2), ([103], sg_slices_ContainsFunc_string_string_i_Prog_defCode_1)]),
  (97, some [([], sg_i_Prog_formed_1)]),
  (98, some [([], sg_i_Prog_formed_2)]),
  (99, some [([100], sg_slices_ContainsFunc_impl_ProgDef_impl_ProgDef_i_Prog_many_1), ([102], sg_slices_ContainsFunc_impl_ProgDef_impl_ProgDef_i_Prog_again_1)]),
  (100, some [([], sg_i_Prog_many_1)]),
  (101, some [([], sg_i_twice)]),
  (102, some [([], sg_i_Prog_again_1)]),
  (103, some [([], sg_i_Prog_defCode_1)]),
  (104, some [([], sg_i_Prog_fits)]),
  (105, some [([], sg_slices_Concat_impl_TermNode_impl_TermNode)]),
  (106, some [([], sg_i_Prog_uses)]),
  (107, some [([], sg_slices_Grow_string_string)]),
  (108, some [([], sg_w_szProgDef)]),
  (109, some [([], sg_w_szProgRel)]),
  (110, some [([777], sg_w_toProgDef_deep)]),
  (111, some [([777], sg_w_toProgRel_deep)]),
  (112, some [([], sg_w_eqProgDef)]),
  (113, some [([], sg_w_eqProgRel)]),
  (114, some [([], sg_w_markText)]),
  (115, some [([777], sg_w_markTermNodeS_deep)]),
  (116, some [([], sg_w_heldTermNodeS)]),
  (117, some [([100], sg_slices_IndexFunc_impl_ProgDef_impl_ProgDef_i_Prog_many_1), ([102], sg_slices_IndexFunc_impl_ProgDef_impl_ProgDef_i_Prog_again_1), ([118], sg_slices_IndexFunc_impl_ProgDef_impl_ProgDef_i_Prog_defAt_1)]),
  (118, some [([], sg_i_Prog_defAt_1)]),
  (123, some [([], sg_s_l12Args)]),
  (127, some [([], sg_i_isLetter)]),
  (128, some [([], sg_i_isFigure)]),
  (129, some [([777], sg_slices_Clip_impl_ProgDef_impl_ProgDef_deep)]),
  (130, some [([777], sg_slices_Clone_impl_ProgDef_impl_ProgDef_deep)]),
  (131, some [([], sg_slices_Clone_string_string)]),
  (132, some [([777], sg_slices_Clip_impl_ProgRel_impl_ProgRel_deep)]),
  (133, some [([777], sg_slices_Clone_impl_ProgRel_impl_ProgRel_deep)]),
  (134, some [([], sg_slices_Clip_impl_TermNode_impl_TermNode)]),
  (135, some [([], sg_slices_Clone_impl_TermNode_impl_TermNode)]),
  (136, some [([], sg_s_l13Formed)]),
  (137, some [([], sg_s_l13Distinct)]),
  (138, some [([], sg_s_l13Known)]),
  (139, some [([], sg_s_l13Reaches)]),
  (140, some [([], sg_s_l11Letter)]),
  (141, some [([], sg_s_l11Digit)]),
  (142, some [([], sg_i_TermNode_parts)]),
  (143, some [([97], sg_slices_IndexFunc_string_string_i_Prog_formed_1), ([98], sg_slices_IndexFunc_string_string_i_Prog_formed_2), ([103], sg_slices_IndexFunc_string_string_i_Prog_defCode_1)]),
  (144, some [([], sg_slices_Grow_impl_TermNode_impl_TermNode)]),
  (145, some [([], sg_i_Term_names)]),
  (146, some [([], sg_w_szTerm)]),
  (147, some [([777], sg_w_toTerm_deep)]),
  (148, some [([], sg_w_eqTerm)]),
  (154, some [([], sg_s_LangNumOk)]),
  (158, some [([], sg_s_l13Names)]),
  (159, some [([], sg_s_l13Kind)]),
  (160, some [([], sg_i_LangNumOk)]),
  (161, some [([779], sg_slices_Sort_string_string_k779)]),
  (162, some [([779], sg_slices_Compact_string_string_k779)]),
  (163, some [([], sg_w_szTermNodeS)]),
  (164, some [([777], sg_w_toTermNodeS_deep)]),
  (165, some [([], sg_w_eqTermNodeS)]),
  (169, some [([], sg_s_l11Run)]),
  (172, some [([], sg_i_DecOk)]),
  (175, some [([], sg_w_szTermNode)]),
  (176, some [([], sg_w_toTermNode)]),
  (177, some [([], sg_w_eqTermNode)]),
  (179, some [([], sg_i_literal)]),
  (191, some [([], sg_strings_Cut)]),
  (192, some [([], sg_i_wholeDigits)]),
  (193, some [([], sg_i_isDigits)]),
  (194, some [([], sg_strings_CutPrefix)]),
  (195, some [([], sg_strconv_Atoi)]),
  (202, some [([], sg_internal_stringslite_Cut)]),
  (203, some [([], sg_internal_stringslite_CutPrefix)]),
  (207, some [([], sg_internal_stringslite_Index)]),
  (208, some [([], sg_internal_stringslite_HasPrefix)])]
end Go.Px.Seat
