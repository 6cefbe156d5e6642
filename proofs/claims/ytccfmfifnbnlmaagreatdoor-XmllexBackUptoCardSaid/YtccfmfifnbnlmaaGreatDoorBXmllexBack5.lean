/- Several texts in one, in their order. -/
import Derived.Test.YtccfmfifnbnlmaaGreatDoorBXmllexBack4
import Derived.Test.YtccfmfifnbnlmaaGreatDoorProg
import Derived.Test.YtccfmfifnbnlmaaGreatDoorChecked
section
/- The types and functions of this seat, as the evaluator asks for them. -/
namespace Go.Proofs.YtccfmfifnbnlmaaGreatDoor.Ev
open Go
noncomputable def types (U : Nat → Type) : List (Nat × TInf U) := [
 (0,⟨.tup,1,0,[.junk]⟩),
 (1,⟨.fn,1,8,[.nilf]⟩),
 (2,⟨.int .i64,1,8,[.int .i64 0]⟩),
 (3,⟨.int .i64,1,8,[.int .i64 0]⟩),
 (4,⟨.bool,1,1,[.bool false]⟩),
 (5,⟨.int .u8,1,1,[.int .u8 0]⟩),
 (6,⟨.int .u8,1,1,[.int .u8 0]⟩),
 (7,⟨.st [(0,2),(1,3),(2,4),(3,6)],4,24,[.int .i64 0,.int .i64 0,.bool false,.int .u8 0]⟩),
 (8,⟨.st [(0,2),(1,3),(2,4),(3,6)],4,24,[.int .i64 0,.int .i64 0,.bool false,.int .u8 0]⟩),
 (9,⟨.str,1,16,[.str ⟨#[]⟩]⟩),
 (10,⟨.str,1,16,[.str ⟨#[]⟩]⟩),
 (11,⟨.str,1,16,[.str ⟨#[]⟩]⟩),
 (12,⟨.int .u64,1,8,[.int .u64 0]⟩),
 (13,⟨.st [(0,9),(1,12)],2,24,[.str ⟨#[]⟩,.int .u64 0]⟩),
 (14,⟨.st [(0,9),(1,12)],2,24,[.str ⟨#[]⟩,.int .u64 0]⟩),
 (15,⟨.ptr 189,1,8,[.nilp]⟩),
 (16,⟨.ptr 192,1,8,[.nilp]⟩),
 (17,⟨.ptr 200,1,8,[.nilp]⟩),
 (18,⟨.st [(0,17)],1,8,[.nilp]⟩),
 (19,⟨.st [(0,17)],1,8,[.nilp]⟩),
 (20,⟨.ifc,1,16,[.nili]⟩),
 (21,⟨.int .i32,1,4,[.int .i32 0]⟩),
 (22,⟨.sl 5 (.int .u8),1,24,[.sl (.int .u8) [] .exact]⟩),
 (23,⟨.sl 48 (.pair (.str) (.str)),1,24,[.sl (.pair (.str) (.str)) [] .exact]⟩),
 (24,⟨.st [(0,3),(1,9),(2,23),(3,4),(4,9)],5,72,[.int .i64 0,.str ⟨#[]⟩,.sl (.pair (.str) (.str)) [] .exact,.bool false,.str ⟨#[]⟩]⟩),
 (25,⟨.st [(0,3),(1,9),(2,23),(3,4),(4,9)],5,72,[.int .i64 0,.str ⟨#[]⟩,.sl (.pair (.str) (.str)) [] .exact,.bool false,.str ⟨#[]⟩]⟩),
 (26,⟨.int .i64,1,8,[.int .i64 0]⟩),
 (27,⟨.tup,1,0,[.junk]⟩),
 (28,⟨.fn,1,8,[.nilf]⟩),
 (29,⟨.fn,1,8,[.nilf]⟩),
 (30,⟨.fn,1,8,[.nilf]⟩),
 (31,⟨.fn,1,8,[.nilf]⟩),
 (32,⟨.fn,1,8,[.nilf]⟩),
 (33,⟨.tup,1,0,[.junk]⟩),
 (34,⟨.fn,1,8,[.nilf]⟩),
 (35,⟨.fn,1,8,[.nilf]⟩),
 (36,⟨.fn,1,8,[.nilf]⟩),
 (37,⟨.tup,1,0,[.junk]⟩),
 (38,⟨.fn,1,8,[.nilf]⟩),
 (39,⟨.fn,1,8,[.nilf]⟩),
 (40,⟨.fn,1,8,[.nilf]⟩),
 (41,⟨.fn,1,8,[.nilf]⟩),
 (42,⟨.ptr 44,1,8,[.nilp]⟩),
 (43,⟨.st [(0,22),(1,26)],2,32,[.sl (.int .u8) [] .exact,.int .i64 0]⟩),
 (44,⟨.st [(0,22),(1,26)],2,32,[.sl (.int .u8) [] .exact,.int .i64 0]⟩),
 (45,⟨.fn,1,8,[.nilf]⟩),
 (46,⟨.fn,1,8,[.nilf]⟩),
 (47,⟨.st [(0,9),(1,9)],2,32,[.str ⟨#[]⟩,.str ⟨#[]⟩]⟩),
 (48,⟨.st [(0,9),(1,9)],2,32,[.str ⟨#[]⟩,.str ⟨#[]⟩]⟩),
 (49,⟨.fn,1,8,[.nilf]⟩),
 (50,⟨.fn,1,8,[.nilf]⟩),
 (51,⟨.fn,1,8,[.nilf]⟩),
 (52,⟨.ptr 91,1,8,[.nilp]⟩),
 (53,⟨.fn,1,8,[.nilf]⟩),
 (54,⟨.fn,1,8,[.nilf]⟩),
 (55,⟨.fn,1,8,[.nilf]⟩),
 (56,⟨.fn,1,8,[.nilf]⟩),
 (57,⟨.fn,1,8,[.nilf]⟩),
 (58,⟨.tup,1,0,[.junk]⟩),
 (59,⟨.fn,1,8,[.nilf]⟩),
 (60,⟨.int .i8,1,1,[.int .i8 0]⟩),
 (61,⟨.int .i8,1,1,[.int .i8 0]⟩),
 (62,⟨.st [(0,22),(1,3),(2,61)],3,40,[.sl (.int .u8) [] .exact,.int .i64 0,.int .i8 0]⟩),
 (63,⟨.st [(0,22),(1,3),(2,61)],3,40,[.sl (.int .u8) [] .exact,.int .i64 0,.int .i8 0]⟩),
 (64,⟨.tup,1,0,[.junk]⟩),
 (65,⟨.fn,1,8,[.nilf]⟩),
 (66,⟨.ifc,1,16,[.nili]⟩),
 (67,⟨.ifc,1,16,[.nili]⟩),
 (68,⟨.tup,1,0,[.junk]⟩),
 (69,⟨.fn,1,8,[.nilf]⟩),
 (70,⟨.fn,1,8,[.nilf]⟩),
 (71,⟨.tup,1,0,[.junk]⟩),
 (72,⟨.fn,1,8,[.nilf]⟩),
 (73,⟨.fn,1,8,[.nilf]⟩),
 (74,⟨.fn,1,8,[.nilf]⟩),
 (75,⟨.sl 9 (.str),1,24,[.sl (.str) [] .exact]⟩),
 (76,⟨.st [],0,0,[]⟩),
 (77,⟨.st [],0,0,[]⟩),
 (78,⟨.st [],0,0,[]⟩),
 (79,⟨.int .u32,1,4,[.int .u32 0]⟩),
 (80,⟨.st [(0,78),(0,79)],1,4,[.int .u32 0]⟩),
 (81,⟨.st [(0,78),(0,79)],1,4,[.int .u32 0]⟩),
 (82,⟨.st [(0,21),(1,79)],2,8,[.int .i32 0,.int .u32 0]⟩),
 (83,⟨.st [(0,21),(1,79)],2,8,[.int .i32 0,.int .u32 0]⟩),
 (84,⟨.st [(0,77),(0,83)],2,8,[.int .i32 0,.int .u32 0]⟩),
 (85,⟨.st [(0,77),(0,83)],2,8,[.int .i32 0,.int .u32 0]⟩),
 (86,⟨.st [(0,77),(0,81),(1,85)],3,12,[.int .u32 0,.int .i32 0,.int .u32 0]⟩),
 (87,⟨.st [(0,77),(0,81),(1,85)],3,12,[.int .u32 0,.int .i32 0,.int .u32 0]⟩),
 (88,⟨.ifc,1,16,[.nili]⟩),
 (89,⟨.ifc,1,16,[.nili]⟩),
 (90,⟨.st [(0,87),(3,89),(4,75)],5,56,[.int .u32 0,.int .i32 0,.int .u32 0,.nili,.sl (.str) [] .exact]⟩),
 (91,⟨.st [(0,87),(3,89),(4,75)],5,56,[.int .u32 0,.int .i32 0,.int .u32 0,.nili,.sl (.str) [] .exact]⟩),
 (92,⟨.fn,1,8,[.nilf]⟩),
 (93,⟨.fn,1,8,[.nilf]⟩),
 (94,⟨.fn,1,8,[.nilf]⟩),
 (95,⟨.tup,1,0,[.junk]⟩),
 (96,⟨.fn,1,8,[.nilf]⟩),
 (97,⟨.fn,1,8,[.nilf]⟩),
 (98,⟨.int .u64,1,8,[.int .u64 0]⟩),
 (99,⟨.fn,1,8,[.nilf]⟩),
 (100,⟨.sl 3 (.int .i64),1,24,[.sl (.int .i64) [] .exact]⟩),
 (101,⟨.ptr 63,1,8,[.nilp]⟩),
 (102,⟨.fn,1,8,[.nilf]⟩),
 (103,⟨.fn,1,8,[.nilf]⟩),
 (104,⟨.tup,1,0,[.junk]⟩),
 (105,⟨.fn,1,8,[.nilf]⟩),
 (106,⟨.fn,1,8,[.nilf]⟩),
 (107,⟨.fn,1,8,[.nilf]⟩),
 (108,⟨.fn,1,8,[.nilf]⟩),
 (109,⟨.fn,1,8,[.nilf]⟩),
 (110,⟨.ptr 87,1,8,[.nilp]⟩),
 (111,⟨.fn,1,8,[.nilf]⟩),
 (112,⟨.tup,1,0,[.junk]⟩),
 (113,⟨.fn,1,8,[.nilf]⟩),
 (114,⟨.fn,1,8,[.nilf]⟩),
 (115,⟨.tup,1,0,[.junk]⟩),
 (116,⟨.fn,1,8,[.nilf]⟩),
 (117,⟨.tup,1,0,[.junk]⟩),
 (118,⟨.fn,1,8,[.nilf]⟩),
 (119,⟨.fn,1,8,[.nilf]⟩),
 (120,⟨.st [(0,3),(1,3)],2,16,[.int .i64 0,.int .i64 0]⟩),
 (121,⟨.st [(0,3),(1,3)],2,16,[.int .i64 0,.int .i64 0]⟩),
 (122,⟨.sl 121 (.pair (.int .i64) (.int .i64)),1,24,[.sl (.pair (.int .i64) (.int .i64)) [] .exact]⟩),
 (123,⟨.fn,1,8,[.nilf]⟩),
 (124,⟨.fn,1,8,[.nilf]⟩),
 (125,⟨.fn,1,8,[.nilf]⟩),
 (126,⟨.fn,1,8,[.nilf]⟩),
 (127,⟨.fn,1,8,[.nilf]⟩),
 (128,⟨.ptr 81,1,8,[.nilp]⟩),
 (129,⟨.fn,1,8,[.nilf]⟩),
 (130,⟨.ptr 79,1,8,[.nilp]⟩),
 (131,⟨.fn,1,8,[.nilf]⟩),
 (132,⟨.ptr 152,1,8,[.nilp]⟩),
 (133,⟨.fn,1,8,[.nilf]⟩),
 (134,⟨.ptr 158,1,8,[.nilp]⟩),
 (135,⟨.fn,1,8,[.nilf]⟩),
 (136,⟨.arr 256 5 (some (.int .u8)),256,256,[.int .u8 0,.int .u8 0,.int .u8 0,.int .u8 0,.int .u8 0,.int .u8 0,.int .u8 0,.int .u8 0,.int .u8 0,.int .u8 0,.int .u8 0,.int .u8 0,.int .u8 0,.int .u8 0,.int .u8 0,.int .u8 0,.int .u8 0,.int .u8 0,.int .u8 0,.int .u8 0,.int .u8 0,.int .u8 0,.int .u8 0,.int .u8 0,.int .u8 0,.int .u8 0,.int .u8 0,.int .u8 0,.int .u8 0,.int .u8 0,.int .u8 0,.int .u8 0,.int .u8 0,.int .u8 0,.int .u8 0,.int .u8 0,.int .u8 0,.int .u8 0,.int .u8 0,.int .u8 0,.int .u8 0,.int .u8 0,.int .u8 0,.int .u8 0,.int .u8 0,.int .u8 0,.int .u8 0,.int .u8 0,.int .u8 0,.int .u8 0,.int .u8 0,.int .u8 0,.int .u8 0,.int .u8 0,.int .u8 0,.int .u8 0,.int .u8 0,.int .u8 0,.int .u8 0,.int .u8 0,.int .u8 0,.int .u8 0,.int .u8 0,.int .u8 0,.int .u8 0,.int .u8 0,.int .u8 0,.int .u8 0,.int .u8 0,.int .u8 0,.int .u8 0,.int .u8 0,.int .u8 0,.int .u8 0,.int .u8 0,.int .u8 0,.int .u8 0,.int .u8 0,.int .u8 0,.int .u8 0,.int .u8 0,.int .u8 0,.int .u8 0,.int .u8 0,.int .u8 0,.int .u8 0,.int .u8 0,.int .u8 0,.int .u8 0,.int .u8 0,.int .u8 0,.int .u8 0,.int .u8 0,.int .u8 0,.int .u8 0,.int .u8 0,.int .u8 0,.int .u8 0,.int .u8 0,.int .u8 0,.int .u8 0,.int .u8 0,.int .u8 0,.int .u8 0,.int .u8 0,.int .u8 0,.int .u8 0,.int .u8 0,.int .u8 0,.int .u8 0,.int .u8 0,.int .u8 0,.int .u8 0,.int .u8 0,.int .u8 0,.int .u8 0,.int .u8 0,.int .u8 0,.int .u8 0,.int .u8 0,.int .u8 0,.int .u8 0,.int .u8 0,.int .u8 0,.int .u8 0,.int .u8 0,.int .u8 0,.int .u8 0,.int .u8 0,.int .u8 0,.int .u8 0,.int .u8 0,.int .u8 0,.int .u8 0,.int .u8 0,.int .u8 0,.int .u8 0,.int .u8 0,.int .u8 0,.int .u8 0,.int .u8 0,.int .u8 0,.int .u8 0,.int .u8 0,.int .u8 0,.int .u8 0,.int .u8 0,.int .u8 0,.int .u8 0,.int .u8 0,.int .u8 0,.int .u8 0,.int .u8 0,.int .u8 0,.int .u8 0,.int .u8 0,.int .u8 0,.int .u8 0,.int .u8 0,.int .u8 0,.int .u8 0,.int .u8 0,.int .u8 0,.int .u8 0,.int .u8 0,.int .u8 0,.int .u8 0,.int .u8 0,.int .u8 0,.int .u8 0,.int .u8 0,.int .u8 0,.int .u8 0,.int .u8 0,.int .u8 0,.int .u8 0,.int .u8 0,.int .u8 0,.int .u8 0,.int .u8 0,.int .u8 0,.int .u8 0,.int .u8 0,.int .u8 0,.int .u8 0,.int .u8 0,.int .u8 0,.int .u8 0,.int .u8 0,.int .u8 0,.int .u8 0,.int .u8 0,.int .u8 0,.int .u8 0,.int .u8 0,.int .u8 0,.int .u8 0,.int .u8 0,.int .u8 0,.int .u8 0,.int .u8 0,.int .u8 0,.int .u8 0,.int .u8 0,.int .u8 0,.int .u8 0,.int .u8 0,.int .u8 0,.int .u8 0,.int .u8 0,.int .u8 0,.int .u8 0,.int .u8 0,.int .u8 0,.int .u8 0,.int .u8 0,.int .u8 0,.int .u8 0,.int .u8 0,.int .u8 0,.int .u8 0,.int .u8 0,.int .u8 0,.int .u8 0,.int .u8 0,.int .u8 0,.int .u8 0,.int .u8 0,.int .u8 0,.int .u8 0,.int .u8 0,.int .u8 0,.int .u8 0,.int .u8 0,.int .u8 0,.int .u8 0,.int .u8 0,.int .u8 0,.int .u8 0,.int .u8 0,.int .u8 0,.int .u8 0,.int .u8 0,.int .u8 0,.int .u8 0,.int .u8 0,.int .u8 0,.int .u8 0,.int .u8 0,.int .u8 0,.int .u8 0,.int .u8 0,.int .u8 0,.int .u8 0,.int .u8 0,.int .u8 0]⟩),
 (137,⟨.arr 256 5 (some (.int .u8)),256,256,[.int .u8 0,.int .u8 0,.int .u8 0,.int .u8 0,.int .u8 0,.int .u8 0,.int .u8 0,.int .u8 0,.int .u8 0,.int .u8 0,.int .u8 0,.int .u8 0,.int .u8 0,.int .u8 0,.int .u8 0,.int .u8 0,.int .u8 0,.int .u8 0,.int .u8 0,.int .u8 0,.int .u8 0,.int .u8 0,.int .u8 0,.int .u8 0,.int .u8 0,.int .u8 0,.int .u8 0,.int .u8 0,.int .u8 0,.int .u8 0,.int .u8 0,.int .u8 0,.int .u8 0,.int .u8 0,.int .u8 0,.int .u8 0,.int .u8 0,.int .u8 0,.int .u8 0,.int .u8 0,.int .u8 0,.int .u8 0,.int .u8 0,.int .u8 0,.int .u8 0,.int .u8 0,.int .u8 0,.int .u8 0,.int .u8 0,.int .u8 0,.int .u8 0,.int .u8 0,.int .u8 0,.int .u8 0,.int .u8 0,.int .u8 0,.int .u8 0,.int .u8 0,.int .u8 0,.int .u8 0,.int .u8 0,.int .u8 0,.int .u8 0,.int .u8 0,.int .u8 0,.int .u8 0,.int .u8 0,.int .u8 0,.int .u8 0,.int .u8 0,.int .u8 0,.int .u8 0,.int .u8 0,.int .u8 0,.int .u8 0,.int .u8 0,.int .u8 0,.int .u8 0,.int .u8 0,.int .u8 0,.int .u8 0,.int .u8 0,.int .u8 0,.int .u8 0,.int .u8 0,.int .u8 0,.int .u8 0,.int .u8 0,.int .u8 0,.int .u8 0,.int .u8 0,.int .u8 0,.int .u8 0,.int .u8 0,.int .u8 0,.int .u8 0,.int .u8 0,.int .u8 0,.int .u8 0,.int .u8 0,.int .u8 0,.int .u8 0,.int .u8 0,.int .u8 0,.int .u8 0,.int .u8 0,.int .u8 0,.int .u8 0,.int .u8 0,.int .u8 0,.int .u8 0,.int .u8 0,.int .u8 0,.int .u8 0,.int .u8 0,.int .u8 0,.int .u8 0,.int .u8 0,.int .u8 0,.int .u8 0,.int .u8 0,.int .u8 0,.int .u8 0,.int .u8 0,.int .u8 0,.int .u8 0,.int .u8 0,.int .u8 0,.int .u8 0,.int .u8 0,.int .u8 0,.int .u8 0,.int .u8 0,.int .u8 0,.int .u8 0,.int .u8 0,.int .u8 0,.int .u8 0,.int .u8 0,.int .u8 0,.int .u8 0,.int .u8 0,.int .u8 0,.int .u8 0,.int .u8 0,.int .u8 0,.int .u8 0,.int .u8 0,.int .u8 0,.int .u8 0,.int .u8 0,.int .u8 0,.int .u8 0,.int .u8 0,.int .u8 0,.int .u8 0,.int .u8 0,.int .u8 0,.int .u8 0,.int .u8 0,.int .u8 0,.int .u8 0,.int .u8 0,.int .u8 0,.int .u8 0,.int .u8 0,.int .u8 0,.int .u8 0,.int .u8 0,.int .u8 0,.int .u8 0,.int .u8 0,.int .u8 0,.int .u8 0,.int .u8 0,.int .u8 0,.int .u8 0,.int .u8 0,.int .u8 0,.int .u8 0,.int .u8 0,.int .u8 0,.int .u8 0,.int .u8 0,.int .u8 0,.int .u8 0,.int .u8 0,.int .u8 0,.int .u8 0,.int .u8 0,.int .u8 0,.int .u8 0,.int .u8 0,.int .u8 0,.int .u8 0,.int .u8 0,.int .u8 0,.int .u8 0,.int .u8 0,.int .u8 0,.int .u8 0,.int .u8 0,.int .u8 0,.int .u8 0,.int .u8 0,.int .u8 0,.int .u8 0,.int .u8 0,.int .u8 0,.int .u8 0,.int .u8 0,.int .u8 0,.int .u8 0,.int .u8 0,.int .u8 0,.int .u8 0,.int .u8 0,.int .u8 0,.int .u8 0,.int .u8 0,.int .u8 0,.int .u8 0,.int .u8 0,.int .u8 0,.int .u8 0,.int .u8 0,.int .u8 0,.int .u8 0,.int .u8 0,.int .u8 0,.int .u8 0,.int .u8 0,.int .u8 0,.int .u8 0,.int .u8 0,.int .u8 0,.int .u8 0,.int .u8 0,.int .u8 0,.int .u8 0,.int .u8 0,.int .u8 0,.int .u8 0,.int .u8 0,.int .u8 0,.int .u8 0,.int .u8 0,.int .u8 0,.int .u8 0,.int .u8 0,.int .u8 0,.int .u8 0,.int .u8 0,.int .u8 0,.int .u8 0,.int .u8 0]⟩),
 (138,⟨.ptr 137,1,8,[.nilp]⟩),
 (139,⟨.arr 256 22 (some (.sl (.int .u8))),256,6144,[.sl (.int .u8) [] .exact,.sl (.int .u8) [] .exact,.sl (.int .u8) [] .exact,.sl (.int .u8) [] .exact,.sl (.int .u8) [] .exact,.sl (.int .u8) [] .exact,.sl (.int .u8) [] .exact,.sl (.int .u8) [] .exact,.sl (.int .u8) [] .exact,.sl (.int .u8) [] .exact,.sl (.int .u8) [] .exact,.sl (.int .u8) [] .exact,.sl (.int .u8) [] .exact,.sl (.int .u8) [] .exact,.sl (.int .u8) [] .exact,.sl (.int .u8) [] .exact,.sl (.int .u8) [] .exact,.sl (.int .u8) [] .exact,.sl (.int .u8) [] .exact,.sl (.int .u8) [] .exact,.sl (.int .u8) [] .exact,.sl (.int .u8) [] .exact,.sl (.int .u8) [] .exact,.sl (.int .u8) [] .exact,.sl (.int .u8) [] .exact,.sl (.int .u8) [] .exact,.sl (.int .u8) [] .exact,.sl (.int .u8) [] .exact,.sl (.int .u8) [] .exact,.sl (.int .u8) [] .exact,.sl (.int .u8) [] .exact,.sl (.int .u8) [] .exact,.sl (.int .u8) [] .exact,.sl (.int .u8) [] .exact,.sl (.int .u8) [] .exact,.sl (.int .u8) [] .exact,.sl (.int .u8) [] .exact,.sl (.int .u8) [] .exact,.sl (.int .u8) [] .exact,.sl (.int .u8) [] .exact,.sl (.int .u8) [] .exact,.sl (.int .u8) [] .exact,.sl (.int .u8) [] .exact,.sl (.int .u8) [] .exact,.sl (.int .u8) [] .exact,.sl (.int .u8) [] .exact,.sl (.int .u8) [] .exact,.sl (.int .u8) [] .exact,.sl (.int .u8) [] .exact,.sl (.int .u8) [] .exact,.sl (.int .u8) [] .exact,.sl (.int .u8) [] .exact,.sl (.int .u8) [] .exact,.sl (.int .u8) [] .exact,.sl (.int .u8) [] .exact,.sl (.int .u8) [] .exact,.sl (.int .u8) [] .exact,.sl (.int .u8) [] .exact,.sl (.int .u8) [] .exact,.sl (.int .u8) [] .exact,.sl (.int .u8) [] .exact,.sl (.int .u8) [] .exact,.sl (.int .u8) [] .exact,.sl (.int .u8) [] .exact,.sl (.int .u8) [] .exact,.sl (.int .u8) [] .exact,.sl (.int .u8) [] .exact,.sl (.int .u8) [] .exact,.sl (.int .u8) [] .exact,.sl (.int .u8) [] .exact,.sl (.int .u8) [] .exact,.sl (.int .u8) [] .exact,.sl (.int .u8) [] .exact,.sl (.int .u8) [] .exact,.sl (.int .u8) [] .exact,.sl (.int .u8) [] .exact,.sl (.int .u8) [] .exact,.sl (.int .u8) [] .exact,.sl (.int .u8) [] .exact,.sl (.int .u8) [] .exact,.sl (.int .u8) [] .exact,.sl (.int .u8) [] .exact,.sl (.int .u8) [] .exact,.sl (.int .u8) [] .exact,.sl (.int .u8) [] .exact,.sl (.int .u8) [] .exact,.sl (.int .u8) [] .exact,.sl (.int .u8) [] .exact,.sl (.int .u8) [] .exact,.sl (.int .u8) [] .exact,.sl (.int .u8) [] .exact,.sl (.int .u8) [] .exact,.sl (.int .u8) [] .exact,.sl (.int .u8) [] .exact,.sl (.int .u8) [] .exact,.sl (.int .u8) [] .exact,.sl (.int .u8) [] .exact,.sl (.int .u8) [] .exact,.sl (.int .u8) [] .exact,.sl (.int .u8) [] .exact,.sl (.int .u8) [] .exact,.sl (.int .u8) [] .exact,.sl (.int .u8) [] .exact,.sl (.int .u8) [] .exact,.sl (.int .u8) [] .exact,.sl (.int .u8) [] .exact,.sl (.int .u8) [] .exact,.sl (.int .u8) [] .exact,.sl (.int .u8) [] .exact,.sl (.int .u8) [] .exact,.sl (.int .u8) [] .exact,.sl (.int .u8) [] .exact,.sl (.int .u8) [] .exact,.sl (.int .u8) [] .exact,.sl (.int .u8) [] .exact,.sl (.int .u8) [] .exact,.sl (.int .u8) [] .exact,.sl (.int .u8) [] .exact,.sl (.int .u8) [] .exact,.sl (.int .u8) [] .exact,.sl (.int .u8) [] .exact,.sl (.int .u8) [] .exact,.sl (.int .u8) [] .exact,.sl (.int .u8) [] .exact,.sl (.int .u8) [] .exact,.sl (.int .u8) [] .exact,.sl (.int .u8) [] .exact,.sl (.int .u8) [] .exact,.sl (.int .u8) [] .exact,.sl (.int .u8) [] .exact,.sl (.int .u8) [] .exact,.sl (.int .u8) [] .exact,.sl (.int .u8) [] .exact,.sl (.int .u8) [] .exact,.sl (.int .u8) [] .exact,.sl (.int .u8) [] .exact,.sl (.int .u8) [] .exact,.sl (.int .u8) [] .exact,.sl (.int .u8) [] .exact,.sl (.int .u8) [] .exact,.sl (.int .u8) [] .exact,.sl (.int .u8) [] .exact,.sl (.int .u8) [] .exact,.sl (.int .u8) [] .exact,.sl (.int .u8) [] .exact,.sl (.int .u8) [] .exact,.sl (.int .u8) [] .exact,.sl (.int .u8) [] .exact,.sl (.int .u8) [] .exact,.sl (.int .u8) [] .exact,.sl (.int .u8) [] .exact,.sl (.int .u8) [] .exact,.sl (.int .u8) [] .exact,.sl (.int .u8) [] .exact,.sl (.int .u8) [] .exact,.sl (.int .u8) [] .exact,.sl (.int .u8) [] .exact,.sl (.int .u8) [] .exact,.sl (.int .u8) [] .exact,.sl (.int .u8) [] .exact,.sl (.int .u8) [] .exact,.sl (.int .u8) [] .exact,.sl (.int .u8) [] .exact,.sl (.int .u8) [] .exact,.sl (.int .u8) [] .exact,.sl (.int .u8) [] .exact,.sl (.int .u8) [] .exact,.sl (.int .u8) [] .exact,.sl (.int .u8) [] .exact,.sl (.int .u8) [] .exact,.sl (.int .u8) [] .exact,.sl (.int .u8) [] .exact,.sl (.int .u8) [] .exact,.sl (.int .u8) [] .exact,.sl (.int .u8) [] .exact,.sl (.int .u8) [] .exact,.sl (.int .u8) [] .exact,.sl (.int .u8) [] .exact,.sl (.int .u8) [] .exact,.sl (.int .u8) [] .exact,.sl (.int .u8) [] .exact,.sl (.int .u8) [] .exact,.sl (.int .u8) [] .exact,.sl (.int .u8) [] .exact,.sl (.int .u8) [] .exact,.sl (.int .u8) [] .exact,.sl (.int .u8) [] .exact,.sl (.int .u8) [] .exact,.sl (.int .u8) [] .exact,.sl (.int .u8) [] .exact,.sl (.int .u8) [] .exact,.sl (.int .u8) [] .exact,.sl (.int .u8) [] .exact,.sl (.int .u8) [] .exact,.sl (.int .u8) [] .exact,.sl (.int .u8) [] .exact,.sl (.int .u8) [] .exact,.sl (.int .u8) [] .exact,.sl (.int .u8) [] .exact,.sl (.int .u8) [] .exact,.sl (.int .u8) [] .exact,.sl (.int .u8) [] .exact,.sl (.int .u8) [] .exact,.sl (.int .u8) [] .exact,.sl (.int .u8) [] .exact,.sl (.int .u8) [] .exact,.sl (.int .u8) [] .exact,.sl (.int .u8) [] .exact,.sl (.int .u8) [] .exact,.sl (.int .u8) [] .exact,.sl (.int .u8) [] .exact,.sl (.int .u8) [] .exact,.sl (.int .u8) [] .exact,.sl (.int .u8) [] .exact,.sl (.int .u8) [] .exact,.sl (.int .u8) [] .exact,.sl (.int .u8) [] .exact,.sl (.int .u8) [] .exact,.sl (.int .u8) [] .exact,.sl (.int .u8) [] .exact,.sl (.int .u8) [] .exact,.sl (.int .u8) [] .exact,.sl (.int .u8) [] .exact,.sl (.int .u8) [] .exact,.sl (.int .u8) [] .exact,.sl (.int .u8) [] .exact,.sl (.int .u8) [] .exact,.sl (.int .u8) [] .exact,.sl (.int .u8) [] .exact,.sl (.int .u8) [] .exact,.sl (.int .u8) [] .exact,.sl (.int .u8) [] .exact,.sl (.int .u8) [] .exact,.sl (.int .u8) [] .exact,.sl (.int .u8) [] .exact,.sl (.int .u8) [] .exact,.sl (.int .u8) [] .exact,.sl (.int .u8) [] .exact,.sl (.int .u8) [] .exact,.sl (.int .u8) [] .exact,.sl (.int .u8) [] .exact,.sl (.int .u8) [] .exact,.sl (.int .u8) [] .exact,.sl (.int .u8) [] .exact,.sl (.int .u8) [] .exact,.sl (.int .u8) [] .exact,.sl (.int .u8) [] .exact,.sl (.int .u8) [] .exact,.sl (.int .u8) [] .exact,.sl (.int .u8) [] .exact,.sl (.int .u8) [] .exact,.sl (.int .u8) [] .exact,.sl (.int .u8) [] .exact,.sl (.int .u8) [] .exact,.sl (.int .u8) [] .exact,.sl (.int .u8) [] .exact]⟩),
 (140,⟨.st [(0,139),(256,75)],257,6168,[.sl (.int .u8) [] .exact,.sl (.int .u8) [] .exact,.sl (.int .u8) [] .exact,.sl (.int .u8) [] .exact,.sl (.int .u8) [] .exact,.sl (.int .u8) [] .exact,.sl (.int .u8) [] .exact,.sl (.int .u8) [] .exact,.sl (.int .u8) [] .exact,.sl (.int .u8) [] .exact,.sl (.int .u8) [] .exact,.sl (.int .u8) [] .exact,.sl (.int .u8) [] .exact,.sl (.int .u8) [] .exact,.sl (.int .u8) [] .exact,.sl (.int .u8) [] .exact,.sl (.int .u8) [] .exact,.sl (.int .u8) [] .exact,.sl (.int .u8) [] .exact,.sl (.int .u8) [] .exact,.sl (.int .u8) [] .exact,.sl (.int .u8) [] .exact,.sl (.int .u8) [] .exact,.sl (.int .u8) [] .exact,.sl (.int .u8) [] .exact,.sl (.int .u8) [] .exact,.sl (.int .u8) [] .exact,.sl (.int .u8) [] .exact,.sl (.int .u8) [] .exact,.sl (.int .u8) [] .exact,.sl (.int .u8) [] .exact,.sl (.int .u8) [] .exact,.sl (.int .u8) [] .exact,.sl (.int .u8) [] .exact,.sl (.int .u8) [] .exact,.sl (.int .u8) [] .exact,.sl (.int .u8) [] .exact,.sl (.int .u8) [] .exact,.sl (.int .u8) [] .exact,.sl (.int .u8) [] .exact,.sl (.int .u8) [] .exact,.sl (.int .u8) [] .exact,.sl (.int .u8) [] .exact,.sl (.int .u8) [] .exact,.sl (.int .u8) [] .exact,.sl (.int .u8) [] .exact,.sl (.int .u8) [] .exact,.sl (.int .u8) [] .exact,.sl (.int .u8) [] .exact,.sl (.int .u8) [] .exact,.sl (.int .u8) [] .exact,.sl (.int .u8) [] .exact,.sl (.int .u8) [] .exact,.sl (.int .u8) [] .exact,.sl (.int .u8) [] .exact,.sl (.int .u8) [] .exact,.sl (.int .u8) [] .exact,.sl (.int .u8) [] .exact,.sl (.int .u8) [] .exact,.sl (.int .u8) [] .exact,.sl (.int .u8) [] .exact,.sl (.int .u8) [] .exact,.sl (.int .u8) [] .exact,.sl (.int .u8) [] .exact,.sl (.int .u8) [] .exact,.sl (.int .u8) [] .exact,.sl (.int .u8) [] .exact,.sl (.int .u8) [] .exact,.sl (.int .u8) [] .exact,.sl (.int .u8) [] .exact,.sl (.int .u8) [] .exact,.sl (.int .u8) [] .exact,.sl (.int .u8) [] .exact,.sl (.int .u8) [] .exact,.sl (.int .u8) [] .exact,.sl (.int .u8) [] .exact,.sl (.int .u8) [] .exact,.sl (.int .u8) [] .exact,.sl (.int .u8) [] .exact,.sl (.int .u8) [] .exact,.sl (.int .u8) [] .exact,.sl (.int .u8) [] .exact,.sl (.int .u8) [] .exact,.sl (.int .u8) [] .exact,.sl (.int .u8) [] .exact,.sl (.int .u8) [] .exact,.sl (.int .u8) [] .exact,.sl (.int .u8) [] .exact,.sl (.int .u8) [] .exact,.sl (.int .u8) [] .exact,.sl (.int .u8) [] .exact,.sl (.int .u8) [] .exact,.sl (.int .u8) [] .exact,.sl (.int .u8) [] .exact,.sl (.int .u8) [] .exact,.sl (.int .u8) [] .exact,.sl (.int .u8) [] .exact,.sl (.int .u8) [] .exact,.sl (.int .u8) [] .exact,.sl (.int .u8) [] .exact,.sl (.int .u8) [] .exact,.sl (.int .u8) [] .exact,.sl (.int .u8) [] .exact,.sl (.int .u8) [] .exact,.sl (.int .u8) [] .exact,.sl (.int .u8) [] .exact,.sl (.int .u8) [] .exact,.sl (.int .u8) [] .exact,.sl (.int .u8) [] .exact,.sl (.int .u8) [] .exact,.sl (.int .u8) [] .exact,.sl (.int .u8) [] .exact,.sl (.int .u8) [] .exact,.sl (.int .u8) [] .exact,.sl (.int .u8) [] .exact,.sl (.int .u8) [] .exact,.sl (.int .u8) [] .exact,.sl (.int .u8) [] .exact,.sl (.int .u8) [] .exact,.sl (.int .u8) [] .exact,.sl (.int .u8) [] .exact,.sl (.int .u8) [] .exact,.sl (.int .u8) [] .exact,.sl (.int .u8) [] .exact,.sl (.int .u8) [] .exact,.sl (.int .u8) [] .exact,.sl (.int .u8) [] .exact,.sl (.int .u8) [] .exact,.sl (.int .u8) [] .exact,.sl (.int .u8) [] .exact,.sl (.int .u8) [] .exact,.sl (.int .u8) [] .exact,.sl (.int .u8) [] .exact,.sl (.int .u8) [] .exact,.sl (.int .u8) [] .exact,.sl (.int .u8) [] .exact,.sl (.int .u8) [] .exact,.sl (.int .u8) [] .exact,.sl (.int .u8) [] .exact,.sl (.int .u8) [] .exact,.sl (.int .u8) [] .exact,.sl (.int .u8) [] .exact,.sl (.int .u8) [] .exact,.sl (.int .u8) [] .exact,.sl (.int .u8) [] .exact,.sl (.int .u8) [] .exact,.sl (.int .u8) [] .exact,.sl (.int .u8) [] .exact,.sl (.int .u8) [] .exact,.sl (.int .u8) [] .exact,.sl (.int .u8) [] .exact,.sl (.int .u8) [] .exact,.sl (.int .u8) [] .exact,.sl (.int .u8) [] .exact,.sl (.int .u8) [] .exact,.sl (.int .u8) [] .exact,.sl (.int .u8) [] .exact,.sl (.int .u8) [] .exact,.sl (.int .u8) [] .exact,.sl (.int .u8) [] .exact,.sl (.int .u8) [] .exact,.sl (.int .u8) [] .exact,.sl (.int .u8) [] .exact,.sl (.int .u8) [] .exact,.sl (.int .u8) [] .exact,.sl (.int .u8) [] .exact,.sl (.int .u8) [] .exact,.sl (.int .u8) [] .exact,.sl (.int .u8) [] .exact,.sl (.int .u8) [] .exact,.sl (.int .u8) [] .exact,.sl (.int .u8) [] .exact,.sl (.int .u8) [] .exact,.sl (.int .u8) [] .exact,.sl (.int .u8) [] .exact,.sl (.int .u8) [] .exact,.sl (.int .u8) [] .exact,.sl (.int .u8) [] .exact,.sl (.int .u8) [] .exact,.sl (.int .u8) [] .exact,.sl (.int .u8) [] .exact,.sl (.int .u8) [] .exact,.sl (.int .u8) [] .exact,.sl (.int .u8) [] .exact,.sl (.int .u8) [] .exact,.sl (.int .u8) [] .exact,.sl (.int .u8) [] .exact,.sl (.int .u8) [] .exact,.sl (.int .u8) [] .exact,.sl (.int .u8) [] .exact,.sl (.int .u8) [] .exact,.sl (.int .u8) [] .exact,.sl (.int .u8) [] .exact,.sl (.int .u8) [] .exact,.sl (.int .u8) [] .exact,.sl (.int .u8) [] .exact,.sl (.int .u8) [] .exact,.sl (.int .u8) [] .exact,.sl (.int .u8) [] .exact,.sl (.int .u8) [] .exact,.sl (.int .u8) [] .exact,.sl (.int .u8) [] .exact,.sl (.int .u8) [] .exact,.sl (.int .u8) [] .exact,.sl (.int .u8) [] .exact,.sl (.int .u8) [] .exact,.sl (.int .u8) [] .exact,.sl (.int .u8) [] .exact,.sl (.int .u8) [] .exact,.sl (.int .u8) [] .exact,.sl (.int .u8) [] .exact,.sl (.int .u8) [] .exact,.sl (.int .u8) [] .exact,.sl (.int .u8) [] .exact,.sl (.int .u8) [] .exact,.sl (.int .u8) [] .exact,.sl (.int .u8) [] .exact,.sl (.int .u8) [] .exact,.sl (.int .u8) [] .exact,.sl (.int .u8) [] .exact,.sl (.int .u8) [] .exact,.sl (.int .u8) [] .exact,.sl (.int .u8) [] .exact,.sl (.int .u8) [] .exact,.sl (.int .u8) [] .exact,.sl (.int .u8) [] .exact,.sl (.int .u8) [] .exact,.sl (.int .u8) [] .exact,.sl (.int .u8) [] .exact,.sl (.int .u8) [] .exact,.sl (.int .u8) [] .exact,.sl (.int .u8) [] .exact,.sl (.int .u8) [] .exact,.sl (.int .u8) [] .exact,.sl (.int .u8) [] .exact,.sl (.int .u8) [] .exact,.sl (.int .u8) [] .exact,.sl (.int .u8) [] .exact,.sl (.int .u8) [] .exact,.sl (.int .u8) [] .exact,.sl (.int .u8) [] .exact,.sl (.int .u8) [] .exact,.sl (.int .u8) [] .exact,.sl (.int .u8) [] .exact,.sl (.int .u8) [] .exact,.sl (.int .u8) [] .exact,.sl (.int .u8) [] .exact,.sl (.int .u8) [] .exact,.sl (.int .u8) [] .exact,.sl (.int .u8) [] .exact,.sl (.int .u8) [] .exact,.sl (.int .u8) [] .exact,.sl (.int .u8) [] .exact,.sl (.int .u8) [] .exact,.sl (.int .u8) [] .exact,.sl (.int .u8) [] .exact,.sl (.str) [] .exact]⟩),
 (141,⟨.st [(0,139),(256,75)],257,6168,[.sl (.int .u8) [] .exact,.sl (.int .u8) [] .exact,.sl (.int .u8) [] .exact,.sl (.int .u8) [] .exact,.sl (.int .u8) [] .exact,.sl (.int .u8) [] .exact,.sl (.int .u8) [] .exact,.sl (.int .u8) [] .exact,.sl (.int .u8) [] .exact,.sl (.int .u8) [] .exact,.sl (.int .u8) [] .exact,.sl (.int .u8) [] .exact,.sl (.int .u8) [] .exact,.sl (.int .u8) [] .exact,.sl (.int .u8) [] .exact,.sl (.int .u8) [] .exact,.sl (.int .u8) [] .exact,.sl (.int .u8) [] .exact,.sl (.int .u8) [] .exact,.sl (.int .u8) [] .exact,.sl (.int .u8) [] .exact,.sl (.int .u8) [] .exact,.sl (.int .u8) [] .exact,.sl (.int .u8) [] .exact,.sl (.int .u8) [] .exact,.sl (.int .u8) [] .exact,.sl (.int .u8) [] .exact,.sl (.int .u8) [] .exact,.sl (.int .u8) [] .exact,.sl (.int .u8) [] .exact,.sl (.int .u8) [] .exact,.sl (.int .u8) [] .exact,.sl (.int .u8) [] .exact,.sl (.int .u8) [] .exact,.sl (.int .u8) [] .exact,.sl (.int .u8) [] .exact,.sl (.int .u8) [] .exact,.sl (.int .u8) [] .exact,.sl (.int .u8) [] .exact,.sl (.int .u8) [] .exact,.sl (.int .u8) [] .exact,.sl (.int .u8) [] .exact,.sl (.int .u8) [] .exact,.sl (.int .u8) [] .exact,.sl (.int .u8) [] .exact,.sl (.int .u8) [] .exact,.sl (.int .u8) [] .exact,.sl (.int .u8) [] .exact,.sl (.int .u8) [] .exact,.sl (.int .u8) [] .exact,.sl (.int .u8) [] .exact,.sl (.int .u8) [] .exact,.sl (.int .u8) [] .exact,.sl (.int .u8) [] .exact,.sl (.int .u8) [] .exact,.sl (.int .u8) [] .exact,.sl (.int .u8) [] .exact,.sl (.int .u8) [] .exact,.sl (.int .u8) [] .exact,.sl (.int .u8) [] .exact,.sl (.int .u8) [] .exact,.sl (.int .u8) [] .exact,.sl (.int .u8) [] .exact,.sl (.int .u8) [] .exact,.sl (.int .u8) [] .exact,.sl (.int .u8) [] .exact,.sl (.int .u8) [] .exact,.sl (.int .u8) [] .exact,.sl (.int .u8) [] .exact,.sl (.int .u8) [] .exact,.sl (.int .u8) [] .exact,.sl (.int .u8) [] .exact,.sl (.int .u8) [] .exact,.sl (.int .u8) [] .exact,.sl (.int .u8) [] .exact,.sl (.int .u8) [] .exact,.sl (.int .u8) [] .exact,.sl (.int .u8) [] .exact,.sl (.int .u8) [] .exact,.sl (.int .u8) [] .exact,.sl (.int .u8) [] .exact,.sl (.int .u8) [] .exact,.sl (.int .u8) [] .exact,.sl (.int .u8) [] .exact,.sl (.int .u8) [] .exact,.sl (.int .u8) [] .exact,.sl (.int .u8) [] .exact,.sl (.int .u8) [] .exact,.sl (.int .u8) [] .exact,.sl (.int .u8) [] .exact,.sl (.int .u8) [] .exact,.sl (.int .u8) [] .exact,.sl (.int .u8) [] .exact,.sl (.int .u8) [] .exact,.sl (.int .u8) [] .exact,.sl (.int .u8) [] .exact,.sl (.int .u8) [] .exact,.sl (.int .u8) [] .exact,.sl (.int .u8) [] .exact,.sl (.int .u8) [] .exact,.sl (.int .u8) [] .exact,.sl (.int .u8) [] .exact,.sl (.int .u8) [] .exact,.sl (.int .u8) [] .exact,.sl (.int .u8) [] .exact,.sl (.int .u8) [] .exact,.sl (.int .u8) [] .exact,.sl (.int .u8) [] .exact,.sl (.int .u8) [] .exact,.sl (.int .u8) [] .exact,.sl (.int .u8) [] .exact,.sl (.int .u8) [] .exact,.sl (.int .u8) [] .exact,.sl (.int .u8) [] .exact,.sl (.int .u8) [] .exact,.sl (.int .u8) [] .exact,.sl (.int .u8) [] .exact,.sl (.int .u8) [] .exact,.sl (.int .u8) [] .exact,.sl (.int .u8) [] .exact,.sl (.int .u8) [] .exact,.sl (.int .u8) [] .exact,.sl (.int .u8) [] .exact,.sl (.int .u8) [] .exact,.sl (.int .u8) [] .exact,.sl (.int .u8) [] .exact,.sl (.int .u8) [] .exact,.sl (.int .u8) [] .exact,.sl (.int .u8) [] .exact,.sl (.int .u8) [] .exact,.sl (.int .u8) [] .exact,.sl (.int .u8) [] .exact,.sl (.int .u8) [] .exact,.sl (.int .u8) [] .exact,.sl (.int .u8) [] .exact,.sl (.int .u8) [] .exact,.sl (.int .u8) [] .exact,.sl (.int .u8) [] .exact,.sl (.int .u8) [] .exact,.sl (.int .u8) [] .exact,.sl (.int .u8) [] .exact,.sl (.int .u8) [] .exact,.sl (.int .u8) [] .exact,.sl (.int .u8) [] .exact,.sl (.int .u8) [] .exact,.sl (.int .u8) [] .exact,.sl (.int .u8) [] .exact,.sl (.int .u8) [] .exact,.sl (.int .u8) [] .exact,.sl (.int .u8) [] .exact,.sl (.int .u8) [] .exact,.sl (.int .u8) [] .exact,.sl (.int .u8) [] .exact,.sl (.int .u8) [] .exact,.sl (.int .u8) [] .exact,.sl (.int .u8) [] .exact,.sl (.int .u8) [] .exact,.sl (.int .u8) [] .exact,.sl (.int .u8) [] .exact,.sl (.int .u8) [] .exact,.sl (.int .u8) [] .exact,.sl (.int .u8) [] .exact,.sl (.int .u8) [] .exact,.sl (.int .u8) [] .exact,.sl (.int .u8) [] .exact,.sl (.int .u8) [] .exact,.sl (.int .u8) [] .exact,.sl (.int .u8) [] .exact,.sl (.int .u8) [] .exact,.sl (.int .u8) [] .exact,.sl (.int .u8) [] .exact,.sl (.int .u8) [] .exact,.sl (.int .u8) [] .exact,.sl (.int .u8) [] .exact,.sl (.int .u8) [] .exact,.sl (.int .u8) [] .exact,.sl (.int .u8) [] .exact,.sl (.int .u8) [] .exact,.sl (.int .u8) [] .exact,.sl (.int .u8) [] .exact,.sl (.int .u8) [] .exact,.sl (.int .u8) [] .exact,.sl (.int .u8) [] .exact,.sl (.int .u8) [] .exact,.sl (.int .u8) [] .exact,.sl (.int .u8) [] .exact,.sl (.int .u8) [] .exact,.sl (.int .u8) [] .exact,.sl (.int .u8) [] .exact,.sl (.int .u8) [] .exact,.sl (.int .u8) [] .exact,.sl (.int .u8) [] .exact,.sl (.int .u8) [] .exact,.sl (.int .u8) [] .exact,.sl (.int .u8) [] .exact,.sl (.int .u8) [] .exact,.sl (.int .u8) [] .exact,.sl (.int .u8) [] .exact,.sl (.int .u8) [] .exact,.sl (.int .u8) [] .exact,.sl (.int .u8) [] .exact,.sl (.int .u8) [] .exact,.sl (.int .u8) [] .exact,.sl (.int .u8) [] .exact,.sl (.int .u8) [] .exact,.sl (.int .u8) [] .exact,.sl (.int .u8) [] .exact,.sl (.int .u8) [] .exact,.sl (.int .u8) [] .exact,.sl (.int .u8) [] .exact,.sl (.int .u8) [] .exact,.sl (.int .u8) [] .exact,.sl (.int .u8) [] .exact,.sl (.int .u8) [] .exact,.sl (.int .u8) [] .exact,.sl (.int .u8) [] .exact,.sl (.int .u8) [] .exact,.sl (.int .u8) [] .exact,.sl (.int .u8) [] .exact,.sl (.int .u8) [] .exact,.sl (.int .u8) [] .exact,.sl (.int .u8) [] .exact,.sl (.int .u8) [] .exact,.sl (.int .u8) [] .exact,.sl (.int .u8) [] .exact,.sl (.int .u8) [] .exact,.sl (.int .u8) [] .exact,.sl (.int .u8) [] .exact,.sl (.int .u8) [] .exact,.sl (.int .u8) [] .exact,.sl (.int .u8) [] .exact,.sl (.int .u8) [] .exact,.sl (.int .u8) [] .exact,.sl (.int .u8) [] .exact,.sl (.int .u8) [] .exact,.sl (.int .u8) [] .exact,.sl (.int .u8) [] .exact,.sl (.int .u8) [] .exact,.sl (.int .u8) [] .exact,.sl (.int .u8) [] .exact,.sl (.int .u8) [] .exact,.sl (.int .u8) [] .exact,.sl (.int .u8) [] .exact,.sl (.int .u8) [] .exact,.sl (.int .u8) [] .exact,.sl (.int .u8) [] .exact,.sl (.int .u8) [] .exact,.sl (.int .u8) [] .exact,.sl (.int .u8) [] .exact,.sl (.int .u8) [] .exact,.sl (.int .u8) [] .exact,.sl (.int .u8) [] .exact,.sl (.int .u8) [] .exact,.sl (.int .u8) [] .exact,.sl (.int .u8) [] .exact,.sl (.int .u8) [] .exact,.sl (.str) [] .exact]⟩),
 (142,⟨.ptr 141,1,8,[.nilp]⟩),
 (143,⟨.fn,1,8,[.nilf]⟩),
 (144,⟨.arr 2 9 (some (.str)),2,32,[.str ⟨#[]⟩,.str ⟨#[]⟩]⟩),
 (145,⟨.fn,1,8,[.nilf]⟩),
 (146,⟨.ptr 85,1,8,[.nilp]⟩),
 (147,⟨.fn,1,8,[.nilf]⟩),
 (148,⟨.fn,1,8,[.nilf]⟩),
 (149,⟨.ptr 179,1,8,[.nilp]⟩),
 (150,⟨.fn,1,8,[.nilf]⟩),
 (151,⟨.st [(0,149),(1,9)],2,24,[.nilp,.str ⟨#[]⟩]⟩),
 (152,⟨.st [(0,149),(1,9)],2,24,[.nilp,.str ⟨#[]⟩]⟩),
 (153,⟨.ptr 156,1,8,[.nilp]⟩),
 (154,⟨.other,1,24,[.nils]⟩),
 (155,⟨.st [(0,9),(1,3),(2,9),(3,153),(4,154)],5,72,[.str ⟨#[]⟩,.int .i64 0,.str ⟨#[]⟩,.nilp,.nils]⟩),
 (156,⟨.st [(0,9),(1,3),(2,9),(3,153),(4,154)],5,72,[.str ⟨#[]⟩,.int .i64 0,.str ⟨#[]⟩,.nilp,.nils]⟩),
 (157,⟨.st [(0,156),(5,3),(6,136)],262,336,[.str ⟨#[]⟩,.int .i64 0,.str ⟨#[]⟩,.nilp,.nils,.int .i64 0,.int .u8 0,.int .u8 0,.int .u8 0,.int .u8 0,.int .u8 0,.int .u8 0,.int .u8 0,.int .u8 0,.int .u8 0,.int .u8 0,.int .u8 0,.int .u8 0,.int .u8 0,.int .u8 0,.int .u8 0,.int .u8 0,.int .u8 0,.int .u8 0,.int .u8 0,.int .u8 0,.int .u8 0,.int .u8 0,.int .u8 0,.int .u8 0,.int .u8 0,.int .u8 0,.int .u8 0,.int .u8 0,.int .u8 0,.int .u8 0,.int .u8 0,.int .u8 0,.int .u8 0,.int .u8 0,.int .u8 0,.int .u8 0,.int .u8 0,.int .u8 0,.int .u8 0,.int .u8 0,.int .u8 0,.int .u8 0,.int .u8 0,.int .u8 0,.int .u8 0,.int .u8 0,.int .u8 0,.int .u8 0,.int .u8 0,.int .u8 0,.int .u8 0,.int .u8 0,.int .u8 0,.int .u8 0,.int .u8 0,.int .u8 0,.int .u8 0,.int .u8 0,.int .u8 0,.int .u8 0,.int .u8 0,.int .u8 0,.int .u8 0,.int .u8 0,.int .u8 0,.int .u8 0,.int .u8 0,.int .u8 0,.int .u8 0,.int .u8 0,.int .u8 0,.int .u8 0,.int .u8 0,.int .u8 0,.int .u8 0,.int .u8 0,.int .u8 0,.int .u8 0,.int .u8 0,.int .u8 0,.int .u8 0,.int .u8 0,.int .u8 0,.int .u8 0,.int .u8 0,.int .u8 0,.int .u8 0,.int .u8 0,.int .u8 0,.int .u8 0,.int .u8 0,.int .u8 0,.int .u8 0,.int .u8 0,.int .u8 0,.int .u8 0,.int .u8 0,.int .u8 0,.int .u8 0,.int .u8 0,.int .u8 0,.int .u8 0,.int .u8 0,.int .u8 0,.int .u8 0,.int .u8 0,.int .u8 0,.int .u8 0,.int .u8 0,.int .u8 0,.int .u8 0,.int .u8 0,.int .u8 0,.int .u8 0,.int .u8 0,.int .u8 0,.int .u8 0,.int .u8 0,.int .u8 0,.int .u8 0,.int .u8 0,.int .u8 0,.int .u8 0,.int .u8 0,.int .u8 0,.int .u8 0,.int .u8 0,.int .u8 0,.int .u8 0,.int .u8 0,.int .u8 0,.int .u8 0,.int .u8 0,.int .u8 0,.int .u8 0,.int .u8 0,.int .u8 0,.int .u8 0,.int .u8 0,.int .u8 0,.int .u8 0,.int .u8 0,.int .u8 0,.int .u8 0,.int .u8 0,.int .u8 0,.int .u8 0,.int .u8 0,.int .u8 0,.int .u8 0,.int .u8 0,.int .u8 0,.int .u8 0,.int .u8 0,.int .u8 0,.int .u8 0,.int .u8 0,.int .u8 0,.int .u8 0,.int .u8 0,.int .u8 0,.int .u8 0,.int .u8 0,.int .u8 0,.int .u8 0,.int .u8 0,.int .u8 0,.int .u8 0,.int .u8 0,.int .u8 0,.int .u8 0,.int .u8 0,.int .u8 0,.int .u8 0,.int .u8 0,.int .u8 0,.int .u8 0,.int .u8 0,.int .u8 0,.int .u8 0,.int .u8 0,.int .u8 0,.int .u8 0,.int .u8 0,.int .u8 0,.int .u8 0,.int .u8 0,.int .u8 0,.int .u8 0,.int .u8 0,.int .u8 0,.int .u8 0,.int .u8 0,.int .u8 0,.int .u8 0,.int .u8 0,.int .u8 0,.int .u8 0,.int .u8 0,.int .u8 0,.int .u8 0,.int .u8 0,.int .u8 0,.int .u8 0,.int .u8 0,.int .u8 0,.int .u8 0,.int .u8 0,.int .u8 0,.int .u8 0,.int .u8 0,.int .u8 0,.int .u8 0,.int .u8 0,.int .u8 0,.int .u8 0,.int .u8 0,.int .u8 0,.int .u8 0,.int .u8 0,.int .u8 0,.int .u8 0,.int .u8 0,.int .u8 0,.int .u8 0,.int .u8 0,.int .u8 0,.int .u8 0,.int .u8 0,.int .u8 0,.int .u8 0,.int .u8 0,.int .u8 0,.int .u8 0,.int .u8 0,.int .u8 0,.int .u8 0,.int .u8 0,.int .u8 0,.int .u8 0,.int .u8 0,.int .u8 0,.int .u8 0,.int .u8 0,.int .u8 0,.int .u8 0,.int .u8 0,.int .u8 0,.int .u8 0,.int .u8 0,.int .u8 0,.int .u8 0,.int .u8 0,.int .u8 0,.int .u8 0,.int .u8 0]⟩),
 (158,⟨.st [(0,156),(5,3),(6,136)],262,336,[.str ⟨#[]⟩,.int .i64 0,.str ⟨#[]⟩,.nilp,.nils,.int .i64 0,.int .u8 0,.int .u8 0,.int .u8 0,.int .u8 0,.int .u8 0,.int .u8 0,.int .u8 0,.int .u8 0,.int .u8 0,.int .u8 0,.int .u8 0,.int .u8 0,.int .u8 0,.int .u8 0,.int .u8 0,.int .u8 0,.int .u8 0,.int .u8 0,.int .u8 0,.int .u8 0,.int .u8 0,.int .u8 0,.int .u8 0,.int .u8 0,.int .u8 0,.int .u8 0,.int .u8 0,.int .u8 0,.int .u8 0,.int .u8 0,.int .u8 0,.int .u8 0,.int .u8 0,.int .u8 0,.int .u8 0,.int .u8 0,.int .u8 0,.int .u8 0,.int .u8 0,.int .u8 0,.int .u8 0,.int .u8 0,.int .u8 0,.int .u8 0,.int .u8 0,.int .u8 0,.int .u8 0,.int .u8 0,.int .u8 0,.int .u8 0,.int .u8 0,.int .u8 0,.int .u8 0,.int .u8 0,.int .u8 0,.int .u8 0,.int .u8 0,.int .u8 0,.int .u8 0,.int .u8 0,.int .u8 0,.int .u8 0,.int .u8 0,.int .u8 0,.int .u8 0,.int .u8 0,.int .u8 0,.int .u8 0,.int .u8 0,.int .u8 0,.int .u8 0,.int .u8 0,.int .u8 0,.int .u8 0,.int .u8 0,.int .u8 0,.int .u8 0,.int .u8 0,.int .u8 0,.int .u8 0,.int .u8 0,.int .u8 0,.int .u8 0,.int .u8 0,.int .u8 0,.int .u8 0,.int .u8 0,.int .u8 0,.int .u8 0,.int .u8 0,.int .u8 0,.int .u8 0,.int .u8 0,.int .u8 0,.int .u8 0,.int .u8 0,.int .u8 0,.int .u8 0,.int .u8 0,.int .u8 0,.int .u8 0,.int .u8 0,.int .u8 0,.int .u8 0,.int .u8 0,.int .u8 0,.int .u8 0,.int .u8 0,.int .u8 0,.int .u8 0,.int .u8 0,.int .u8 0,.int .u8 0,.int .u8 0,.int .u8 0,.int .u8 0,.int .u8 0,.int .u8 0,.int .u8 0,.int .u8 0,.int .u8 0,.int .u8 0,.int .u8 0,.int .u8 0,.int .u8 0,.int .u8 0,.int .u8 0,.int .u8 0,.int .u8 0,.int .u8 0,.int .u8 0,.int .u8 0,.int .u8 0,.int .u8 0,.int .u8 0,.int .u8 0,.int .u8 0,.int .u8 0,.int .u8 0,.int .u8 0,.int .u8 0,.int .u8 0,.int .u8 0,.int .u8 0,.int .u8 0,.int .u8 0,.int .u8 0,.int .u8 0,.int .u8 0,.int .u8 0,.int .u8 0,.int .u8 0,.int .u8 0,.int .u8 0,.int .u8 0,.int .u8 0,.int .u8 0,.int .u8 0,.int .u8 0,.int .u8 0,.int .u8 0,.int .u8 0,.int .u8 0,.int .u8 0,.int .u8 0,.int .u8 0,.int .u8 0,.int .u8 0,.int .u8 0,.int .u8 0,.int .u8 0,.int .u8 0,.int .u8 0,.int .u8 0,.int .u8 0,.int .u8 0,.int .u8 0,.int .u8 0,.int .u8 0,.int .u8 0,.int .u8 0,.int .u8 0,.int .u8 0,.int .u8 0,.int .u8 0,.int .u8 0,.int .u8 0,.int .u8 0,.int .u8 0,.int .u8 0,.int .u8 0,.int .u8 0,.int .u8 0,.int .u8 0,.int .u8 0,.int .u8 0,.int .u8 0,.int .u8 0,.int .u8 0,.int .u8 0,.int .u8 0,.int .u8 0,.int .u8 0,.int .u8 0,.int .u8 0,.int .u8 0,.int .u8 0,.int .u8 0,.int .u8 0,.int .u8 0,.int .u8 0,.int .u8 0,.int .u8 0,.int .u8 0,.int .u8 0,.int .u8 0,.int .u8 0,.int .u8 0,.int .u8 0,.int .u8 0,.int .u8 0,.int .u8 0,.int .u8 0,.int .u8 0,.int .u8 0,.int .u8 0,.int .u8 0,.int .u8 0,.int .u8 0,.int .u8 0,.int .u8 0,.int .u8 0,.int .u8 0,.int .u8 0,.int .u8 0,.int .u8 0,.int .u8 0,.int .u8 0,.int .u8 0,.int .u8 0,.int .u8 0,.int .u8 0,.int .u8 0,.int .u8 0,.int .u8 0,.int .u8 0,.int .u8 0,.int .u8 0,.int .u8 0,.int .u8 0,.int .u8 0,.int .u8 0,.int .u8 0,.int .u8 0,.int .u8 0,.int .u8 0]⟩),
 (159,⟨.fn,1,8,[.nilf]⟩),
 (160,⟨.fn,1,8,[.nilf]⟩),
 (161,⟨.arr 256 4 (some (.bool)),256,256,[.bool false,.bool false,.bool false,.bool false,.bool false,.bool false,.bool false,.bool false,.bool false,.bool false,.bool false,.bool false,.bool false,.bool false,.bool false,.bool false,.bool false,.bool false,.bool false,.bool false,.bool false,.bool false,.bool false,.bool false,.bool false,.bool false,.bool false,.bool false,.bool false,.bool false,.bool false,.bool false,.bool false,.bool false,.bool false,.bool false,.bool false,.bool false,.bool false,.bool false,.bool false,.bool false,.bool false,.bool false,.bool false,.bool false,.bool false,.bool false,.bool false,.bool false,.bool false,.bool false,.bool false,.bool false,.bool false,.bool false,.bool false,.bool false,.bool false,.bool false,.bool false,.bool false,.bool false,.bool false,.bool false,.bool false,.bool false,.bool false,.bool false,.bool false,.bool false,.bool false,.bool false,.bool false,.bool false,.bool false,.bool false,.bool false,.bool false,.bool false,.bool false,.bool false,.bool false,.bool false,.bool false,.bool false,.bool false,.bool false,.bool false,.bool false,.bool false,.bool false,.bool false,.bool false,.bool false,.bool false,.bool false,.bool false,.bool false,.bool false,.bool false,.bool false,.bool false,.bool false,.bool false,.bool false,.bool false,.bool false,.bool false,.bool false,.bool false,.bool false,.bool false,.bool false,.bool false,.bool false,.bool false,.bool false,.bool false,.bool false,.bool false,.bool false,.bool false,.bool false,.bool false,.bool false,.bool false,.bool false,.bool false,.bool false,.bool false,.bool false,.bool false,.bool false,.bool false,.bool false,.bool false,.bool false,.bool false,.bool false,.bool false,.bool false,.bool false,.bool false,.bool false,.bool false,.bool false,.bool false,.bool false,.bool false,.bool false,.bool false,.bool false,.bool false,.bool false,.bool false,.bool false,.bool false,.bool false,.bool false,.bool false,.bool false,.bool false,.bool false,.bool false,.bool false,.bool false,.bool false,.bool false,.bool false,.bool false,.bool false,.bool false,.bool false,.bool false,.bool false,.bool false,.bool false,.bool false,.bool false,.bool false,.bool false,.bool false,.bool false,.bool false,.bool false,.bool false,.bool false,.bool false,.bool false,.bool false,.bool false,.bool false,.bool false,.bool false,.bool false,.bool false,.bool false,.bool false,.bool false,.bool false,.bool false,.bool false,.bool false,.bool false,.bool false,.bool false,.bool false,.bool false,.bool false,.bool false,.bool false,.bool false,.bool false,.bool false,.bool false,.bool false,.bool false,.bool false,.bool false,.bool false,.bool false,.bool false,.bool false,.bool false,.bool false,.bool false,.bool false,.bool false,.bool false,.bool false,.bool false,.bool false,.bool false,.bool false,.bool false,.bool false,.bool false,.bool false,.bool false,.bool false,.bool false,.bool false,.bool false,.bool false,.bool false,.bool false,.bool false,.bool false,.bool false,.bool false,.bool false,.bool false,.bool false,.bool false,.bool false]⟩),
 (162,⟨.arr 256 4 (some (.bool)),256,256,[.bool false,.bool false,.bool false,.bool false,.bool false,.bool false,.bool false,.bool false,.bool false,.bool false,.bool false,.bool false,.bool false,.bool false,.bool false,.bool false,.bool false,.bool false,.bool false,.bool false,.bool false,.bool false,.bool false,.bool false,.bool false,.bool false,.bool false,.bool false,.bool false,.bool false,.bool false,.bool false,.bool false,.bool false,.bool false,.bool false,.bool false,.bool false,.bool false,.bool false,.bool false,.bool false,.bool false,.bool false,.bool false,.bool false,.bool false,.bool false,.bool false,.bool false,.bool false,.bool false,.bool false,.bool false,.bool false,.bool false,.bool false,.bool false,.bool false,.bool false,.bool false,.bool false,.bool false,.bool false,.bool false,.bool false,.bool false,.bool false,.bool false,.bool false,.bool false,.bool false,.bool false,.bool false,.bool false,.bool false,.bool false,.bool false,.bool false,.bool false,.bool false,.bool false,.bool false,.bool false,.bool false,.bool false,.bool false,.bool false,.bool false,.bool false,.bool false,.bool false,.bool false,.bool false,.bool false,.bool false,.bool false,.bool false,.bool false,.bool false,.bool false,.bool false,.bool false,.bool false,.bool false,.bool false,.bool false,.bool false,.bool false,.bool false,.bool false,.bool false,.bool false,.bool false,.bool false,.bool false,.bool false,.bool false,.bool false,.bool false,.bool false,.bool false,.bool false,.bool false,.bool false,.bool false,.bool false,.bool false,.bool false,.bool false,.bool false,.bool false,.bool false,.bool false,.bool false,.bool false,.bool false,.bool false,.bool false,.bool false,.bool false,.bool false,.bool false,.bool false,.bool false,.bool false,.bool false,.bool false,.bool false,.bool false,.bool false,.bool false,.bool false,.bool false,.bool false,.bool false,.bool false,.bool false,.bool false,.bool false,.bool false,.bool false,.bool false,.bool false,.bool false,.bool false,.bool false,.bool false,.bool false,.bool false,.bool false,.bool false,.bool false,.bool false,.bool false,.bool false,.bool false,.bool false,.bool false,.bool false,.bool false,.bool false,.bool false,.bool false,.bool false,.bool false,.bool false,.bool false,.bool false,.bool false,.bool false,.bool false,.bool false,.bool false,.bool false,.bool false,.bool false,.bool false,.bool false,.bool false,.bool false,.bool false,.bool false,.bool false,.bool false,.bool false,.bool false,.bool false,.bool false,.bool false,.bool false,.bool false,.bool false,.bool false,.bool false,.bool false,.bool false,.bool false,.bool false,.bool false,.bool false,.bool false,.bool false,.bool false,.bool false,.bool false,.bool false,.bool false,.bool false,.bool false,.bool false,.bool false,.bool false,.bool false,.bool false,.bool false,.bool false,.bool false,.bool false,.bool false,.bool false,.bool false,.bool false,.bool false,.bool false,.bool false,.bool false,.bool false,.bool false,.bool false,.bool false,.bool false,.bool false,.bool false,.bool false,.bool false]⟩),
 (163,⟨.tup,1,0,[.junk]⟩),
 (164,⟨.fn,1,8,[.nilf]⟩),
 (165,⟨.fn,1,8,[.nilf]⟩),
 (166,⟨.ptr 162,1,8,[.nilp]⟩),
 (167,⟨.st [(0,5),(1,5)],2,2,[.int .u8 0,.int .u8 0]⟩),
 (168,⟨.st [(0,5),(1,5)],2,2,[.int .u8 0,.int .u8 0]⟩),
 (169,⟨.arr 16 168 (some (.pair (.int .u8) (.int .u8))),32,32,[.int .u8 0,.int .u8 0,.int .u8 0,.int .u8 0,.int .u8 0,.int .u8 0,.int .u8 0,.int .u8 0,.int .u8 0,.int .u8 0,.int .u8 0,.int .u8 0,.int .u8 0,.int .u8 0,.int .u8 0,.int .u8 0,.int .u8 0,.int .u8 0,.int .u8 0,.int .u8 0,.int .u8 0,.int .u8 0,.int .u8 0,.int .u8 0,.int .u8 0,.int .u8 0,.int .u8 0,.int .u8 0,.int .u8 0,.int .u8 0,.int .u8 0,.int .u8 0]⟩),
 (170,⟨.ptr 83,1,8,[.nilp]⟩),
 (171,⟨.fn,1,8,[.nilf]⟩),
 (172,⟨.ptr 21,1,8,[.nilp]⟩),
 (173,⟨.fn,1,8,[.nilf]⟩),
 (174,⟨.other,1,8,[.junk]⟩),
 (175,⟨.fn,1,8,[.nilf]⟩),
 (176,⟨.fn,1,8,[.nilf]⟩),
 (177,⟨.arr 256 3 (some (.int .i64)),256,2048,[.int .i64 0,.int .i64 0,.int .i64 0,.int .i64 0,.int .i64 0,.int .i64 0,.int .i64 0,.int .i64 0,.int .i64 0,.int .i64 0,.int .i64 0,.int .i64 0,.int .i64 0,.int .i64 0,.int .i64 0,.int .i64 0,.int .i64 0,.int .i64 0,.int .i64 0,.int .i64 0,.int .i64 0,.int .i64 0,.int .i64 0,.int .i64 0,.int .i64 0,.int .i64 0,.int .i64 0,.int .i64 0,.int .i64 0,.int .i64 0,.int .i64 0,.int .i64 0,.int .i64 0,.int .i64 0,.int .i64 0,.int .i64 0,.int .i64 0,.int .i64 0,.int .i64 0,.int .i64 0,.int .i64 0,.int .i64 0,.int .i64 0,.int .i64 0,.int .i64 0,.int .i64 0,.int .i64 0,.int .i64 0,.int .i64 0,.int .i64 0,.int .i64 0,.int .i64 0,.int .i64 0,.int .i64 0,.int .i64 0,.int .i64 0,.int .i64 0,.int .i64 0,.int .i64 0,.int .i64 0,.int .i64 0,.int .i64 0,.int .i64 0,.int .i64 0,.int .i64 0,.int .i64 0,.int .i64 0,.int .i64 0,.int .i64 0,.int .i64 0,.int .i64 0,.int .i64 0,.int .i64 0,.int .i64 0,.int .i64 0,.int .i64 0,.int .i64 0,.int .i64 0,.int .i64 0,.int .i64 0,.int .i64 0,.int .i64 0,.int .i64 0,.int .i64 0,.int .i64 0,.int .i64 0,.int .i64 0,.int .i64 0,.int .i64 0,.int .i64 0,.int .i64 0,.int .i64 0,.int .i64 0,.int .i64 0,.int .i64 0,.int .i64 0,.int .i64 0,.int .i64 0,.int .i64 0,.int .i64 0,.int .i64 0,.int .i64 0,.int .i64 0,.int .i64 0,.int .i64 0,.int .i64 0,.int .i64 0,.int .i64 0,.int .i64 0,.int .i64 0,.int .i64 0,.int .i64 0,.int .i64 0,.int .i64 0,.int .i64 0,.int .i64 0,.int .i64 0,.int .i64 0,.int .i64 0,.int .i64 0,.int .i64 0,.int .i64 0,.int .i64 0,.int .i64 0,.int .i64 0,.int .i64 0,.int .i64 0,.int .i64 0,.int .i64 0,.int .i64 0,.int .i64 0,.int .i64 0,.int .i64 0,.int .i64 0,.int .i64 0,.int .i64 0,.int .i64 0,.int .i64 0,.int .i64 0,.int .i64 0,.int .i64 0,.int .i64 0,.int .i64 0,.int .i64 0,.int .i64 0,.int .i64 0,.int .i64 0,.int .i64 0,.int .i64 0,.int .i64 0,.int .i64 0,.int .i64 0,.int .i64 0,.int .i64 0,.int .i64 0,.int .i64 0,.int .i64 0,.int .i64 0,.int .i64 0,.int .i64 0,.int .i64 0,.int .i64 0,.int .i64 0,.int .i64 0,.int .i64 0,.int .i64 0,.int .i64 0,.int .i64 0,.int .i64 0,.int .i64 0,.int .i64 0,.int .i64 0,.int .i64 0,.int .i64 0,.int .i64 0,.int .i64 0,.int .i64 0,.int .i64 0,.int .i64 0,.int .i64 0,.int .i64 0,.int .i64 0,.int .i64 0,.int .i64 0,.int .i64 0,.int .i64 0,.int .i64 0,.int .i64 0,.int .i64 0,.int .i64 0,.int .i64 0,.int .i64 0,.int .i64 0,.int .i64 0,.int .i64 0,.int .i64 0,.int .i64 0,.int .i64 0,.int .i64 0,.int .i64 0,.int .i64 0,.int .i64 0,.int .i64 0,.int .i64 0,.int .i64 0,.int .i64 0,.int .i64 0,.int .i64 0,.int .i64 0,.int .i64 0,.int .i64 0,.int .i64 0,.int .i64 0,.int .i64 0,.int .i64 0,.int .i64 0,.int .i64 0,.int .i64 0,.int .i64 0,.int .i64 0,.int .i64 0,.int .i64 0,.int .i64 0,.int .i64 0,.int .i64 0,.int .i64 0,.int .i64 0,.int .i64 0,.int .i64 0,.int .i64 0,.int .i64 0,.int .i64 0,.int .i64 0,.int .i64 0,.int .i64 0,.int .i64 0,.int .i64 0,.int .i64 0,.int .i64 0,.int .i64 0,.int .i64 0,.int .i64 0,.int .i64 0,.int .i64 0,.int .i64 0,.int .i64 0,.int .i64 0,.int .i64 0,.int .i64 0,.int .i64 0,.int .i64 0,.int .i64 0,.int .i64 0,.int .i64 0,.int .i64 0,.int .i64 0]⟩),
 (178,⟨.st [(0,9),(1,177),(257,100)],258,2088,[.str ⟨#[]⟩,.int .i64 0,.int .i64 0,.int .i64 0,.int .i64 0,.int .i64 0,.int .i64 0,.int .i64 0,.int .i64 0,.int .i64 0,.int .i64 0,.int .i64 0,.int .i64 0,.int .i64 0,.int .i64 0,.int .i64 0,.int .i64 0,.int .i64 0,.int .i64 0,.int .i64 0,.int .i64 0,.int .i64 0,.int .i64 0,.int .i64 0,.int .i64 0,.int .i64 0,.int .i64 0,.int .i64 0,.int .i64 0,.int .i64 0,.int .i64 0,.int .i64 0,.int .i64 0,.int .i64 0,.int .i64 0,.int .i64 0,.int .i64 0,.int .i64 0,.int .i64 0,.int .i64 0,.int .i64 0,.int .i64 0,.int .i64 0,.int .i64 0,.int .i64 0,.int .i64 0,.int .i64 0,.int .i64 0,.int .i64 0,.int .i64 0,.int .i64 0,.int .i64 0,.int .i64 0,.int .i64 0,.int .i64 0,.int .i64 0,.int .i64 0,.int .i64 0,.int .i64 0,.int .i64 0,.int .i64 0,.int .i64 0,.int .i64 0,.int .i64 0,.int .i64 0,.int .i64 0,.int .i64 0,.int .i64 0,.int .i64 0,.int .i64 0,.int .i64 0,.int .i64 0,.int .i64 0,.int .i64 0,.int .i64 0,.int .i64 0,.int .i64 0,.int .i64 0,.int .i64 0,.int .i64 0,.int .i64 0,.int .i64 0,.int .i64 0,.int .i64 0,.int .i64 0,.int .i64 0,.int .i64 0,.int .i64 0,.int .i64 0,.int .i64 0,.int .i64 0,.int .i64 0,.int .i64 0,.int .i64 0,.int .i64 0,.int .i64 0,.int .i64 0,.int .i64 0,.int .i64 0,.int .i64 0,.int .i64 0,.int .i64 0,.int .i64 0,.int .i64 0,.int .i64 0,.int .i64 0,.int .i64 0,.int .i64 0,.int .i64 0,.int .i64 0,.int .i64 0,.int .i64 0,.int .i64 0,.int .i64 0,.int .i64 0,.int .i64 0,.int .i64 0,.int .i64 0,.int .i64 0,.int .i64 0,.int .i64 0,.int .i64 0,.int .i64 0,.int .i64 0,.int .i64 0,.int .i64 0,.int .i64 0,.int .i64 0,.int .i64 0,.int .i64 0,.int .i64 0,.int .i64 0,.int .i64 0,.int .i64 0,.int .i64 0,.int .i64 0,.int .i64 0,.int .i64 0,.int .i64 0,.int .i64 0,.int .i64 0,.int .i64 0,.int .i64 0,.int .i64 0,.int .i64 0,.int .i64 0,.int .i64 0,.int .i64 0,.int .i64 0,.int .i64 0,.int .i64 0,.int .i64 0,.int .i64 0,.int .i64 0,.int .i64 0,.int .i64 0,.int .i64 0,.int .i64 0,.int .i64 0,.int .i64 0,.int .i64 0,.int .i64 0,.int .i64 0,.int .i64 0,.int .i64 0,.int .i64 0,.int .i64 0,.int .i64 0,.int .i64 0,.int .i64 0,.int .i64 0,.int .i64 0,.int .i64 0,.int .i64 0,.int .i64 0,.int .i64 0,.int .i64 0,.int .i64 0,.int .i64 0,.int .i64 0,.int .i64 0,.int .i64 0,.int .i64 0,.int .i64 0,.int .i64 0,.int .i64 0,.int .i64 0,.int .i64 0,.int .i64 0,.int .i64 0,.int .i64 0,.int .i64 0,.int .i64 0,.int .i64 0,.int .i64 0,.int .i64 0,.int .i64 0,.int .i64 0,.int .i64 0,.int .i64 0,.int .i64 0,.int .i64 0,.int .i64 0,.int .i64 0,.int .i64 0,.int .i64 0,.int .i64 0,.int .i64 0,.int .i64 0,.int .i64 0,.int .i64 0,.int .i64 0,.int .i64 0,.int .i64 0,.int .i64 0,.int .i64 0,.int .i64 0,.int .i64 0,.int .i64 0,.int .i64 0,.int .i64 0,.int .i64 0,.int .i64 0,.int .i64 0,.int .i64 0,.int .i64 0,.int .i64 0,.int .i64 0,.int .i64 0,.int .i64 0,.int .i64 0,.int .i64 0,.int .i64 0,.int .i64 0,.int .i64 0,.int .i64 0,.int .i64 0,.int .i64 0,.int .i64 0,.int .i64 0,.int .i64 0,.int .i64 0,.int .i64 0,.int .i64 0,.int .i64 0,.int .i64 0,.int .i64 0,.int .i64 0,.int .i64 0,.int .i64 0,.int .i64 0,.int .i64 0,.int .i64 0,.int .i64 0,.int .i64 0,.int .i64 0,.int .i64 0,.sl (.int .i64) [] .exact]⟩),
 (179,⟨.st [(0,9),(1,177),(257,100)],258,2088,[.str ⟨#[]⟩,.int .i64 0,.int .i64 0,.int .i64 0,.int .i64 0,.int .i64 0,.int .i64 0,.int .i64 0,.int .i64 0,.int .i64 0,.int .i64 0,.int .i64 0,.int .i64 0,.int .i64 0,.int .i64 0,.int .i64 0,.int .i64 0,.int .i64 0,.int .i64 0,.int .i64 0,.int .i64 0,.int .i64 0,.int .i64 0,.int .i64 0,.int .i64 0,.int .i64 0,.int .i64 0,.int .i64 0,.int .i64 0,.int .i64 0,.int .i64 0,.int .i64 0,.int .i64 0,.int .i64 0,.int .i64 0,.int .i64 0,.int .i64 0,.int .i64 0,.int .i64 0,.int .i64 0,.int .i64 0,.int .i64 0,.int .i64 0,.int .i64 0,.int .i64 0,.int .i64 0,.int .i64 0,.int .i64 0,.int .i64 0,.int .i64 0,.int .i64 0,.int .i64 0,.int .i64 0,.int .i64 0,.int .i64 0,.int .i64 0,.int .i64 0,.int .i64 0,.int .i64 0,.int .i64 0,.int .i64 0,.int .i64 0,.int .i64 0,.int .i64 0,.int .i64 0,.int .i64 0,.int .i64 0,.int .i64 0,.int .i64 0,.int .i64 0,.int .i64 0,.int .i64 0,.int .i64 0,.int .i64 0,.int .i64 0,.int .i64 0,.int .i64 0,.int .i64 0,.int .i64 0,.int .i64 0,.int .i64 0,.int .i64 0,.int .i64 0,.int .i64 0,.int .i64 0,.int .i64 0,.int .i64 0,.int .i64 0,.int .i64 0,.int .i64 0,.int .i64 0,.int .i64 0,.int .i64 0,.int .i64 0,.int .i64 0,.int .i64 0,.int .i64 0,.int .i64 0,.int .i64 0,.int .i64 0,.int .i64 0,.int .i64 0,.int .i64 0,.int .i64 0,.int .i64 0,.int .i64 0,.int .i64 0,.int .i64 0,.int .i64 0,.int .i64 0,.int .i64 0,.int .i64 0,.int .i64 0,.int .i64 0,.int .i64 0,.int .i64 0,.int .i64 0,.int .i64 0,.int .i64 0,.int .i64 0,.int .i64 0,.int .i64 0,.int .i64 0,.int .i64 0,.int .i64 0,.int .i64 0,.int .i64 0,.int .i64 0,.int .i64 0,.int .i64 0,.int .i64 0,.int .i64 0,.int .i64 0,.int .i64 0,.int .i64 0,.int .i64 0,.int .i64 0,.int .i64 0,.int .i64 0,.int .i64 0,.int .i64 0,.int .i64 0,.int .i64 0,.int .i64 0,.int .i64 0,.int .i64 0,.int .i64 0,.int .i64 0,.int .i64 0,.int .i64 0,.int .i64 0,.int .i64 0,.int .i64 0,.int .i64 0,.int .i64 0,.int .i64 0,.int .i64 0,.int .i64 0,.int .i64 0,.int .i64 0,.int .i64 0,.int .i64 0,.int .i64 0,.int .i64 0,.int .i64 0,.int .i64 0,.int .i64 0,.int .i64 0,.int .i64 0,.int .i64 0,.int .i64 0,.int .i64 0,.int .i64 0,.int .i64 0,.int .i64 0,.int .i64 0,.int .i64 0,.int .i64 0,.int .i64 0,.int .i64 0,.int .i64 0,.int .i64 0,.int .i64 0,.int .i64 0,.int .i64 0,.int .i64 0,.int .i64 0,.int .i64 0,.int .i64 0,.int .i64 0,.int .i64 0,.int .i64 0,.int .i64 0,.int .i64 0,.int .i64 0,.int .i64 0,.int .i64 0,.int .i64 0,.int .i64 0,.int .i64 0,.int .i64 0,.int .i64 0,.int .i64 0,.int .i64 0,.int .i64 0,.int .i64 0,.int .i64 0,.int .i64 0,.int .i64 0,.int .i64 0,.int .i64 0,.int .i64 0,.int .i64 0,.int .i64 0,.int .i64 0,.int .i64 0,.int .i64 0,.int .i64 0,.int .i64 0,.int .i64 0,.int .i64 0,.int .i64 0,.int .i64 0,.int .i64 0,.int .i64 0,.int .i64 0,.int .i64 0,.int .i64 0,.int .i64 0,.int .i64 0,.int .i64 0,.int .i64 0,.int .i64 0,.int .i64 0,.int .i64 0,.int .i64 0,.int .i64 0,.int .i64 0,.int .i64 0,.int .i64 0,.int .i64 0,.int .i64 0,.int .i64 0,.int .i64 0,.int .i64 0,.int .i64 0,.int .i64 0,.int .i64 0,.int .i64 0,.int .i64 0,.int .i64 0,.int .i64 0,.int .i64 0,.int .i64 0,.int .i64 0,.int .i64 0,.int .i64 0,.sl (.int .i64) [] .exact]⟩),
 (180,⟨.fn,1,8,[.nilf]⟩),
 (181,⟨.fn,1,8,[.nilf]⟩),
 (182,⟨.fn,1,8,[.nilf]⟩),
 (183,⟨.fn,1,8,[.nilf]⟩),
 (184,⟨.fn,1,8,[.nilf]⟩),
 (185,⟨.fn,1,8,[.nilf]⟩),
 (186,⟨.fn,1,8,[.nilf]⟩),
 (187,⟨.ptr 222,1,8,[.nilp]⟩),
 (188,⟨.st [(0,17),(1,17),(2,17),(3,9)],4,40,[.nilp,.nilp,.nilp,.str ⟨#[]⟩]⟩),
 (189,⟨.st [(0,17),(1,17),(2,17),(3,9)],4,40,[.nilp,.nilp,.nilp,.str ⟨#[]⟩]⟩),
 (190,⟨.arr 0 16 none,0,0,[]⟩),
 (191,⟨.st [(0,190)],0,0,[]⟩),
 (192,⟨.st [(0,190)],0,0,[]⟩),
 (193,⟨.int .u8,1,1,[.int .u8 0]⟩),
 (194,⟨.int .u8,1,1,[.int .u8 0]⟩),
 (195,⟨.fn,1,8,[.nilf]⟩),
 (196,⟨.ptr 5,1,8,[.nilp]⟩),
 (197,⟨.int .i32,1,4,[.int .i32 0]⟩),
 (198,⟨.int .i32,1,4,[.int .i32 0]⟩),
 (199,⟨.st [(0,12),(1,12),(2,79),(3,193),(4,5),(5,5),(6,194),(7,195),(8,196),(9,197),(10,198)],11,48,[.int .u64 0,.int .u64 0,.int .u32 0,.int .u8 0,.int .u8 0,.int .u8 0,.int .u8 0,.nilf,.nilp,.int .i32 0,.int .i32 0]⟩),
 (200,⟨.st [(0,12),(1,12),(2,79),(3,193),(4,5),(5,5),(6,194),(7,195),(8,196),(9,197),(10,198)],11,48,[.int .u64 0,.int .u64 0,.int .u32 0,.int .u8 0,.int .u8 0,.int .u8 0,.int .u8 0,.nilf,.nilp,.int .i32 0,.int .i32 0]⟩),
 (201,⟨.fn,1,8,[.nilf]⟩),
 (202,⟨.ptr 204,1,8,[.nilp]⟩),
 (203,⟨.st [(0,202),(1,22)],2,32,[.nilp,.sl (.int .u8) [] .exact]⟩),
 (204,⟨.st [(0,202),(1,22)],2,32,[.nilp,.sl (.int .u8) [] .exact]⟩),
 (205,⟨.fn,1,8,[.nilf]⟩),
 (206,⟨.fn,1,8,[.nilf]⟩),
 (207,⟨.fn,1,8,[.nilf]⟩),
 (208,⟨.sl 5 (.int .u8),1,24,[.sl (.int .u8) [] .exact]⟩),
 (209,⟨.ptr 208,1,8,[.nilp]⟩),
 (210,⟨.ifc,1,16,[.nili]⟩),
 (211,⟨.ifc,1,16,[.nili]⟩),
 (212,⟨.ifc,1,16,[.nili]⟩),
 (213,⟨.ifc,1,16,[.nili]⟩),
 (214,⟨.fn,1,8,[.nilf]⟩),
 (215,⟨.tup,1,0,[.junk]⟩),
 (216,⟨.fn,1,8,[.nilf]⟩),
 (217,⟨.tup,1,0,[.junk]⟩),
 (218,⟨.st [(0,211)],1,16,[.nili]⟩),
 (219,⟨.st [(0,211)],1,16,[.nili]⟩),
 (220,⟨.fn,1,8,[.nilf]⟩),
 (221,⟨.st [(0,9)],1,16,[.str ⟨#[]⟩]⟩),
 (222,⟨.st [(0,9)],1,16,[.str ⟨#[]⟩]⟩),
 (223,⟨.fn,1,8,[.nilf]⟩)]
noncomputable def TT (U : Nat → Type) : TypeId → TInf U := fun t => findT t (types U)
noncomputable def funcs : List (Nat × Func) := [(0,Tryz.f0),(1,Tryz.f1),(2,Tryz.f2),(3,Tryz.f3),(4,Tryz.f4),(5,Tryz.f5),(6,Tryz.f6),(7,Tryz.f7),(8,Tryz.f8),(9,Tryz.f9),(10,Tryz.f10),(11,Tryz.f11),(12,Tryz.f12),(13,Tryz.f13),(14,Tryz.f14),(15,Tryz.f15),(16,Tryz.f16),(17,Tryz.f17),(18,Tryz.f18),(19,Tryz.f19),(20,Tryz.f20),(21,Tryz.f21),(22,Tryz.f22),(23,Tryz.f23),(24,Tryz.f24),(25,Tryz.f25),(26,Tryz.f26),(27,Tryz.f27),(28,Tryz.f28),(29,Tryz.f29),(30,Tryz.f30),(31,Tryz.f31),(32,Tryz.f32),(33,Tryz.f33),(34,Tryz.f34),(35,Tryz.f35),(36,Tryz.f36),(37,Tryz.f37),(38,Tryz.f38),(39,Tryz.f39),(40,Tryz.f40),(41,Tryz.f41),(42,Tryz.f42),(43,Tryz.f43),(44,Tryz.f44),(45,Tryz.f45),(46,Tryz.f46),(47,Tryz.f47),(48,Tryz.f48),(49,Tryz.f49),(50,Tryz.f50),(51,Tryz.f51),(52,Tryz.f52),(53,Tryz.f53),(54,Tryz.f54),(55,Tryz.f55),(56,Tryz.f56),(57,Tryz.f57),(58,Tryz.f58),(59,Tryz.f59),(60,Tryz.f60),(61,Tryz.f61),(62,Tryz.f62),(63,Tryz.f63),(64,Tryz.f64),(65,Tryz.f65),(66,Tryz.f66),(67,Tryz.f67),(68,Tryz.f68),(69,Tryz.f69),(70,Tryz.f70),(71,Tryz.f71),(72,Tryz.f72),(73,Tryz.f73),(74,Tryz.f74),(75,Tryz.f75),(76,Tryz.f76),(77,Tryz.f77),(78,Tryz.f78),(79,Tryz.f79),(80,Tryz.f80),(81,Tryz.f81),(82,Tryz.f82),(83,Tryz.f83),(84,Tryz.f84),(85,Tryz.f85),(86,Tryz.f86),(87,Tryz.f87),(88,Tryz.f88),(89,Tryz.f89),(90,Tryz.f90),(91,Tryz.f91),(92,Tryz.f92),(93,Tryz.f93),(94,Tryz.f94),(95,Tryz.f95),(96,Tryz.f96),(97,Tryz.f97),(98,Tryz.f98),(99,Tryz.f99),(100,Tryz.f100),(101,Tryz.f101),(102,Tryz.f102),(103,Tryz.f103),(104,Tryz.f104),(105,Tryz.f105),(106,Tryz.f106),(107,Tryz.f107),(108,Tryz.f108),(109,Tryz.f109),(110,Tryz.f110),(111,Tryz.f111),(112,Tryz.f112),(113,Tryz.f113),(114,Tryz.f114),(115,Tryz.f115),(116,Tryz.f116),(117,Tryz.f117),(118,Tryz.f118),(119,Tryz.f119),(120,Tryz.f120),(121,Tryz.f121),(122,Tryz.f122),(123,Tryz.f123),(124,Tryz.f124),(125,Tryz.f125),(126,Tryz.f126),(127,Tryz.f127),(128,Tryz.f128),(129,Tryz.f129),(130,Tryz.f130),(131,Tryz.f131),(132,Tryz.f132),(133,Tryz.f133),(134,Tryz.f134),(135,Tryz.f135),(136,Tryz.f136),(137,Tryz.f137),(138,Tryz.f138),(139,Tryz.f139),(140,Tryz.f140),(141,Tryz.f141),(142,Tryz.f142),(143,Tryz.f143),(144,Tryz.f144),(145,Tryz.f145),(146,Tryz.f146),(147,Tryz.f147),(148,Tryz.f148),(149,Tryz.f149),(150,Tryz.f150),(151,Tryz.f151),(152,Tryz.f152),(153,Tryz.f153),(154,Tryz.f154),(155,Tryz.f155),(156,Tryz.f156),(157,Tryz.f157),(158,Tryz.f158),(159,Tryz.f159),(160,Tryz.f160),(161,Tryz.f161),(162,Tryz.f162),(163,Tryz.f163),(164,Tryz.f164),(165,Tryz.f165),(166,Tryz.f166),(167,Tryz.f167),(168,Tryz.f168),(169,Tryz.f169),(170,Tryz.f170),(171,Tryz.f171),(172,Tryz.f172),(173,Tryz.f173),(174,Tryz.f174),(175,Tryz.f175),(176,Tryz.f176),(177,Tryz.f177),(178,Tryz.f178),(179,Tryz.f179),(180,Tryz.f180),(181,Tryz.f181),(182,Tryz.f182),(183,Tryz.f183),(184,Tryz.f184),(185,Tryz.f185),(186,Tryz.f186),(187,Tryz.f187),(188,Tryz.f188),(189,Tryz.f189),(190,Tryz.f190),(191,Tryz.f191),(192,Tryz.f192),(193,Tryz.f193),(194,Tryz.f194),(195,Tryz.f195),(196,Tryz.f196),(197,Tryz.f197),(198,Tryz.f198),(199,Tryz.f199),(200,Tryz.f200),(201,Tryz.f201),(202,Tryz.f202),(203,Tryz.f203)]
noncomputable def FT : FuncId → Option Func := fun f => findF f funcs
def lives : List (Nat × Nat × List (Nat × Bool)) := [
 (3,3,[(0,false),(3,false)]),
 (9,4,[(2,false),(3,false),(43,false),(44,false)]),
 (12,3,[(0,false),(1,false)]),
 (13,3,[(0,false),(1,false)]),
 (18,3,[(0,false),(3,false),(6,false),(7,false)]),
 (25,2,[(0,false),(1,false),(7,false),(8,false)]),
 (26,4,[(0,false),(4,false)]),
 (27,2,[(0,false),(3,false)]),
 (28,4,[(0,false),(1,false),(7,false),(9,false)]),
 (29,3,[(0,false),(1,false),(7,true),(8,false)]),
 (36,5,[(0,false),(2,false),(3,false)]),
 (38,3,[(0,false),(1,false),(5,true),(10,false),(11,false),(12,false)]),
 (38,11,[(1,false),(5,true),(46,true),(47,false),(48,false)]),
 (40,6,[(0,false),(2,false),(6,false),(7,false)]),
 (41,20,[(0,false),(1,false),(5,false),(6,false),(7,false),(8,false),(9,false),(10,false)]),
 (41,41,[(0,false),(1,false),(5,false),(13,false),(14,false),(15,false),(16,false),(17,false)]),
 (42,2,[(0,false),(3,false)]),
 (44,13,[(0,false),(4,false),(5,false),(51,false),(52,false),(53,false)]),
 (67,5,[(0,false),(1,false),(5,false),(6,false),(7,false),(8,false),(9,false)]),
 (67,11,[(0,false),(1,false),(5,false),(6,false),(7,false),(8,false),(10,false)]),
 (71,2,[(0,false),(1,false),(5,false)]),
 (76,3,[(0,false),(1,false),(6,false),(11,false),(12,false),(13,false)]),
 (79,3,[(0,false),(1,false),(6,false),(10,false),(11,false),(12,false)]),
 (82,6,[(3,false),(4,false),(5,false)]),
 (82,15,[(3,false),(6,false),(61,false)]),
 (82,20,[(3,false),(6,false),(8,false)]),
 (82,28,[(3,false),(11,false),(12,false)]),
 (86,2,[(0,false),(9,false),(10,false)]),
 (88,3,[(0,false),(4,false),(5,false)]),
 (88,8,[(4,false),(6,false),(7,false),(8,false)]),
 (89,2,[(0,false),(6,false),(7,false),(8,false)]),
 (90,2,[(0,false),(7,false),(8,false),(9,false)]),
 (94,13,[(0,false),(1,false),(2,false),(10,false),(11,false),(12,false),(48,false),(49,false)]),
 (94,21,[(0,false),(2,false),(10,false),(11,false),(12,false),(88,false),(89,false)]),
 (97,2,[(0,false),(3,false)]),
 (106,3,[(0,false),(3,false),(4,false)]),
 (106,7,[(0,false),(3,false),(4,false),(5,false),(6,false)]),
 (106,11,[(0,false),(3,false),(40,false),(41,false)]),
 (106,17,[(0,false),(3,false),(9,false),(57,false),(58,false)]),
 (106,26,[(0,false),(3,false),(12,false)]),
 (110,6,[(0,false),(1,false),(5,false)]),
 (118,4,[(0,false),(3,false),(4,false),(20,false)]),
 (118,9,[(0,false),(3,false),(4,false),(6,false)]),
 (118,14,[(0,false),(3,false),(4,false),(7,false),(8,false)]),
 (118,20,[(0,false),(3,false),(4,false),(9,false)]),
 (119,6,[(0,false),(1,false),(2,false),(3,false),(4,false),(10,false)]),
 (120,1,[(0,false),(1,false)]),
 (121,2,[(0,false),(2,false),(4,false)]),
 (122,1,[(0,false),(1,false)]),
 (123,1,[(0,false),(1,false)]),
 (124,3,[(0,false),(3,false),(4,false)]),
 (131,5,[(0,false),(2,false),(3,false),(4,false),(5,false),(6,false)]),
 (134,4,[(0,false),(4,false)]),
 (136,1,[(0,false),(1,false),(4,false)]),
 (138,2,[(1,false),(8,false)]),
 (139,2,[(2,false),(4,false)]),
 (163,3,[(0,false),(1,false),(5,false),(6,false),(7,false)]),
 (164,3,[(0,false),(2,false),(6,false),(8,false),(9,false)]),
 (165,2,[(0,false),(1,false),(5,false)]),
 (165,4,[(0,false),(1,false),(5,false),(6,false)]),
 (174,5,[(0,false),(2,false),(6,false),(7,false),(8,false),(9,false),(11,false),(12,false)]),
 (176,4,[(0,false),(1,false),(2,false),(6,false),(7,false),(8,false),(9,false),(10,false),(11,false)]),
 (177,3,[(0,false),(1,false),(5,false),(6,false)]),
 (178,4,[(0,false),(1,false),(2,false),(6,false),(8,false),(9,false),(10,false)]),
 (179,5,[(0,false),(1,false),(5,false),(6,false),(30,false),(31,false),(32,false)]),
 (179,13,[(0,false),(1,false),(5,false),(6,false),(10,false)]),
 (179,24,[(0,false),(1,false),(12,false),(13,false),(14,false)]),
 (180,4,[(0,false),(1,false),(2,false),(6,false),(7,false),(8,false),(9,false),(10,false)]),
 (181,6,[(0,false),(1,false),(5,false)]),
 (184,15,[(0,false),(1,false),(5,false),(6,false),(7,false),(8,false),(9,false),(10,false)]),
 (186,5,[(0,false),(1,false),(5,false),(6,false),(7,false),(8,false),(9,false)]),
 (186,11,[(0,false),(1,false),(5,false),(6,false),(7,false),(8,false),(10,false)]),
 (187,3,[(0,false),(4,false),(5,false)]),
 (187,8,[(4,false),(6,false),(7,false),(8,false)])]
def live0 : FuncId → Nat → List (Nat × Bool) := fun f r => findL f r lives
end Go.Proofs.YtccfmfifnbnlmaaGreatDoor.Ev
end
section
/- The seat's tables hold: types, equality, functions. -/
set_option linter.unusedVariables false
namespace Go.Proofs.YtccfmfifnbnlmaaGreatDoor.Ev
open Go
@[reducible] def U0 : Nat → Type
  | _ => Unit
def shapes : Shape U0 := Shape.mk
  (fun
    | _ => .unit)
  (fun
    | _ + 0 => rfl)
  (fun
    | _ + 0 => fun x => x)
  (fun
    | _ + 0 => fun x => x)
  (fun
    | _ + 0 => fun _ => rfl)
def C0 : Codec U0 := codecOf shapes
set_option maxRecDepth 100000 in
theorem tt_holds : ttAll C0 Tryz.prog (types U0) (types U0) = true := by kernel_rfl
def eqs0 : List (Nat × List CK) := [(48, [.str, .str]), (121, [.int .i64, .int .i64])]
theorem eqs_holds : eqsAll Tryz.prog eqs0 = true := by kernel_rfl
set_option maxRecDepth 100000 in
theorem ft_holds : ∀ p ∈ funcs, Tryz.prog.funcs[p.1]? = some p.2 ∧ (p.2.name == "runtime.NumGoroutine") = false := by
  have h : funcs.all (fun p => !(p.2.name == "runtime.NumGoroutine")) = true := by kernel_rfl
  have h2 : funcs.map (fun p => Tryz.prog.funcs[p.1]?) = funcs.map (fun p => some p.2) := by kernel_rfl
  intro p hp
  refine ⟨List.map_inj_left.1 h2 p hp, ?_⟩
  simpa using List.all_eq_true.1 h p hp
end Go.Proofs.YtccfmfifnbnlmaaGreatDoor.Ev
end
section
/- Functions whose contracts are had from elsewhere, as the evaluator asks for them. -/
set_option linter.unusedVariables false
set_option linter.unusedSimpArgs false
namespace Go.Proofs.YtccfmfifnbnlmaaGreatDoor.Ev
open Go
section
variable {U : Nat → Type} {C : Codec U} {P : Program} {R : Type} {w w' w0 : World} {g : Gh} {S : Nat → Nat → Bool} {st : St U}
theorem cell_below {b o : Nat} (hb : RowKit.Below w.heap.size w w') (h : b < w.heap.size) : w'.cell? ⟨b,o,none⟩ = w.cell? ⟨b,o,none⟩ ∧ w'.frozen? ⟨b,o,none⟩ = w.frozen? ⟨b,o,none⟩ :=
 ⟨World.cell?_of_block (hb.block b h),World.frozen?_of_block (hb.block b h)⟩
/-- The ghost, and all that lies in new memory. -/
def Gh.grow (g : Gh) (w w' : World) : Gh :=
 { g with own := fun b o => if b < w.heap.size then g.own b o else match w'.cell? ⟨b,o,none⟩ with
    | some v => .imm v
    | none => .out }
theorem le_grow (h : ∀ b o,w.heap.size ≤ b → g.own b o = .out) : Le g (g.grow w w') := by
 refine ⟨fun b o v hv => ?_,fun _ _ h => h,fun _ _ h => h,fun b o v hv => ?_,rfl⟩ <;>
 · show (if b < w.heap.size then g.own b o else _) = _
   rcases Nat.lt_or_ge b w.heap.size with q | q
   · rw [if_pos q]; exact hv
   · rw [h b o q] at hv; cases hv
theorem grow_new {b o : Nat} {v : Value} (h : w.heap.size ≤ b) (hc : w'.cell? ⟨b,o,none⟩ = some v) : (g.grow w w').own b o = .imm v := by
 show (if b < w.heap.size then g.own b o else _) = _
 rw [if_neg (by omega),hc]
theorem grow_old {b o : Nat} (h : b < w.heap.size) : (g.grow w w').own b o = g.own b o := if_pos h
theorem grow_of {b o : Nat} {x : Own} (h : (g.grow w w').own b o = x) : (b < w.heap.size ∧ g.own b o = x) ∨ (w.heap.size ≤ b ∧ ((∃ v,x = .imm v ∧ w'.cell? ⟨b,o,none⟩ = some v) ∨ x = .out)) := by
 have h' : (if b < w.heap.size then g.own b o else match w'.cell? ⟨b,o,none⟩ with
  | some v => .imm v
  | none => .out) = x := h
 rcases Nat.lt_or_ge b w.heap.size with q | q
 · rw [if_pos q] at h'; exact .inl ⟨q,h'⟩
 · rw [if_neg (by omega)] at h'
   refine .inr ⟨q,?_⟩
   cases e : w'.cell? ⟨b,o,none⟩ with
   | none => rw [e] at h'; exact .inr h'.symm
   | some v => rw [e] at h'; exact .inl ⟨v,h'.symm,rfl⟩
/-- New memory alone. -/
theorem SRel.grow (hS : SRel C S w0 st g w) (hb : RowKit.Below w.heap.size w w') : SRel C S w0 st (g.grow w w') w' := by
 have hle : Le g (g.grow w w') := le_grow hS.h.fresh
 have inb : ∀ {b o x},w.cell? ⟨b,o,none⟩ = some x → b < w.heap.size := fun {b o x} h => lt_of_cell (a := ⟨b,o,none⟩) (by rw [h]; rfl)
 refine ⟨⟨fun b o v h => ?_,fun b cs blk base h1 h2 => ?_,fun i hi blk e c hτ o h1 h2 => ?_,fun b o h => ?_,Nat.le_trans hS.h.size hb.size,hb.os.trans hS.h.os,hb.tape.trans hS.h.tape,hb.output.trans hS.h.output,
  ⟨hS.h.old.no,hS.h.old.laid,fun b hlt => ?_⟩,fun b o i h hlt => ?_,fun b o i h hlt => ?_,fun b o v h1 h2 h3 => hle.imm b o v (hS.h.snap b o v h1 h2 h3),fun b o v h => ?_,hS.h.lo,fun b o hr c e lo hi q => by
   rcases grow_of (g := g) (w := w) (w' := w') (b := b) (o := o) rfl with ⟨q1,h'⟩ | ⟨_,⟨v,h1,_⟩ | h1⟩
   · rw [hb.block b q1] at q
     exact hS.h.fz b o (by rw [h']; exact hr) c e lo hi q
   · rw [h1] at hr; cases hr
   · rw [h1] at hr; cases hr⟩,hS.tb,hS.tt,hS.uniq,hS.lt⟩
 · rcases grow_of h with ⟨q,h'⟩ | ⟨q,⟨v',h1,h2⟩ | h1⟩
   · rw [(cell_below hb q).1]; exact hS.h.imm b o v h'
   · cases h1; exact h2
   · cases h1
 · obtain ⟨vs,h3,h4⟩ := hS.h.box b cs blk base h1 h2
   refine ⟨vs,RelVs.mono hle h3,fun j v hv => ?_⟩
   obtain ⟨h5,h6,h7⟩ := h4 j v hv
   have q := inb h6
   obtain ⟨c1,c2⟩ := cell_below (o := base + j) hb q
   exact ⟨by rw [grow_old q]; exact h5,by rw [c1]; exact h6,by rw [c2]; exact h7⟩
 · obtain ⟨h3,h4,h5⟩ := hS.h.live i hi blk e c hτ o h1 h2
   have q : blk < w.heap.size := lt_of_cell (a := ⟨blk,o,none⟩) h4
   obtain ⟨c1,c2⟩ := cell_below (o := o) hb q
   exact ⟨by rw [grow_old q]; exact h3,by rw [c1]; exact h4,by rw [c2]; exact h5⟩
 · have h9 := hb.size
   show (if b < w.heap.size then g.own b o else match w'.cell? ⟨b,o,none⟩ with | some v => .imm v | none => .out) = _
   rw [if_neg (by omega)]
   cases e : w'.cell? ⟨b,o,none⟩ with
   | none => rfl
   | some v =>
    have := lt_of_cell (w := w') (a := ⟨b,o,none⟩) (by rw [e]; rfl)
    dsimp only at this
    omega
 · have q : b < w.heap.size := Nat.lt_of_lt_of_le hlt hS.h.size
   rw [hb.block b q]
   exact hS.h.old.kept b hlt
 · rcases grow_of h with ⟨q,h'⟩ | ⟨q,⟨v',h1,h2⟩ | h1⟩
   · exact hS.h.wbox b o i h' hlt
   · cases h1
   · cases h1
 · rcases grow_of h with ⟨q,h'⟩ | ⟨q,⟨v',h1,h2⟩ | h1⟩
   · exact hS.h.wspare b o i h' hlt
   · cases h1
   · cases h1
 · rcases grow_of h with ⟨q,h'⟩ | ⟨q,⟨v',h1,h2⟩ | h1⟩
   · obtain ⟨c1,c2⟩ := cell_below (o := o) hb q
     rw [c1,c2]; exact hS.h.hid b o v h'
   · cases h1
   · cases h1
/-- A function that is said by its results. -/
theorem callOk_ext {f : FuncId} {F : List (AVal U) → Option (AVal U)}
 (h : ∀ args v,F args = some v → ∀ (g : Gh) (w : World) (cs : List Value),RelVs C g args cs → (∀ b o x,g.own b o = .imm x → w.cell? ⟨b,o,none⟩ = some x) → (∃ w0,RowKit.Below w0.heap.size w0 w ∧ Assumed w0) →
  Calls P f cs.toArray w fun e w' => ∃ c,e = .returned c ∧ RowKit.Below w.heap.size w w' ∧ RelV C (g.grow w w') v c) :
 CallOk (R := R) P C f (asExt F) := by
 intro args st K r hs S w0 g w cs ha hS
 unfold asExt at hs
 obtain ⟨v,h1,h2⟩ := bind2 hs
 refine (h args v h1 g w cs ha hS.h.imm ⟨w0,below_of' hS,hS.h.old.laid⟩).mono fun e w' ⟨c,h3,h4,h5⟩ => ?_
 subst h3
 exact ⟨.ret v,st,g.grow w w',h2,le_grow hS.h.fresh,hS.grow h4,Same.refl st,.ret h5⟩
end
end Go.Proofs.YtccfmfifnbnlmaaGreatDoor.Ev
end
