/- Written by a program of mine off the seat's translation: the types' table, the functions that have a body. -/
import Derived.Test.YtpiilfamfinieaaDoorProg
import Derived.Test.YtpiilfamfinieaaDoorD
namespace Go.Proofs.YtpiilfamfinieaaDoor
open Go.RowKit
def TT : V.Tab := [
  (0, ⟨.other, 1⟩),
  (1, ⟨.other, 1⟩),
  (2, ⟨.int .i64, 1⟩),
  (3, ⟨.int .i64, 1⟩),
  (4, ⟨.bool, 1⟩),
  (5, ⟨.int .u8, 1⟩),
  (6, ⟨.int .u8, 1⟩),
  (7, ⟨.struct [(0, 2), (1, 3), (2, 4), (3, 6)], 4⟩),
  (8, ⟨.struct [(0, 2), (1, 3), (2, 4), (3, 6)], 4⟩),
  (9, ⟨.str, 1⟩),
  (10, ⟨.str, 1⟩),
  (11, ⟨.str, 1⟩),
  (12, ⟨.int .u64, 1⟩),
  (13, ⟨.struct [(0, 9), (1, 12)], 2⟩),
  (14, ⟨.struct [(0, 9), (1, 12)], 2⟩),
  (15, ⟨.ptr 134, 1⟩),
  (16, ⟨.ptr 137, 1⟩),
  (17, ⟨.ptr 144, 1⟩),
  (18, ⟨.struct [(0, 17)], 1⟩),
  (19, ⟨.struct [(0, 17)], 1⟩),
  (20, ⟨.other, 1⟩),
  (21, ⟨.int .i32, 1⟩),
  (22, ⟨.slice 9, 1⟩),
  (23, ⟨.struct [(0, 5), (1, 5), (2, 22)], 3⟩),
  (24, ⟨.struct [(0, 5), (1, 5), (2, 22)], 3⟩),
  (25, ⟨.other, 1⟩),
  (26, ⟨.other, 1⟩),
  (27, ⟨.other, 1⟩),
  (28, ⟨.other, 1⟩),
  (29, ⟨.struct [(0, 3), (1, 3), (2, 22)], 3⟩),
  (30, ⟨.arr 5 29, 15⟩),
  (31, ⟨.int .i64, 1⟩),
  (32, ⟨.other, 1⟩),
  (33, ⟨.other, 1⟩),
  (34, ⟨.other, 1⟩),
  (35, ⟨.other, 1⟩),
  (36, ⟨.other, 1⟩),
  (37, ⟨.other, 1⟩),
  (38, ⟨.other, 1⟩),
  (39, ⟨.other, 1⟩),
  (40, ⟨.int .u64, 1⟩),
  (41, ⟨.struct [(0, 40), (1, 40), (2, 40)], 3⟩),
  (42, ⟨.struct [(0, 40), (1, 40), (2, 40)], 3⟩),
  (43, ⟨.other, 1⟩),
  (44, ⟨.struct [(0, 3), (1, 3), (2, 42)], 5⟩),
  (45, ⟨.arr 3 44, 15⟩),
  (46, ⟨.slice 55, 1⟩),
  (47, ⟨.other, 1⟩),
  (48, ⟨.other, 1⟩),
  (49, ⟨.other, 1⟩),
  (50, ⟨.other, 1⟩),
  (51, ⟨.other, 1⟩),
  (52, ⟨.other, 1⟩),
  (53, ⟨.other, 1⟩),
  (54, ⟨.other, 1⟩),
  (55, ⟨.arr 2 3, 2⟩),
  (56, ⟨.other, 1⟩),
  (57, ⟨.struct [(0, 5), (1, 5), (2, 9)], 3⟩),
  (58, ⟨.struct [(0, 5), (1, 5), (2, 9)], 3⟩),
  (59, ⟨.arr 2 58, 6⟩),
  (60, ⟨.struct [(0, 22), (1, 22), (2, 22)], 3⟩),
  (61, ⟨.arr 4 60, 12⟩),
  (62, ⟨.other, 1⟩),
  (63, ⟨.other, 1⟩),
  (64, ⟨.other, 1⟩),
  (65, ⟨.other, 1⟩),
  (66, ⟨.other, 1⟩),
  (67, ⟨.other, 1⟩),
  (68, ⟨.other, 1⟩),
  (69, ⟨.other, 1⟩),
  (70, ⟨.other, 1⟩),
  (71, ⟨.other, 1⟩),
  (72, ⟨.other, 1⟩),
  (73, ⟨.other, 1⟩),
  (74, ⟨.struct [(0, 3), (1, 3)], 2⟩),
  (75, ⟨.struct [(0, 3), (1, 3)], 2⟩),
  (76, ⟨.other, 1⟩),
  (77, ⟨.other, 1⟩),
  (78, ⟨.other, 1⟩),
  (79, ⟨.other, 1⟩),
  (80, ⟨.other, 1⟩),
  (81, ⟨.slice 5, 1⟩),
  (82, ⟨.other, 1⟩),
  (83, ⟨.other, 1⟩),
  (84, ⟨.other, 1⟩),
  (85, ⟨.other, 1⟩),
  (86, ⟨.other, 1⟩),
  (87, ⟨.other, 1⟩),
  (88, ⟨.other, 1⟩),
  (89, ⟨.ptr 92, 1⟩),
  (90, ⟨.other, 1⟩),
  (91, ⟨.struct [(0, 75), (2, 22), (3, 22)], 4⟩),
  (92, ⟨.struct [(0, 75), (2, 22), (3, 22)], 4⟩),
  (93, ⟨.other, 1⟩),
  (94, ⟨.other, 1⟩),
  (95, ⟨.other, 1⟩),
  (96, ⟨.other, 1⟩),
  (97, ⟨.int .u32, 1⟩),
  (98, ⟨.other, 1⟩),
  (99, ⟨.int .u64, 1⟩),
  (100, ⟨.other, 1⟩),
  (101, ⟨.other, 1⟩),
  (102, ⟨.other, 1⟩),
  (103, ⟨.ptr 105, 1⟩),
  (104, ⟨.struct [(0, 103), (1, 81)], 2⟩),
  (105, ⟨.struct [(0, 103), (1, 81)], 2⟩),
  (106, ⟨.other, 1⟩),
  (107, ⟨.other, 1⟩),
  (108, ⟨.other, 1⟩),
  (109, ⟨.other, 1⟩),
  (110, ⟨.other, 1⟩),
  (111, ⟨.other, 1⟩),
  (112, ⟨.other, 1⟩),
  (113, ⟨.other, 1⟩),
  (114, ⟨.other, 1⟩),
  (115, ⟨.other, 1⟩),
  (116, ⟨.other, 1⟩),
  (117, ⟨.other, 1⟩),
  (118, ⟨.slice 22, 1⟩),
  (119, ⟨.other, 1⟩),
  (120, ⟨.other, 1⟩),
  (121, ⟨.other, 1⟩),
  (122, ⟨.other, 1⟩),
  (123, ⟨.other, 1⟩),
  (124, ⟨.other, 1⟩),
  (125, ⟨.other, 1⟩),
  (126, ⟨.ptr 5, 1⟩),
  (127, ⟨.other, 1⟩),
  (128, ⟨.other, 1⟩),
  (129, ⟨.other, 1⟩),
  (130, ⟨.other, 1⟩),
  (131, ⟨.arr 32 5, 32⟩),
  (132, ⟨.arr 64 5, 64⟩),
  (133, ⟨.struct [(0, 17), (1, 17), (2, 17), (3, 9)], 4⟩),
  (134, ⟨.struct [(0, 17), (1, 17), (2, 17), (3, 9)], 4⟩),
  (135, ⟨.arr 0 16, 0⟩),
  (136, ⟨.struct [(0, 135)], 0⟩),
  (137, ⟨.struct [(0, 135)], 0⟩),
  (138, ⟨.int .u8, 1⟩),
  (139, ⟨.int .u8, 1⟩),
  (140, ⟨.other, 1⟩),
  (141, ⟨.int .i32, 1⟩),
  (142, ⟨.int .i32, 1⟩),
  (143, ⟨.struct [(0, 12), (1, 12), (2, 97), (3, 138), (4, 5), (5, 5), (6, 139), (7, 140), (8, 126), (9, 141), (10, 142)], 11⟩),
  (144, ⟨.struct [(0, 12), (1, 12), (2, 97), (3, 138), (4, 5), (5, 5), (6, 139), (7, 140), (8, 126), (9, 141), (10, 142)], 11⟩)]
theorem TTok : V.tabOk Tryd.prog TT = true := by kernel_rfl
def FF : List Nat := [2, 3, 4, 5, 6, 7, 8, 9, 10, 11, 12, 13, 14, 15, 16, 17, 18, 19, 20, 21, 22, 23, 24, 25, 26, 27, 28, 29, 30, 31, 32, 33, 34, 35, 36, 37, 38, 39, 40, 41, 42, 43, 44, 45, 46, 47, 48, 49, 50, 51, 52, 53, 54, 55, 56, 57, 58, 59, 60, 61, 62, 63, 64, 65, 66, 67, 68, 69, 70, 71, 72, 73, 74, 98]
theorem en2 : Enters Tryd.prog 2 := enters_of Tryd.func2 (by kernel_rfl) rfl
theorem en3 : Enters Tryd.prog 3 := enters_of Tryd.func3 (by kernel_rfl) rfl
theorem en4 : Enters Tryd.prog 4 := enters_of Tryd.func4 (by kernel_rfl) rfl
theorem en5 : Enters Tryd.prog 5 := enters_of Tryd.func5 (by kernel_rfl) rfl
theorem en6 : Enters Tryd.prog 6 := enters_of Tryd.func6 (by kernel_rfl) rfl
theorem en7 : Enters Tryd.prog 7 := enters_of Tryd.func7 (by kernel_rfl) rfl
theorem en8 : Enters Tryd.prog 8 := enters_of Tryd.func8 (by kernel_rfl) rfl
theorem en9 : Enters Tryd.prog 9 := enters_of Tryd.func9 (by kernel_rfl) rfl
theorem en10 : Enters Tryd.prog 10 := enters_of Tryd.func10 (by kernel_rfl) rfl
theorem en11 : Enters Tryd.prog 11 := enters_of Tryd.func11 (by kernel_rfl) rfl
theorem en12 : Enters Tryd.prog 12 := enters_of Tryd.func12 (by kernel_rfl) rfl
theorem en13 : Enters Tryd.prog 13 := enters_of Tryd.func13 (by kernel_rfl) rfl
theorem en14 : Enters Tryd.prog 14 := enters_of Tryd.func14 (by kernel_rfl) rfl
theorem en15 : Enters Tryd.prog 15 := enters_of Tryd.func15 (by kernel_rfl) rfl
theorem en16 : Enters Tryd.prog 16 := enters_of Tryd.func16 (by kernel_rfl) rfl
theorem en17 : Enters Tryd.prog 17 := enters_of Tryd.func17 (by kernel_rfl) rfl
theorem en18 : Enters Tryd.prog 18 := enters_of Tryd.func18 (by kernel_rfl) rfl
theorem en19 : Enters Tryd.prog 19 := enters_of Tryd.func19 (by kernel_rfl) rfl
theorem en20 : Enters Tryd.prog 20 := enters_of Tryd.func20 (by kernel_rfl) rfl
theorem en21 : Enters Tryd.prog 21 := enters_of Tryd.func21 (by kernel_rfl) rfl
theorem en22 : Enters Tryd.prog 22 := enters_of Tryd.func22 (by kernel_rfl) rfl
theorem en23 : Enters Tryd.prog 23 := enters_of Tryd.func23 (by kernel_rfl) rfl
theorem en24 : Enters Tryd.prog 24 := enters_of Tryd.func24 (by kernel_rfl) rfl
theorem en25 : Enters Tryd.prog 25 := enters_of Tryd.func25 (by kernel_rfl) rfl
theorem en26 : Enters Tryd.prog 26 := enters_of Tryd.func26 (by kernel_rfl) rfl
theorem en27 : Enters Tryd.prog 27 := enters_of Tryd.func27 (by kernel_rfl) rfl
theorem en28 : Enters Tryd.prog 28 := enters_of Tryd.func28 (by kernel_rfl) rfl
theorem en29 : Enters Tryd.prog 29 := enters_of Tryd.func29 (by kernel_rfl) rfl
theorem en30 : Enters Tryd.prog 30 := enters_of Tryd.func30 (by kernel_rfl) rfl
theorem en31 : Enters Tryd.prog 31 := enters_of Tryd.func31 (by kernel_rfl) rfl
theorem en32 : Enters Tryd.prog 32 := enters_of Tryd.func32 (by kernel_rfl) rfl
theorem en33 : Enters Tryd.prog 33 := enters_of Tryd.func33 (by kernel_rfl) rfl
theorem en34 : Enters Tryd.prog 34 := enters_of Tryd.func34 (by kernel_rfl) rfl
theorem en35 : Enters Tryd.prog 35 := enters_of Tryd.func35 (by kernel_rfl) rfl
theorem en36 : Enters Tryd.prog 36 := enters_of Tryd.func36 (by kernel_rfl) rfl
theorem en37 : Enters Tryd.prog 37 := enters_of Tryd.func37 (by kernel_rfl) rfl
theorem en38 : Enters Tryd.prog 38 := enters_of Tryd.func38 (by kernel_rfl) rfl
theorem en39 : Enters Tryd.prog 39 := enters_of Tryd.func39 (by kernel_rfl) rfl
theorem en40 : Enters Tryd.prog 40 := enters_of Tryd.func40 (by kernel_rfl) rfl
theorem en41 : Enters Tryd.prog 41 := enters_of Tryd.func41 (by kernel_rfl) rfl
theorem en42 : Enters Tryd.prog 42 := enters_of Tryd.func42 (by kernel_rfl) rfl
theorem en43 : Enters Tryd.prog 43 := enters_of Tryd.func43 (by kernel_rfl) rfl
theorem en44 : Enters Tryd.prog 44 := enters_of Tryd.func44 (by kernel_rfl) rfl
theorem en45 : Enters Tryd.prog 45 := enters_of Tryd.func45 (by kernel_rfl) rfl
theorem en46 : Enters Tryd.prog 46 := enters_of Tryd.func46 (by kernel_rfl) rfl
theorem en47 : Enters Tryd.prog 47 := enters_of Tryd.func47 (by kernel_rfl) rfl
theorem en48 : Enters Tryd.prog 48 := enters_of Tryd.func48 (by kernel_rfl) rfl
theorem en49 : Enters Tryd.prog 49 := enters_of Tryd.func49 (by kernel_rfl) rfl
theorem en50 : Enters Tryd.prog 50 := enters_of Tryd.func50 (by kernel_rfl) rfl
theorem en51 : Enters Tryd.prog 51 := enters_of Tryd.func51 (by kernel_rfl) rfl
theorem en52 : Enters Tryd.prog 52 := enters_of Tryd.func52 (by kernel_rfl) rfl
theorem en53 : Enters Tryd.prog 53 := enters_of Tryd.func53 (by kernel_rfl) rfl
theorem en54 : Enters Tryd.prog 54 := enters_of Tryd.func54 (by kernel_rfl) rfl
theorem en55 : Enters Tryd.prog 55 := enters_of Tryd.func55 (by kernel_rfl) rfl
theorem en56 : Enters Tryd.prog 56 := enters_of Tryd.func56 (by kernel_rfl) rfl
theorem en57 : Enters Tryd.prog 57 := enters_of Tryd.func57 (by kernel_rfl) rfl
theorem en58 : Enters Tryd.prog 58 := enters_of Tryd.func58 (by kernel_rfl) rfl
theorem en59 : Enters Tryd.prog 59 := enters_of Tryd.func59 (by kernel_rfl) rfl
theorem en60 : Enters Tryd.prog 60 := enters_of Tryd.func60 (by kernel_rfl) rfl
theorem en61 : Enters Tryd.prog 61 := enters_of Tryd.func61 (by kernel_rfl) rfl
theorem en62 : Enters Tryd.prog 62 := enters_of Tryd.func62 (by kernel_rfl) rfl
theorem en63 : Enters Tryd.prog 63 := enters_of Tryd.func63 (by kernel_rfl) rfl
theorem en64 : Enters Tryd.prog 64 := enters_of Tryd.func64 (by kernel_rfl) rfl
theorem en65 : Enters Tryd.prog 65 := enters_of Tryd.func65 (by kernel_rfl) rfl
theorem en66 : Enters Tryd.prog 66 := enters_of Tryd.func66 (by kernel_rfl) rfl
theorem en67 : Enters Tryd.prog 67 := enters_of Tryd.func67 (by kernel_rfl) rfl
theorem en68 : Enters Tryd.prog 68 := enters_of Tryd.func68 (by kernel_rfl) rfl
theorem en69 : Enters Tryd.prog 69 := enters_of Tryd.func69 (by kernel_rfl) rfl
theorem en70 : Enters Tryd.prog 70 := enters_of Tryd.func70 (by kernel_rfl) rfl
theorem en71 : Enters Tryd.prog 71 := enters_of Tryd.func71 (by kernel_rfl) rfl
theorem en72 : Enters Tryd.prog 72 := enters_of Tryd.func72 (by kernel_rfl) rfl
theorem en73 : Enters Tryd.prog 73 := enters_of Tryd.func73 (by kernel_rfl) rfl
theorem en74 : Enters Tryd.prog 74 := enters_of Tryd.func74 (by kernel_rfl) rfl
theorem en98 : Enters Tryd.prog 98 := enters_of Tryd.func98 (by kernel_rfl) rfl
theorem FFok : ∀ f, V.memB f FF = true → Enters Tryd.prog f :=
  V.memB_cons en2 <| V.memB_cons en3 <| V.memB_cons en4 <| V.memB_cons en5 <| V.memB_cons en6 <| V.memB_cons en7 <| V.memB_cons en8 <| V.memB_cons en9 <| V.memB_cons en10 <| V.memB_cons en11 <| V.memB_cons en12 <| V.memB_cons en13 <| V.memB_cons en14 <| V.memB_cons en15 <| V.memB_cons en16 <| V.memB_cons en17 <| V.memB_cons en18 <| V.memB_cons en19 <| V.memB_cons en20 <| V.memB_cons en21 <| V.memB_cons en22 <| V.memB_cons en23 <| V.memB_cons en24 <| V.memB_cons en25 <| V.memB_cons en26 <| V.memB_cons en27 <| V.memB_cons en28 <| V.memB_cons en29 <| V.memB_cons en30 <| V.memB_cons en31 <| V.memB_cons en32 <| V.memB_cons en33 <| V.memB_cons en34 <| V.memB_cons en35 <| V.memB_cons en36 <| V.memB_cons en37 <| V.memB_cons en38 <| V.memB_cons en39 <| V.memB_cons en40 <| V.memB_cons en41 <| V.memB_cons en42 <| V.memB_cons en43 <| V.memB_cons en44 <| V.memB_cons en45 <| V.memB_cons en46 <| V.memB_cons en47 <| V.memB_cons en48 <| V.memB_cons en49 <| V.memB_cons en50 <| V.memB_cons en51 <| V.memB_cons en52 <| V.memB_cons en53 <| V.memB_cons en54 <| V.memB_cons en55 <| V.memB_cons en56 <| V.memB_cons en57 <| V.memB_cons en58 <| V.memB_cons en59 <| V.memB_cons en60 <| V.memB_cons en61 <| V.memB_cons en62 <| V.memB_cons en63 <| V.memB_cons en64 <| V.memB_cons en65 <| V.memB_cons en66 <| V.memB_cons en67 <| V.memB_cons en68 <| V.memB_cons en69 <| V.memB_cons en70 <| V.memB_cons en71 <| V.memB_cons en72 <| V.memB_cons en73 <| V.memB_cons en74 <| V.memB_cons en98 <| V.memB_nil
theorem z1 : V.zeroC Tryd.prog 1 = some [.nilFunc] := by kernel_rfl
theorem z2 : V.zeroC Tryd.prog 2 = some [.int .i64 0] := by kernel_rfl
theorem z3 : V.zeroC Tryd.prog 3 = some [.int .i64 0] := by kernel_rfl
theorem z4 : V.zeroC Tryd.prog 4 = some [.bool false] := by kernel_rfl
theorem z5 : V.zeroC Tryd.prog 5 = some [.int .u8 0] := by kernel_rfl
theorem z6 : V.zeroC Tryd.prog 6 = some [.int .u8 0] := by kernel_rfl
theorem z7 : V.zeroC Tryd.prog 7 = some [.int .i64 0, .int .i64 0, .bool false, .int .u8 0] := by kernel_rfl
theorem z8 : V.zeroC Tryd.prog 8 = some [.int .i64 0, .int .i64 0, .bool false, .int .u8 0] := by kernel_rfl
theorem z9 : V.zeroC Tryd.prog 9 = some [.string ⟨#[]⟩] := by kernel_rfl
theorem z10 : V.zeroC Tryd.prog 10 = some [.string ⟨#[]⟩] := by kernel_rfl
theorem z11 : V.zeroC Tryd.prog 11 = some [.string ⟨#[]⟩] := by kernel_rfl
theorem z12 : V.zeroC Tryd.prog 12 = some [.int .u64 0] := by kernel_rfl
theorem z13 : V.zeroC Tryd.prog 13 = some [.string ⟨#[]⟩, .int .u64 0] := by kernel_rfl
theorem z14 : V.zeroC Tryd.prog 14 = some [.string ⟨#[]⟩, .int .u64 0] := by kernel_rfl
theorem z15 : V.zeroC Tryd.prog 15 = some [.pointer none] := by kernel_rfl
theorem z16 : V.zeroC Tryd.prog 16 = some [.pointer none] := by kernel_rfl
theorem z17 : V.zeroC Tryd.prog 17 = some [.pointer none] := by kernel_rfl
theorem z18 : V.zeroC Tryd.prog 18 = some [.pointer none] := by kernel_rfl
theorem z19 : V.zeroC Tryd.prog 19 = some [.pointer none] := by kernel_rfl
theorem z20 : V.zeroC Tryd.prog 20 = some [.nilIface] := by kernel_rfl
theorem z21 : V.zeroC Tryd.prog 21 = some [.int .i32 0] := by kernel_rfl
theorem z22 : V.zeroC Tryd.prog 22 = some [.slice none 0 0] := by kernel_rfl
theorem z23 : V.zeroC Tryd.prog 23 = some [.int .u8 0, .int .u8 0, .slice none 0 0] := by kernel_rfl
theorem z24 : V.zeroC Tryd.prog 24 = some [.int .u8 0, .int .u8 0, .slice none 0 0] := by kernel_rfl
theorem z26 : V.zeroC Tryd.prog 26 = some [.nilFunc] := by kernel_rfl
theorem z27 : V.zeroC Tryd.prog 27 = some [.nilFunc] := by kernel_rfl
theorem z28 : V.zeroC Tryd.prog 28 = some [.nilFunc] := by kernel_rfl
theorem z29 : V.zeroC Tryd.prog 29 = some [.int .i64 0, .int .i64 0, .slice none 0 0] := by kernel_rfl
theorem z30 : V.zeroC Tryd.prog 30 = some [.int .i64 0, .int .i64 0, .slice none 0 0, .int .i64 0, .int .i64 0, .slice none 0 0, .int .i64 0, .int .i64 0, .slice none 0 0, .int .i64 0, .int .i64 0, .slice none 0 0, .int .i64 0, .int .i64 0, .slice none 0 0] := by kernel_rfl
theorem z31 : V.zeroC Tryd.prog 31 = some [.int .i64 0] := by kernel_rfl
theorem z33 : V.zeroC Tryd.prog 33 = some [.nilFunc] := by kernel_rfl
theorem z34 : V.zeroC Tryd.prog 34 = some [.nilFunc] := by kernel_rfl
theorem z35 : V.zeroC Tryd.prog 35 = some [.nilFunc] := by kernel_rfl
theorem z36 : V.zeroC Tryd.prog 36 = some [.nilFunc] := by kernel_rfl
theorem z37 : V.zeroC Tryd.prog 37 = some [.nilFunc] := by kernel_rfl
theorem z38 : V.zeroC Tryd.prog 38 = some [.nilFunc] := by kernel_rfl
theorem z39 : V.zeroC Tryd.prog 39 = some [.nilFunc] := by kernel_rfl
theorem z40 : V.zeroC Tryd.prog 40 = some [.int .u64 0] := by kernel_rfl
theorem z41 : V.zeroC Tryd.prog 41 = some [.int .u64 0, .int .u64 0, .int .u64 0] := by kernel_rfl
theorem z42 : V.zeroC Tryd.prog 42 = some [.int .u64 0, .int .u64 0, .int .u64 0] := by kernel_rfl
theorem z43 : V.zeroC Tryd.prog 43 = some [.nilFunc] := by kernel_rfl
theorem z44 : V.zeroC Tryd.prog 44 = some [.int .i64 0, .int .i64 0, .int .u64 0, .int .u64 0, .int .u64 0] := by kernel_rfl
theorem z45 : V.zeroC Tryd.prog 45 = some [.int .i64 0, .int .i64 0, .int .u64 0, .int .u64 0, .int .u64 0, .int .i64 0, .int .i64 0, .int .u64 0, .int .u64 0, .int .u64 0, .int .i64 0, .int .i64 0, .int .u64 0, .int .u64 0, .int .u64 0] := by kernel_rfl
theorem z46 : V.zeroC Tryd.prog 46 = some [.slice none 0 0] := by kernel_rfl
theorem z48 : V.zeroC Tryd.prog 48 = some [.nilFunc] := by kernel_rfl
theorem z50 : V.zeroC Tryd.prog 50 = some [.nilFunc] := by kernel_rfl
theorem z51 : V.zeroC Tryd.prog 51 = some [.nilFunc] := by kernel_rfl
theorem z53 : V.zeroC Tryd.prog 53 = some [.nilFunc] := by kernel_rfl
theorem z54 : V.zeroC Tryd.prog 54 = some [.nilFunc] := by kernel_rfl
theorem z55 : V.zeroC Tryd.prog 55 = some [.int .i64 0, .int .i64 0] := by kernel_rfl
theorem z56 : V.zeroC Tryd.prog 56 = some [.nilFunc] := by kernel_rfl
theorem z57 : V.zeroC Tryd.prog 57 = some [.int .u8 0, .int .u8 0, .string ⟨#[]⟩] := by kernel_rfl
theorem z58 : V.zeroC Tryd.prog 58 = some [.int .u8 0, .int .u8 0, .string ⟨#[]⟩] := by kernel_rfl
theorem z59 : V.zeroC Tryd.prog 59 = some [.int .u8 0, .int .u8 0, .string ⟨#[]⟩, .int .u8 0, .int .u8 0, .string ⟨#[]⟩] := by kernel_rfl
theorem z60 : V.zeroC Tryd.prog 60 = some [.slice none 0 0, .slice none 0 0, .slice none 0 0] := by kernel_rfl
theorem z61 : V.zeroC Tryd.prog 61 = some (List.replicate 12 (.slice none 0 0)) := by kernel_rfl
theorem z63 : V.zeroC Tryd.prog 63 = some [.nilFunc] := by kernel_rfl
theorem z65 : V.zeroC Tryd.prog 65 = some [.nilFunc] := by kernel_rfl
theorem z66 : V.zeroC Tryd.prog 66 = some [.nilFunc] := by kernel_rfl
theorem z67 : V.zeroC Tryd.prog 67 = some [.nilFunc] := by kernel_rfl
theorem z68 : V.zeroC Tryd.prog 68 = some [.nilFunc] := by kernel_rfl
theorem z69 : V.zeroC Tryd.prog 69 = some [.nilFunc] := by kernel_rfl
theorem z70 : V.zeroC Tryd.prog 70 = some [.nilFunc] := by kernel_rfl
theorem z71 : V.zeroC Tryd.prog 71 = some [.nilFunc] := by kernel_rfl
theorem z72 : V.zeroC Tryd.prog 72 = some [.nilFunc] := by kernel_rfl
theorem z73 : V.zeroC Tryd.prog 73 = some [.nilFunc] := by kernel_rfl
theorem z74 : V.zeroC Tryd.prog 74 = some [.int .i64 0, .int .i64 0] := by kernel_rfl
theorem z75 : V.zeroC Tryd.prog 75 = some [.int .i64 0, .int .i64 0] := by kernel_rfl
theorem z76 : V.zeroC Tryd.prog 76 = some [.nilFunc] := by kernel_rfl
theorem z77 : V.zeroC Tryd.prog 77 = some [.nilFunc] := by kernel_rfl
theorem z78 : V.zeroC Tryd.prog 78 = some [.nilFunc] := by kernel_rfl
theorem z79 : V.zeroC Tryd.prog 79 = some [.nilFunc] := by kernel_rfl
theorem z80 : V.zeroC Tryd.prog 80 = some [.nilFunc] := by kernel_rfl
theorem z81 : V.zeroC Tryd.prog 81 = some [.slice none 0 0] := by kernel_rfl
theorem z82 : V.zeroC Tryd.prog 82 = some [.nilFunc] := by kernel_rfl
theorem z83 : V.zeroC Tryd.prog 83 = some [.nilFunc] := by kernel_rfl
theorem z84 : V.zeroC Tryd.prog 84 = some [.nilFunc] := by kernel_rfl
theorem z85 : V.zeroC Tryd.prog 85 = some [.nilFunc] := by kernel_rfl
theorem z86 : V.zeroC Tryd.prog 86 = some [.nilFunc] := by kernel_rfl
theorem z87 : V.zeroC Tryd.prog 87 = some [.nilFunc] := by kernel_rfl
theorem z88 : V.zeroC Tryd.prog 88 = some [.nilFunc] := by kernel_rfl
theorem z89 : V.zeroC Tryd.prog 89 = some [.pointer none] := by kernel_rfl
theorem z90 : V.zeroC Tryd.prog 90 = some [.nilFunc] := by kernel_rfl
theorem z91 : V.zeroC Tryd.prog 91 = some [.int .i64 0, .int .i64 0, .slice none 0 0, .slice none 0 0] := by kernel_rfl
theorem z92 : V.zeroC Tryd.prog 92 = some [.int .i64 0, .int .i64 0, .slice none 0 0, .slice none 0 0] := by kernel_rfl
theorem z94 : V.zeroC Tryd.prog 94 = some [.nilFunc] := by kernel_rfl
theorem z95 : V.zeroC Tryd.prog 95 = some [.nilFunc] := by kernel_rfl
theorem z96 : V.zeroC Tryd.prog 96 = some [.nilFunc] := by kernel_rfl
theorem z97 : V.zeroC Tryd.prog 97 = some [.int .u32 0] := by kernel_rfl
theorem z98 : V.zeroC Tryd.prog 98 = some [.nilFunc] := by kernel_rfl
theorem z99 : V.zeroC Tryd.prog 99 = some [.int .u64 0] := by kernel_rfl
theorem z101 : V.zeroC Tryd.prog 101 = some [.nilFunc] := by kernel_rfl
theorem z102 : V.zeroC Tryd.prog 102 = some [.nilFunc] := by kernel_rfl
theorem z103 : V.zeroC Tryd.prog 103 = some [.pointer none] := by kernel_rfl
theorem z104 : V.zeroC Tryd.prog 104 = some [.pointer none, .slice none 0 0] := by kernel_rfl
theorem z105 : V.zeroC Tryd.prog 105 = some [.pointer none, .slice none 0 0] := by kernel_rfl
theorem z106 : V.zeroC Tryd.prog 106 = some [.nilFunc] := by kernel_rfl
theorem z107 : V.zeroC Tryd.prog 107 = some [.nilIface] := by kernel_rfl
theorem z108 : V.zeroC Tryd.prog 108 = some [.nilIface] := by kernel_rfl
theorem z110 : V.zeroC Tryd.prog 110 = some [.nilFunc] := by kernel_rfl
theorem z111 : V.zeroC Tryd.prog 111 = some [.nilFunc] := by kernel_rfl
theorem z112 : V.zeroC Tryd.prog 112 = some [.nilFunc] := by kernel_rfl
theorem z113 : V.zeroC Tryd.prog 113 = some [.nilFunc] := by kernel_rfl
theorem z114 : V.zeroC Tryd.prog 114 = some [.nilFunc] := by kernel_rfl
theorem z115 : V.zeroC Tryd.prog 115 = some [.nilFunc] := by kernel_rfl
theorem z116 : V.zeroC Tryd.prog 116 = some [.nilFunc] := by kernel_rfl
theorem z117 : V.zeroC Tryd.prog 117 = some [.nilFunc] := by kernel_rfl
theorem z118 : V.zeroC Tryd.prog 118 = some [.slice none 0 0] := by kernel_rfl
theorem z119 : V.zeroC Tryd.prog 119 = some [.nilFunc] := by kernel_rfl
theorem z120 : V.zeroC Tryd.prog 120 = some [.nilFunc] := by kernel_rfl
theorem z121 : V.zeroC Tryd.prog 121 = some [.nilFunc] := by kernel_rfl
theorem z123 : V.zeroC Tryd.prog 123 = some [.nilFunc] := by kernel_rfl
theorem z125 : V.zeroC Tryd.prog 125 = some [.nilFunc] := by kernel_rfl
theorem z126 : V.zeroC Tryd.prog 126 = some [.pointer none] := by kernel_rfl
theorem z127 : V.zeroC Tryd.prog 127 = some [.nilFunc] := by kernel_rfl
theorem z128 : V.zeroC Tryd.prog 128 = some [.nilFunc] := by kernel_rfl
theorem z129 : V.zeroC Tryd.prog 129 = some [.pointer none] := by kernel_rfl
theorem z130 : V.zeroC Tryd.prog 130 = some [.nilFunc] := by kernel_rfl
theorem z131 : V.zeroC Tryd.prog 131 = some (List.replicate 32 (.int .u8 0)) := by kernel_rfl
theorem z132 : V.zeroC Tryd.prog 132 = some (List.replicate 64 (.int .u8 0)) := by kernel_rfl
theorem z133 : V.zeroC Tryd.prog 133 = some [.pointer none, .pointer none, .pointer none, .string ⟨#[]⟩] := by kernel_rfl
theorem z134 : V.zeroC Tryd.prog 134 = some [.pointer none, .pointer none, .pointer none, .string ⟨#[]⟩] := by kernel_rfl
theorem z135 : V.zeroC Tryd.prog 135 = some [] := by kernel_rfl
theorem z136 : V.zeroC Tryd.prog 136 = some [] := by kernel_rfl
theorem z137 : V.zeroC Tryd.prog 137 = some [] := by kernel_rfl
theorem z138 : V.zeroC Tryd.prog 138 = some [.int .u8 0] := by kernel_rfl
theorem z139 : V.zeroC Tryd.prog 139 = some [.int .u8 0] := by kernel_rfl
theorem z140 : V.zeroC Tryd.prog 140 = some [.nilFunc] := by kernel_rfl
theorem z141 : V.zeroC Tryd.prog 141 = some [.int .i32 0] := by kernel_rfl
theorem z142 : V.zeroC Tryd.prog 142 = some [.int .i32 0] := by kernel_rfl
theorem z143 : V.zeroC Tryd.prog 143 = some [.int .u64 0, .int .u64 0, .int .u32 0, .int .u8 0, .int .u8 0, .int .u8 0, .int .u8 0, .nilFunc, .pointer none, .int .i32 0, .int .i32 0] := by kernel_rfl
theorem z144 : V.zeroC Tryd.prog 144 = some [.int .u64 0, .int .u64 0, .int .u32 0, .int .u8 0, .int .u8 0, .int .u8 0, .int .u8 0, .nilFunc, .pointer none, .int .i32 0, .int .i32 0] := by kernel_rfl
theorem sl22 : V.slOk Tryd.prog 22 9 1 16 = true := by kernel_rfl
theorem sl46 : V.slOk Tryd.prog 46 55 2 16 = true := by kernel_rfl
theorem sl81 : V.slOk Tryd.prog 81 5 1 1 = true := by kernel_rfl
theorem sl118 : V.slOk Tryd.prog 118 22 1 24 = true := by kernel_rfl
theorem mixed : Tryd.prog.follows .mixedOrders = true := by kernel_rfl
end Go.Proofs.YtpiilfamfinieaaDoor
