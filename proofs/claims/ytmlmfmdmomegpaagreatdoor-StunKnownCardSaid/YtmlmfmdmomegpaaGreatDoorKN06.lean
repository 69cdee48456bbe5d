/- Written by a program of mine off the seat's translation: the types' table, the functions that have a body. -/
/- Numbers of the library's functions in this seat's translation; written by a program of mine off the translation. -/
/- Repeated strings. Own work, over the kit's contract. -/
/- The last step of a law: from a contract to the given row. Own work, but for one lemma of the guide's that is meant to be copied (post_of_below). -/
/- Data that come in: read by a shape. Own work. No program is named here. -/
/- Structs and arrays that are compared. Own work, over the kit's law for deep keys. No program is named here. -/
/- Plain mathematics: numbers, bits, octets. No program. -/
/- Chapter 02: digests, as numbers; mathematics. No program. -/
/- Chapter 02: small functions, walked: Mul64, RotateLeft32 to the left, Clone, HasPrefix. -/
import Derived.Test.YtmlmfmdmomegpaaGreatDoorProg
import Derived.Test.YtmlmfmdmomegpaaGreatDoorKN03
import Derived.Shelf.Strings.Repeat
import Derived.Shelf.Bits.Mul64
import Derived.Test.YtmlmfmdmomegpaaGreatDoorKN05
import Derived.Lib.Repeat
import Derived.Test.YtmlmfmdmomegpaaGreatDoorKN04
import Derived.Below
import Derived.ChangeSame
import Derived.OpenShut
import Derived.ChangeSlices
import Derived.DeepKeys
import Derived.Laws.StructEq
import Derived.Lib.UnsafeStr
namespace Go.Proofs.YtmlmfmdmomegpaaGreatDoor
open Go.RowKit
def TT : V.Tab := [
  (0, ⟨.other, 1⟩),
  (1, ⟨.other, 1⟩),
  (2, ⟨.int .i64, 1⟩),
  (3, ⟨.int .i64, 1⟩),
  (4, ⟨.bool, 1⟩),
  (5, ⟨.int .u8, 1⟩),
  (6, ⟨.int .u8, 1⟩),
  (7, ⟨.struct [(0, 2), (1, 3), (2, 4), (3, 6)], 4⟩),
  (8, ⟨.struct [(0, 2), (1, 3), (2, 4), (3, 6)], 4⟩),
  (9, ⟨.str, 1⟩),
  (10, ⟨.str, 1⟩),
  (11, ⟨.str, 1⟩),
  (12, ⟨.int .u64, 1⟩),
  (13, ⟨.struct [(0, 9), (1, 12)], 2⟩),
  (14, ⟨.struct [(0, 9), (1, 12)], 2⟩),
  (15, ⟨.ptr 282, 1⟩),
  (16, ⟨.ptr 285, 1⟩),
  (17, ⟨.ptr 292, 1⟩),
  (18, ⟨.struct [(0, 17)], 1⟩),
  (19, ⟨.struct [(0, 17)], 1⟩),
  (20, ⟨.other, 1⟩),
  (21, ⟨.int .i32, 1⟩),
  (22, ⟨.slice 54, 1⟩),
  (23, ⟨.struct [(0, 3), (1, 3), (2, 9), (3, 22)], 4⟩),
  (24, ⟨.struct [(0, 3), (1, 3), (2, 9), (3, 22)], 4⟩),
  (25, ⟨.int .u16, 1⟩),
  (26, ⟨.slice 99, 1⟩),
  (27, ⟨.struct [(0, 5), (1, 25), (2, 9), (3, 26)], 4⟩),
  (28, ⟨.struct [(0, 5), (1, 25), (2, 9), (3, 26)], 4⟩),
  (29, ⟨.struct [(0, 5), (1, 5), (2, 3), (3, 9)], 4⟩),
  (30, ⟨.struct [(0, 5), (1, 5), (2, 3), (3, 9)], 4⟩),
  (31, ⟨.struct [(0, 25), (1, 5), (2, 9)], 3⟩),
  (32, ⟨.struct [(0, 25), (1, 5), (2, 9)], 3⟩),
  (33, ⟨.other, 1⟩),
  (34, ⟨.arr 4 24, 16⟩),
  (35, ⟨.other, 1⟩),
  (36, ⟨.int .i64, 1⟩),
  (37, ⟨.other, 1⟩),
  (38, ⟨.other, 1⟩),
  (39, ⟨.other, 1⟩),
  (40, ⟨.other, 1⟩),
  (41, ⟨.other, 1⟩),
  (42, ⟨.other, 1⟩),
  (43, ⟨.arr 5 9, 5⟩),
  (44, ⟨.other, 1⟩),
  (45, ⟨.other, 1⟩),
  (46, ⟨.other, 1⟩),
  (47, ⟨.other, 1⟩),
  (48, ⟨.slice 3, 1⟩),
  (49, ⟨.other, 1⟩),
  (50, ⟨.other, 1⟩),
  (51, ⟨.other, 1⟩),
  (52, ⟨.other, 1⟩),
  (53, ⟨.struct [(0, 3), (1, 9)], 2⟩),
  (54, ⟨.struct [(0, 3), (1, 9)], 2⟩),
  (55, ⟨.other, 1⟩),
  (56, ⟨.other, 1⟩),
  (57, ⟨.other, 1⟩),
  (58, ⟨.other, 1⟩),
  (59, ⟨.other, 1⟩),
  (60, ⟨.other, 1⟩),
  (61, ⟨.other, 1⟩),
  (62, ⟨.struct [(0, 9), (1, 3)], 2⟩),
  (63, ⟨.struct [(0, 9), (1, 3)], 2⟩),
  (64, ⟨.arr 8 25, 8⟩),
  (65, ⟨.struct [(0, 4), (1, 64), (9, 25)], 10⟩),
  (66, ⟨.struct [(0, 4), (1, 64), (9, 25)], 10⟩),
  (67, ⟨.other, 1⟩),
  (68, ⟨.arr 2 9, 2⟩),
  (69, ⟨.arr 2 63, 4⟩),
  (70, ⟨.other, 1⟩),
  (71, ⟨.other, 1⟩),
  (72, ⟨.other, 1⟩),
  (73, ⟨.arr 4 9, 4⟩),
  (74, ⟨.other, 1⟩),
  (75, ⟨.other, 1⟩),
  (76, ⟨.other, 1⟩),
  (77, ⟨.other, 1⟩),
  (78, ⟨.int .u64, 1⟩),
  (79, ⟨.arr 2 3, 2⟩),
  (80, ⟨.other, 1⟩),
  (81, ⟨.other, 1⟩),
  (82, ⟨.arr 3 9, 3⟩),
  (83, ⟨.other, 1⟩),
  (84, ⟨.other, 1⟩),
  (85, ⟨.other, 1⟩),
  (86, ⟨.other, 1⟩),
  (87, ⟨.other, 1⟩),
  (88, ⟨.slice 5, 1⟩),
  (89, ⟨.other, 1⟩),
  (90, ⟨.other, 1⟩),
  (91, ⟨.other, 1⟩),
  (92, ⟨.other, 1⟩),
  (93, ⟨.other, 1⟩),
  (94, ⟨.other, 1⟩),
  (95, ⟨.other, 1⟩),
  (96, ⟨.other, 1⟩),
  (97, ⟨.other, 1⟩),
  (98, ⟨.struct [(0, 5), (1, 25), (2, 9)], 3⟩),
  (99, ⟨.struct [(0, 5), (1, 25), (2, 9)], 3⟩),
  (100, ⟨.other, 1⟩),
  (101, ⟨.other, 1⟩),
  (102, ⟨.other, 1⟩),
  (103, ⟨.other, 1⟩),
  (104, ⟨.struct [(0, 48), (1, 48)], 2⟩),
  (105, ⟨.struct [(0, 48), (1, 48)], 2⟩),
  (106, ⟨.other, 1⟩),
  (107, ⟨.slice 24, 1⟩),
  (108, ⟨.other, 1⟩),
  (109, ⟨.other, 1⟩),
  (110, ⟨.other, 1⟩),
  (111, ⟨.other, 1⟩),
  (112, ⟨.other, 1⟩),
  (113, ⟨.other, 1⟩),
  (114, ⟨.arr 5 24, 20⟩),
  (115, ⟨.other, 1⟩),
  (116, ⟨.other, 1⟩),
  (117, ⟨.other, 1⟩),
  (118, ⟨.other, 1⟩),
  (119, ⟨.other, 1⟩),
  (120, ⟨.other, 1⟩),
  (121, ⟨.other, 1⟩),
  (122, ⟨.struct [], 0⟩),
  (123, ⟨.struct [], 0⟩),
  (124, ⟨.other, 1⟩),
  (125, ⟨.struct [(0, 9), (1, 3)], 2⟩),
  (126, ⟨.struct [(0, 9), (1, 3)], 2⟩),
  (127, ⟨.other, 1⟩),
  (128, ⟨.other, 1⟩),
  (129, ⟨.other, 1⟩),
  (130, ⟨.other, 1⟩),
  (131, ⟨.other, 1⟩),
  (132, ⟨.other, 1⟩),
  (133, ⟨.other, 1⟩),
  (134, ⟨.other, 1⟩),
  (135, ⟨.other, 1⟩),
  (136, ⟨.other, 1⟩),
  (137, ⟨.other, 1⟩),
  (138, ⟨.other, 1⟩),
  (139, ⟨.other, 1⟩),
  (140, ⟨.other, 1⟩),
  (141, ⟨.arr 20 3, 20⟩),
  (142, ⟨.arr 8 3, 8⟩),
  (143, ⟨.arr 6 3, 6⟩),
  (144, ⟨.other, 1⟩),
  (145, ⟨.arr 4 3, 4⟩),
  (146, ⟨.other, 1⟩),
  (147, ⟨.other, 1⟩),
  (148, ⟨.other, 1⟩),
  (149, ⟨.other, 1⟩),
  (150, ⟨.other, 1⟩),
  (151, ⟨.other, 1⟩),
  (152, ⟨.other, 1⟩),
  (153, ⟨.other, 1⟩),
  (154, ⟨.other, 1⟩),
  (155, ⟨.other, 1⟩),
  (156, ⟨.int .u32, 1⟩),
  (157, ⟨.arr 8 156, 8⟩),
  (158, ⟨.arr 64 156, 64⟩),
  (159, ⟨.struct [(0, 157), (8, 158)], 72⟩),
  (160, ⟨.struct [(0, 157), (8, 158)], 72⟩),
  (161, ⟨.other, 1⟩),
  (162, ⟨.other, 1⟩),
  (163, ⟨.other, 1⟩),
  (164, ⟨.other, 1⟩),
  (165, ⟨.other, 1⟩),
  (166, ⟨.other, 1⟩),
  (167, ⟨.other, 1⟩),
  (168, ⟨.other, 1⟩),
  (169, ⟨.other, 1⟩),
  (170, ⟨.ptr 172, 1⟩),
  (171, ⟨.struct [(0, 170), (1, 88)], 2⟩),
  (172, ⟨.struct [(0, 170), (1, 88)], 2⟩),
  (173, ⟨.other, 1⟩),
  (174, ⟨.other, 1⟩),
  (175, ⟨.other, 1⟩),
  (176, ⟨.other, 1⟩),
  (177, ⟨.other, 1⟩),
  (178, ⟨.other, 1⟩),
  (179, ⟨.other, 1⟩),
  (180, ⟨.struct [(0, 172)], 2⟩),
  (181, ⟨.struct [(0, 172)], 2⟩),
  (182, ⟨.other, 1⟩),
  (183, ⟨.other, 1⟩),
  (184, ⟨.other, 1⟩),
  (185, ⟨.other, 1⟩),
  (186, ⟨.other, 1⟩),
  (187, ⟨.other, 1⟩),
  (188, ⟨.arr 16 3, 16⟩),
  (189, ⟨.struct [(0, 9)], 1⟩),
  (190, ⟨.struct [(0, 9)], 1⟩),
  (191, ⟨.other, 1⟩),
  (192, ⟨.other, 1⟩),
  (193, ⟨.other, 1⟩),
  (194, ⟨.other, 1⟩),
  (195, ⟨.slice 9, 1⟩),
  (196, ⟨.other, 1⟩),
  (197, ⟨.other, 1⟩),
  (198, ⟨.other, 1⟩),
  (199, ⟨.other, 1⟩),
  (200, ⟨.other, 1⟩),
  (201, ⟨.arr 256 156, 256⟩),
  (202, ⟨.other, 1⟩),
  (203, ⟨.int .u64, 1⟩),
  (204, ⟨.other, 1⟩),
  (205, ⟨.other, 1⟩),
  (206, ⟨.other, 1⟩),
  (207, ⟨.other, 1⟩),
  (208, ⟨.other, 1⟩),
  (209, ⟨.other, 1⟩),
  (210, ⟨.other, 1⟩),
  (211, ⟨.ptr 5, 1⟩),
  (212, ⟨.arr 16 5, 16⟩),
  (213, ⟨.other, 1⟩),
  (214, ⟨.ptr 181, 1⟩),
  (215, ⟨.struct [(0, 126)], 2⟩),
  (216, ⟨.struct [(0, 126)], 2⟩),
  (217, ⟨.other, 1⟩),
  (218, ⟨.other, 1⟩),
  (219, ⟨.other, 1⟩),
  (220, ⟨.other, 1⟩),
  (221, ⟨.arr 256 4, 256⟩),
  (222, ⟨.arr 256 4, 256⟩),
  (223, ⟨.other, 1⟩),
  (224, ⟨.other, 1⟩),
  (225, ⟨.other, 1⟩),
  (226, ⟨.ptr 222, 1⟩),
  (227, ⟨.other, 1⟩),
  (228, ⟨.other, 1⟩),
  (229, ⟨.struct [(0, 157), (8, 9), (9, 3)], 10⟩),
  (230, ⟨.struct [(0, 157), (8, 9), (9, 3)], 10⟩),
  (231, ⟨.struct [(0, 230)], 10⟩),
  (232, ⟨.struct [(0, 230)], 10⟩),
  (233, ⟨.other, 1⟩),
  (234, ⟨.other, 1⟩),
  (235, ⟨.other, 1⟩),
  (236, ⟨.other, 1⟩),
  (237, ⟨.other, 1⟩),
  (238, ⟨.other, 1⟩),
  (239, ⟨.other, 1⟩),
  (240, ⟨.other, 1⟩),
  (241, ⟨.other, 1⟩),
  (242, ⟨.other, 1⟩),
  (243, ⟨.other, 1⟩),
  (244, ⟨.other, 1⟩),
  (245, ⟨.other, 1⟩),
  (246, ⟨.other, 1⟩),
  (247, ⟨.ptr 232, 1⟩),
  (248, ⟨.arr 3 156, 3⟩),
  (249, ⟨.other, 1⟩),
  (250, ⟨.other, 1⟩),
  (251, ⟨.slice 4, 1⟩),
  (252, ⟨.other, 1⟩),
  (253, ⟨.other, 1⟩),
  (254, ⟨.other, 1⟩),
  (255, ⟨.arr 32 4, 32⟩),
  (256, ⟨.other, 1⟩),
  (257, ⟨.other, 1⟩),
  (258, ⟨.other, 1⟩),
  (259, ⟨.other, 1⟩),
  (260, ⟨.other, 1⟩),
  (261, ⟨.other, 1⟩),
  (262, ⟨.other, 1⟩),
  (263, ⟨.other, 1⟩),
  (264, ⟨.other, 1⟩),
  (265, ⟨.arr 256 5, 256⟩),
  (266, ⟨.struct [(0, 5), (1, 5)], 2⟩),
  (267, ⟨.struct [(0, 5), (1, 5)], 2⟩),
  (268, ⟨.arr 16 267, 32⟩),
  (269, ⟨.other, 1⟩),
  (270, ⟨.other, 1⟩),
  (271, ⟨.other, 1⟩),
  (272, ⟨.other, 1⟩),
  (273, ⟨.arr 32 4, 32⟩),
  (274, ⟨.other, 1⟩),
  (275, ⟨.other, 1⟩),
  (276, ⟨.other, 1⟩),
  (277, ⟨.other, 1⟩),
  (278, ⟨.other, 1⟩),
  (279, ⟨.other, 1⟩),
  (280, ⟨.other, 1⟩),
  (281, ⟨.struct [(0, 17), (1, 17), (2, 17), (3, 9)], 4⟩),
  (282, ⟨.struct [(0, 17), (1, 17), (2, 17), (3, 9)], 4⟩),
  (283, ⟨.arr 0 16, 0⟩),
  (284, ⟨.struct [(0, 283)], 0⟩),
  (285, ⟨.struct [(0, 283)], 0⟩),
  (286, ⟨.int .u8, 1⟩),
  (287, ⟨.int .u8, 1⟩),
  (288, ⟨.other, 1⟩),
  (289, ⟨.int .i32, 1⟩),
  (290, ⟨.int .i32, 1⟩),
  (291, ⟨.struct [(0, 12), (1, 12), (2, 156), (3, 286), (4, 5), (5, 5), (6, 287), (7, 288), (8, 211), (9, 289), (10, 290)], 11⟩),
  (292, ⟨.struct [(0, 12), (1, 12), (2, 156), (3, 286), (4, 5), (5, 5), (6, 287), (7, 288), (8, 211), (9, 289), (10, 290)], 11⟩)]
theorem TTok : V.tabOk Tryz.prog TT = true := by kernel_rfl
def FF : List Nat := [2, 3, 4, 5, 6, 7, 8, 9, 10, 11, 12, 13, 14, 15, 16, 17, 18, 19, 20, 21, 22, 23, 24, 25, 26, 27, 28, 29, 30, 31, 32, 33, 34, 35, 36, 37, 38, 39, 40, 41, 42, 43, 44, 45, 46, 47, 48, 49, 50, 51, 52, 53, 54, 55, 56, 57, 58, 59, 60, 61, 62, 63, 64, 65, 66, 67, 68, 69, 70, 71, 72, 73, 74, 75, 76, 77, 78, 79, 80, 81, 82, 83, 84, 85, 86, 87, 88, 89, 90, 91, 92, 93, 94, 95, 96, 97, 98, 99, 100, 101, 102, 103, 104, 105, 106, 107, 108, 109, 110, 111, 112, 113, 114, 115, 116, 117, 118, 119, 120, 121, 122, 123, 124, 125, 126, 127, 128, 129, 130, 131, 132, 133, 134, 135, 136, 137, 138, 139, 140, 141, 142, 143, 144, 145, 146, 147, 148, 149, 150, 151, 152, 153, 154, 155, 156, 157, 159, 160, 161, 164, 165, 166, 167, 168, 169, 170, 171, 172, 173, 174, 175, 176, 177, 178, 179, 180, 181, 182, 183, 184, 185, 186, 187, 188, 189, 190, 192, 193, 194, 195, 196, 197, 198, 199, 200, 201, 202, 226]
theorem en2 : Enters Tryz.prog 2 := enters_of Tryz.func2 (by kernel_rfl) rfl
theorem en3 : Enters Tryz.prog 3 := enters_of Tryz.func3 (by kernel_rfl) rfl
theorem en4 : Enters Tryz.prog 4 := enters_of Tryz.func4 (by kernel_rfl) rfl
theorem en5 : Enters Tryz.prog 5 := enters_of Tryz.func5 (by kernel_rfl) rfl
theorem en6 : Enters Tryz.prog 6 := enters_of Tryz.func6 (by kernel_rfl) rfl
theorem en7 : Enters Tryz.prog 7 := enters_of Tryz.func7 (by kernel_rfl) rfl
theorem en8 : Enters Tryz.prog 8 := enters_of Tryz.func8 (by kernel_rfl) rfl
theorem en9 : Enters Tryz.prog 9 := enters_of Tryz.func9 (by kernel_rfl) rfl
theorem en10 : Enters Tryz.prog 10 := enters_of Tryz.func10 (by kernel_rfl) rfl
theorem en11 : Enters Tryz.prog 11 := enters_of Tryz.func11 (by kernel_rfl) rfl
theorem en12 : Enters Tryz.prog 12 := enters_of Tryz.func12 (by kernel_rfl) rfl
theorem en13 : Enters Tryz.prog 13 := enters_of Tryz.func13 (by kernel_rfl) rfl
theorem en14 : Enters Tryz.prog 14 := enters_of Tryz.func14 (by kernel_rfl) rfl
theorem en15 : Enters Tryz.prog 15 := enters_of Tryz.func15 (by kernel_rfl) rfl
theorem en16 : Enters Tryz.prog 16 := enters_of Tryz.func16 (by kernel_rfl) rfl
theorem en17 : Enters Tryz.prog 17 := enters_of Tryz.func17 (by kernel_rfl) rfl
theorem en18 : Enters Tryz.prog 18 := enters_of Tryz.func18 (by kernel_rfl) rfl
theorem en19 : Enters Tryz.prog 19 := enters_of Tryz.func19 (by kernel_rfl) rfl
theorem en20 : Enters Tryz.prog 20 := enters_of Tryz.func20 (by kernel_rfl) rfl
theorem en21 : Enters Tryz.prog 21 := enters_of Tryz.func21 (by kernel_rfl) rfl
theorem en22 : Enters Tryz.prog 22 := enters_of Tryz.func22 (by kernel_rfl) rfl
theorem en23 : Enters Tryz.prog 23 := enters_of Tryz.func23 (by kernel_rfl) rfl
theorem en24 : Enters Tryz.prog 24 := enters_of Tryz.func24 (by kernel_rfl) rfl
theorem en25 : Enters Tryz.prog 25 := enters_of Tryz.func25 (by kernel_rfl) rfl
theorem en26 : Enters Tryz.prog 26 := enters_of Tryz.func26 (by kernel_rfl) rfl
theorem en27 : Enters Tryz.prog 27 := enters_of Tryz.func27 (by kernel_rfl) rfl
theorem en28 : Enters Tryz.prog 28 := enters_of Tryz.func28 (by kernel_rfl) rfl
theorem en29 : Enters Tryz.prog 29 := enters_of Tryz.func29 (by kernel_rfl) rfl
theorem en30 : Enters Tryz.prog 30 := enters_of Tryz.func30 (by kernel_rfl) rfl
theorem en31 : Enters Tryz.prog 31 := enters_of Tryz.func31 (by kernel_rfl) rfl
theorem en32 : Enters Tryz.prog 32 := enters_of Tryz.func32 (by kernel_rfl) rfl
theorem en33 : Enters Tryz.prog 33 := enters_of Tryz.func33 (by kernel_rfl) rfl
theorem en34 : Enters Tryz.prog 34 := enters_of Tryz.func34 (by kernel_rfl) rfl
theorem en35 : Enters Tryz.prog 35 := enters_of Tryz.func35 (by kernel_rfl) rfl
theorem en36 : Enters Tryz.prog 36 := enters_of Tryz.func36 (by kernel_rfl) rfl
theorem en37 : Enters Tryz.prog 37 := enters_of Tryz.func37 (by kernel_rfl) rfl
theorem en38 : Enters Tryz.prog 38 := enters_of Tryz.func38 (by kernel_rfl) rfl
theorem en39 : Enters Tryz.prog 39 := enters_of Tryz.func39 (by kernel_rfl) rfl
theorem en40 : Enters Tryz.prog 40 := enters_of Tryz.func40 (by kernel_rfl) rfl
theorem en41 : Enters Tryz.prog 41 := enters_of Tryz.func41 (by kernel_rfl) rfl
theorem en42 : Enters Tryz.prog 42 := enters_of Tryz.func42 (by kernel_rfl) rfl
theorem en43 : Enters Tryz.prog 43 := enters_of Tryz.func43 (by kernel_rfl) rfl
theorem en44 : Enters Tryz.prog 44 := enters_of Tryz.func44 (by kernel_rfl) rfl
theorem en45 : Enters Tryz.prog 45 := enters_of Tryz.func45 (by kernel_rfl) rfl
theorem en46 : Enters Tryz.prog 46 := enters_of Tryz.func46 (by kernel_rfl) rfl
theorem en47 : Enters Tryz.prog 47 := enters_of Tryz.func47 (by kernel_rfl) rfl
theorem en48 : Enters Tryz.prog 48 := enters_of Tryz.func48 (by kernel_rfl) rfl
theorem en49 : Enters Tryz.prog 49 := enters_of Tryz.func49 (by kernel_rfl) rfl
theorem en50 : Enters Tryz.prog 50 := enters_of Tryz.func50 (by kernel_rfl) rfl
theorem en51 : Enters Tryz.prog 51 := enters_of Tryz.func51 (by kernel_rfl) rfl
theorem en52 : Enters Tryz.prog 52 := enters_of Tryz.func52 (by kernel_rfl) rfl
theorem en53 : Enters Tryz.prog 53 := enters_of Tryz.func53 (by kernel_rfl) rfl
theorem en54 : Enters Tryz.prog 54 := enters_of Tryz.func54 (by kernel_rfl) rfl
theorem en55 : Enters Tryz.prog 55 := enters_of Tryz.func55 (by kernel_rfl) rfl
theorem en56 : Enters Tryz.prog 56 := enters_of Tryz.func56 (by kernel_rfl) rfl
theorem en57 : Enters Tryz.prog 57 := enters_of Tryz.func57 (by kernel_rfl) rfl
theorem en58 : Enters Tryz.prog 58 := enters_of Tryz.func58 (by kernel_rfl) rfl
theorem en59 : Enters Tryz.prog 59 := enters_of Tryz.func59 (by kernel_rfl) rfl
theorem en60 : Enters Tryz.prog 60 := enters_of Tryz.func60 (by kernel_rfl) rfl
theorem en61 : Enters Tryz.prog 61 := enters_of Tryz.func61 (by kernel_rfl) rfl
theorem en62 : Enters Tryz.prog 62 := enters_of Tryz.func62 (by kernel_rfl) rfl
theorem en63 : Enters Tryz.prog 63 := enters_of Tryz.func63 (by kernel_rfl) rfl
theorem en64 : Enters Tryz.prog 64 := enters_of Tryz.func64 (by kernel_rfl) rfl
theorem en65 : Enters Tryz.prog 65 := enters_of Tryz.func65 (by kernel_rfl) rfl
theorem en66 : Enters Tryz.prog 66 := enters_of Tryz.func66 (by kernel_rfl) rfl
theorem en67 : Enters Tryz.prog 67 := enters_of Tryz.func67 (by kernel_rfl) rfl
theorem en68 : Enters Tryz.prog 68 := enters_of Tryz.func68 (by kernel_rfl) rfl
theorem en69 : Enters Tryz.prog 69 := enters_of Tryz.func69 (by kernel_rfl) rfl
theorem en70 : Enters Tryz.prog 70 := enters_of Tryz.func70 (by kernel_rfl) rfl
theorem en71 : Enters Tryz.prog 71 := enters_of Tryz.func71 (by kernel_rfl) rfl
theorem en72 : Enters Tryz.prog 72 := enters_of Tryz.func72 (by kernel_rfl) rfl
theorem en73 : Enters Tryz.prog 73 := enters_of Tryz.func73 (by kernel_rfl) rfl
theorem en74 : Enters Tryz.prog 74 := enters_of Tryz.func74 (by kernel_rfl) rfl
theorem en75 : Enters Tryz.prog 75 := enters_of Tryz.func75 (by kernel_rfl) rfl
theorem en76 : Enters Tryz.prog 76 := enters_of Tryz.func76 (by kernel_rfl) rfl
theorem en77 : Enters Tryz.prog 77 := enters_of Tryz.func77 (by kernel_rfl) rfl
theorem en78 : Enters Tryz.prog 78 := enters_of Tryz.func78 (by kernel_rfl) rfl
theorem en79 : Enters Tryz.prog 79 := enters_of Tryz.func79 (by kernel_rfl) rfl
theorem en80 : Enters Tryz.prog 80 := enters_of Tryz.func80 (by kernel_rfl) rfl
theorem en81 : Enters Tryz.prog 81 := enters_of Tryz.func81 (by kernel_rfl) rfl
theorem en82 : Enters Tryz.prog 82 := enters_of Tryz.func82 (by kernel_rfl) rfl
theorem en83 : Enters Tryz.prog 83 := enters_of Tryz.func83 (by kernel_rfl) rfl
theorem en84 : Enters Tryz.prog 84 := enters_of Tryz.func84 (by kernel_rfl) rfl
theorem en85 : Enters Tryz.prog 85 := enters_of Tryz.func85 (by kernel_rfl) rfl
theorem en86 : Enters Tryz.prog 86 := enters_of Tryz.func86 (by kernel_rfl) rfl
theorem en87 : Enters Tryz.prog 87 := enters_of Tryz.func87 (by kernel_rfl) rfl
theorem en88 : Enters Tryz.prog 88 := enters_of Tryz.func88 (by kernel_rfl) rfl
theorem en89 : Enters Tryz.prog 89 := enters_of Tryz.func89 (by kernel_rfl) rfl
theorem en90 : Enters Tryz.prog 90 := enters_of Tryz.func90 (by kernel_rfl) rfl
theorem en91 : Enters Tryz.prog 91 := enters_of Tryz.func91 (by kernel_rfl) rfl
theorem en92 : Enters Tryz.prog 92 := enters_of Tryz.func92 (by kernel_rfl) rfl
theorem en93 : Enters Tryz.prog 93 := enters_of Tryz.func93 (by kernel_rfl) rfl
theorem en94 : Enters Tryz.prog 94 := enters_of Tryz.func94 (by kernel_rfl) rfl
theorem en95 : Enters Tryz.prog 95 := enters_of Tryz.func95 (by kernel_rfl) rfl
theorem en96 : Enters Tryz.prog 96 := enters_of Tryz.func96 (by kernel_rfl) rfl
theorem en97 : Enters Tryz.prog 97 := enters_of Tryz.func97 (by kernel_rfl) rfl
theorem en98 : Enters Tryz.prog 98 := enters_of Tryz.func98 (by kernel_rfl) rfl
theorem en99 : Enters Tryz.prog 99 := enters_of Tryz.func99 (by kernel_rfl) rfl
theorem en100 : Enters Tryz.prog 100 := enters_of Tryz.func100 (by kernel_rfl) rfl
theorem en101 : Enters Tryz.prog 101 := enters_of Tryz.func101 (by kernel_rfl) rfl
theorem en102 : Enters Tryz.prog 102 := enters_of Tryz.func102 (by kernel_rfl) rfl
theorem en103 : Enters Tryz.prog 103 := enters_of Tryz.func103 (by kernel_rfl) rfl
theorem en104 : Enters Tryz.prog 104 := enters_of Tryz.func104 (by kernel_rfl) rfl
theorem en105 : Enters Tryz.prog 105 := enters_of Tryz.func105 (by kernel_rfl) rfl
theorem en106 : Enters Tryz.prog 106 := enters_of Tryz.func106 (by kernel_rfl) rfl
theorem en107 : Enters Tryz.prog 107 := enters_of Tryz.func107 (by kernel_rfl) rfl
theorem en108 : Enters Tryz.prog 108 := enters_of Tryz.func108 (by kernel_rfl) rfl
theorem en109 : Enters Tryz.prog 109 := enters_of Tryz.func109 (by kernel_rfl) rfl
theorem en110 : Enters Tryz.prog 110 := enters_of Tryz.func110 (by kernel_rfl) rfl
theorem en111 : Enters Tryz.prog 111 := enters_of Tryz.func111 (by kernel_rfl) rfl
theorem en112 : Enters Tryz.prog 112 := enters_of Tryz.func112 (by kernel_rfl) rfl
theorem en113 : Enters Tryz.prog 113 := enters_of Tryz.func113 (by kernel_rfl) rfl
theorem en114 : Enters Tryz.prog 114 := enters_of Tryz.func114 (by kernel_rfl) rfl
theorem en115 : Enters Tryz.prog 115 := enters_of Tryz.func115 (by kernel_rfl) rfl
theorem en116 : Enters Tryz.prog 116 := enters_of Tryz.func116 (by kernel_rfl) rfl
theorem en117 : Enters Tryz.prog 117 := enters_of Tryz.func117 (by kernel_rfl) rfl
theorem en118 : Enters Tryz.prog 118 := enters_of Tryz.func118 (by kernel_rfl) rfl
theorem en119 : Enters Tryz.prog 119 := enters_of Tryz.func119 (by kernel_rfl) rfl
theorem en120 : Enters Tryz.prog 120 := enters_of Tryz.func120 (by kernel_rfl) rfl
theorem en121 : Enters Tryz.prog 121 := enters_of Tryz.func121 (by kernel_rfl) rfl
theorem en122 : Enters Tryz.prog 122 := enters_of Tryz.func122 (by kernel_rfl) rfl
theorem en123 : Enters Tryz.prog 123 := enters_of Tryz.func123 (by kernel_rfl) rfl
theorem en124 : Enters Tryz.prog 124 := enters_of Tryz.func124 (by kernel_rfl) rfl
theorem en125 : Enters Tryz.prog 125 := enters_of Tryz.func125 (by kernel_rfl) rfl
theorem en126 : Enters Tryz.prog 126 := enters_of Tryz.func126 (by kernel_rfl) rfl
theorem en127 : Enters Tryz.prog 127 := enters_of Tryz.func127 (by kernel_rfl) rfl
theorem en128 : Enters Tryz.prog 128 := enters_of Tryz.func128 (by kernel_rfl) rfl
theorem en129 : Enters Tryz.prog 129 := enters_of Tryz.func129 (by kernel_rfl) rfl
theorem en130 : Enters Tryz.prog 130 := enters_of Tryz.func130 (by kernel_rfl) rfl
theorem en131 : Enters Tryz.prog 131 := enters_of Tryz.func131 (by kernel_rfl) rfl
theorem en132 : Enters Tryz.prog 132 := enters_of Tryz.func132 (by kernel_rfl) rfl
theorem en133 : Enters Tryz.prog 133 := enters_of Tryz.func133 (by kernel_rfl) rfl
theorem en134 : Enters Tryz.prog 134 := enters_of Tryz.func134 (by kernel_rfl) rfl
theorem en135 : Enters Tryz.prog 135 := enters_of Tryz.func135 (by kernel_rfl) rfl
theorem en136 : Enters Tryz.prog 136 := enters_of Tryz.func136 (by kernel_rfl) rfl
theorem en137 : Enters Tryz.prog 137 := enters_of Tryz.func137 (by kernel_rfl) rfl
theorem en138 : Enters Tryz.prog 138 := enters_of Tryz.func138 (by kernel_rfl) rfl
theorem en139 : Enters Tryz.prog 139 := enters_of Tryz.func139 (by kernel_rfl) rfl
theorem en140 : Enters Tryz.prog 140 := enters_of Tryz.func140 (by kernel_rfl) rfl
theorem en141 : Enters Tryz.prog 141 := enters_of Tryz.func141 (by kernel_rfl) rfl
theorem en142 : Enters Tryz.prog 142 := enters_of Tryz.func142 (by kernel_rfl) rfl
theorem en143 : Enters Tryz.prog 143 := enters_of Tryz.func143 (by kernel_rfl) rfl
theorem en144 : Enters Tryz.prog 144 := enters_of Tryz.func144 (by kernel_rfl) rfl
theorem en145 : Enters Tryz.prog 145 := enters_of Tryz.func145 (by kernel_rfl) rfl
theorem en146 : Enters Tryz.prog 146 := enters_of Tryz.func146 (by kernel_rfl) rfl
theorem en147 : Enters Tryz.prog 147 := enters_of Tryz.func147 (by kernel_rfl) rfl
theorem en148 : Enters Tryz.prog 148 := enters_of Tryz.func148 (by kernel_rfl) rfl
theorem en149 : Enters Tryz.prog 149 := enters_of Tryz.func149 (by kernel_rfl) rfl
theorem en150 : Enters Tryz.prog 150 := enters_of Tryz.func150 (by kernel_rfl) rfl
theorem en151 : Enters Tryz.prog 151 := enters_of Tryz.func151 (by kernel_rfl) rfl
theorem en152 : Enters Tryz.prog 152 := enters_of Tryz.func152 (by kernel_rfl) rfl
theorem en153 : Enters Tryz.prog 153 := enters_of Tryz.func153 (by kernel_rfl) rfl
theorem en154 : Enters Tryz.prog 154 := enters_of Tryz.func154 (by kernel_rfl) rfl
theorem en155 : Enters Tryz.prog 155 := enters_of Tryz.func155 (by kernel_rfl) rfl
theorem en156 : Enters Tryz.prog 156 := enters_of Tryz.func156 (by kernel_rfl) rfl
theorem en157 : Enters Tryz.prog 157 := enters_of Tryz.func157 (by kernel_rfl) rfl
theorem en159 : Enters Tryz.prog 159 := enters_of Tryz.func159 (by kernel_rfl) rfl
theorem en160 : Enters Tryz.prog 160 := enters_of Tryz.func160 (by kernel_rfl) rfl
theorem en161 : Enters Tryz.prog 161 := enters_of Tryz.func161 (by kernel_rfl) rfl
theorem en164 : Enters Tryz.prog 164 := enters_of Tryz.func164 (by kernel_rfl) rfl
theorem en165 : Enters Tryz.prog 165 := enters_of Tryz.func165 (by kernel_rfl) rfl
theorem en166 : Enters Tryz.prog 166 := enters_of Tryz.func166 (by kernel_rfl) rfl
theorem en167 : Enters Tryz.prog 167 := enters_of Tryz.func167 (by kernel_rfl) rfl
theorem en168 : Enters Tryz.prog 168 := enters_of Tryz.func168 (by kernel_rfl) rfl
theorem en169 : Enters Tryz.prog 169 := enters_of Tryz.func169 (by kernel_rfl) rfl
theorem en170 : Enters Tryz.prog 170 := enters_of Tryz.func170 (by kernel_rfl) rfl
theorem en171 : Enters Tryz.prog 171 := enters_of Tryz.func171 (by kernel_rfl) rfl
theorem en172 : Enters Tryz.prog 172 := enters_of Tryz.func172 (by kernel_rfl) rfl
theorem en173 : Enters Tryz.prog 173 := enters_of Tryz.func173 (by kernel_rfl) rfl
theorem en174 : Enters Tryz.prog 174 := enters_of Tryz.func174 (by kernel_rfl) rfl
theorem en175 : Enters Tryz.prog 175 := enters_of Tryz.func175 (by kernel_rfl) rfl
theorem en176 : Enters Tryz.prog 176 := enters_of Tryz.func176 (by kernel_rfl) rfl
theorem en177 : Enters Tryz.prog 177 := enters_of Tryz.func177 (by kernel_rfl) rfl
theorem en178 : Enters Tryz.prog 178 := enters_of Tryz.func178 (by kernel_rfl) rfl
theorem en179 : Enters Tryz.prog 179 := enters_of Tryz.func179 (by kernel_rfl) rfl
theorem en180 : Enters Tryz.prog 180 := enters_of Tryz.func180 (by kernel_rfl) rfl
theorem en181 : Enters Tryz.prog 181 := enters_of Tryz.func181 (by kernel_rfl) rfl
theorem en182 : Enters Tryz.prog 182 := enters_of Tryz.func182 (by kernel_rfl) rfl
theorem en183 : Enters Tryz.prog 183 := enters_of Tryz.func183 (by kernel_rfl) rfl
theorem en184 : Enters Tryz.prog 184 := enters_of Tryz.func184 (by kernel_rfl) rfl
theorem en185 : Enters Tryz.prog 185 := enters_of Tryz.func185 (by kernel_rfl) rfl
theorem en186 : Enters Tryz.prog 186 := enters_of Tryz.func186 (by kernel_rfl) rfl
theorem en187 : Enters Tryz.prog 187 := enters_of Tryz.func187 (by kernel_rfl) rfl
theorem en188 : Enters Tryz.prog 188 := enters_of Tryz.func188 (by kernel_rfl) rfl
theorem en189 : Enters Tryz.prog 189 := enters_of Tryz.func189 (by kernel_rfl) rfl
theorem en190 : Enters Tryz.prog 190 := enters_of Tryz.func190 (by kernel_rfl) rfl
theorem en192 : Enters Tryz.prog 192 := enters_of Tryz.func192 (by kernel_rfl) rfl
theorem en193 : Enters Tryz.prog 193 := enters_of Tryz.func193 (by kernel_rfl) rfl
theorem en194 : Enters Tryz.prog 194 := enters_of Tryz.func194 (by kernel_rfl) rfl
theorem en195 : Enters Tryz.prog 195 := enters_of Tryz.func195 (by kernel_rfl) rfl
theorem en196 : Enters Tryz.prog 196 := enters_of Tryz.func196 (by kernel_rfl) rfl
theorem en197 : Enters Tryz.prog 197 := enters_of Tryz.func197 (by kernel_rfl) rfl
theorem en198 : Enters Tryz.prog 198 := enters_of Tryz.func198 (by kernel_rfl) rfl
theorem en199 : Enters Tryz.prog 199 := enters_of Tryz.func199 (by kernel_rfl) rfl
theorem en200 : Enters Tryz.prog 200 := enters_of Tryz.func200 (by kernel_rfl) rfl
theorem en201 : Enters Tryz.prog 201 := enters_of Tryz.func201 (by kernel_rfl) rfl
theorem en202 : Enters Tryz.prog 202 := enters_of Tryz.func202 (by kernel_rfl) rfl
theorem en226 : Enters Tryz.prog 226 := enters_of Tryz.func226 (by kernel_rfl) rfl
theorem FFok : ∀ f, V.memB f FF = true → Enters Tryz.prog f :=
  V.memB_cons en2 <| V.memB_cons en3 <| V.memB_cons en4 <| V.memB_cons en5 <| V.memB_cons en6 <| V.memB_cons en7 <| V.memB_cons en8 <| V.memB_cons en9 <| V.memB_cons en10 <| V.memB_cons en11 <| V.memB_cons en12 <| V.memB_cons en13 <| V.memB_cons en14 <| V.memB_cons en15 <| V.memB_cons en16 <| V.memB_cons en17 <| V.memB_cons en18 <| V.memB_cons en19 <| V.memB_cons en20 <| V.memB_cons en21 <| V.memB_cons en22 <| V.memB_cons en23 <| V.memB_cons en24 <| V.memB_cons en25 <| V.memB_cons en26 <| V.memB_cons en27 <| V.memB_cons en28 <| V.memB_cons en29 <| V.memB_cons en30 <| V.memB_cons en31 <| V.memB_cons en32 <| V.memB_cons en33 <| V.memB_cons en34 <| V.memB_cons en35 <| V.memB_cons en36 <| V.memB_cons en37 <| V.memB_cons en38 <| V.memB_cons en39 <| V.memB_cons en40 <| V.memB_cons en41 <| V.memB_cons en42 <| V.memB_cons en43 <| V.memB_cons en44 <| V.memB_cons en45 <| V.memB_cons en46 <| V.memB_cons en47 <| V.memB_cons en48 <| V.memB_cons en49 <| V.memB_cons en50 <| V.memB_cons en51 <| V.memB_cons en52 <| V.memB_cons en53 <| V.memB_cons en54 <| V.memB_cons en55 <| V.memB_cons en56 <| V.memB_cons en57 <| V.memB_cons en58 <| V.memB_cons en59 <| V.memB_cons en60 <| V.memB_cons en61 <| V.memB_cons en62 <| V.memB_cons en63 <| V.memB_cons en64 <| V.memB_cons en65 <| V.memB_cons en66 <| V.memB_cons en67 <| V.memB_cons en68 <| V.memB_cons en69 <| V.memB_cons en70 <| V.memB_cons en71 <| V.memB_cons en72 <| V.memB_cons en73 <| V.memB_cons en74 <| V.memB_cons en75 <| V.memB_cons en76 <| V.memB_cons en77 <| V.memB_cons en78 <| V.memB_cons en79 <| V.memB_cons en80 <| V.memB_cons en81 <| V.memB_cons en82 <| V.memB_cons en83 <| V.memB_cons en84 <| V.memB_cons en85 <| V.memB_cons en86 <| V.memB_cons en87 <| V.memB_cons en88 <| V.memB_cons en89 <| V.memB_cons en90 <| V.memB_cons en91 <| V.memB_cons en92 <| V.memB_cons en93 <| V.memB_cons en94 <| V.memB_cons en95 <| V.memB_cons en96 <| V.memB_cons en97 <| V.memB_cons en98 <| V.memB_cons en99 <| V.memB_cons en100 <| V.memB_cons en101 <| V.memB_cons en102 <| V.memB_cons en103 <| V.memB_cons en104 <| V.memB_cons en105 <| V.memB_cons en106 <| V.memB_cons en107 <| V.memB_cons en108 <| V.memB_cons en109 <| V.memB_cons en110 <| V.memB_cons en111 <| V.memB_cons en112 <| V.memB_cons en113 <| V.memB_cons en114 <| V.memB_cons en115 <| V.memB_cons en116 <| V.memB_cons en117 <| V.memB_cons en118 <| V.memB_cons en119 <| V.memB_cons en120 <| V.memB_cons en121 <| V.memB_cons en122 <| V.memB_cons en123 <| V.memB_cons en124 <| V.memB_cons en125 <| V.memB_cons en126 <| V.memB_cons en127 <| V.memB_cons en128 <| V.memB_cons en129 <| V.memB_cons en130 <| V.memB_cons en131 <| V.memB_cons en132 <| V.memB_cons en133 <| V.memB_cons en134 <| V.memB_cons en135 <| V.memB_cons en136 <| V.memB_cons en137 <| V.memB_cons en138 <| V.memB_cons en139 <| V.memB_cons en140 <| V.memB_cons en141 <| V.memB_cons en142 <| V.memB_cons en143 <| V.memB_cons en144 <| V.memB_cons en145 <| V.memB_cons en146 <| V.memB_cons en147 <| V.memB_cons en148 <| V.memB_cons en149 <| V.memB_cons en150 <| V.memB_cons en151 <| V.memB_cons en152 <| V.memB_cons en153 <| V.memB_cons en154 <| V.memB_cons en155 <| V.memB_cons en156 <| V.memB_cons en157 <| V.memB_cons en159 <| V.memB_cons en160 <| V.memB_cons en161 <| V.memB_cons en164 <| V.memB_cons en165 <| V.memB_cons en166 <| V.memB_cons en167 <| V.memB_cons en168 <| V.memB_cons en169 <| V.memB_cons en170 <| V.memB_cons en171 <| V.memB_cons en172 <| V.memB_cons en173 <| V.memB_cons en174 <| V.memB_cons en175 <| V.memB_cons en176 <| V.memB_cons en177 <| V.memB_cons en178 <| V.memB_cons en179 <| V.memB_cons en180 <| V.memB_cons en181 <| V.memB_cons en182 <| V.memB_cons en183 <| V.memB_cons en184 <| V.memB_cons en185 <| V.memB_cons en186 <| V.memB_cons en187 <| V.memB_cons en188 <| V.memB_cons en189 <| V.memB_cons en190 <| V.memB_cons en192 <| V.memB_cons en193 <| V.memB_cons en194 <| V.memB_cons en195 <| V.memB_cons en196 <| V.memB_cons en197 <| V.memB_cons en198 <| V.memB_cons en199 <| V.memB_cons en200 <| V.memB_cons en201 <| V.memB_cons en202 <| V.memB_cons en226 <| V.memB_nil
theorem z1 : V.zeroC Tryz.prog 1 = some [.nilFunc] := by kernel_rfl
theorem z2 : V.zeroC Tryz.prog 2 = some [.int .i64 0] := by kernel_rfl
theorem z3 : V.zeroC Tryz.prog 3 = some [.int .i64 0] := by kernel_rfl
theorem z4 : V.zeroC Tryz.prog 4 = some [.bool false] := by kernel_rfl
theorem z5 : V.zeroC Tryz.prog 5 = some [.int .u8 0] := by kernel_rfl
theorem z9 : V.zeroC Tryz.prog 9 = some [.string ⟨#[]⟩] := by kernel_rfl
theorem z19 : V.zeroC Tryz.prog 19 = some [.pointer none] := by kernel_rfl
theorem z20 : V.zeroC Tryz.prog 20 = some [.nilIface] := by kernel_rfl
theorem z24 : V.zeroC Tryz.prog 24 = some [.int .i64 0, .int .i64 0, .string ⟨#[]⟩, .slice none 0 0] := by kernel_rfl
theorem z36 : V.zeroC Tryz.prog 36 = some [.int .i64 0] := by kernel_rfl
theorem z37 : V.zeroC Tryz.prog 37 = some [.nilFunc] := by kernel_rfl
theorem z46 : V.zeroC Tryz.prog 46 = some [.nilFunc] := by kernel_rfl
theorem z51 : V.zeroC Tryz.prog 51 = some [.nilFunc] := by kernel_rfl
theorem z53 : V.zeroC Tryz.prog 53 = some [.int .i64 0, .string ⟨#[]⟩] := by kernel_rfl
theorem z54 : V.zeroC Tryz.prog 54 = some [.int .i64 0, .string ⟨#[]⟩] := by kernel_rfl
theorem z63 : V.zeroC Tryz.prog 63 = some [.string ⟨#[]⟩, .int .i64 0] := by kernel_rfl
theorem z70 : V.zeroC Tryz.prog 70 = some [.nilFunc] := by kernel_rfl
theorem z72 : V.zeroC Tryz.prog 72 = some [.nilFunc] := by kernel_rfl
theorem z75 : V.zeroC Tryz.prog 75 = some [.nilFunc] := by kernel_rfl
theorem z109 : V.zeroC Tryz.prog 109 = some [.nilFunc] := by kernel_rfl
theorem z123 : V.zeroC Tryz.prog 123 = some [] := by kernel_rfl
theorem z126 : V.zeroC Tryz.prog 126 = some [.string ⟨#[]⟩, .int .i64 0] := by kernel_rfl
theorem z146 : V.zeroC Tryz.prog 146 = some [.nilFunc] := by kernel_rfl
theorem z148 : V.zeroC Tryz.prog 148 = some [.nilFunc] := by kernel_rfl
theorem z157 : V.zeroC Tryz.prog 157 = some [.int .u32 0, .int .u32 0, .int .u32 0, .int .u32 0, .int .u32 0, .int .u32 0, .int .u32 0, .int .u32 0] := by kernel_rfl
theorem z158 : V.zeroC Tryz.prog 158 = some (List.replicate 64 (.int .u32 0)) := by kernel_rfl
theorem z160 : V.zeroC Tryz.prog 160 = some (List.replicate 72 (.int .u32 0)) := by kernel_rfl
theorem z164 : V.zeroC Tryz.prog 164 = some [.nilFunc] := by kernel_rfl
theorem z181 : V.zeroC Tryz.prog 181 = some [.pointer none, .slice none 0 0] := by kernel_rfl
theorem z190 : V.zeroC Tryz.prog 190 = some [.string ⟨#[]⟩] := by kernel_rfl
theorem z201 : V.zeroC Tryz.prog 201 = some (List.replicate 256 (.int .u32 0)) := by kernel_rfl
theorem z203 : V.zeroC Tryz.prog 203 = some [.int .u64 0] := by kernel_rfl
theorem z212 : V.zeroC Tryz.prog 212 = some (List.replicate 16 (.int .u8 0)) := by kernel_rfl
theorem z216 : V.zeroC Tryz.prog 216 = some [.string ⟨#[]⟩, .int .i64 0] := by kernel_rfl
theorem z232 : V.zeroC Tryz.prog 232 = some [.int .u32 0, .int .u32 0, .int .u32 0, .int .u32 0, .int .u32 0, .int .u32 0, .int .u32 0, .int .u32 0, .string ⟨#[]⟩, .int .i64 0] := by kernel_rfl
theorem sl22 : V.slOk Tryz.prog 22 54 2 24 = true := by kernel_rfl
theorem sl48 : V.slOk Tryz.prog 48 3 1 8 = true := by kernel_rfl
theorem sl88 : V.slOk Tryz.prog 88 5 1 1 = true := by kernel_rfl
theorem sl195 : V.slOk Tryz.prog 195 9 1 16 = true := by kernel_rfl
theorem mixed : Tryz.prog.follows .mixedOrders = true := by kernel_rfl
end Go.Proofs.YtmlmfmdmomegpaaGreatDoor
namespace Go.Proofs.YtmlmfmdmomegpaaGreatDoor
open Go.Shelf Go.RowKit
def ren105 : Ren := ⟨fun | 105 => 56 | 212 => 104 | 99 => 59 | 165 => 105 | 166 => 106 | 170 => 107 | 169 => 108 | 263 => 135 | 264 => 136 | 206 => 110 | 240 => 137 | 241 => 138 | 276 => 162 | 277 => 163 | n => n,
  fun | 9 => 9 | 3 => 3 | 4 => 4 | 20 => 20 | 0 => 0 | 46 => 78 | 109 => 168 | 5 => 5 | 72 => 172 | 76 => 176 | 51 => 156 | 146 => 207 | 53 => 203 | 148 => 209 | 70 => 170 | 37 => 88 | 75 => 175 | 127 => 211 | 164 => 239 | 80 => 179 | n => n,
  fun n => n⟩
theorem lays105 : Go.Proofs.Lays.n105 Tryz.prog ren105 where
  mixed := by kernel_rfl
  f99 := Tryz.func59.trans (congrArg some (by kernel_rfl))
  f105 := Tryz.func56.trans (congrArg some (by kernel_rfl))
  f165 := Tryz.func105.trans (congrArg some (by kernel_rfl))
  f166 := Tryz.func106.trans (congrArg some (by kernel_rfl))
  f169 := Tryz.func108.trans (congrArg some (by kernel_rfl))
  f170 := Tryz.func107.trans (congrArg some (by kernel_rfl))
  f206 := Tryz.func110.trans (congrArg some (by kernel_rfl))
  f212 := Tryz.func104.trans (congrArg some (by kernel_rfl))
  f240 := Tryz.func137.trans (congrArg some (by kernel_rfl))
  f241 := Tryz.func138.trans (congrArg some (by kernel_rfl))
  f263 := Tryz.func135.trans (congrArg some (by kernel_rfl))
  f264 := Tryz.func136.trans (congrArg some (by kernel_rfl))
  f276 := Tryz.func162.trans (congrArg some (by kernel_rfl))
  f277 := Tryz.func163.trans (congrArg some (by kernel_rfl))
  t0 := Tryz.underlying0
  a0 := Tryz.isAgg0
  z0 := Tryz.sizeOf0
  v0 := Tryz.zeroValue0
  t3 := Tryz.underlying3
  a3 := Tryz.isAgg3
  z3 := Tryz.sizeOf3
  v3 := Tryz.zeroValue3
  t4 := Tryz.underlying4
  a4 := Tryz.isAgg4
  z4 := Tryz.sizeOf4
  v4 := Tryz.zeroValue4
  t5 := Tryz.underlying5
  a5 := Tryz.isAgg5
  z5 := Tryz.sizeOf5
  v5 := Tryz.zeroValue5
  t9 := Tryz.underlying9
  a9 := Tryz.isAgg9
  z9 := Tryz.sizeOf9
  v9 := Tryz.zeroValue9
  t20 := Tryz.underlying20
  a20 := Tryz.isAgg20
  z20 := Tryz.sizeOf20
  v20 := Tryz.zeroValue20
  t37 := Tryz.underlying88
  a37 := Tryz.isAgg88
  z37 := Tryz.sizeOf88
  v37 := Tryz.zeroValue88
  t46 := Tryz.underlying78
  a46 := Tryz.isAgg78
  z46 := Tryz.sizeOf78
  v46 := Tryz.zeroValue78
  t51 := Tryz.underlying156
  a51 := Tryz.isAgg156
  z51 := Tryz.sizeOf156
  v51 := Tryz.zeroValue156
  t53 := Tryz.underlying203
  a53 := Tryz.isAgg203
  z53 := Tryz.sizeOf203
  v53 := Tryz.zeroValue203
  t70 := Tryz.underlying170
  a70 := Tryz.isAgg170
  z70 := Tryz.sizeOf170
  v70 := Tryz.zeroValue170
  t72 := Tryz.underlying172
  a72 := Tryz.isAgg172
  z72 := Tryz.sizeOf172
  v72 := Tryz.zeroValue172
  t75 := Tryz.underlying175
  a75 := Tryz.isAgg175
  z75 := Tryz.sizeOf175
  v75 := Tryz.zeroValue175
  t76 := Tryz.underlying176
  a76 := Tryz.isAgg176
  z76 := Tryz.sizeOf176
  v76 := Tryz.zeroValue176
  t109 := Tryz.underlying168
  a109 := Tryz.isAgg168
  z109 := Tryz.sizeOf168
  v109 := Tryz.zeroValue168
  t127 := Tryz.underlying211
  a127 := Tryz.isAgg211
  z127 := Tryz.sizeOf211
  v127 := Tryz.zeroValue211
  t146 := Tryz.underlying207
  a146 := Tryz.isAgg207
  z146 := Tryz.sizeOf207
  v146 := Tryz.zeroValue207
  t148 := Tryz.underlying209
  a148 := Tryz.isAgg209
  z148 := Tryz.sizeOf209
  v148 := Tryz.zeroValue209
  t164 := Tryz.underlying239
  a164 := Tryz.isAgg239
  z164 := Tryz.sizeOf239
  v164 := Tryz.zeroValue239
theorem extra105 : Builder.Extra Tryz.prog ren105 where
  sizeBuilder := by kernel_rfl
  liesBuilder := by kernel_rfl
  t5 := Tryz.underlying5
  a5 := Tryz.isAgg5
  z5 := Tryz.sizeOf5
  v5 := Tryz.zeroValue5
  infoByte := by kernel_rfl
  cellsByte := by kernel_rfl
  sizeByte := by kernel_rfl
  neB5 := by decide
def ren264 : Ren := ⟨fun | 264 => 136 | n => n,
  fun | 53 => 203 | 46 => 78 | n => n,
  fun n => n⟩
theorem lays264 : Go.Proofs.Lays.n264 Tryz.prog ren264 where
  mixed := by kernel_rfl
  f264 := Tryz.func136.trans (congrArg some (by kernel_rfl))
  t46 := Tryz.underlying78
  a46 := Tryz.isAgg78
  z46 := Tryz.sizeOf78
  v46 := Tryz.zeroValue78
  t53 := Tryz.underlying203
  a53 := Tryz.isAgg203
  z53 := Tryz.sizeOf203
  v53 := Tryz.zeroValue203
end Go.Proofs.YtmlmfmdmomegpaaGreatDoor
namespace Go.Proofs.YtmlmfmdmomegpaaGreatDoor
set_option linter.unusedSimpArgs false
set_option linter.unusedVariables false
open Go.RowKit V
def repS (s : ByteArray) (c : Nat) : ByteArray := ⟨(Lib.repeatL s.data.toList c).toArray⟩
theorem repS_size (s : ByteArray) (c : Nat) : (repS s c).size = c * s.size := by unfold repS; rw [bA_size, Lib.repeatL_length, toList_len]
theorem Repeat_p (s : ByteArray) (c : Nat) (hc : s.size * c ≤ 140737488355328) (hc2 : c ≤ 9223372036854775807) : PureF Tryz.prog 56 #[.string s, .int .i64 c] (.string (repS s c)) := fun w =>
  Any.strings_Repeat lays105 extra105 s c w hc2 hc
end Go.Proofs.YtmlmfmdmomegpaaGreatDoor
namespace Go.Proofs.YtmlmfmdmomegpaaGreatDoor
set_option linter.unusedSimpArgs false
set_option linter.unusedVariables false
open Go.RowKit Go.WideShapes Go.ChangeShapes
namespace V
section
variable {H : Type} {enc : TypeId × Value → H} {P : Program}
theorem post_of_below {f : Func} {s : ChangeSpec} {apart fresh handsOn again : Bool} {W W' : World} {args : Array Value} {v : Value} {ds gs : List (DataW H)} {before pa pv : List MemPlace}
    (hW : DataW.Whole enc P f.params.toList s.vars apart W args.toList ds gs before)
    (hres : ∀ (b : Nat) (sp : Nat → Bool) (hd : Bool), DataW.TrodAll enc P W' b sp hd f.resultTypes.toList (v.resultList f.resultTypes.size) (s.fn H (ds ++ gs)).results [])
    (hargs : ∀ sp : Nat → Bool, (∀ p ∈ before, sp p.block = true) → DataW.TrodAll enc P W' 0 sp true f.params.toList args.toList (s.fn H (ds ++ gs)).args pa)
    (hvars : ∀ sp : Nat → Bool, (∀ p ∈ before, sp p.block = true) → DataW.TrodVars enc P W' sp s.vars (s.fn H (ds ++ gs)).vars pv)
    (hps : before = pa ++ pv) (hb : Ext W W')
    (hok : ∀ (j : Nat) (t : TypeId) (r : Value), f.resultTypes[j]? = some t → (v.resultList f.resultTypes.size)[j]? = some r → Value.okWide P W' .any 0 t r) :
    s.post enc P f apart fresh handsOn again W args v W' := by
  have hlt : ∀ p ∈ before, p.block < W.heap.size := fun p hp => hW.lt p hp
  have hold : ∀ p ∈ before, (fun b => decide (b < W.heap.size)) p.block = true := fun p hp => by simpa using hlt p hp
  refine ⟨ds, gs, before, [], pa, pv, hW, hres _ _ _, hargs _ hold, hvars _ hold, World.keptBut_mono (fun p hp => ⟨hp, ?_⟩) (Below.frame hb (· ∈ before)), fun _ => ?_⟩
  · rw [hps, List.mem_append] at hp
    exact Or.inr hp
  · obtain ⟨_, _, _, _, _, hz, hn⟩ := hW
    refine ⟨hok, _, _, ([] ++ pa) ++ pv, ⟨[] ++ pa, pv, trodAll_append (hargs _ (fun _ _ => rfl)) (hres _ _ _), hvars _ (fun _ _ => rfl), rfl, ?_, ?_⟩, ?_⟩
    · intro b off hp
      have hin : MemPlace.cell b off ∈ before := by rw [hps]; simpa using hp
      rw [Below.frozen hb (hlt _ hin)]
      exact hz b off hin
    · intro ha
      have := hn ha
      rw [hps] at this
      simpa using this
    · intro p hp _
      rw [hps]
      simpa using hp
end
end V
end Go.Proofs.YtmlmfmdmomegpaaGreatDoor
namespace Go.Proofs.YtmlmfmdmomegpaaGreatDoor
set_option linter.unusedSimpArgs false
set_option linter.unusedVariables false
open Go.RowKit Go.WideShapes Go.ChangeShapes
namespace V
/-- The shape of a datum: what its cells hold. 'ag': a struct or an array, by 'nil' and 'cons'. -/
inductive Sh where
  | bool | int (k : IntKind) | str | sl (e : Sh) | ag (s : Sh) | nil | cons (a b : Sh)
def Sh.n : Sh → Nat
  | .bool | .int _ | .str | .sl _ => 1
  | .ag s => s.n
  | .nil => 0
  | .cons a b => a.n + b.n
def Sh.isL : Sh → Bool
  | .nil | .cons _ _ => true
  | _ => false
/-- A slice that reads as a list of rows of so many cells. -/
def SLn (w : World) (size : Nat) (v : Value) (xs : List (List Value)) : Prop :=
  (v = .slice none 0 0 ∧ xs = []) ∨ (∃ a c, v = .slice a 0 c ∧ xs = []) ∨
  ∃ g off c, v = .slice (some ⟨g, off, none⟩) xs.length c ∧ xs.length ≤ c ∧ c ≤ maxLen ∧ ∀ (j : Nat) (x : List Value), xs[j]? = some x → x.length = size ∧ ∀ (i : Nat) (y : Value), x[i]? = some y → w.cell? ⟨g, off + (j * size + i), none⟩ = some y
def Rd (w : World) : Sh → List Value → Prop
  | .bool, cs => ∃ b, cs = [.bool b]
  | .int k, cs => ∃ n, cs = [.int k n] ∧ (Lit.int k n).wf = true
  | .str, cs => ∃ s : ByteArray, cs = [.string s] ∧ s.size ≤ maxLen
  | .sl e, cs => ∃ (v : Value) (xs : List (List Value)), cs = [v] ∧ SLn w e.n v xs ∧ ∀ x ∈ xs, Rd w e x
  | .ag s, cs => Rd w s cs
  | .nil, cs => cs = []
  | .cons a b, cs => ∃ x y, cs = x ++ y ∧ Rd w a x ∧ Rd w b y
theorem Rd.len {w : World} : ∀ (s : Sh) {cs : List Value}, Rd w s cs → cs.length = s.n
  | .bool, _, ⟨_, h⟩ => by rw [h]; rfl
  | .int _, _, ⟨_, h, _⟩ => by rw [h]; rfl
  | .str, _, ⟨_, h, _⟩ => by rw [h]; rfl
  | .sl _, _, ⟨_, _, h, _⟩ => by rw [h]; rfl
  | .ag s, _, h => by have h' : Rd w s _ := h; rw [Rd.len s h']; rfl
  | .nil, _, h => by have h' : _ = [] := h; rw [h']; rfl
  | .cons a b, _, ⟨x, y, h, h1, h2⟩ => by rw [h, List.length_append, Rd.len a h1, Rd.len b h2]; rfl
/-- The shape is the type's; for 'nil' and 'cons': the list's of places and types, from a place on. -/
def shOk (P : Program) : Sh → Nat → List (Nat × Nat) → Nat → Bool
  | .bool, t, _, _ => (match P.underlying t with | some .bool => true | _ => false)
  | .int k, t, _, _ => (match P.underlying t with | some (.int k') => decide (k = k') | _ => false)
  | .str, t, _, _ => (match P.underlying t with | some .string => true | _ => false)
  | .sl e, t, _, _ => (match P.underlying t with | some (.slice u) => Nat.beq (P.cellsOf u) e.n && Nat.blt 0 e.n && shOk P e u [] 0 | _ => false)
  | .ag s, t, _, _ => s.isL && Nat.beq (P.cellsOf t) s.n && (match P.underlying t with
    | some (.struct fs) => shOk P s 0 (fs.toList.map fun f => (f.offset, f.type)) 0
    | some (.array n e) => shOk P s 0 ((List.range n).map fun i => (i * P.cellsOf e, e)) 0
    | _ => false)
  | .nil, _, [], _ => true
  | .nil, _, _ :: _, _ => false
  | .cons _ _, _, [], _ => false
  | .cons a b, _, (o, t) :: r, off => Nat.beq o off && Nat.beq (P.cellsOf t) a.n && shOk P a t [] 0 && (b.isL && shOk P b 0 r (off + a.n))
section
variable {H : Type} {enc : TypeId × Value → H} {P : Program} {w : World}
end
end V
end Go.Proofs.YtmlmfmdmomegpaaGreatDoor
namespace Go.Proofs.YtmlmfmdmomegpaaGreatDoor
set_option linter.unusedSimpArgs false
set_option linter.unusedVariables false
open Go.RowKit Go.WideShapes Go.ChangeShapes
namespace V
def litOf : Value → Lit
  | .bool b => .bool b
  | .int k n => .int k n
  | .string s => .string s.data.toList
  | _ => .bool false
def Sh.noSl : Sh → Bool
  | .sl _ => false
  | .ag s => s.noSl
  | .cons a b => !a.isL && a.noSl && b.noSl
  | _ => true
def Sh.dep : Sh → Nat
  | .ag s => s.dep + 1
  | .cons a b => max a.dep b.dep
  | _ => 1
section
variable {P : Program} {w : World}
theorem lits_aux : ∀ (s : Sh), s.noSl = true →
    (∀ (t m D : Nat) (cs : List Value), shOk P s t [] 0 = true → s.isL = false → P.keyTypeAt m t = true → s.dep ≤ D → Rd w s cs → P.keyLits D t cs = some (cs.map litOf)) ∧
    (∀ (l : List (Nat × Nat)) (off m D : Nat) (cs : List Value), shOk P s 0 l off = true → s.isL = true → (∀ p ∈ l, P.keyTypeAt m p.2 = true) → s.dep ≤ D → Rd w s (cs.drop off) → off ≤ cs.length →
      ∃ LL : List (List Lit), l.mapM (fun p => P.keyLits D p.2 ((cs.drop p.1).take (P.cellsOf p.2))) = some LL ∧ LL.flatten = (cs.drop off).map litOf) := by
  intro s
  induction s with
  | bool =>
    refine fun _ => ⟨fun t m D cs h _ _ hD hr => ?_, fun _ _ _ _ _ _ h => by cases h⟩
    obtain ⟨b, rfl⟩ := hr
    obtain ⟨D, rfl⟩ : ∃ d, D = d + 1 := ⟨D - 1, by simp [Sh.dep] at hD; omega⟩
    simp only [shOk] at h
    split at h <;> try cases h
    rename_i ht
    simp [Program.keyLits, ht, litOf]
  | int k =>
    refine fun _ => ⟨fun t m D cs h _ _ hD hr => ?_, fun _ _ _ _ _ _ h => by cases h⟩
    obtain ⟨b, rfl, hw⟩ := hr
    obtain ⟨D, rfl⟩ : ∃ d, D = d + 1 := ⟨D - 1, by simp [Sh.dep] at hD; omega⟩
    simp only [shOk] at h
    split at h <;> try cases h
    rename_i k' ht
    have h := of_decide_eq_true h
    subst h
    simp [Program.keyLits, ht, litOf, hw]
  | str =>
    refine fun _ => ⟨fun t m D cs h _ _ hD hr => ?_, fun _ _ _ _ _ _ h => by cases h⟩
    obtain ⟨b, rfl, hw⟩ := hr
    obtain ⟨D, rfl⟩ : ∃ d, D = d + 1 := ⟨D - 1, by simp [Sh.dep] at hD; omega⟩
    simp only [shOk] at h
    split at h <;> try cases h
    rename_i ht
    simp [Program.keyLits, ht, litOf, hw]
  | sl e ih => intro h; cases h
  | ag s ih =>
    intro hn
    have ih := ih hn
    refine ⟨fun t m D cs h _ hk hD hr => ?_, fun _ _ _ _ _ _ h => by cases h⟩
    have hr : Rd w s cs := hr
    have hlen := Rd.len s hr
    obtain ⟨D, rfl⟩ : ∃ d, D = d + 1 := ⟨D - 1, by simp [Sh.dep] at hD; omega⟩
    have hD : s.dep ≤ D := by simp [Sh.dep] at hD; omega
    simp only [shOk, Bool.and_eq_true] at h
    obtain ⟨⟨hL, hc⟩, h⟩ := h
    have hc := Nat.eq_of_beq_eq_true hc
    cases m with
    | zero => simp [Program.keyTypeAt] at hk
    | succ m =>
      split at h
      · rename_i fs ht
        simp only [Program.keyTypeAt, ht, Bool.and_eq_true, Array.all_eq_true'] at hk
        obtain ⟨⟨hall, _⟩, _⟩ := hk
        obtain ⟨LL, h1, h2⟩ := ih.2 _ 0 m D cs h hL (by
          intro p hp
          obtain ⟨f, hf, rfl⟩ := List.mem_map.1 hp
          exact (hall f (by simpa using hf)).2) hD (by simpa using hr) (Nat.zero_le _)
        rw [List.mapM_map] at h1
        have hnm : fs.all (·.name != "_") = true := by rw [Array.all_eq_true']; intro f hf; exact (hall f hf).1
        simp only [Program.keyLits, ht]
        rw [if_pos ⟨by omega, hnm⟩]
        simp only [Function.comp_def] at h1
        rw [h1]
        simpa using h2
      · rename_i n e ht
        simp only [Program.keyTypeAt, ht] at hk
        obtain ⟨LL, h1, h2⟩ := ih.2 _ 0 m D cs h hL (by
          intro p hp
          obtain ⟨i, _, rfl⟩ := List.mem_map.1 hp
          exact hk) hD (by simpa using hr) (Nat.zero_le _)
        rw [List.mapM_map] at h1
        simp only [Program.keyLits, ht]
        rw [if_pos (by omega)]
        simp only [Function.comp_def] at h1
        rw [h1]
        simpa using h2
      · cases h
  | nil =>
    refine fun _ => ⟨fun _ _ _ _ _ h => (by cases h), fun l off m D cs h _ _ _ hr _ => ?_⟩
    cases l with
    | nil =>
      have hr : cs.drop off = [] := hr
      exact ⟨[], by simp, by rw [hr]; rfl⟩
    | cons => simp [shOk] at h
  | cons a b iha ihb =>
    intro hn
    simp only [Sh.noSl, Bool.and_eq_true] at hn
    have haL : a.isL = false := by simpa using hn.1.1
    have iha := iha hn.1.2
    have ihb := ihb hn.2
    refine ⟨fun _ _ _ _ _ h => (by cases h), fun l off m D cs h _ hk hD hr ho => ?_⟩
    cases l with
    | nil => simp [shOk] at h
    | cons p r =>
      obtain ⟨o, t⟩ := p
      simp only [shOk, Bool.and_eq_true] at h
      obtain ⟨⟨⟨ho', hc⟩, ha⟩, hL, hb⟩ := h
      have ho' := Nat.eq_of_beq_eq_true ho'
      have hc := Nat.eq_of_beq_eq_true hc
      subst ho'
      simp only [Sh.dep] at hD
      obtain ⟨x, y, hxy, hx, hy⟩ := hr
      have hxl := Rd.len a hx
      have hcl : cs.length = o + (x.length + y.length) := by
        have := congrArg List.length hxy
        rw [List.length_drop, List.length_append] at this; omega
      have hdr : cs.drop (o + a.n) = y := by rw [← List.drop_drop, hxy, ← hxl, List.drop_left]
      obtain ⟨LL, h1, h2⟩ := ihb.2 r (o + a.n) m D cs hb hL (fun p hp => hk p (List.mem_cons_of_mem _ hp)) (by omega) (by rw [hdr]; exact hy) (by omega)
      have hlit := iha.1 t m D x ha haL (hk (o, t) List.mem_cons_self) (by omega) hx
      refine ⟨x.map litOf :: LL, ?_, ?_⟩
      · rw [List.mapM_cons]
        have e : (cs.drop o).take (P.cellsOf t) = x := by rw [hxy, hc, ← hxl, List.take_left]
        simp only [e, hlit, h1]
        rfl
      · rw [List.flatten_cons, h2, hdr, hxy, List.map_append]
theorem litOf_inj {w w' : World} : ∀ (s : Sh), s.noSl = true → ∀ (cs ds : List Value), Rd w s cs → Rd w' s ds → cs.map litOf = ds.map litOf → cs = ds := by
  intro s
  induction s with
  | bool => rintro _ _ _ ⟨a, rfl⟩ ⟨b, rfl⟩ h; simpa [litOf] using h
  | int k => rintro _ _ _ ⟨a, rfl, _⟩ ⟨b, rfl, _⟩ h; simpa [litOf] using h
  | str =>
    rintro _ _ _ ⟨a, rfl, _⟩ ⟨b, rfl, _⟩ h
    simp [litOf] at h
    have : a = b := by cases a; cases b; simp at h; subst h; rfl
    rw [this]
  | sl e ih => intro h; cases h
  | ag s ih => intro h cs ds hc hd he; exact ih h cs ds hc hd he
  | nil => intro _ cs ds hc hd _; exact Eq.trans hc (Eq.symm hd)
  | cons a b iha ihb =>
    rintro hn _ _ ⟨x, y, rfl, hx, hy⟩ ⟨x', y', rfl, hx', hy'⟩ he
    simp only [Sh.noSl, Bool.and_eq_true] at hn
    rw [List.map_append, List.map_append] at he
    have hl : (x.map litOf).length = (x'.map litOf).length := by simp [Rd.len a hx, Rd.len a hx']
    obtain ⟨h1, h2⟩ := List.append_inj he hl
    rw [iha hn.1.2 x x' hx hx' h1, ihb hn.2 y y' hy hy' h2]
/-- the check of a type that may be compared so -/
def cmpOk (P : Program) (t m : Nat) (s : Sh) : Bool := shOk P (.ag s) t [] 0 && P.keyTypeAt m t && Nat.ble m 10000 && s.noSl && !P.eqGuardType P.depth t
theorem run_eq_agg {t m : Nat} {s : Sh} (hk : cmpOk P t m s = true) {w0 w1 : World} {cs ds : List Value} (hc : Rd w0 s cs) (hd : Rd w1 s ds) (xo yo : Operand) :
    ∃ r : Bool, (r = true ↔ cs = ds) ∧ (∀ w, (do eqGuard .eql t xo yo (.agg cs.toArray) (.agg ds.toArray); binOp .eql t (.agg cs.toArray) (.agg ds.toArray) : Sem Value).run P w = .ok (.bool r) w) ∧
      (∀ w, (do eqGuard .neq t xo yo (.agg cs.toArray) (.agg ds.toArray); binOp .neq t (.agg cs.toArray) (.agg ds.toArray) : Sem Value).run P w = .ok (.bool (!r)) w) := by
  classical
  simp only [cmpOk, Bool.and_eq_true, Bool.not_eq_true'] at hk
  obtain ⟨⟨⟨⟨hs, hkt⟩, hm⟩, hn⟩, hg⟩ := hk
  have hm : m ≤ 10000 := Nat.le_of_ble_eq_true hm
  have form : ∀ zs : List Value, Rd w0 s zs ∨ Rd w1 s zs → (Value.agg zs.toArray).formed P t = true := by
    intro zs hz
    have hl : zs.length = s.n := by rcases hz with h | h <;> exact Rd.len s h
    simp only [shOk, Bool.and_eq_true] at hs
    obtain ⟨⟨_, hcn⟩, hu⟩ := hs
    have hcn := Nat.eq_of_beq_eq_true hcn
    unfold Value.formed
    split at hu
    · rename_i fs ht; simp [ht, hl, hcn]
    · rename_i n e ht; simp [ht, hl, hcn]
    · cases hu
  have l1 := (lits_aux (P := P) (w := w0) (.ag s) hn).1 t m (Sh.ag s).dep cs hs rfl hkt (Nat.le_refl _) hc
  have l2 := (lits_aux (P := P) (w := w1) (.ag s) hn).1 t m (Sh.ag s).dep ds hs rfl hkt (Nat.le_refl _) hd
  have key := fun w => run_equalIn_deep (P := P) (10000 - m) m t hkt w _ _ (.agg cs.toArray) (.agg ds.toArray) _ _ (form cs (.inl hc)) (form ds (.inr hd)) (by simpa [Value.cells] using l1) (by simpa [Value.cells] using l2)
  rw [show 10000 - m + m = 10000 by omega] at key
  refine ⟨decide (cs.map litOf = ds.map litOf), ?_, fun w => ?_, fun w => ?_⟩
  · rw [decide_eq_true_iff]
    exact ⟨litOf_inj s hn cs ds hc hd, fun h => by rw [h]⟩
  · obtain ⟨r, hr, hri⟩ := key w
    have : r = decide (cs.map litOf = ds.map litOf) := by rw [Bool.eq_iff_iff, hri, decide_eq_true_iff]
    rw [Sem.run_bind, run_eqGuard_agg _ _ _ _ _ _ _ hg]
    simp only [Result.andThen]
    rw [run_eql_struct, hr, this]
    rfl
  · obtain ⟨r, hr, hri⟩ := key w
    have : r = decide (cs.map litOf = ds.map litOf) := by rw [Bool.eq_iff_iff, hri, decide_eq_true_iff]
    rw [Sem.run_bind, run_eqGuard_agg _ _ _ _ _ _ _ hg]
    simp only [Result.andThen]
    rw [run_neq_struct, hr, this]
    rfl
end
end V
end Go.Proofs.YtmlmfmdmomegpaaGreatDoor
namespace Go.Proofs.YtmlmfmdmomegpaaGreatDoor
set_option linter.unusedSimpArgs false
set_option linter.unusedVariables false
open Go.RowKit V

/-- a word turned up by one, by k -/
def rot1 (x : Nat) : Nat := if 2 * x ≥ 4294967296 then 2 * x - 4294967296 + 1 else 2 * x
def rotk : Nat → Nat → Nat
  | x, 0 => x
  | x, k+1 => rot1 (rotk x k)
theorem rot1_lt (x : Nat) (h : x < 4294967296) : rot1 x < 4294967296 := by unfold rot1; split <;> omega
theorem rotk_lt (x k : Nat) (h : x < 4294967296) : rotk x k < 4294967296 := by
  induction k with
  | zero => exact h
  | succ k ih => exact rot1_lt _ ih
def rotl (x k : Nat) : Nat := x * 2 ^ k % 4294967296 + x / 2 ^ (32 - k)
theorem rot_step (A C x : Nat) (hAC : A * C = 2147483648) (hx : x < 4294967296) :
    rot1 (x * A % 4294967296 + x / (2 * C)) = x * (2 * A) % 4294967296 + x / C := by
  have hC : 0 < C := Nat.pos_of_ne_zero (by rintro rfl; simp at hAC)
  have hA : 0 < A := Nat.pos_of_ne_zero (by rintro rfl; simp at hAC)
  obtain ⟨q, hq⟩ : ∃ q, x / (2 * C) = q := ⟨_, rfl⟩
  obtain ⟨r, hr⟩ : ∃ r, x % (2 * C) = r := ⟨_, rfl⟩
  have hxe : x = 2 * C * q + r := by rw [← hq, ← hr]; exact (Nat.div_add_mod _ _).symm
  have hr2 : r < 2 * C := by rw [← hr]; exact Nat.mod_lt _ (by omega)
  obtain ⟨b, hb⟩ : ∃ b, r / C = b := ⟨_, rfl⟩
  obtain ⟨s, hs⟩ : ∃ s, r % C = s := ⟨_, rfl⟩
  have hre : r = C * b + s := by rw [← hb, ← hs]; exact (Nat.div_add_mod _ _).symm
  have hs2 : s < C := by rw [← hs]; exact Nat.mod_lt _ hC
  have hb2 : b < 2 := by rw [← hb]; exact Nat.div_lt_of_lt_mul (by rw [Nat.mul_comm]; exact hr2)
  have hxC : x / C = 2 * q + b := by
    rw [hxe, hre, show 2 * C * q + (C * b + s) = s + C * (2 * q + b) by rw [Nat.mul_add, ← Nat.mul_assoc, Nat.mul_comm C 2]; omega, Nat.add_mul_div_left _ _ hC, Nat.div_eq_of_lt hs2]; omega
  have hCA : C * A = 2147483648 := by rw [Nat.mul_comm]; exact hAC
  have e1 : x * A = 4294967296 * q + (2147483648 * b + s * A) := by
    have h1 : 2 * C * q * A = 4294967296 * q := by
      rw [show 2 * C * q * A = 2 * (C * A) * q by rw [Nat.mul_assoc, Nat.mul_comm q A, ← Nat.mul_assoc, Nat.mul_assoc 2 C A], hCA]
    have h2 : C * b * A = 2147483648 * b := by rw [Nat.mul_assoc, Nat.mul_comm b A, ← Nat.mul_assoc, hCA]
    rw [hxe, hre, Nat.add_mul, Nat.add_mul, h1, h2]
  have hsA : s * A + A ≤ 2147483648 := by
    rw [← hCA, ← Nat.succ_mul]; exact Nat.mul_le_mul_right _ hs2
  have hqA : q < A := by
    by_cases h : q < A
    · exact h
    · exfalso
      have : 2 * C * A ≤ 2 * C * q := Nat.mul_le_mul_left _ (by omega)
      rw [Nat.mul_assoc, hCA] at this; omega
  have e2 : x * (2 * A) = 2 * (x * A) := by rw [Nat.mul_left_comm]
  rw [hxC, e2, e1, hq]
  generalize s * A = u at *
  unfold rot1
  rcases (show b = 0 ∨ b = 1 by omega) with rfl | rfl
  · rw [if_neg (by omega)]; omega
  · rw [if_pos (by omega)]; omega
theorem rotk_eq (x : Nat) (h : x < 4294967296) : ∀ k, k ≤ 31 → rotk x k = rotl x k
  | 0, _ => by simp only [rotk, rotl]; omega
  | k+1, hk => by
    rw [rotk, rotk_eq x h k (by omega)]
    have := rot_step (2 ^ k) (2 ^ (31 - k)) x (by rw [← Nat.pow_add, show k + (31 - k) = 31 by omega]) h
    rw [show 2 * 2 ^ (31 - k) = 2 ^ (32 - k) by rw [← Nat.pow_succ', show (31 - k).succ = 32 - k by omega]] at this
    unfold rotl
    rw [this, Nat.pow_succ', show 32 - (k + 1) = 31 - k by omega]
theorem rotl_lt (x k : Nat) (h : x < 4294967296) (hk : k ≤ 31) : rotl x k < 4294967296 := by rw [← rotk_eq x h k hk]; exact rotk_lt _ _ h

/-! the quarter round, on lists of words -/
def gw (ws : List Nat) (i : Nat) : Nat := ws.getD i 0
def Words (ws : List Nat) : Prop := ws.length = 16 ∧ ∀ x ∈ ws, x < 4294967296
theorem Words.get {ws : List Nat} (h : Words ws) (i : Nat) : gw ws i < 4294967296 := by
  unfold gw
  rw [List.getD_eq_getElem?_getD]
  cases hi : ws[i]? with
  | none => simp
  | some x => exact h.2 x (List.mem_of_getElem? hi)
theorem Words.set {ws : List Nat} (h : Words ws) (i x : Nat) (hx : x < 4294967296) : Words (ws.set i x) :=
  ⟨by simpa using h.1, fun y hy => by
    rcases List.mem_or_eq_of_mem_set hy with h1 | h1
    · exact h.2 y h1
    · omega⟩
abbrev M32 : Nat := 4294967296
def sg0 (x : Nat) : Nat := rotl x 25 ^^^ rotl x 14 ^^^ (x / 8)
def sg1 (x : Nat) : Nat := rotl x 15 ^^^ rotl x 13 ^^^ (x / 1024)
def bs1 (x : Nat) : Nat := rotl x 26 ^^^ rotl x 21 ^^^ rotl x 7
def bs0 (x : Nat) : Nat := rotl x 30 ^^^ rotl x 19 ^^^ rotl x 10
def chf (e f g : Nat) : Nat := (e &&& f) ^^^ ((4294967295 - e) &&& g)
def maj (a b c : Nat) : Nat := (a &&& b) ^^^ (a &&& c) ^^^ (b &&& c)
theorem xor_lt32 {x y : Nat} (hx : x < M32) (hy : y < M32) : x ^^^ y < M32 := Nat.xor_lt_two_pow (n := 32) hx hy
theorem and_lt32 {x y : Nat} (hx : x < M32) : x &&& y < M32 := Nat.lt_of_le_of_lt Nat.and_le_left hx
theorem sg0_lt {x : Nat} (h : x < M32) : sg0 x < M32 := xor_lt32 (xor_lt32 (rotl_lt _ _ h (by decide)) (rotl_lt _ _ h (by decide))) (Nat.lt_of_le_of_lt (Nat.div_le_self _ _) h)
theorem sg1_lt {x : Nat} (h : x < M32) : sg1 x < M32 := xor_lt32 (xor_lt32 (rotl_lt _ _ h (by decide)) (rotl_lt _ _ h (by decide))) (Nat.lt_of_le_of_lt (Nat.div_le_self _ _) h)
theorem bs1_lt {x : Nat} (h : x < M32) : bs1 x < M32 := xor_lt32 (xor_lt32 (rotl_lt _ _ h (by decide)) (rotl_lt _ _ h (by decide))) (rotl_lt _ _ h (by decide))
theorem bs0_lt {x : Nat} (h : x < M32) : bs0 x < M32 := xor_lt32 (xor_lt32 (rotl_lt _ _ h (by decide)) (rotl_lt _ _ h (by decide))) (rotl_lt _ _ h (by decide))
theorem chf_lt {e f g : Nat} (h : e < M32) (hg : g < M32) : chf e f g < M32 := xor_lt32 (and_lt32 h) (Nat.lt_of_le_of_lt Nat.and_le_right hg)
theorem maj_lt {a b c : Nat} (h : a < M32) (hb : b < M32) : maj a b c < M32 := xor_lt32 (xor_lt32 (and_lt32 h) (and_lt32 h)) (and_lt32 hb)
/-- four octets, the greatest one first -/
def be4 (s : List UInt8) (i : Nat) : Nat := (s.getD i 0).toNat * 16777216 + (s.getD (i + 1) 0).toNat * 65536 + (s.getD (i + 2) 0).toNat * 256 + (s.getD (i + 3) 0).toNat
theorem be4_lt (s : List UInt8) (i : Nat) : be4 s i < M32 := by
  have h0 := (s.getD i 0).toNat_lt; have h1 := (s.getD (i + 1) 0).toNat_lt; have h2 := (s.getD (i + 2) 0).toNat_lt; have h3 := (s.getD (i + 3) 0).toNat_lt
  unfold be4 M32; omega
/-- the first n words of a block's schedule -/
def wnext (b : List UInt8) (l : List Nat) (t : Nat) : Nat := if t < 16 then be4 b (4 * t) else (l.getD (t - 16) 0 + l.getD (t - 7) 0 + sg0 (l.getD (t - 15) 0) + sg1 (l.getD (t - 2) 0)) % M32
def wsch (b : List UInt8) : Nat → List Nat
  | 0 => []
  | t + 1 => wsch b t ++ [wnext b (wsch b t) t]
theorem wsch_len (b : List UInt8) : ∀ t, (wsch b t).length = t
  | 0 => rfl
  | t + 1 => by rw [wsch, List.length_append, wsch_len b t]; rfl
theorem getD_lt32 {l : List Nat} (h : ∀ x ∈ l, x < M32) (i : Nat) : l.getD i 0 < M32 := by
  rw [List.getD_eq_getElem?_getD]
  cases hi : l[i]? with
  | none => exact by decide
  | some x => exact h x (List.mem_of_getElem? hi)
theorem wnext_lt (b : List UInt8) (l : List Nat) (t : Nat) : wnext b l t < M32 := by
  unfold wnext
  split
  · exact be4_lt _ _
  · exact Nat.mod_lt _ (by decide)
theorem wsch_lt (b : List UInt8) : ∀ t, ∀ x ∈ wsch b t, x < M32
  | 0 => by simp [wsch]
  | t + 1 => fun x hx => by
    rw [wsch, List.mem_append] at hx
    rcases hx with h | h
    · exact wsch_lt b t x h
    · rw [List.mem_singleton] at h; rw [h]; exact wnext_lt _ _ _
/-- a round -/
def one (v : List Nat) (k w : Nat) : Nat := (v.getD 7 0 + bs1 (v.getD 4 0) + chf (v.getD 4 0) (v.getD 5 0) (v.getD 6 0) + k + w) % M32
def two (v : List Nat) : Nat := (bs0 (v.getD 0 0) + maj (v.getD 0 0) (v.getD 1 0) (v.getD 2 0)) % M32
def rnd8 (v : List Nat) (k w : Nat) : List Nat := [(one v k w + two v) % M32, v.getD 0 0, v.getD 1 0, v.getD 2 0, (v.getD 3 0 + one v k w) % M32, v.getD 4 0, v.getD 5 0, v.getD 6 0]
def W8 (v : List Nat) : Prop := v.length = 8 ∧ ∀ x ∈ v, x < M32
theorem W8.get {v : List Nat} (h : W8 v) (i : Nat) : v.getD i 0 < M32 := getD_lt32 h.2 i
theorem W8.rnd {v : List Nat} (h : W8 v) (k w : Nat) : W8 (rnd8 v k w) := by
  refine ⟨rfl, fun x hx => ?_⟩
  have := h.get
  simp only [rnd8, List.mem_cons, List.not_mem_nil, or_false] at hx
  rcases hx with rfl | rfl | rfl | rfl | rfl | rfl | rfl | rfl <;> first | exact Nat.mod_lt _ (by decide) | exact this _
def rnds (K W : List Nat) (v : List Nat) : Nat → List Nat
  | 0 => v
  | t + 1 => rnd8 (rnds K W v t) (K.getD t 0) (W.getD t 0)
theorem rnds_W8 (K W : List Nat) {v : List Nat} (h : W8 v) : ∀ t, W8 (rnds K W v t)
  | 0 => h
  | t + 1 => (rnds_W8 K W h t).rnd _ _
/-- a block is mixed in -/
def addW (h v : List Nat) : List Nat := (List.range 8).map fun i => (h.getD i 0 + v.getD i 0) % M32
theorem addW_W8 (h v : List Nat) : W8 (addW h v) := by
  refine ⟨by simp [addW], fun x hx => ?_⟩
  obtain ⟨i, _, rfl⟩ := List.mem_map.1 hx
  exact Nat.mod_lt _ (by decide)
def mix1 (K h : List Nat) (b : List UInt8) : List Nat := addW h (rnds K (wsch b 64) h 64)
/-- the first n blocks of octets -/
def mixJ (K : List Nat) (s : List UInt8) (h : List Nat) : Nat → List Nat
  | 0 => h
  | n + 1 => mix1 K (mixJ K s h n) ((s.drop (64 * n)).take 64)
def mixA (K h : List Nat) (s : List UInt8) : List Nat := mixJ K s h (s.length / 64)
theorem mixJ_W8 (K : List Nat) (s : List UInt8) {h : List Nat} (hh : W8 h) : ∀ n, W8 (mixJ K s h n)
  | 0 => hh
  | n + 1 => addW_W8 _ _
theorem mixA_W8 (K : List Nat) {h : List Nat} (hh : W8 h) (s : List UInt8) : W8 (mixA K h s) := mixJ_W8 K s hh _
theorem mixJ_add (K : List Nat) (s : List UInt8) (h : List Nat) (a : Nat) : ∀ n, mixJ K s h (a + n) = mixJ K (s.drop (64 * a)) (mixJ K s h a) n
  | 0 => rfl
  | n + 1 => by
    rw [← Nat.add_assoc, mixJ, mixJ, mixJ_add K s h a n, List.drop_drop, Nat.mul_add]
theorem mixJ_pre (K : List Nat) (s t : List UInt8) (h : List Nat) : ∀ n, 64 * n ≤ s.length → mixJ K (s ++ t) h n = mixJ K s h n
  | 0, _ => rfl
  | n + 1, hn => by
    rw [mixJ, mixJ, mixJ_pre K s t h n (by omega), List.drop_append_of_le_length (by omega), List.take_append_of_le_length (by rw [List.length_drop]; omega)]
/-- full blocks first, the rest behind them -/
theorem mixA_app (K : List Nat) (s t : List UInt8) (h : List Nat) (hs : s.length % 64 = 0) : mixA K h (s ++ t) = mixA K (mixA K h s) t := by
  obtain ⟨a, ha⟩ : ∃ a, s.length = 64 * a := ⟨s.length / 64, by omega⟩
  unfold mixA
  rw [List.length_append, show (s.length + t.length) / 64 = a + t.length / 64 by omega, show s.length / 64 = a by omega, mixJ_add, mixJ_pre K s t h a (by omega)]
  rw [List.drop_append_of_le_length (by omega), List.drop_eq_nil_of_le (by omega), List.nil_append]
theorem mixA_full (K h : List Nat) (s : List UInt8) : mixA K h (s.take (s.length / 64 * 64)) = mixA K h s := by
  have e : s = s.take (s.length / 64 * 64) ++ s.drop (s.length / 64 * 64) := (List.take_append_drop _ _).symm
  have hl : (s.take (s.length / 64 * 64)).length = s.length / 64 * 64 := by rw [List.length_take]; omega
  unfold mixA
  rw [hl, Nat.mul_div_cancel _ (by decide)]
  conv => rhs; rw [e]
  rw [List.length_append, hl, List.length_drop, show (s.length / 64 * 64 + (s.length - s.length / 64 * 64)) / 64 = s.length / 64 by omega, mixJ_pre K _ _ h _ (by rw [hl]; omega)]
/-- what is left over -/
def rest (s : List UInt8) : List UInt8 := s.drop (s.length / 64 * 64)
theorem rest_len (s : List UInt8) : (rest s).length = s.length % 64 := by unfold rest; rw [List.length_drop]; omega
theorem rest_app (p x : List UInt8) (hp : p.length % 64 = 0) : rest (p ++ x) = rest x := by
  unfold rest
  rw [List.length_append, show (p.length + x.length) / 64 * 64 = p.length + x.length / 64 * 64 by omega, ← List.drop_drop, List.drop_left]
/-- more octets behind some -/
theorem mix_more (K h : List Nat) (a s : List UInt8) : mixA K (mixA K h a) (rest a ++ s) = mixA K h (a ++ s) ∧ rest (rest a ++ s) = rest (a ++ s) := by
  have hl : (a.take (a.length / 64 * 64)).length = a.length / 64 * 64 := by rw [List.length_take]; omega
  have e : a ++ s = a.take (a.length / 64 * 64) ++ (rest a ++ s) := by rw [← List.append_assoc]; unfold rest; rw [List.take_append_drop]
  constructor
  · rw [e, mixA_app K _ _ h (by rw [hl]; omega), mixA_full]
  · conv => rhs; rw [e]
    rw [rest_app (a.take (a.length / 64 * 64)) (rest a ++ s) (by rw [hl]; omega)]
/-- eight octets of a number, the greatest one first -/
def be8 (n : Nat) : List UInt8 := (List.range 8).map fun i => UInt8.ofNat (n / 2 ^ (56 - 8 * i))
def closing (l : Nat) (n : Nat) : List UInt8 := (128 : UInt8) :: (List.replicate ((119 - l) % 64) 0 ++ be8 (n * 8))
/-- the octets of words -/
def out4 (w : Nat) : List UInt8 := [UInt8.ofNat (w / 16777216), UInt8.ofNat (w / 65536), UInt8.ofNat (w / 256), UInt8.ofNat w]
def outW (h : List Nat) : List UInt8 := h.flatMap out4
theorem outW_len : ∀ h : List Nat, (outW h).length = 4 * h.length
  | [] => rfl
  | x :: h => by
    have := outW_len h
    unfold outW at *
    rw [List.flatMap_cons, List.length_append, this, List.length_cons]
    show 4 + _ = _
    omega
/-- the digest of what words and left octets stand for -/
def endL (K h : List Nat) (tail : List UInt8) (n : Nat) : List UInt8 := outW (mixA K h (tail ++ closing tail.length n))
theorem endL_len (K : List Nat) {h : List Nat} (hh : W8 h) (tail : List UInt8) (n : Nat) : (endL K h tail n).length = 32 := by
  unfold endL; rw [outW_len, (mixA_W8 K hh _).1]
/-- the digest -/
def sumL2 (K S : List Nat) (s : List UInt8) : List UInt8 := endL K (mixA K S s) (rest s) s.length
set_option maxRecDepth 100000
theorem Mul64_p (x y : Nat) (hx : x < 18446744073709551616) (hy : y < 18446744073709551616) : PureF Tryz.prog 136 #[.int .u64 x, .int .u64 y] (.tuple #[.int .u64 (x * y / 18446744073709551616 : Nat), .int .u64 (x * y % 18446744073709551616 : Nat)]) := fun w =>
  (Any.bits_Mul64 lays264 x y hx hy w).mono fun e w' ⟨h1, h2⟩ => ⟨h1, by rw [h2]; exact Ext.refl _⟩
def TR : V.Tab := TT.filter fun x => !Nat.beq x.1 78
theorem TRok : V.tabOk Tryz.prog TR = true := by kernel_rfl
theorem conv_neg (k : Nat) (h1 : 1 ≤ k) (h2 : k ≤ 31) (w : World) : (convert 3 78 (.int .i64 (-(k : Int)))).run Tryz.prog w = .ok (.int .u64 (18446744073709551616 - k : Nat)) w := by
  have e : IntKind.u64.wrap (-(k : Int)) = ((18446744073709551616 - k : Nat) : Int) := by
    show (-(k : Int)) % 18446744073709551616 = _
    omega
  rw [← e]
  simp only [convert, Sem.run_bind, V.run_underlying (tab_int TTok (t := 3) rfl), V.run_underlying (tab_int TTok (t := 78) rfl), Result.andThen]
  rfl
theorem rotN_p (x k : Nat) (hx : x < 4294967296) (h1 : 1 ≤ k) (h2 : k ≤ 31) : PureF Tryz.prog 184 #[.int .u32 x, .int .i64 (-(k : Int))] (.int .u32 (rotl x (32 - k) : Nat)) := by
  have hor : (x * 2 ^ (32 - k) % 4294967296) ||| (x / 2 ^ k) = rotl x (32 - k) := by
    unfold rotl
    rw [show 32 - (32 - k) = k by omega]
    refine nat_join (32 - k) _ _ ?_ ?_
    · rw [show 4294967296 = 2 ^ (32 - k) * 2 ^ k by rw [← Nat.pow_add, show (32 - k) + k = 32 by omega], Nat.mul_comm x, Nat.mul_mod_mul_left, Nat.mul_mod_right]
    · refine Nat.div_lt_of_lt_mul ?_
      rw [← Nat.pow_add, show k + (32 - k) = 32 by omega]; exact hx
  have hdv : x / 2 ^ k ≤ x := Nat.div_le_self _ _
  have hand : (18446744073709551616 - k) &&& 31 = 32 - k := by
    have := Nat.and_two_pow_sub_one_eq_mod (18446744073709551616 - k) 5
    rw [show 2 ^ 5 - 1 = 31 from rfl, show (2 : Nat) ^ 5 = 32 from rfl] at this
    rw [this]; omega
  refine v_pure (T := TR) TRok FFok Tryz.func184 rfl rfl fun w0 => ?_
  conv => whnf
  refine VSeq.mk fun Kq hKq => ?_
  conv => whnf
  refine hKq _ _ _ (.refl _) ?_
  clear hKq Kq
  conv => whnf
  refine VSeq.mk fun Kq hKq => ?_
  conv => whnf
  refine ⟨.int .u64 (18446744073709551616 - k : Nat), w0, conv_neg k h1 h2 w0, ?_⟩
  conv => whnf
  refine ⟨18446744073709551616 - k, 31, 32 - k, ⟨by first | rfl | omega, by first | rfl | omega, by omega, by omega⟩, by (dsimp only; exact hand), ?_⟩
  conv => whnf
  refine hKq _ _ _ (.refl _) ?_
  clear hKq Kq
  conv => whnf
  refine VSeq.mk fun Kq hKq => ?_
  conv => whnf
  refine ⟨32 - k, ⟨by first | rfl | omega, by omega⟩, ?_⟩
  conv => whnf
  refine ⟨k, ⟨by first | rfl | omega, by omega⟩, ?_⟩
  conv => whnf
  refine ⟨x * 2 ^ (32 - k) % 4294967296, x / 2 ^ k, rotl x (32 - k), ⟨by first | rfl | omega, by first | rfl | omega, by omega, by omega⟩, by (dsimp only; exact hor), ?_⟩
  conv => whnf
  refine hKq _ _ _ (.refl _) ?_
  clear hKq Kq
  conv => whnf
  exact ⟨rfl, Ext.refl _⟩
theorem Ext_freeze {a w : World} (h : Ext a w) (g n : Nat) (hg : a.heap.size ≤ g) : Ext a (w.freeze ⟨g, 0, none⟩ n) := by
  unfold World.freeze
  split
  · exact h
  · exact Below.trans (show Below a.heap.size a w from h) ⟨rfl, rfl, rfl, by simp, fun k hk => by
      simp only [Array.getElem?_modify]
      rw [if_neg (by omega)]⟩
theorem clone_p (s : ByteArray) (hs : s.size ≤ 1000000) : PureF Tryz.prog 185 #[.string s] (.string s) := by
  have hsl : s.data.toList.length = s.size := by simp
  first | refine v_pure TTok FFok Tryz.func185 rfl rfl fun w0 => ?_ | refine v_pure (args := []) TTok FFok Tryz.func185 rfl rfl fun w0 => ?_
  conv => whnf
  refine VSeq.mk fun Kq hKq => ?_
  conv => whnf
  refine hKq _ _ _ (.refl _) ?_
  clear hKq Kq
  conv => whnf
  refine VSeq.mk fun Kq hKq => ?_
  conv => whnf
  refine VSeq.mk fun Kq hKq => ?_
  conv => whnf
  refine hKq _ _ _ (.refl _) ?_
  clear hKq Kq
  conv => whnf
  have hp := Hp.nil w0
  refine ⟨fun h0 => ?_, fun h0 => ?_⟩
  · have h0 := of_decide_eq_true h0
    conv => whnf
    refine VSeq.mk fun Kq hKq => ?_
    conv => whnf
    refine hKq _ _ _ (.refl _) ?_
    clear hKq Kq
    conv => whnf
    refine ⟨?_, hp.ext⟩
    have : s = ⟨#[]⟩ := by
      apply ba_eq
      exact List.eq_nil_of_length_eq_zero (by omega)
    rw [this]; rfl
  · have h0 := of_decide_eq_false h0
    conv => whnf
    refine hKq _ _ _ (.refl _) ?_
    clear hKq Kq
    conv => whnf
    refine VSeq.mk fun Kq hKq => ?_
    conv => whnf
    refine hp.kmkS sl88 z5 s.size (by omega) (by unfold maxLen; omega) fun b w hp hx => ?_
    conv => whnf
    refine hKq _ _ _ (.refl _) ?_
    clear hKq Kq
    conv => whnf
    refine VSeq.mk fun Kq hKq => ?_
    conv => whnf
    refine hp.kcopyS sl88 0 rfl s (bytesV s.data.toList) (by rw [List.take_of_length_le (by omega)]) (by rw [bytesV_len, List.length_replicate]; omega) fun w hp => ?_
    simp only [List.set_cons_zero] at hp
    rw [List.drop_eq_nil_of_le (by rw [bytesV_len, List.length_replicate]; omega), List.append_nil] at hp
    conv => whnf
    refine hKq _ _ _ (.refl _) ?_
    clear hKq Kq
    conv => whnf
    refine VSeq.mk fun Kq hKq => ?_
    conv => whnf
    refine ⟨0, ⟨by first | rfl | omega, by omega⟩, ?_⟩
    conv => whnf
    have hl0 : s.data.toList ≠ [] := fun h => by rw [h] at hsl; simp at hsl; omega
    have hb : Blk w b (bytesV s.data.toList) 5 := hp.get (i := 0) rfl
    have hu := Go.Lib.run_unsafeString_row (P := Tryz.prog) (w := w) 211 3 9 5 (by kernel_rfl) (by kernel_rfl) b s.size (by obtain ⟨f, hf, hh⟩ := hb; simp [World.shape?, hh, bytesV_len, hsl]) s.data.toList hl0 (by omega) (by omega) (fun j x hj => by rw [add_none, Nat.zero_add, hb.cell]; exact bytesV_get hj)
    rw [hsl] at hu
    refine ⟨_, _, hu, ?_⟩
    conv => whnf
    refine hKq _ _ _ (.refl _) ?_
    clear hKq Kq
    conv => whnf
    refine ⟨rfl, Ext_freeze hp.ext b _ ?_⟩
    have := (hp.lo _ (List.mem_cons_self) b rfl).1
    rcases this with h | h
    · cases h
    · exact h
theorem Clone_p (s : ByteArray) (hs : s.size ≤ 1000000) : PureF Tryz.prog 170 #[.string s] (.string s) := by
  first | refine v_pure TTok FFok Tryz.func170 rfl rfl fun w0 => ?_ | refine v_pure (args := []) TTok FFok Tryz.func170 rfl rfl fun w0 => ?_
  conv => whnf
  refine VSeq.mk fun Kq hKq => ?_
  conv => whnf
  refine hKq _ _ _ (.refl _) ?_
  clear hKq Kq
  conv => whnf
  refine VSeq.mk fun Kq hKq => ?_
  conv => whnf
  have hp := Hp.nil w0
  refine PureF.use (clone_p s hs) fun w hx => ?_
  try (have hp := hp.call hx)
  conv => whnf
  refine hKq _ _ _ (.refl _) ?_
  clear hKq Kq
  conv => whnf
  exact ⟨rfl, hp.ext⟩
end Go.Proofs.YtmlmfmdmomegpaaGreatDoor
