/- Written by a program of mine off the seat's translation: the types' table, the functions that have a body. -/
import Derived.Test.YtejphmgpndgliaaProg
import Derived.Test.YtejphmgpndgliaaD
namespace Go.Proofs.Ytejphmgpndgliaa
open Go.RowKit
def TT : V.Tab := [
  (0, ⟨.other, 1⟩),
  (1, ⟨.other, 1⟩),
  (2, ⟨.int .i64, 1⟩),
  (3, ⟨.int .i64, 1⟩),
  (4, ⟨.bool, 1⟩),
  (5, ⟨.int .u8, 1⟩),
  (6, ⟨.int .u8, 1⟩),
  (7, ⟨.struct [(0, 2), (1, 3), (2, 4), (3, 6)], 4⟩),
  (8, ⟨.struct [(0, 2), (1, 3), (2, 4), (3, 6)], 4⟩),
  (9, ⟨.str, 1⟩),
  (10, ⟨.str, 1⟩),
  (11, ⟨.str, 1⟩),
  (12, ⟨.int .u64, 1⟩),
  (13, ⟨.struct [(0, 9), (1, 12)], 2⟩),
  (14, ⟨.struct [(0, 9), (1, 12)], 2⟩),
  (15, ⟨.ptr 94, 1⟩),
  (16, ⟨.ptr 97, 1⟩),
  (17, ⟨.ptr 104, 1⟩),
  (18, ⟨.struct [(0, 17)], 1⟩),
  (19, ⟨.struct [(0, 17)], 1⟩),
  (20, ⟨.other, 1⟩),
  (21, ⟨.int .i32, 1⟩),
  (22, ⟨.other, 1⟩),
  (23, ⟨.other, 1⟩),
  (24, ⟨.other, 1⟩),
  (25, ⟨.int .i64, 1⟩),
  (26, ⟨.other, 1⟩),
  (27, ⟨.other, 1⟩),
  (28, ⟨.other, 1⟩),
  (29, ⟨.slice 5, 1⟩),
  (30, ⟨.other, 1⟩),
  (31, ⟨.other, 1⟩),
  (32, ⟨.other, 1⟩),
  (33, ⟨.int .u64, 1⟩),
  (34, ⟨.other, 1⟩),
  (35, ⟨.other, 1⟩),
  (36, ⟨.other, 1⟩),
  (37, ⟨.arr 5 9, 5⟩),
  (38, ⟨.other, 1⟩),
  (39, ⟨.arr 2 9, 2⟩),
  (40, ⟨.other, 1⟩),
  (41, ⟨.other, 1⟩),
  (42, ⟨.arr 16 3, 16⟩),
  (43, ⟨.arr 16 3, 16⟩),
  (44, ⟨.other, 1⟩),
  (45, ⟨.other, 1⟩),
  (46, ⟨.other, 1⟩),
  (47, ⟨.other, 1⟩),
  (48, ⟨.other, 1⟩),
  (49, ⟨.arr 32 5, 32⟩),
  (50, ⟨.other, 1⟩),
  (51, ⟨.other, 1⟩),
  (52, ⟨.ptr 54, 1⟩),
  (53, ⟨.struct [(0, 52), (1, 29)], 2⟩),
  (54, ⟨.struct [(0, 52), (1, 29)], 2⟩),
  (55, ⟨.other, 1⟩),
  (56, ⟨.other, 1⟩),
  (57, ⟨.other, 1⟩),
  (58, ⟨.other, 1⟩),
  (59, ⟨.other, 1⟩),
  (60, ⟨.other, 1⟩),
  (61, ⟨.arr 16 5, 16⟩),
  (62, ⟨.other, 1⟩),
  (63, ⟨.slice 3, 1⟩),
  (64, ⟨.other, 1⟩),
  (65, ⟨.other, 1⟩),
  (66, ⟨.int .u64, 1⟩),
  (67, ⟨.arr 5 66, 5⟩),
  (68, ⟨.arr 5 66, 5⟩),
  (69, ⟨.other, 1⟩),
  (70, ⟨.struct [(0, 68), (5, 68)], 10⟩),
  (71, ⟨.struct [(0, 68), (5, 68)], 10⟩),
  (72, ⟨.struct [(0, 71), (10, 71), (20, 68)], 25⟩),
  (73, ⟨.struct [(0, 71), (10, 71), (20, 68)], 25⟩),
  (74, ⟨.other, 1⟩),
  (75, ⟨.other, 1⟩),
  (76, ⟨.other, 1⟩),
  (77, ⟨.other, 1⟩),
  (78, ⟨.other, 1⟩),
  (79, ⟨.int .u32, 1⟩),
  (80, ⟨.other, 1⟩),
  (81, ⟨.other, 1⟩),
  (82, ⟨.other, 1⟩),
  (83, ⟨.other, 1⟩),
  (84, ⟨.ptr 5, 1⟩),
  (85, ⟨.other, 1⟩),
  (86, ⟨.ptr 73, 1⟩),
  (87, ⟨.other, 1⟩),
  (88, ⟨.other, 1⟩),
  (89, ⟨.arr 5 4, 5⟩),
  (90, ⟨.other, 1⟩),
  (91, ⟨.other, 1⟩),
  (92, ⟨.other, 1⟩),
  (93, ⟨.struct [(0, 17), (1, 17), (2, 17), (3, 9)], 4⟩),
  (94, ⟨.struct [(0, 17), (1, 17), (2, 17), (3, 9)], 4⟩),
  (95, ⟨.arr 0 16, 0⟩),
  (96, ⟨.struct [(0, 95)], 0⟩),
  (97, ⟨.struct [(0, 95)], 0⟩),
  (98, ⟨.int .u8, 1⟩),
  (99, ⟨.int .u8, 1⟩),
  (100, ⟨.other, 1⟩),
  (101, ⟨.int .i32, 1⟩),
  (102, ⟨.int .i32, 1⟩),
  (103, ⟨.struct [(0, 12), (1, 12), (2, 79), (3, 98), (4, 5), (5, 5), (6, 99), (7, 100), (8, 84), (9, 101), (10, 102)], 11⟩),
  (104, ⟨.struct [(0, 12), (1, 12), (2, 79), (3, 98), (4, 5), (5, 5), (6, 99), (7, 100), (8, 84), (9, 101), (10, 102)], 11⟩)]
theorem TTok : V.tabOk Try.prog TT = true := by kernel_rfl
def FF : List Nat := [2, 3, 4, 5, 6, 7, 8, 9, 10, 11, 12, 13, 14, 15, 16, 17, 18, 19, 20, 21, 22, 23, 24, 25, 26, 27, 28, 29, 30, 31, 32, 33, 34, 35, 36, 37, 38, 39, 40, 41, 42, 43, 44, 45, 46, 47, 48, 49, 50, 51, 52, 53, 54, 55, 56, 58, 59]
theorem en2 : Enters Try.prog 2 := enters_of Try.func2 (by kernel_rfl) rfl
theorem en3 : Enters Try.prog 3 := enters_of Try.func3 (by kernel_rfl) rfl
theorem en4 : Enters Try.prog 4 := enters_of Try.func4 (by kernel_rfl) rfl
theorem en5 : Enters Try.prog 5 := enters_of Try.func5 (by kernel_rfl) rfl
theorem en6 : Enters Try.prog 6 := enters_of Try.func6 (by kernel_rfl) rfl
theorem en7 : Enters Try.prog 7 := enters_of Try.func7 (by kernel_rfl) rfl
theorem en8 : Enters Try.prog 8 := enters_of Try.func8 (by kernel_rfl) rfl
theorem en9 : Enters Try.prog 9 := enters_of Try.func9 (by kernel_rfl) rfl
theorem en10 : Enters Try.prog 10 := enters_of Try.func10 (by kernel_rfl) rfl
theorem en11 : Enters Try.prog 11 := enters_of Try.func11 (by kernel_rfl) rfl
theorem en12 : Enters Try.prog 12 := enters_of Try.func12 (by kernel_rfl) rfl
theorem en13 : Enters Try.prog 13 := enters_of Try.func13 (by kernel_rfl) rfl
theorem en14 : Enters Try.prog 14 := enters_of Try.func14 (by kernel_rfl) rfl
theorem en15 : Enters Try.prog 15 := enters_of Try.func15 (by kernel_rfl) rfl
theorem en16 : Enters Try.prog 16 := enters_of Try.func16 (by kernel_rfl) rfl
theorem en17 : Enters Try.prog 17 := enters_of Try.func17 (by kernel_rfl) rfl
theorem en18 : Enters Try.prog 18 := enters_of Try.func18 (by kernel_rfl) rfl
theorem en19 : Enters Try.prog 19 := enters_of Try.func19 (by kernel_rfl) rfl
theorem en20 : Enters Try.prog 20 := enters_of Try.func20 (by kernel_rfl) rfl
theorem en21 : Enters Try.prog 21 := enters_of Try.func21 (by kernel_rfl) rfl
theorem en22 : Enters Try.prog 22 := enters_of Try.func22 (by kernel_rfl) rfl
theorem en23 : Enters Try.prog 23 := enters_of Try.func23 (by kernel_rfl) rfl
theorem en24 : Enters Try.prog 24 := enters_of Try.func24 (by kernel_rfl) rfl
theorem en25 : Enters Try.prog 25 := enters_of Try.func25 (by kernel_rfl) rfl
theorem en26 : Enters Try.prog 26 := enters_of Try.func26 (by kernel_rfl) rfl
theorem en27 : Enters Try.prog 27 := enters_of Try.func27 (by kernel_rfl) rfl
theorem en28 : Enters Try.prog 28 := enters_of Try.func28 (by kernel_rfl) rfl
theorem en29 : Enters Try.prog 29 := enters_of Try.func29 (by kernel_rfl) rfl
theorem en30 : Enters Try.prog 30 := enters_of Try.func30 (by kernel_rfl) rfl
theorem en31 : Enters Try.prog 31 := enters_of Try.func31 (by kernel_rfl) rfl
theorem en32 : Enters Try.prog 32 := enters_of Try.func32 (by kernel_rfl) rfl
theorem en33 : Enters Try.prog 33 := enters_of Try.func33 (by kernel_rfl) rfl
theorem en34 : Enters Try.prog 34 := enters_of Try.func34 (by kernel_rfl) rfl
theorem en35 : Enters Try.prog 35 := enters_of Try.func35 (by kernel_rfl) rfl
theorem en36 : Enters Try.prog 36 := enters_of Try.func36 (by kernel_rfl) rfl
theorem en37 : Enters Try.prog 37 := enters_of Try.func37 (by kernel_rfl) rfl
theorem en38 : Enters Try.prog 38 := enters_of Try.func38 (by kernel_rfl) rfl
theorem en39 : Enters Try.prog 39 := enters_of Try.func39 (by kernel_rfl) rfl
theorem en40 : Enters Try.prog 40 := enters_of Try.func40 (by kernel_rfl) rfl
theorem en41 : Enters Try.prog 41 := enters_of Try.func41 (by kernel_rfl) rfl
theorem en42 : Enters Try.prog 42 := enters_of Try.func42 (by kernel_rfl) rfl
theorem en43 : Enters Try.prog 43 := enters_of Try.func43 (by kernel_rfl) rfl
theorem en44 : Enters Try.prog 44 := enters_of Try.func44 (by kernel_rfl) rfl
theorem en45 : Enters Try.prog 45 := enters_of Try.func45 (by kernel_rfl) rfl
theorem en46 : Enters Try.prog 46 := enters_of Try.func46 (by kernel_rfl) rfl
theorem en47 : Enters Try.prog 47 := enters_of Try.func47 (by kernel_rfl) rfl
theorem en48 : Enters Try.prog 48 := enters_of Try.func48 (by kernel_rfl) rfl
theorem en49 : Enters Try.prog 49 := enters_of Try.func49 (by kernel_rfl) rfl
theorem en50 : Enters Try.prog 50 := enters_of Try.func50 (by kernel_rfl) rfl
theorem en51 : Enters Try.prog 51 := enters_of Try.func51 (by kernel_rfl) rfl
theorem en52 : Enters Try.prog 52 := enters_of Try.func52 (by kernel_rfl) rfl
theorem en53 : Enters Try.prog 53 := enters_of Try.func53 (by kernel_rfl) rfl
theorem en54 : Enters Try.prog 54 := enters_of Try.func54 (by kernel_rfl) rfl
theorem en55 : Enters Try.prog 55 := enters_of Try.func55 (by kernel_rfl) rfl
theorem en56 : Enters Try.prog 56 := enters_of Try.func56 (by kernel_rfl) rfl
theorem en58 : Enters Try.prog 58 := enters_of Try.func58 (by kernel_rfl) rfl
theorem en59 : Enters Try.prog 59 := enters_of Try.func59 (by kernel_rfl) rfl
theorem FFok : ∀ f, V.memB f FF = true → Enters Try.prog f :=
  V.memB_cons en2 <| V.memB_cons en3 <| V.memB_cons en4 <| V.memB_cons en5 <| V.memB_cons en6 <| V.memB_cons en7 <| V.memB_cons en8 <| V.memB_cons en9 <| V.memB_cons en10 <| V.memB_cons en11 <| V.memB_cons en12 <| V.memB_cons en13 <| V.memB_cons en14 <| V.memB_cons en15 <| V.memB_cons en16 <| V.memB_cons en17 <| V.memB_cons en18 <| V.memB_cons en19 <| V.memB_cons en20 <| V.memB_cons en21 <| V.memB_cons en22 <| V.memB_cons en23 <| V.memB_cons en24 <| V.memB_cons en25 <| V.memB_cons en26 <| V.memB_cons en27 <| V.memB_cons en28 <| V.memB_cons en29 <| V.memB_cons en30 <| V.memB_cons en31 <| V.memB_cons en32 <| V.memB_cons en33 <| V.memB_cons en34 <| V.memB_cons en35 <| V.memB_cons en36 <| V.memB_cons en37 <| V.memB_cons en38 <| V.memB_cons en39 <| V.memB_cons en40 <| V.memB_cons en41 <| V.memB_cons en42 <| V.memB_cons en43 <| V.memB_cons en44 <| V.memB_cons en45 <| V.memB_cons en46 <| V.memB_cons en47 <| V.memB_cons en48 <| V.memB_cons en49 <| V.memB_cons en50 <| V.memB_cons en51 <| V.memB_cons en52 <| V.memB_cons en53 <| V.memB_cons en54 <| V.memB_cons en55 <| V.memB_cons en56 <| V.memB_cons en58 <| V.memB_cons en59 <| V.memB_nil
theorem z1 : V.zeroC Try.prog 1 = some [.nilFunc] := by kernel_rfl
theorem z2 : V.zeroC Try.prog 2 = some [.int .i64 0] := by kernel_rfl
theorem z3 : V.zeroC Try.prog 3 = some [.int .i64 0] := by kernel_rfl
theorem z4 : V.zeroC Try.prog 4 = some [.bool false] := by kernel_rfl
theorem z5 : V.zeroC Try.prog 5 = some [.int .u8 0] := by kernel_rfl
theorem z6 : V.zeroC Try.prog 6 = some [.int .u8 0] := by kernel_rfl
theorem z7 : V.zeroC Try.prog 7 = some [.int .i64 0, .int .i64 0, .bool false, .int .u8 0] := by kernel_rfl
theorem z8 : V.zeroC Try.prog 8 = some [.int .i64 0, .int .i64 0, .bool false, .int .u8 0] := by kernel_rfl
theorem z9 : V.zeroC Try.prog 9 = some [.string ⟨#[]⟩] := by kernel_rfl
theorem z10 : V.zeroC Try.prog 10 = some [.string ⟨#[]⟩] := by kernel_rfl
theorem z11 : V.zeroC Try.prog 11 = some [.string ⟨#[]⟩] := by kernel_rfl
theorem z12 : V.zeroC Try.prog 12 = some [.int .u64 0] := by kernel_rfl
theorem z13 : V.zeroC Try.prog 13 = some [.string ⟨#[]⟩, .int .u64 0] := by kernel_rfl
theorem z14 : V.zeroC Try.prog 14 = some [.string ⟨#[]⟩, .int .u64 0] := by kernel_rfl
theorem z15 : V.zeroC Try.prog 15 = some [.pointer none] := by kernel_rfl
theorem z16 : V.zeroC Try.prog 16 = some [.pointer none] := by kernel_rfl
theorem z17 : V.zeroC Try.prog 17 = some [.pointer none] := by kernel_rfl
theorem z18 : V.zeroC Try.prog 18 = some [.pointer none] := by kernel_rfl
theorem z19 : V.zeroC Try.prog 19 = some [.pointer none] := by kernel_rfl
theorem z20 : V.zeroC Try.prog 20 = some [.nilIface] := by kernel_rfl
theorem z21 : V.zeroC Try.prog 21 = some [.int .i32 0] := by kernel_rfl
theorem z22 : V.zeroC Try.prog 22 = some [.nilFunc] := by kernel_rfl
theorem z23 : V.zeroC Try.prog 23 = some [.nilFunc] := by kernel_rfl
theorem z24 : V.zeroC Try.prog 24 = some [.nilFunc] := by kernel_rfl
theorem z25 : V.zeroC Try.prog 25 = some [.int .i64 0] := by kernel_rfl
theorem z27 : V.zeroC Try.prog 27 = some [.nilFunc] := by kernel_rfl
theorem z28 : V.zeroC Try.prog 28 = some [.nilFunc] := by kernel_rfl
theorem z29 : V.zeroC Try.prog 29 = some [.slice none 0 0] := by kernel_rfl
theorem z30 : V.zeroC Try.prog 30 = some [.nilFunc] := by kernel_rfl
theorem z31 : V.zeroC Try.prog 31 = some [.nilFunc] := by kernel_rfl
theorem z32 : V.zeroC Try.prog 32 = some [.nilFunc] := by kernel_rfl
theorem z33 : V.zeroC Try.prog 33 = some [.int .u64 0] := by kernel_rfl
theorem z34 : V.zeroC Try.prog 34 = some [.nilFunc] := by kernel_rfl
theorem z35 : V.zeroC Try.prog 35 = some [.nilFunc] := by kernel_rfl
theorem z36 : V.zeroC Try.prog 36 = some [.nilFunc] := by kernel_rfl
theorem z37 : V.zeroC Try.prog 37 = some [.string ⟨#[]⟩, .string ⟨#[]⟩, .string ⟨#[]⟩, .string ⟨#[]⟩, .string ⟨#[]⟩] := by kernel_rfl
theorem z38 : V.zeroC Try.prog 38 = some [.nilFunc] := by kernel_rfl
theorem z39 : V.zeroC Try.prog 39 = some [.string ⟨#[]⟩, .string ⟨#[]⟩] := by kernel_rfl
theorem z40 : V.zeroC Try.prog 40 = some [.nilFunc] := by kernel_rfl
theorem z41 : V.zeroC Try.prog 41 = some [.nilFunc] := by kernel_rfl
theorem z42 : V.zeroC Try.prog 42 = some (List.replicate 16 (.int .i64 0)) := by kernel_rfl
theorem z43 : V.zeroC Try.prog 43 = some (List.replicate 16 (.int .i64 0)) := by kernel_rfl
theorem z44 : V.zeroC Try.prog 44 = some [.nilFunc] := by kernel_rfl
theorem z45 : V.zeroC Try.prog 45 = some [.nilFunc] := by kernel_rfl
theorem z46 : V.zeroC Try.prog 46 = some [.nilFunc] := by kernel_rfl
theorem z47 : V.zeroC Try.prog 47 = some [.nilFunc] := by kernel_rfl
theorem z48 : V.zeroC Try.prog 48 = some [.nilFunc] := by kernel_rfl
theorem z49 : V.zeroC Try.prog 49 = some (List.replicate 32 (.int .u8 0)) := by kernel_rfl
theorem z51 : V.zeroC Try.prog 51 = some [.nilFunc] := by kernel_rfl
theorem z52 : V.zeroC Try.prog 52 = some [.pointer none] := by kernel_rfl
theorem z53 : V.zeroC Try.prog 53 = some [.pointer none, .slice none 0 0] := by kernel_rfl
theorem z54 : V.zeroC Try.prog 54 = some [.pointer none, .slice none 0 0] := by kernel_rfl
theorem z55 : V.zeroC Try.prog 55 = some [.nilFunc] := by kernel_rfl
theorem z56 : V.zeroC Try.prog 56 = some [.nilIface] := by kernel_rfl
theorem z57 : V.zeroC Try.prog 57 = some [.nilIface] := by kernel_rfl
theorem z59 : V.zeroC Try.prog 59 = some [.nilFunc] := by kernel_rfl
theorem z60 : V.zeroC Try.prog 60 = some [.nilFunc] := by kernel_rfl
theorem z61 : V.zeroC Try.prog 61 = some (List.replicate 16 (.int .u8 0)) := by kernel_rfl
theorem z62 : V.zeroC Try.prog 62 = some [.nilFunc] := by kernel_rfl
theorem z63 : V.zeroC Try.prog 63 = some [.slice none 0 0] := by kernel_rfl
theorem z64 : V.zeroC Try.prog 64 = some [.nilFunc] := by kernel_rfl
theorem z65 : V.zeroC Try.prog 65 = some [.nilFunc] := by kernel_rfl
theorem z66 : V.zeroC Try.prog 66 = some [.int .u64 0] := by kernel_rfl
theorem z67 : V.zeroC Try.prog 67 = some [.int .u64 0, .int .u64 0, .int .u64 0, .int .u64 0, .int .u64 0] := by kernel_rfl
theorem z68 : V.zeroC Try.prog 68 = some [.int .u64 0, .int .u64 0, .int .u64 0, .int .u64 0, .int .u64 0] := by kernel_rfl
theorem z69 : V.zeroC Try.prog 69 = some [.nilFunc] := by kernel_rfl
theorem z70 : V.zeroC Try.prog 70 = some (List.replicate 10 (.int .u64 0)) := by kernel_rfl
theorem z71 : V.zeroC Try.prog 71 = some (List.replicate 10 (.int .u64 0)) := by kernel_rfl
theorem z72 : V.zeroC Try.prog 72 = some (List.replicate 25 (.int .u64 0)) := by kernel_rfl
theorem z73 : V.zeroC Try.prog 73 = some (List.replicate 25 (.int .u64 0)) := by kernel_rfl
theorem z74 : V.zeroC Try.prog 74 = some [.nilFunc] := by kernel_rfl
theorem z75 : V.zeroC Try.prog 75 = some [.nilFunc] := by kernel_rfl
theorem z76 : V.zeroC Try.prog 76 = some [.nilFunc] := by kernel_rfl
theorem z77 : V.zeroC Try.prog 77 = some [.nilFunc] := by kernel_rfl
theorem z78 : V.zeroC Try.prog 78 = some [.nilFunc] := by kernel_rfl
theorem z79 : V.zeroC Try.prog 79 = some [.int .u32 0] := by kernel_rfl
theorem z81 : V.zeroC Try.prog 81 = some [.nilFunc] := by kernel_rfl
theorem z83 : V.zeroC Try.prog 83 = some [.nilFunc] := by kernel_rfl
theorem z84 : V.zeroC Try.prog 84 = some [.pointer none] := by kernel_rfl
theorem z85 : V.zeroC Try.prog 85 = some [.nilFunc] := by kernel_rfl
theorem z86 : V.zeroC Try.prog 86 = some [.pointer none] := by kernel_rfl
theorem z87 : V.zeroC Try.prog 87 = some [.nilFunc] := by kernel_rfl
theorem z88 : V.zeroC Try.prog 88 = some [.nilFunc] := by kernel_rfl
theorem z89 : V.zeroC Try.prog 89 = some [.bool false, .bool false, .bool false, .bool false, .bool false] := by kernel_rfl
theorem z90 : V.zeroC Try.prog 90 = some [.pointer none] := by kernel_rfl
theorem z91 : V.zeroC Try.prog 91 = some [.nilFunc] := by kernel_rfl
theorem z92 : V.zeroC Try.prog 92 = some [.nilFunc] := by kernel_rfl
theorem z93 : V.zeroC Try.prog 93 = some [.pointer none, .pointer none, .pointer none, .string ⟨#[]⟩] := by kernel_rfl
theorem z94 : V.zeroC Try.prog 94 = some [.pointer none, .pointer none, .pointer none, .string ⟨#[]⟩] := by kernel_rfl
theorem z95 : V.zeroC Try.prog 95 = some [] := by kernel_rfl
theorem z96 : V.zeroC Try.prog 96 = some [] := by kernel_rfl
theorem z97 : V.zeroC Try.prog 97 = some [] := by kernel_rfl
theorem z98 : V.zeroC Try.prog 98 = some [.int .u8 0] := by kernel_rfl
theorem z99 : V.zeroC Try.prog 99 = some [.int .u8 0] := by kernel_rfl
theorem z100 : V.zeroC Try.prog 100 = some [.nilFunc] := by kernel_rfl
theorem z101 : V.zeroC Try.prog 101 = some [.int .i32 0] := by kernel_rfl
theorem z102 : V.zeroC Try.prog 102 = some [.int .i32 0] := by kernel_rfl
theorem z103 : V.zeroC Try.prog 103 = some [.int .u64 0, .int .u64 0, .int .u32 0, .int .u8 0, .int .u8 0, .int .u8 0, .int .u8 0, .nilFunc, .pointer none, .int .i32 0, .int .i32 0] := by kernel_rfl
theorem z104 : V.zeroC Try.prog 104 = some [.int .u64 0, .int .u64 0, .int .u32 0, .int .u8 0, .int .u8 0, .int .u8 0, .int .u8 0, .nilFunc, .pointer none, .int .i32 0, .int .i32 0] := by kernel_rfl
theorem sl29 : V.slOk Try.prog 29 5 1 1 = true := by kernel_rfl
theorem sl63 : V.slOk Try.prog 63 3 1 8 = true := by kernel_rfl
theorem mixed : Try.prog.follows .mixedOrders = true := by kernel_rfl
end Go.Proofs.Ytejphmgpndgliaa
