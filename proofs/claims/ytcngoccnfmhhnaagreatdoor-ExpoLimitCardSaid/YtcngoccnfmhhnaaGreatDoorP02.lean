/- Part of the proof of a statement about the given program. -/
import Derived.Test.YtcngoccnfmhhnaaGreatDoorP01
import Derived.Test.YtcngoccnfmhhnaaGreatDoorProg
import Derived.KernelRfl
import Derived.Lib.AppendStr
import Derived.Laws.BytesArg
import Derived.Laws.IdiomStrings
import Derived.Lib.Overlaps
import Derived.Lib.AppendZerosOnto
import Derived.Lib.SlBytesConst
import Derived.MapKept
import Derived.Scope
import Derived.OwnWalk
import Derived.Lib.SmallJoins
import Derived.WalkLawsBesides
import Derived.Recover
import Derived.Lib.OthersKept
import Derived.Laws.RangeString
import Derived.Laws.Runes
set_option linter.unusedSimpArgs false
set_option linter.unusedVariables false
set_option linter.unusedSectionVars false
section
namespace Go.Proofs.YtcngoccnfmhhnaaGreatDoor
open Go Go.Vg
def tyL : List (Nat × TypeDesc) := [(0, (TypeDesc.tuple #[])),
  (1, (TypeDesc.func #[] #[] false)),
  (2, (TypeDesc.int IntKind.i64)),
  (3, (TypeDesc.int IntKind.i64)),
  (4, TypeDesc.bool),
  (5, (TypeDesc.int IntKind.u8)),
  (6, (TypeDesc.int IntKind.u8)),
  (7, (TypeDesc.struct #[{ name := "x", type := 2, offset := 0, embedded := false, tag := "", pkgPath := "runtime", byteOffset := 0 }, { name := "y", type := 3, offset := 1, embedded := false, tag := "", pkgPath := "runtime", byteOffset := 8 }, { name := "signed", type := 4, offset := 2, embedded := false, tag := "", pkgPath := "runtime", byteOffset := 16 }, { name := "code", type := 6, offset := 3, embedded := false, tag := "", pkgPath := "runtime", byteOffset := 17 }])),
  (8, (TypeDesc.struct #[{ name := "x", type := 2, offset := 0, embedded := false, tag := "", pkgPath := "runtime", byteOffset := 0 }, { name := "y", type := 3, offset := 1, embedded := false, tag := "", pkgPath := "runtime", byteOffset := 8 }, { name := "signed", type := 4, offset := 2, embedded := false, tag := "", pkgPath := "runtime", byteOffset := 16 }, { name := "code", type := 6, offset := 3, embedded := false, tag := "", pkgPath := "runtime", byteOffset := 17 }])),
  (9, TypeDesc.string),
  (10, TypeDesc.string),
  (11, TypeDesc.string),
  (12, (TypeDesc.int IntKind.u64)),
  (13, (TypeDesc.struct #[{ name := "msg", type := 9, offset := 0, embedded := false, tag := "", pkgPath := "runtime", byteOffset := 0 }, { name := "addr", type := 12, offset := 1, embedded := false, tag := "", pkgPath := "runtime", byteOffset := 16 }])),
  (14, (TypeDesc.struct #[{ name := "msg", type := 9, offset := 0, embedded := false, tag := "", pkgPath := "runtime", byteOffset := 0 }, { name := "addr", type := 12, offset := 1, embedded := false, tag := "", pkgPath := "runtime", byteOffset := 16 }])),
  (15, (TypeDesc.pointer 227)),
  (16, (TypeDesc.pointer 230)),
  (17, (TypeDesc.pointer 237)),
  (18, (TypeDesc.struct #[{ name := "typ", type := 17, offset := 0, embedded := false, tag := "", pkgPath := "internal/runtime/maps", byteOffset := 0 }])),
  (19, (TypeDesc.struct #[{ name := "typ", type := 17, offset := 0, embedded := false, tag := "", pkgPath := "internal/runtime/maps", byteOffset := 0 }])),
  (20, (TypeDesc.interface #[])),
  (21, (TypeDesc.int IntKind.i32)),
  (22, (TypeDesc.slice 5)),
  (23, (TypeDesc.func #[22] #[22] false)),
  (24, (TypeDesc.slice 9)),
  (25, (TypeDesc.func #[22] #[24] false)),
  (26, (TypeDesc.func #[48] #[] false)),
  (27, (TypeDesc.func #[48] #[] false)),
  (28, (TypeDesc.func #[22] #[27] false)),
  (29, (TypeDesc.func #[3, 3] #[3] false)),
  (30, (TypeDesc.func #[] #[4] false)),
  (31, (TypeDesc.func #[22, 3] #[4] false)),
  (32, (TypeDesc.slice 44)),
  (33, (TypeDesc.slice 74)),
  (34, (TypeDesc.int IntKind.i64)),
  (35, (TypeDesc.tuple #[32, 33, 3, 34])),
  (36, (TypeDesc.func #[22, 3] #[32, 33, 3, 34] false)),
  (37, (TypeDesc.func #[22, 22] #[4] false)),
  (38, (TypeDesc.func #[32, 32] #[4] false)),
  (39, (TypeDesc.func #[33, 33] #[4] false)),
  (40, (TypeDesc.func #[41] #[] false)),
  (41, (TypeDesc.slice 76)),
  (42, (TypeDesc.float FloatKind.f64)),
  (43, (TypeDesc.struct #[{ name := "Labels", type := 41, offset := 0, embedded := false, tag := "", pkgPath := "", byteOffset := 0 }, { name := "V", type := 42, offset := 1, embedded := false, tag := "", pkgPath := "", byteOffset := 24 }, { name := "T", type := 3, offset := 2, embedded := false, tag := "", pkgPath := "", byteOffset := 32 }, { name := "HasT", type := 4, offset := 3, embedded := false, tag := "", pkgPath := "", byteOffset := 40 }])),
  (44, (TypeDesc.struct #[{ name := "Labels", type := 41, offset := 0, embedded := false, tag := "", pkgPath := "", byteOffset := 0 }, { name := "V", type := 42, offset := 1, embedded := false, tag := "", pkgPath := "", byteOffset := 24 }, { name := "T", type := 3, offset := 2, embedded := false, tag := "", pkgPath := "", byteOffset := 32 }, { name := "HasT", type := 4, offset := 3, embedded := false, tag := "", pkgPath := "", byteOffset := 40 }])),
  (45, (TypeDesc.func #[32] #[32] false)),
  (46, (TypeDesc.func #[32] #[22] false)),
  (47, (TypeDesc.func #[32, 3] #[4] false)),
  (48, (TypeDesc.func #[3, 9] #[4] false)),
  (49, (TypeDesc.tuple #[22, 22, 4])),
  (50, (TypeDesc.func #[22, 22] #[22, 22, 4] false)),
  (51, (TypeDesc.tuple #[44, 3, 34])),
  (52, (TypeDesc.func #[9] #[44, 3, 34] false)),
  (53, (TypeDesc.func #[9] #[9] false)),
  (54, (TypeDesc.pointer 57)),
  (55, (TypeDesc.map 9 3)),
  (56, (TypeDesc.struct #[{ name := "l", type := 33, offset := 0, embedded := false, tag := "", pkgPath := "vigil/expo", byteOffset := 0 }, { name := "at", type := 55, offset := 1, embedded := false, tag := "", pkgPath := "vigil/expo", byteOffset := 24 }])),
  (57, (TypeDesc.struct #[{ name := "l", type := 33, offset := 0, embedded := false, tag := "", pkgPath := "vigil/expo", byteOffset := 0 }, { name := "at", type := 55, offset := 1, embedded := false, tag := "", pkgPath := "vigil/expo", byteOffset := 24 }])),
  (58, (TypeDesc.func #[9, 9] #[9] false)),
  (59, (TypeDesc.struct #[{ name := "word", type := 9, offset := 0, embedded := false, tag := "", pkgPath := "vigil/expo", byteOffset := 0 }, { name := "name", type := 9, offset := 1, embedded := false, tag := "", pkgPath := "vigil/expo", byteOffset := 16 }, { name := "rest", type := 9, offset := 2, embedded := false, tag := "", pkgPath := "vigil/expo", byteOffset := 32 }])),
  (60, (TypeDesc.struct #[{ name := "word", type := 9, offset := 0, embedded := false, tag := "", pkgPath := "vigil/expo", byteOffset := 0 }, { name := "name", type := 9, offset := 1, embedded := false, tag := "", pkgPath := "vigil/expo", byteOffset := 16 }, { name := "rest", type := 9, offset := 2, embedded := false, tag := "", pkgPath := "vigil/expo", byteOffset := 32 }])),
  (61, (TypeDesc.tuple #[60, 4])),
  (62, (TypeDesc.func #[9] #[60, 4] false)),
  (63, (TypeDesc.func #[60] #[4] false)),
  (64, (TypeDesc.func #[9, 3] #[3] false)),
  (65, (TypeDesc.tuple #[9, 9, 9, 4])),
  (66, (TypeDesc.func #[9] #[9, 9, 9, 4] false)),
  (67, (TypeDesc.tuple #[9, 4])),
  (68, (TypeDesc.func #[9] #[9, 4] false)),
  (69, (TypeDesc.func #[9] #[4] false)),
  (70, (TypeDesc.func #[33, 9, 9, 9] #[33] false)),
  (71, (TypeDesc.func #[41, 41] #[4] false)),
  (72, (TypeDesc.func #[42, 42] #[4] false)),
  (73, (TypeDesc.struct #[{ name := "Name", type := 9, offset := 0, embedded := false, tag := "", pkgPath := "", byteOffset := 0 }, { name := "Kind", type := 9, offset := 1, embedded := false, tag := "", pkgPath := "", byteOffset := 16 }, { name := "Help", type := 9, offset := 2, embedded := false, tag := "", pkgPath := "", byteOffset := 32 }])),
  (74, (TypeDesc.struct #[{ name := "Name", type := 9, offset := 0, embedded := false, tag := "", pkgPath := "", byteOffset := 0 }, { name := "Kind", type := 9, offset := 1, embedded := false, tag := "", pkgPath := "", byteOffset := 16 }, { name := "Help", type := 9, offset := 2, embedded := false, tag := "", pkgPath := "", byteOffset := 32 }])),
  (75, (TypeDesc.struct #[{ name := "Name", type := 9, offset := 0, embedded := false, tag := "", pkgPath := "", byteOffset := 0 }, { name := "Value", type := 9, offset := 1, embedded := false, tag := "", pkgPath := "", byteOffset := 16 }])),
  (76, (TypeDesc.struct #[{ name := "Name", type := 9, offset := 0, embedded := false, tag := "", pkgPath := "", byteOffset := 0 }, { name := "Value", type := 9, offset := 1, embedded := false, tag := "", pkgPath := "", byteOffset := 16 }])),
  (77, (TypeDesc.func #[3] #[76] false)),
  (78, (TypeDesc.tuple #[41, 34])),
  (79, (TypeDesc.func #[41] #[41, 34] false)),
  (80, (TypeDesc.func #[41, 9] #[9] false)),
  (81, (TypeDesc.func #[82] #[42] false)),
  (82, (TypeDesc.int IntKind.u64)),
  (83, (TypeDesc.func #[41] #[4] false)),
  (84, (TypeDesc.func #[41, 24] #[41] false)),
  (85, (TypeDesc.func #[42] #[9] false)),
  (86, (TypeDesc.func #[3] #[9] false)),
  (87, (TypeDesc.func #[22, 22] #[3] false)),
  (88, (TypeDesc.tuple #[9, 9, 4])),
  (89, (TypeDesc.func #[9, 9] #[9, 9, 4] false)),
  (90, (TypeDesc.pointer 92)),
  (91, (TypeDesc.struct #[{ name := "addr", type := 90, offset := 0, embedded := false, tag := "", pkgPath := "strings", byteOffset := 0 }, { name := "buf", type := 22, offset := 1, embedded := false, tag := "", pkgPath := "strings", byteOffset := 8 }])),
  (92, (TypeDesc.struct #[{ name := "addr", type := 90, offset := 0, embedded := false, tag := "", pkgPath := "strings", byteOffset := 0 }, { name := "buf", type := 22, offset := 1, embedded := false, tag := "", pkgPath := "strings", byteOffset := 8 }])),
  (93, (TypeDesc.interface #[("Error", 98)])),
  (94, (TypeDesc.interface #[("Error", 98)])),
  (95, (TypeDesc.tuple #[3, 94])),
  (96, (TypeDesc.func #[9] #[3, 94] false)),
  (97, (TypeDesc.func #[5] #[94] false)),
  (98, (TypeDesc.func #[] #[9] false)),
  (99, (TypeDesc.func #[9, 5] #[9] false)),
  (100, (TypeDesc.array 256 4)),
  (101, (TypeDesc.array 256 4)),
  (102, (TypeDesc.tuple #[101, 4])),
  (103, (TypeDesc.func #[9] #[101, 4] false)),
  (104, (TypeDesc.func #[9, 105] #[9] false)),
  (105, (TypeDesc.pointer 101)),
  (106, (TypeDesc.struct #[{ name := "at", type := 3, offset := 0, embedded := false, tag := "", pkgPath := "vigil/expo", byteOffset := 0 }, { name := "why", type := 34, offset := 1, embedded := false, tag := "", pkgPath := "vigil/expo", byteOffset := 8 }])),
  (107, (TypeDesc.struct #[{ name := "at", type := 3, offset := 0, embedded := false, tag := "", pkgPath := "vigil/expo", byteOffset := 0 }, { name := "why", type := 34, offset := 1, embedded := false, tag := "", pkgPath := "vigil/expo", byteOffset := 8 }])),
  (108, (TypeDesc.pointer 110)),
  (109, (TypeDesc.struct #[{ name := "s", type := 9, offset := 0, embedded := false, tag := "", pkgPath := "vigil/expo", byteOffset := 0 }, { name := "at", type := 3, offset := 1, embedded := false, tag := "", pkgPath := "vigil/expo", byteOffset := 16 }])),
  (110, (TypeDesc.struct #[{ name := "s", type := 9, offset := 0, embedded := false, tag := "", pkgPath := "vigil/expo", byteOffset := 0 }, { name := "at", type := 3, offset := 1, embedded := false, tag := "", pkgPath := "vigil/expo", byteOffset := 16 }])),
  (111, (TypeDesc.tuple #[9, 3])),
  (112, (TypeDesc.func #[] #[9, 3] false)),
  (113, (TypeDesc.func #[4] #[9] false)),
  (114, (TypeDesc.tuple #[3, 4])),
  (115, (TypeDesc.func #[] #[24] false)),
  (116, (TypeDesc.func #[5] #[4] false)),
  (117, (TypeDesc.func #[9, 3] #[44, 3, 34] false)),
  (118, (TypeDesc.tuple #[9, 3, 4])),
  (119, (TypeDesc.func #[9, 3] #[9, 3, 4] false)),
  (120, (TypeDesc.func #[9, 3, 4] #[3] false)),
  (121, (TypeDesc.array 5 9)),
  (122, (TypeDesc.func #[42] #[82] false)),
  (123, (TypeDesc.func #[76] #[4] false)),
  (124, (TypeDesc.func #[41, 9] #[4] false)),
  (125, (TypeDesc.func #[41, 76] #[41] false)),
  (126, (TypeDesc.func #[24, 9] #[4] false)),
  (127, (TypeDesc.func #[42] #[9, 3, 4] false)),
  (128, (TypeDesc.func #[22, 5] #[3] false)),
  (129, (TypeDesc.func #[3] #[3] false)),
  (130, (TypeDesc.int IntKind.u64)),
  (131, (TypeDesc.tuple #[44, 41, 107])),
  (132, (TypeDesc.func #[9] #[44, 41, 107] false)),
  (133, (TypeDesc.pointer 5)),
  (134, (TypeDesc.tuple #[21, 3])),
  (135, (TypeDesc.func #[9] #[21, 3] false)),
  (136, (TypeDesc.func #[9, 21] #[4] false)),
  (137, (TypeDesc.func #[3, 34] #[] false)),
  (138, (TypeDesc.func #[9, 4] #[4] false)),
  (139, (TypeDesc.func #[9] #[12] false)),
  (140, (TypeDesc.array 256 5)),
  (141, (TypeDesc.struct #[{ name := "lo", type := 5, offset := 0, embedded := false, tag := "", pkgPath := "unicode/utf8", byteOffset := 0 }, { name := "hi", type := 5, offset := 1, embedded := false, tag := "", pkgPath := "unicode/utf8", byteOffset := 1 }])),
  (142, (TypeDesc.struct #[{ name := "lo", type := 5, offset := 0, embedded := false, tag := "", pkgPath := "unicode/utf8", byteOffset := 0 }, { name := "hi", type := 5, offset := 1, embedded := false, tag := "", pkgPath := "unicode/utf8", byteOffset := 1 }])),
  (143, (TypeDesc.array 16 142)),
  (144, (TypeDesc.pointer 146)),
  (145, (TypeDesc.struct #[{ name := "s", type := 9, offset := 0, embedded := false, tag := "", pkgPath := "vigil/vigilref11", byteOffset := 0 }, { name := "at", type := 3, offset := 1, embedded := false, tag := "", pkgPath := "vigil/vigilref11", byteOffset := 16 }, { name := "bad", type := 4, offset := 2, embedded := false, tag := "", pkgPath := "vigil/vigilref11", byteOffset := 24 }, { name := "where", type := 3, offset := 3, embedded := false, tag := "", pkgPath := "vigil/vigilref11", byteOffset := 32 }, { name := "why", type := 34, offset := 4, embedded := false, tag := "", pkgPath := "vigil/vigilref11", byteOffset := 40 }, { name := "names", type := 24, offset := 5, embedded := false, tag := "", pkgPath := "vigil/vigilref11", byteOffset := 48 }, { name := "values", type := 24, offset := 6, embedded := false, tag := "", pkgPath := "vigil/vigilref11", byteOffset := 72 }])),
  (146, (TypeDesc.struct #[{ name := "s", type := 9, offset := 0, embedded := false, tag := "", pkgPath := "vigil/vigilref11", byteOffset := 0 }, { name := "at", type := 3, offset := 1, embedded := false, tag := "", pkgPath := "vigil/vigilref11", byteOffset := 16 }, { name := "bad", type := 4, offset := 2, embedded := false, tag := "", pkgPath := "vigil/vigilref11", byteOffset := 24 }, { name := "where", type := 3, offset := 3, embedded := false, tag := "", pkgPath := "vigil/vigilref11", byteOffset := 32 }, { name := "why", type := 34, offset := 4, embedded := false, tag := "", pkgPath := "vigil/vigilref11", byteOffset := 40 }, { name := "names", type := 24, offset := 5, embedded := false, tag := "", pkgPath := "vigil/vigilref11", byteOffset := 48 }, { name := "values", type := 24, offset := 6, embedded := false, tag := "", pkgPath := "vigil/vigilref11", byteOffset := 72 }])),
  (147, (TypeDesc.func #[144, 9, 3] #[44, 3, 34] false)),
  (148, (TypeDesc.slice 3)),
  (149, (TypeDesc.tuple #[148, 3])),
  (150, (TypeDesc.func #[82] #[148, 3] false)),
  (151, (TypeDesc.slice 3)),
  (152, (TypeDesc.func #[151, 3, 3] #[151] false)),
  (153, (TypeDesc.struct #[{ name := "digits", type := 151, offset := 0, embedded := false, tag := "", pkgPath := "vigil/vigilref03", byteOffset := 0 }, { name := "exp", type := 3, offset := 1, embedded := false, tag := "", pkgPath := "vigil/vigilref03", byteOffset := 24 }])),
  (154, (TypeDesc.struct #[{ name := "digits", type := 151, offset := 0, embedded := false, tag := "", pkgPath := "vigil/vigilref03", byteOffset := 0 }, { name := "exp", type := 3, offset := 1, embedded := false, tag := "", pkgPath := "vigil/vigilref03", byteOffset := 24 }])),
  (155, (TypeDesc.func #[151] #[151] false)),
  (156, (TypeDesc.func #[82, 154] #[4] false)),
  (157, (TypeDesc.func #[82, 154, 154] #[3] false)),
  (158, (TypeDesc.func #[151] #[9] false)),
  (159, (TypeDesc.int IntKind.u32)),
  (160, (TypeDesc.tuple #[159, 159])),
  (161, (TypeDesc.func #[22] #[159, 159] false)),
  (162, (TypeDesc.func #[9, 9] #[3] false)),
  (163, (TypeDesc.tuple #[44, 41])),
  (164, (TypeDesc.func #[] #[44, 41] false)),
  (165, (TypeDesc.func #[41, 166] #[] false)),
  (166, (TypeDesc.func #[76, 76] #[3] false)),
  (167, TypeDesc.unsafePointer),
  (168, (TypeDesc.func #[167] #[167] false)),
  (169, (TypeDesc.func #[9, 21] #[3] false)),
  (170, (TypeDesc.func #[5] #[] false)),
  (171, (TypeDesc.tuple #[42, 34])),
  (172, (TypeDesc.func #[9] #[42, 34] false)),
  (173, (TypeDesc.tuple #[3, 34])),
  (174, (TypeDesc.func #[9] #[3, 34] false)),
  (175, (TypeDesc.tuple #[3, 3])),
  (176, (TypeDesc.func #[82] #[3, 3] false)),
  (177, (TypeDesc.func #[3, 3, 154] #[3] false)),
  (178, (TypeDesc.func #[3] #[151] false)),
  (179, (TypeDesc.func #[151, 151] #[3] false)),
  (180, (TypeDesc.func #[151, 151] #[151] false)),
  (181, (TypeDesc.func #[9, 5] #[3] false)),
  (182, (TypeDesc.func #[] #[41] false)),
  (183, (TypeDesc.func #[41, 3, 3, 3, 166] #[] false)),
  (184, (TypeDesc.func #[130] #[3] false)),
  (185, (TypeDesc.func #[21] #[4] false)),
  (186, (TypeDesc.func #[] #[42] false)),
  (187, (TypeDesc.func #[82, 4] #[42] false)),
  (188, (TypeDesc.func #[9] #[3, 4] false)),
  (189, (TypeDesc.func #[154, 3] #[82] false)),
  (190, (TypeDesc.func #[9] #[159, 159] false)),
  (191, (TypeDesc.struct #[{ name := "digits", type := 9, offset := 0, embedded := false, tag := "", pkgPath := "vigil/num", byteOffset := 0 }, { name := "exp", type := 3, offset := 1, embedded := false, tag := "", pkgPath := "vigil/num", byteOffset := 16 }])),
  (192, (TypeDesc.struct #[{ name := "digits", type := 9, offset := 0, embedded := false, tag := "", pkgPath := "vigil/num", byteOffset := 0 }, { name := "exp", type := 3, offset := 1, embedded := false, tag := "", pkgPath := "vigil/num", byteOffset := 16 }])),
  (193, (TypeDesc.tuple #[192, 4])),
  (194, (TypeDesc.func #[9] #[192, 4] false)),
  (195, (TypeDesc.func #[] #[82] false)),
  (196, (TypeDesc.func #[9, 9] #[9, 4] false)),
  (197, (TypeDesc.func #[9] #[3] false)),
  (198, (TypeDesc.func #[41, 3, 3, 166] #[] false)),
  (199, (TypeDesc.int IntKind.i64)),
  (200, (TypeDesc.tuple #[3, 199])),
  (201, (TypeDesc.func #[41, 3, 3, 166] #[3, 199] false)),
  (202, (TypeDesc.func #[41, 3, 3, 166] #[4] false)),
  (203, (TypeDesc.func #[41, 3, 3, 3, 166] #[3] false)),
  (204, (TypeDesc.func #[41, 3, 3, 3, 166] #[3, 4] false)),
  (205, (TypeDesc.func #[159] #[3] false)),
  (206, (TypeDesc.func #[82] #[3] false)),
  (207, (TypeDesc.func #[] #[5] false)),
  (208, (TypeDesc.func #[9, 9] #[4] false)),
  (209, (TypeDesc.slice 159)),
  (210, (TypeDesc.slice 159)),
  (211, (TypeDesc.func #[159, 159] #[210] false)),
  (212, (TypeDesc.func #[82] #[210] false)),
  (213, (TypeDesc.func #[3] #[210] false)),
  (214, (TypeDesc.func #[] #[3] false)),
  (215, (TypeDesc.func #[210] #[3] false)),
  (216, (TypeDesc.func #[210] #[210] false)),
  (217, (TypeDesc.func #[82, 3, 4] #[82] false)),
  (218, (TypeDesc.int IntKind.u64)),
  (219, (TypeDesc.func #[3] #[130] false)),
  (220, (TypeDesc.func #[41, 3, 221, 166] #[3] false)),
  (221, (TypeDesc.pointer 3)),
  (222, (TypeDesc.func #[41, 3, 3, 3, 221, 166] #[3] false)),
  (223, (TypeDesc.func #[] #[210] false)),
  (224, (TypeDesc.pointer 218)),
  (225, (TypeDesc.func #[41, 3, 3, 221, 166] #[3, 3] false)),
  (226, (TypeDesc.struct #[{ name := "_interface", type := 17, offset := 0, embedded := false, tag := "", pkgPath := "runtime", byteOffset := 0 }, { name := "concrete", type := 17, offset := 1, embedded := false, tag := "", pkgPath := "runtime", byteOffset := 8 }, { name := "asserted", type := 17, offset := 2, embedded := false, tag := "", pkgPath := "runtime", byteOffset := 16 }, { name := "missingMethod", type := 9, offset := 3, embedded := false, tag := "", pkgPath := "runtime", byteOffset := 24 }])),
  (227, (TypeDesc.struct #[{ name := "_interface", type := 17, offset := 0, embedded := false, tag := "", pkgPath := "runtime", byteOffset := 0 }, { name := "concrete", type := 17, offset := 1, embedded := false, tag := "", pkgPath := "runtime", byteOffset := 8 }, { name := "asserted", type := 17, offset := 2, embedded := false, tag := "", pkgPath := "runtime", byteOffset := 16 }, { name := "missingMethod", type := 9, offset := 3, embedded := false, tag := "", pkgPath := "runtime", byteOffset := 24 }])),
  (228, (TypeDesc.array 0 16)),
  (229, (TypeDesc.struct #[{ name := "_", type := 228, offset := 0, embedded := false, tag := "", pkgPath := "runtime", byteOffset := 0 }])),
  (230, (TypeDesc.struct #[{ name := "_", type := 228, offset := 0, embedded := false, tag := "", pkgPath := "runtime", byteOffset := 0 }])),
  (231, (TypeDesc.int IntKind.u8)),
  (232, (TypeDesc.int IntKind.u8)),
  (233, (TypeDesc.func #[167, 167] #[4] false)),
  (234, (TypeDesc.int IntKind.i32)),
  (235, (TypeDesc.int IntKind.i32)),
  (236, (TypeDesc.struct #[{ name := "Size_", type := 12, offset := 0, embedded := false, tag := "", pkgPath := "", byteOffset := 0 }, { name := "PtrBytes", type := 12, offset := 1, embedded := false, tag := "", pkgPath := "", byteOffset := 8 }, { name := "Hash", type := 159, offset := 2, embedded := false, tag := "", pkgPath := "", byteOffset := 16 }, { name := "TFlag", type := 231, offset := 3, embedded := false, tag := "", pkgPath := "", byteOffset := 20 }, { name := "Align_", type := 5, offset := 4, embedded := false, tag := "", pkgPath := "", byteOffset := 21 }, { name := "FieldAlign_", type := 5, offset := 5, embedded := false, tag := "", pkgPath := "", byteOffset := 22 }, { name := "Kind_", type := 232, offset := 6, embedded := false, tag := "", pkgPath := "", byteOffset := 23 }, { name := "Equal", type := 233, offset := 7, embedded := false, tag := "", pkgPath := "", byteOffset := 24 }, { name := "GCData", type := 133, offset := 8, embedded := false, tag := "", pkgPath := "", byteOffset := 32 }, { name := "Str", type := 234, offset := 9, embedded := false, tag := "", pkgPath := "", byteOffset := 40 }, { name := "PtrToThis", type := 235, offset := 10, embedded := false, tag := "", pkgPath := "", byteOffset := 44 }])),
  (237, (TypeDesc.struct #[{ name := "Size_", type := 12, offset := 0, embedded := false, tag := "", pkgPath := "", byteOffset := 0 }, { name := "PtrBytes", type := 12, offset := 1, embedded := false, tag := "", pkgPath := "", byteOffset := 8 }, { name := "Hash", type := 159, offset := 2, embedded := false, tag := "", pkgPath := "", byteOffset := 16 }, { name := "TFlag", type := 231, offset := 3, embedded := false, tag := "", pkgPath := "", byteOffset := 20 }, { name := "Align_", type := 5, offset := 4, embedded := false, tag := "", pkgPath := "", byteOffset := 21 }, { name := "FieldAlign_", type := 5, offset := 5, embedded := false, tag := "", pkgPath := "", byteOffset := 22 }, { name := "Kind_", type := 232, offset := 6, embedded := false, tag := "", pkgPath := "", byteOffset := 23 }, { name := "Equal", type := 233, offset := 7, embedded := false, tag := "", pkgPath := "", byteOffset := 24 }, { name := "GCData", type := 133, offset := 8, embedded := false, tag := "", pkgPath := "", byteOffset := 32 }, { name := "Str", type := 234, offset := 9, embedded := false, tag := "", pkgPath := "", byteOffset := 40 }, { name := "PtrToThis", type := 235, offset := 10, embedded := false, tag := "", pkgPath := "", byteOffset := 44 }]))]
theorem tyL_ok : AllT Tryz.prog tyL := ⟨Tryz.underlying0, Tryz.underlying1, Tryz.underlying2, Tryz.underlying3, Tryz.underlying4, Tryz.underlying5, Tryz.underlying6, Tryz.underlying7, Tryz.underlying8, Tryz.underlying9, Tryz.underlying10, Tryz.underlying11, Tryz.underlying12, Tryz.underlying13, Tryz.underlying14, Tryz.underlying15, Tryz.underlying16, Tryz.underlying17, Tryz.underlying18, Tryz.underlying19, Tryz.underlying20, Tryz.underlying21, Tryz.underlying22, Tryz.underlying23, Tryz.underlying24, Tryz.underlying25, Tryz.underlying26, Tryz.underlying27, Tryz.underlying28, Tryz.underlying29, Tryz.underlying30, Tryz.underlying31, Tryz.underlying32, Tryz.underlying33, Tryz.underlying34, Tryz.underlying35, Tryz.underlying36, Tryz.underlying37, Tryz.underlying38, Tryz.underlying39, Tryz.underlying40, Tryz.underlying41, Tryz.underlying42, Tryz.underlying43, Tryz.underlying44, Tryz.underlying45, Tryz.underlying46, Tryz.underlying47, Tryz.underlying48, Tryz.underlying49, Tryz.underlying50, Tryz.underlying51, Tryz.underlying52, Tryz.underlying53, Tryz.underlying54, Tryz.underlying55, Tryz.underlying56, Tryz.underlying57, Tryz.underlying58, Tryz.underlying59, Tryz.underlying60, Tryz.underlying61, Tryz.underlying62, Tryz.underlying63, Tryz.underlying64, Tryz.underlying65, Tryz.underlying66, Tryz.underlying67, Tryz.underlying68, Tryz.underlying69, Tryz.underlying70, Tryz.underlying71, Tryz.underlying72, Tryz.underlying73, Tryz.underlying74, Tryz.underlying75, Tryz.underlying76, Tryz.underlying77, Tryz.underlying78, Tryz.underlying79, Tryz.underlying80, Tryz.underlying81, Tryz.underlying82, Tryz.underlying83, Tryz.underlying84, Tryz.underlying85, Tryz.underlying86, Tryz.underlying87, Tryz.underlying88, Tryz.underlying89, Tryz.underlying90, Tryz.underlying91, Tryz.underlying92, Tryz.underlying93, Tryz.underlying94, Tryz.underlying95, Tryz.underlying96, Tryz.underlying97, Tryz.underlying98, Tryz.underlying99, Tryz.underlying100, Tryz.underlying101, Tryz.underlying102, Tryz.underlying103, Tryz.underlying104, Tryz.underlying105, Tryz.underlying106, Tryz.underlying107, Tryz.underlying108, Tryz.underlying109, Tryz.underlying110, Tryz.underlying111, Tryz.underlying112, Tryz.underlying113, Tryz.underlying114, Tryz.underlying115, Tryz.underlying116, Tryz.underlying117, Tryz.underlying118, Tryz.underlying119, Tryz.underlying120, Tryz.underlying121, Tryz.underlying122, Tryz.underlying123, Tryz.underlying124, Tryz.underlying125, Tryz.underlying126, Tryz.underlying127, Tryz.underlying128, Tryz.underlying129, Tryz.underlying130, Tryz.underlying131, Tryz.underlying132, Tryz.underlying133, Tryz.underlying134, Tryz.underlying135, Tryz.underlying136, Tryz.underlying137, Tryz.underlying138, Tryz.underlying139, Tryz.underlying140, Tryz.underlying141, Tryz.underlying142, Tryz.underlying143, Tryz.underlying144, Tryz.underlying145, Tryz.underlying146, Tryz.underlying147, Tryz.underlying148, Tryz.underlying149, Tryz.underlying150, Tryz.underlying151, Tryz.underlying152, Tryz.underlying153, Tryz.underlying154, Tryz.underlying155, Tryz.underlying156, Tryz.underlying157, Tryz.underlying158, Tryz.underlying159, Tryz.underlying160, Tryz.underlying161, Tryz.underlying162, Tryz.underlying163, Tryz.underlying164, Tryz.underlying165, Tryz.underlying166, Tryz.underlying167, Tryz.underlying168, Tryz.underlying169, Tryz.underlying170, Tryz.underlying171, Tryz.underlying172, Tryz.underlying173, Tryz.underlying174, Tryz.underlying175, Tryz.underlying176, Tryz.underlying177, Tryz.underlying178, Tryz.underlying179, Tryz.underlying180, Tryz.underlying181, Tryz.underlying182, Tryz.underlying183, Tryz.underlying184, Tryz.underlying185, Tryz.underlying186, Tryz.underlying187, Tryz.underlying188, Tryz.underlying189, Tryz.underlying190, Tryz.underlying191, Tryz.underlying192, Tryz.underlying193, Tryz.underlying194, Tryz.underlying195, Tryz.underlying196, Tryz.underlying197, Tryz.underlying198, Tryz.underlying199, Tryz.underlying200, Tryz.underlying201, Tryz.underlying202, Tryz.underlying203, Tryz.underlying204, Tryz.underlying205, Tryz.underlying206, Tryz.underlying207, Tryz.underlying208, Tryz.underlying209, Tryz.underlying210, Tryz.underlying211, Tryz.underlying212, Tryz.underlying213, Tryz.underlying214, Tryz.underlying215, Tryz.underlying216, Tryz.underlying217, Tryz.underlying218, Tryz.underlying219, Tryz.underlying220, Tryz.underlying221, Tryz.underlying222, Tryz.underlying223, Tryz.underlying224, Tryz.underlying225, Tryz.underlying226, Tryz.underlying227, Tryz.underlying228, Tryz.underlying229, Tryz.underlying230, Tryz.underlying231, Tryz.underlying232, Tryz.underlying233, Tryz.underlying234, Tryz.underlying235, Tryz.underlying236, Tryz.underlying237, trivial⟩
def infL : List (Nat × Value × Nat × Nat) := [(1, .nilFunc, 1, 8),
  (2, (.int .i64 0), 1, 8),
  (3, (.int .i64 0), 1, 8),
  (4, (.bool false), 1, 1),
  (5, (.int .u8 0), 1, 1),
  (6, (.int .u8 0), 1, 1),
  (7, (.agg ⟨[(.int .i64 0), (.int .i64 0), (.bool false), (.int .u8 0)]⟩), 4, 24),
  (8, (.agg ⟨[(.int .i64 0), (.int .i64 0), (.bool false), (.int .u8 0)]⟩), 4, 24),
  (9, (S []), 1, 16),
  (10, (S []), 1, 16),
  (11, (S []), 1, 16),
  (12, (.int .u64 0), 1, 8),
  (13, (.agg ⟨[(S []), (.int .u64 0)]⟩), 2, 24),
  (14, (.agg ⟨[(S []), (.int .u64 0)]⟩), 2, 24),
  (15, (.pointer none), 1, 8),
  (16, (.pointer none), 1, 8),
  (17, (.pointer none), 1, 8),
  (18, (.agg ⟨[(.pointer none)]⟩), 1, 8),
  (19, (.agg ⟨[(.pointer none)]⟩), 1, 8),
  (20, .nilIface, 1, 16),
  (21, (.int .i32 0), 1, 4),
  (22, (.slice none 0 0), 1, 24),
  (23, .nilFunc, 1, 8),
  (24, (.slice none 0 0), 1, 24),
  (25, .nilFunc, 1, 8),
  (26, .nilFunc, 1, 8),
  (27, .nilFunc, 1, 8),
  (28, .nilFunc, 1, 8),
  (29, .nilFunc, 1, 8),
  (30, .nilFunc, 1, 8),
  (31, .nilFunc, 1, 8),
  (32, (.slice none 0 0), 1, 24),
  (33, (.slice none 0 0), 1, 24),
  (34, (.int .i64 0), 1, 8),
  (36, .nilFunc, 1, 8),
  (37, .nilFunc, 1, 8),
  (38, .nilFunc, 1, 8),
  (39, .nilFunc, 1, 8),
  (40, .nilFunc, 1, 8),
  (41, (.slice none 0 0), 1, 24),
  (42, (.float .f64 0), 1, 8),
  (43, (.agg ⟨[(.slice none 0 0), (.float .f64 0), (.int .i64 0), (.bool false)]⟩), 4, 48),
  (44, (.agg ⟨[(.slice none 0 0), (.float .f64 0), (.int .i64 0), (.bool false)]⟩), 4, 48),
  (45, .nilFunc, 1, 8),
  (46, .nilFunc, 1, 8),
  (47, .nilFunc, 1, 8),
  (48, .nilFunc, 1, 8),
  (50, .nilFunc, 1, 8),
  (52, .nilFunc, 1, 8),
  (53, .nilFunc, 1, 8),
  (54, (.pointer none), 1, 8),
  (55, (.map none), 1, 8),
  (56, (.agg ⟨[(.slice none 0 0), (.map none)]⟩), 2, 32),
  (57, (.agg ⟨[(.slice none 0 0), (.map none)]⟩), 2, 32),
  (58, .nilFunc, 1, 8),
  (59, (.agg ⟨[(S []), (S []), (S [])]⟩), 3, 48),
  (60, (.agg ⟨[(S []), (S []), (S [])]⟩), 3, 48),
  (62, .nilFunc, 1, 8),
  (63, .nilFunc, 1, 8),
  (64, .nilFunc, 1, 8),
  (66, .nilFunc, 1, 8),
  (68, .nilFunc, 1, 8),
  (69, .nilFunc, 1, 8),
  (70, .nilFunc, 1, 8),
  (71, .nilFunc, 1, 8),
  (72, .nilFunc, 1, 8),
  (73, (.agg ⟨[(S []), (S []), (S [])]⟩), 3, 48),
  (74, (.agg ⟨[(S []), (S []), (S [])]⟩), 3, 48),
  (75, (.agg ⟨[(S []), (S [])]⟩), 2, 32),
  (76, (.agg ⟨[(S []), (S [])]⟩), 2, 32),
  (77, .nilFunc, 1, 8),
  (79, .nilFunc, 1, 8),
  (80, .nilFunc, 1, 8),
  (81, .nilFunc, 1, 8),
  (82, (.int .u64 0), 1, 8),
  (83, .nilFunc, 1, 8),
  (84, .nilFunc, 1, 8),
  (85, .nilFunc, 1, 8),
  (86, .nilFunc, 1, 8),
  (87, .nilFunc, 1, 8),
  (89, .nilFunc, 1, 8),
  (90, (.pointer none), 1, 8),
  (91, (.agg ⟨[(.pointer none), (.slice none 0 0)]⟩), 2, 32),
  (92, (.agg ⟨[(.pointer none), (.slice none 0 0)]⟩), 2, 32),
  (93, .nilIface, 1, 16),
  (94, .nilIface, 1, 16),
  (96, .nilFunc, 1, 8),
  (97, .nilFunc, 1, 8),
  (98, .nilFunc, 1, 8),
  (99, .nilFunc, 1, 8),
  (100, (.agg ⟨[(.bool false), (.bool false), (.bool false), (.bool false), (.bool false), (.bool false), (.bool false), (.bool false), (.bool false), (.bool false), (.bool false), (.bool false), (.bool false), (.bool false), (.bool false), (.bool false), (.bool false), (.bool false), (.bool false), (.bool false), (.bool false), (.bool false), (.bool false), (.bool false), (.bool false), (.bool false), (.bool false), (.bool false), (.bool false), (.bool false), (.bool false), (.bool false), (.bool false), (.bool false), (.bool false), (.bool false), (.bool false), (.bool false), (.bool false), (.bool false), (.bool false), (.bool false), (.bool false), (.bool false), (.bool false), (.bool false), (.bool false), (.bool false), (.bool false), (.bool false), (.bool false), (.bool false), (.bool false), (.bool false), (.bool false), (.bool false), (.bool false), (.bool false), (.bool false), (.bool false), (.bool false), (.bool false), (.bool false), (.bool false), (.bool false), (.bool false), (.bool false), (.bool false), (.bool false), (.bool false), (.bool false), (.bool false), (.bool false), (.bool false), (.bool false), (.bool false), (.bool false), (.bool false), (.bool false), (.bool false), (.bool false), (.bool false), (.bool false), (.bool false), (.bool false), (.bool false), (.bool false), (.bool false), (.bool false), (.bool false), (.bool false), (.bool false), (.bool false), (.bool false), (.bool false), (.bool false), (.bool false), (.bool false), (.bool false), (.bool false), (.bool false), (.bool false), (.bool false), (.bool false), (.bool false), (.bool false), (.bool false), (.bool false), (.bool false), (.bool false), (.bool false), (.bool false), (.bool false), (.bool false), (.bool false), (.bool false), (.bool false), (.bool false), (.bool false), (.bool false), (.bool false), (.bool false), (.bool false), (.bool false), (.bool false), (.bool false), (.bool false), (.bool false), (.bool false), (.bool false), (.bool false), (.bool false), (.bool false), (.bool false), (.bool false), (.bool false), (.bool false), (.bool false), (.bool false), (.bool false), (.bool false), (.bool false), (.bool false), (.bool false), (.bool false), (.bool false), (.bool false), (.bool false), (.bool false), (.bool false), (.bool false), (.bool false), (.bool false), (.bool false), (.bool false), (.bool false), (.bool false), (.bool false), (.bool false), (.bool false), (.bool false), (.bool false), (.bool false), (.bool false), (.bool false), (.bool false), (.bool false), (.bool false), (.bool false), (.bool false), (.bool false), (.bool false), (.bool false), (.bool false), (.bool false), (.bool false), (.bool false), (.bool false), (.bool false), (.bool false), (.bool false), (.bool false), (.bool false), (.bool false), (.bool false), (.bool false), (.bool false), (.bool false), (.bool false), (.bool false), (.bool false), (.bool false), (.bool false), (.bool false), (.bool false), (.bool false), (.bool false), (.bool false), (.bool false), (.bool false), (.bool false), (.bool false), (.bool false), (.bool false), (.bool false), (.bool false), (.bool false), (.bool false), (.bool false), (.bool false), (.bool false), (.bool false), (.bool false), (.bool false), (.bool false), (.bool false), (.bool false), (.bool false), (.bool false), (.bool false), (.bool false), (.bool false), (.bool false), (.bool false), (.bool false), (.bool false), (.bool false), (.bool false), (.bool false), (.bool false), (.bool false), (.bool false), (.bool false), (.bool false), (.bool false), (.bool false), (.bool false), (.bool false), (.bool false), (.bool false), (.bool false), (.bool false), (.bool false), (.bool false), (.bool false), (.bool false), (.bool false), (.bool false), (.bool false), (.bool false), (.bool false), (.bool false), (.bool false), (.bool false), (.bool false), (.bool false)]⟩), 256, 256),
  (101, (.agg ⟨[(.bool false), (.bool false), (.bool false), (.bool false), (.bool false), (.bool false), (.bool false), (.bool false), (.bool false), (.bool false), (.bool false), (.bool false), (.bool false), (.bool false), (.bool false), (.bool false), (.bool false), (.bool false), (.bool false), (.bool false), (.bool false), (.bool false), (.bool false), (.bool false), (.bool false), (.bool false), (.bool false), (.bool false), (.bool false), (.bool false), (.bool false), (.bool false), (.bool false), (.bool false), (.bool false), (.bool false), (.bool false), (.bool false), (.bool false), (.bool false), (.bool false), (.bool false), (.bool false), (.bool false), (.bool false), (.bool false), (.bool false), (.bool false), (.bool false), (.bool false), (.bool false), (.bool false), (.bool false), (.bool false), (.bool false), (.bool false), (.bool false), (.bool false), (.bool false), (.bool false), (.bool false), (.bool false), (.bool false), (.bool false), (.bool false), (.bool false), (.bool false), (.bool false), (.bool false), (.bool false), (.bool false), (.bool false), (.bool false), (.bool false), (.bool false), (.bool false), (.bool false), (.bool false), (.bool false), (.bool false), (.bool false), (.bool false), (.bool false), (.bool false), (.bool false), (.bool false), (.bool false), (.bool false), (.bool false), (.bool false), (.bool false), (.bool false), (.bool false), (.bool false), (.bool false), (.bool false), (.bool false), (.bool false), (.bool false), (.bool false), (.bool false), (.bool false), (.bool false), (.bool false), (.bool false), (.bool false), (.bool false), (.bool false), (.bool false), (.bool false), (.bool false), (.bool false), (.bool false), (.bool false), (.bool false), (.bool false), (.bool false), (.bool false), (.bool false), (.bool false), (.bool false), (.bool false), (.bool false), (.bool false), (.bool false), (.bool false), (.bool false), (.bool false), (.bool false), (.bool false), (.bool false), (.bool false), (.bool false), (.bool false), (.bool false), (.bool false), (.bool false), (.bool false), (.bool false), (.bool false), (.bool false), (.bool false), (.bool false), (.bool false), (.bool false), (.bool false), (.bool false), (.bool false), (.bool false), (.bool false), (.bool false), (.bool false), (.bool false), (.bool false), (.bool false), (.bool false), (.bool false), (.bool false), (.bool false), (.bool false), (.bool false), (.bool false), (.bool false), (.bool false), (.bool false), (.bool false), (.bool false), (.bool false), (.bool false), (.bool false), (.bool false), (.bool false), (.bool false), (.bool false), (.bool false), (.bool false), (.bool false), (.bool false), (.bool false), (.bool false), (.bool false), (.bool false), (.bool false), (.bool false), (.bool false), (.bool false), (.bool false), (.bool false), (.bool false), (.bool false), (.bool false), (.bool false), (.bool false), (.bool false), (.bool false), (.bool false), (.bool false), (.bool false), (.bool false), (.bool false), (.bool false), (.bool false), (.bool false), (.bool false), (.bool false), (.bool false), (.bool false), (.bool false), (.bool false), (.bool false), (.bool false), (.bool false), (.bool false), (.bool false), (.bool false), (.bool false), (.bool false), (.bool false), (.bool false), (.bool false), (.bool false), (.bool false), (.bool false), (.bool false), (.bool false), (.bool false), (.bool false), (.bool false), (.bool false), (.bool false), (.bool false), (.bool false), (.bool false), (.bool false), (.bool false), (.bool false), (.bool false), (.bool false), (.bool false), (.bool false), (.bool false), (.bool false), (.bool false), (.bool false), (.bool false), (.bool false), (.bool false), (.bool false), (.bool false), (.bool false), (.bool false), (.bool false), (.bool false), (.bool false), (.bool false), (.bool false)]⟩), 256, 256),
  (103, .nilFunc, 1, 8),
  (104, .nilFunc, 1, 8),
  (105, (.pointer none), 1, 8),
  (106, (.agg ⟨[(.int .i64 0), (.int .i64 0)]⟩), 2, 16),
  (107, (.agg ⟨[(.int .i64 0), (.int .i64 0)]⟩), 2, 16),
  (108, (.pointer none), 1, 8),
  (109, (.agg ⟨[(S []), (.int .i64 0)]⟩), 2, 24),
  (110, (.agg ⟨[(S []), (.int .i64 0)]⟩), 2, 24),
  (112, .nilFunc, 1, 8),
  (113, .nilFunc, 1, 8),
  (115, .nilFunc, 1, 8),
  (116, .nilFunc, 1, 8),
  (117, .nilFunc, 1, 8),
  (119, .nilFunc, 1, 8),
  (120, .nilFunc, 1, 8),
  (121, (.agg ⟨[(S []), (S []), (S []), (S []), (S [])]⟩), 5, 80),
  (122, .nilFunc, 1, 8),
  (123, .nilFunc, 1, 8),
  (124, .nilFunc, 1, 8),
  (125, .nilFunc, 1, 8),
  (126, .nilFunc, 1, 8),
  (127, .nilFunc, 1, 8),
  (128, .nilFunc, 1, 8),
  (129, .nilFunc, 1, 8),
  (130, (.int .u64 0), 1, 8),
  (132, .nilFunc, 1, 8),
  (133, (.pointer none), 1, 8),
  (135, .nilFunc, 1, 8),
  (136, .nilFunc, 1, 8),
  (137, .nilFunc, 1, 8),
  (138, .nilFunc, 1, 8),
  (139, .nilFunc, 1, 8),
  (140, (.agg ⟨[(.int .u8 0), (.int .u8 0), (.int .u8 0), (.int .u8 0), (.int .u8 0), (.int .u8 0), (.int .u8 0), (.int .u8 0), (.int .u8 0), (.int .u8 0), (.int .u8 0), (.int .u8 0), (.int .u8 0), (.int .u8 0), (.int .u8 0), (.int .u8 0), (.int .u8 0), (.int .u8 0), (.int .u8 0), (.int .u8 0), (.int .u8 0), (.int .u8 0), (.int .u8 0), (.int .u8 0), (.int .u8 0), (.int .u8 0), (.int .u8 0), (.int .u8 0), (.int .u8 0), (.int .u8 0), (.int .u8 0), (.int .u8 0), (.int .u8 0), (.int .u8 0), (.int .u8 0), (.int .u8 0), (.int .u8 0), (.int .u8 0), (.int .u8 0), (.int .u8 0), (.int .u8 0), (.int .u8 0), (.int .u8 0), (.int .u8 0), (.int .u8 0), (.int .u8 0), (.int .u8 0), (.int .u8 0), (.int .u8 0), (.int .u8 0), (.int .u8 0), (.int .u8 0), (.int .u8 0), (.int .u8 0), (.int .u8 0), (.int .u8 0), (.int .u8 0), (.int .u8 0), (.int .u8 0), (.int .u8 0), (.int .u8 0), (.int .u8 0), (.int .u8 0), (.int .u8 0), (.int .u8 0), (.int .u8 0), (.int .u8 0), (.int .u8 0), (.int .u8 0), (.int .u8 0), (.int .u8 0), (.int .u8 0), (.int .u8 0), (.int .u8 0), (.int .u8 0), (.int .u8 0), (.int .u8 0), (.int .u8 0), (.int .u8 0), (.int .u8 0), (.int .u8 0), (.int .u8 0), (.int .u8 0), (.int .u8 0), (.int .u8 0), (.int .u8 0), (.int .u8 0), (.int .u8 0), (.int .u8 0), (.int .u8 0), (.int .u8 0), (.int .u8 0), (.int .u8 0), (.int .u8 0), (.int .u8 0), (.int .u8 0), (.int .u8 0), (.int .u8 0), (.int .u8 0), (.int .u8 0), (.int .u8 0), (.int .u8 0), (.int .u8 0), (.int .u8 0), (.int .u8 0), (.int .u8 0), (.int .u8 0), (.int .u8 0), (.int .u8 0), (.int .u8 0), (.int .u8 0), (.int .u8 0), (.int .u8 0), (.int .u8 0), (.int .u8 0), (.int .u8 0), (.int .u8 0), (.int .u8 0), (.int .u8 0), (.int .u8 0), (.int .u8 0), (.int .u8 0), (.int .u8 0), (.int .u8 0), (.int .u8 0), (.int .u8 0), (.int .u8 0), (.int .u8 0), (.int .u8 0), (.int .u8 0), (.int .u8 0), (.int .u8 0), (.int .u8 0), (.int .u8 0), (.int .u8 0), (.int .u8 0), (.int .u8 0), (.int .u8 0), (.int .u8 0), (.int .u8 0), (.int .u8 0), (.int .u8 0), (.int .u8 0), (.int .u8 0), (.int .u8 0), (.int .u8 0), (.int .u8 0), (.int .u8 0), (.int .u8 0), (.int .u8 0), (.int .u8 0), (.int .u8 0), (.int .u8 0), (.int .u8 0), (.int .u8 0), (.int .u8 0), (.int .u8 0), (.int .u8 0), (.int .u8 0), (.int .u8 0), (.int .u8 0), (.int .u8 0), (.int .u8 0), (.int .u8 0), (.int .u8 0), (.int .u8 0), (.int .u8 0), (.int .u8 0), (.int .u8 0), (.int .u8 0), (.int .u8 0), (.int .u8 0), (.int .u8 0), (.int .u8 0), (.int .u8 0), (.int .u8 0), (.int .u8 0), (.int .u8 0), (.int .u8 0), (.int .u8 0), (.int .u8 0), (.int .u8 0), (.int .u8 0), (.int .u8 0), (.int .u8 0), (.int .u8 0), (.int .u8 0), (.int .u8 0), (.int .u8 0), (.int .u8 0), (.int .u8 0), (.int .u8 0), (.int .u8 0), (.int .u8 0), (.int .u8 0), (.int .u8 0), (.int .u8 0), (.int .u8 0), (.int .u8 0), (.int .u8 0), (.int .u8 0), (.int .u8 0), (.int .u8 0), (.int .u8 0), (.int .u8 0), (.int .u8 0), (.int .u8 0), (.int .u8 0), (.int .u8 0), (.int .u8 0), (.int .u8 0), (.int .u8 0), (.int .u8 0), (.int .u8 0), (.int .u8 0), (.int .u8 0), (.int .u8 0), (.int .u8 0), (.int .u8 0), (.int .u8 0), (.int .u8 0), (.int .u8 0), (.int .u8 0), (.int .u8 0), (.int .u8 0), (.int .u8 0), (.int .u8 0), (.int .u8 0), (.int .u8 0), (.int .u8 0), (.int .u8 0), (.int .u8 0), (.int .u8 0), (.int .u8 0), (.int .u8 0), (.int .u8 0), (.int .u8 0), (.int .u8 0), (.int .u8 0), (.int .u8 0), (.int .u8 0), (.int .u8 0), (.int .u8 0), (.int .u8 0), (.int .u8 0), (.int .u8 0), (.int .u8 0), (.int .u8 0), (.int .u8 0), (.int .u8 0), (.int .u8 0), (.int .u8 0), (.int .u8 0), (.int .u8 0), (.int .u8 0), (.int .u8 0)]⟩), 256, 256),
  (141, (.agg ⟨[(.int .u8 0), (.int .u8 0)]⟩), 2, 2),
  (142, (.agg ⟨[(.int .u8 0), (.int .u8 0)]⟩), 2, 2),
  (143, (.agg ⟨[(.int .u8 0), (.int .u8 0), (.int .u8 0), (.int .u8 0), (.int .u8 0), (.int .u8 0), (.int .u8 0), (.int .u8 0), (.int .u8 0), (.int .u8 0), (.int .u8 0), (.int .u8 0), (.int .u8 0), (.int .u8 0), (.int .u8 0), (.int .u8 0), (.int .u8 0), (.int .u8 0), (.int .u8 0), (.int .u8 0), (.int .u8 0), (.int .u8 0), (.int .u8 0), (.int .u8 0), (.int .u8 0), (.int .u8 0), (.int .u8 0), (.int .u8 0), (.int .u8 0), (.int .u8 0), (.int .u8 0), (.int .u8 0)]⟩), 32, 32),
  (144, (.pointer none), 1, 8),
  (145, (.agg ⟨[(S []), (.int .i64 0), (.bool false), (.int .i64 0), (.int .i64 0), (.slice none 0 0), (.slice none 0 0)]⟩), 7, 96),
  (146, (.agg ⟨[(S []), (.int .i64 0), (.bool false), (.int .i64 0), (.int .i64 0), (.slice none 0 0), (.slice none 0 0)]⟩), 7, 96),
  (147, .nilFunc, 1, 8),
  (148, (.slice none 0 0), 1, 24),
  (150, .nilFunc, 1, 8),
  (151, (.slice none 0 0), 1, 24),
  (152, .nilFunc, 1, 8),
  (153, (.agg ⟨[(.slice none 0 0), (.int .i64 0)]⟩), 2, 32),
  (154, (.agg ⟨[(.slice none 0 0), (.int .i64 0)]⟩), 2, 32),
  (155, .nilFunc, 1, 8),
  (156, .nilFunc, 1, 8),
  (157, .nilFunc, 1, 8),
  (158, .nilFunc, 1, 8),
  (159, (.int .u32 0), 1, 4),
  (161, .nilFunc, 1, 8),
  (162, .nilFunc, 1, 8),
  (164, .nilFunc, 1, 8),
  (165, .nilFunc, 1, 8),
  (166, .nilFunc, 1, 8),
  (167, (.pointer none), 1, 8),
  (168, .nilFunc, 1, 8),
  (169, .nilFunc, 1, 8),
  (170, .nilFunc, 1, 8),
  (172, .nilFunc, 1, 8),
  (174, .nilFunc, 1, 8),
  (176, .nilFunc, 1, 8),
  (177, .nilFunc, 1, 8),
  (178, .nilFunc, 1, 8),
  (179, .nilFunc, 1, 8),
  (180, .nilFunc, 1, 8),
  (181, .nilFunc, 1, 8),
  (182, .nilFunc, 1, 8),
  (183, .nilFunc, 1, 8),
  (184, .nilFunc, 1, 8),
  (185, .nilFunc, 1, 8),
  (186, .nilFunc, 1, 8),
  (187, .nilFunc, 1, 8),
  (188, .nilFunc, 1, 8),
  (189, .nilFunc, 1, 8),
  (190, .nilFunc, 1, 8),
  (191, (.agg ⟨[(S []), (.int .i64 0)]⟩), 2, 24),
  (192, (.agg ⟨[(S []), (.int .i64 0)]⟩), 2, 24),
  (194, .nilFunc, 1, 8),
  (195, .nilFunc, 1, 8),
  (196, .nilFunc, 1, 8),
  (197, .nilFunc, 1, 8),
  (198, .nilFunc, 1, 8),
  (199, (.int .i64 0), 1, 8),
  (201, .nilFunc, 1, 8),
  (202, .nilFunc, 1, 8),
  (203, .nilFunc, 1, 8),
  (204, .nilFunc, 1, 8),
  (205, .nilFunc, 1, 8),
  (206, .nilFunc, 1, 8),
  (207, .nilFunc, 1, 8),
  (208, .nilFunc, 1, 8),
  (209, (.slice none 0 0), 1, 24),
  (210, (.slice none 0 0), 1, 24),
  (211, .nilFunc, 1, 8),
  (212, .nilFunc, 1, 8),
  (213, .nilFunc, 1, 8),
  (214, .nilFunc, 1, 8),
  (215, .nilFunc, 1, 8),
  (216, .nilFunc, 1, 8),
  (217, .nilFunc, 1, 8),
  (218, (.int .u64 0), 1, 8),
  (219, .nilFunc, 1, 8),
  (220, .nilFunc, 1, 8),
  (221, (.pointer none), 1, 8),
  (222, .nilFunc, 1, 8),
  (223, .nilFunc, 1, 8),
  (224, (.pointer none), 1, 8),
  (225, .nilFunc, 1, 8),
  (226, (.agg ⟨[(.pointer none), (.pointer none), (.pointer none), (S [])]⟩), 4, 40),
  (227, (.agg ⟨[(.pointer none), (.pointer none), (.pointer none), (S [])]⟩), 4, 40),
  (228, (.agg ⟨[]⟩), 0, 0),
  (229, (.agg ⟨[]⟩), 0, 0),
  (230, (.agg ⟨[]⟩), 0, 0),
  (231, (.int .u8 0), 1, 1),
  (232, (.int .u8 0), 1, 1),
  (233, .nilFunc, 1, 8),
  (234, (.int .i32 0), 1, 4),
  (235, (.int .i32 0), 1, 4),
  (236, (.agg ⟨[(.int .u64 0), (.int .u64 0), (.int .u32 0), (.int .u8 0), (.int .u8 0), (.int .u8 0), (.int .u8 0), .nilFunc, (.pointer none), (.int .i32 0), (.int .i32 0)]⟩), 11, 48),
  (237, (.agg ⟨[(.int .u64 0), (.int .u64 0), (.int .u32 0), (.int .u8 0), (.int .u8 0), (.int .u8 0), (.int .u8 0), .nilFunc, (.pointer none), (.int .i32 0), (.int .i32 0)]⟩), 11, 48)]
theorem infL_ok : AllI Tryz.prog infL := by
  refine ⟨?_, ?_, ?_, ?_, ?_, ?_, ?_, ?_, ?_, ?_, ?_, ?_, ?_, ?_, ?_, ?_, ?_, ?_, ?_, ?_, ?_, ?_, ?_, ?_, ?_, ?_, ?_, ?_, ?_, ?_, ?_, ?_, ?_, ?_, ?_, ?_, ?_, ?_, ?_, ?_, ?_, ?_, ?_, ?_, ?_, ?_, ?_, ?_, ?_, ?_, ?_, ?_, ?_, ?_, ?_, ?_, ?_, ?_, ?_, ?_, ?_, ?_, ?_, ?_, ?_, ?_, ?_, ?_, ?_, ?_, ?_, ?_, ?_, ?_, ?_, ?_, ?_, ?_, ?_, ?_, ?_, ?_, ?_, ?_, ?_, ?_, ?_, ?_, ?_, ?_, ?_, ?_, ?_, ?_, ?_, ?_, ?_, ?_, ?_, ?_, ?_, ?_, ?_, ?_, ?_, ?_, ?_, ?_, ?_, ?_, ?_, ?_, ?_, ?_, ?_, ?_, ?_, ?_, ?_, ?_, ?_, ?_, ?_, ?_, ?_, ?_, ?_, ?_, ?_, ?_, ?_, ?_, ?_, ?_, ?_, ?_, ?_, ?_, ?_, ?_, ?_, ?_, ?_, ?_, ?_, ?_, ?_, ?_, ?_, ?_, ?_, ?_, ?_, ?_, ?_, ?_, ?_, ?_, ?_, ?_, ?_, ?_, ?_, ?_, ?_, ?_, ?_, ?_, ?_, ?_, ?_, ?_, ?_, ?_, ?_, ?_, ?_, ?_, ?_, ?_, ?_, ?_, ?_, ?_, ?_, ?_, ?_, ?_, ?_, ?_, ?_, ?_, ?_, ?_, ?_, ?_, ?_, ?_, ?_, ?_, ?_, ?_, ?_, ?_, ?_, ?_, ?_, ?_, ?_, ?_, ?_, ?_, ?_, ?_, trivial⟩ <;> kernel_rfl
def tb : Tb Tryz.prog := Tb.mk' tyL infL tyL_ok infL_ok
theorem c2 : Callable Tryz.prog 2 := ⟨_, Tryz.func2, rfl, rfl⟩
theorem c3 : Callable Tryz.prog 3 := ⟨_, Tryz.func3, rfl, rfl⟩
theorem c4 : Callable Tryz.prog 4 := ⟨_, Tryz.func4, rfl, rfl⟩
theorem c5 : Callable Tryz.prog 5 := ⟨_, Tryz.func5, rfl, rfl⟩
theorem c9 : Callable Tryz.prog 9 := ⟨_, Tryz.func9, rfl, rfl⟩
theorem c10 : Callable Tryz.prog 10 := ⟨_, Tryz.func10, rfl, rfl⟩
theorem c11 : Callable Tryz.prog 11 := ⟨_, Tryz.func11, rfl, rfl⟩
theorem c13 : Callable Tryz.prog 13 := ⟨_, Tryz.func13, rfl, rfl⟩
theorem c16 : Callable Tryz.prog 16 := ⟨_, Tryz.func16, rfl, rfl⟩
theorem c19 : Callable Tryz.prog 19 := ⟨_, Tryz.func19, rfl, rfl⟩
theorem c20 : Callable Tryz.prog 20 := ⟨_, Tryz.func20, rfl, rfl⟩
theorem c21 : Callable Tryz.prog 21 := ⟨_, Tryz.func21, rfl, rfl⟩
theorem c22 : Callable Tryz.prog 22 := ⟨_, Tryz.func22, rfl, rfl⟩
theorem c23 : Callable Tryz.prog 23 := ⟨_, Tryz.func23, rfl, rfl⟩
theorem c24 : Callable Tryz.prog 24 := ⟨_, Tryz.func24, rfl, rfl⟩
theorem c25 : Callable Tryz.prog 25 := ⟨_, Tryz.func25, rfl, rfl⟩
theorem c26 : Callable Tryz.prog 26 := ⟨_, Tryz.func26, rfl, rfl⟩
theorem c27 : Callable Tryz.prog 27 := ⟨_, Tryz.func27, rfl, rfl⟩
theorem c28 : Callable Tryz.prog 28 := ⟨_, Tryz.func28, rfl, rfl⟩
theorem c34 : Callable Tryz.prog 34 := ⟨_, Tryz.func34, rfl, rfl⟩
theorem c36 : Callable Tryz.prog 36 := ⟨_, Tryz.func36, rfl, rfl⟩
theorem c37 : Callable Tryz.prog 37 := ⟨_, Tryz.func37, rfl, rfl⟩
theorem c39 : Callable Tryz.prog 39 := ⟨_, Tryz.func39, rfl, rfl⟩
theorem c40 : Callable Tryz.prog 40 := ⟨_, Tryz.func40, rfl, rfl⟩
theorem c42 : Callable Tryz.prog 42 := ⟨_, Tryz.func42, rfl, rfl⟩
theorem c43 : Callable Tryz.prog 43 := ⟨_, Tryz.func43, rfl, rfl⟩
theorem c44 : Callable Tryz.prog 44 := ⟨_, Tryz.func44, rfl, rfl⟩
theorem c45 : Callable Tryz.prog 45 := ⟨_, Tryz.func45, rfl, rfl⟩
theorem c46 : Callable Tryz.prog 46 := ⟨_, Tryz.func46, rfl, rfl⟩
theorem c47 : Callable Tryz.prog 47 := ⟨_, Tryz.func47, rfl, rfl⟩
theorem c48 : Callable Tryz.prog 48 := ⟨_, Tryz.func48, rfl, rfl⟩
theorem c49 : Callable Tryz.prog 49 := ⟨_, Tryz.func49, rfl, rfl⟩
theorem c51 : Callable Tryz.prog 51 := ⟨_, Tryz.func51, rfl, rfl⟩
theorem c52 : Callable Tryz.prog 52 := ⟨_, Tryz.func52, rfl, rfl⟩
theorem c53 : Callable Tryz.prog 53 := ⟨_, Tryz.func53, rfl, rfl⟩
theorem c57 : Callable Tryz.prog 57 := ⟨_, Tryz.func57, rfl, rfl⟩
theorem c58 : Callable Tryz.prog 58 := ⟨_, Tryz.func58, rfl, rfl⟩
theorem c59 : Callable Tryz.prog 59 := ⟨_, Tryz.func59, rfl, rfl⟩
theorem c60 : Callable Tryz.prog 60 := ⟨_, Tryz.func60, rfl, rfl⟩
theorem c61 : Callable Tryz.prog 61 := ⟨_, Tryz.func61, rfl, rfl⟩
theorem c62 : Callable Tryz.prog 62 := ⟨_, Tryz.func62, rfl, rfl⟩
theorem c63 : Callable Tryz.prog 63 := ⟨_, Tryz.func63, rfl, rfl⟩
theorem c64 : Callable Tryz.prog 64 := ⟨_, Tryz.func64, rfl, rfl⟩
theorem c65 : Callable Tryz.prog 65 := ⟨_, Tryz.func65, rfl, rfl⟩
theorem c71 : Callable Tryz.prog 71 := ⟨_, Tryz.func71, rfl, rfl⟩
theorem c72 : Callable Tryz.prog 72 := ⟨_, Tryz.func72, rfl, rfl⟩
theorem c74 : Callable Tryz.prog 74 := ⟨_, Tryz.func74, rfl, rfl⟩
theorem c75 : Callable Tryz.prog 75 := ⟨_, Tryz.func75, rfl, rfl⟩
theorem c76 : Callable Tryz.prog 76 := ⟨_, Tryz.func76, rfl, rfl⟩
theorem c77 : Callable Tryz.prog 77 := ⟨_, Tryz.func77, rfl, rfl⟩
theorem c78 : Callable Tryz.prog 78 := ⟨_, Tryz.func78, rfl, rfl⟩
theorem c79 : Callable Tryz.prog 79 := ⟨_, Tryz.func79, rfl, rfl⟩
theorem c80 : Callable Tryz.prog 80 := ⟨_, Tryz.func80, rfl, rfl⟩
theorem c86 : Callable Tryz.prog 86 := ⟨_, Tryz.func86, rfl, rfl⟩
theorem c87 : Callable Tryz.prog 87 := ⟨_, Tryz.func87, rfl, rfl⟩
theorem c88 : Callable Tryz.prog 88 := ⟨_, Tryz.func88, rfl, rfl⟩
theorem c93 : Callable Tryz.prog 93 := ⟨_, Tryz.func93, rfl, rfl⟩
theorem c94 : Callable Tryz.prog 94 := ⟨_, Tryz.func94, rfl, rfl⟩
theorem c95 : Callable Tryz.prog 95 := ⟨_, Tryz.func95, rfl, rfl⟩
theorem c103 : Callable Tryz.prog 103 := ⟨_, Tryz.func103, rfl, rfl⟩
theorem c104 : Callable Tryz.prog 104 := ⟨_, Tryz.func104, rfl, rfl⟩
theorem c105 : Callable Tryz.prog 105 := ⟨_, Tryz.func105, rfl, rfl⟩
theorem c106 : Callable Tryz.prog 106 := ⟨_, Tryz.func106, rfl, rfl⟩
theorem c107 : Callable Tryz.prog 107 := ⟨_, Tryz.func107, rfl, rfl⟩
theorem c108 : Callable Tryz.prog 108 := ⟨_, Tryz.func108, rfl, rfl⟩
theorem c109 : Callable Tryz.prog 109 := ⟨_, Tryz.func109, rfl, rfl⟩
theorem c110 : Callable Tryz.prog 110 := ⟨_, Tryz.func110, rfl, rfl⟩
theorem c111 : Callable Tryz.prog 111 := ⟨_, Tryz.func111, rfl, rfl⟩
theorem c114 : Callable Tryz.prog 114 := ⟨_, Tryz.func114, rfl, rfl⟩
theorem c115 : Callable Tryz.prog 115 := ⟨_, Tryz.func115, rfl, rfl⟩
theorem c116 : Callable Tryz.prog 116 := ⟨_, Tryz.func116, rfl, rfl⟩
theorem c117 : Callable Tryz.prog 117 := ⟨_, Tryz.func117, rfl, rfl⟩
theorem c118 : Callable Tryz.prog 118 := ⟨_, Tryz.func118, rfl, rfl⟩
theorem c120 : Callable Tryz.prog 120 := ⟨_, Tryz.func120, rfl, rfl⟩
theorem c130 : Callable Tryz.prog 130 := ⟨_, Tryz.func130, rfl, rfl⟩
theorem c131 : Callable Tryz.prog 131 := ⟨_, Tryz.func131, rfl, rfl⟩
theorem c132 : Callable Tryz.prog 132 := ⟨_, Tryz.func132, rfl, rfl⟩
theorem c133 : Callable Tryz.prog 133 := ⟨_, Tryz.func133, rfl, rfl⟩
theorem c134 : Callable Tryz.prog 134 := ⟨_, Tryz.func134, rfl, rfl⟩
theorem c135 : Callable Tryz.prog 135 := ⟨_, Tryz.func135, rfl, rfl⟩
theorem c136 : Callable Tryz.prog 136 := ⟨_, Tryz.func136, rfl, rfl⟩
theorem c140 : Callable Tryz.prog 140 := ⟨_, Tryz.func140, rfl, rfl⟩
theorem c141 : Callable Tryz.prog 141 := ⟨_, Tryz.func141, rfl, rfl⟩
theorem c142 : Callable Tryz.prog 142 := ⟨_, Tryz.func142, rfl, rfl⟩
theorem c143 : Callable Tryz.prog 143 := ⟨_, Tryz.func143, rfl, rfl⟩
theorem c144 : Callable Tryz.prog 144 := ⟨_, Tryz.func144, rfl, rfl⟩
theorem c147 : Callable Tryz.prog 147 := ⟨_, Tryz.func147, rfl, rfl⟩
theorem c159 : Callable Tryz.prog 159 := ⟨_, Tryz.func159, rfl, rfl⟩
theorem c160 : Callable Tryz.prog 160 := ⟨_, Tryz.func160, rfl, rfl⟩
theorem c161 : Callable Tryz.prog 161 := ⟨_, Tryz.func161, rfl, rfl⟩
theorem c162 : Callable Tryz.prog 162 := ⟨_, Tryz.func162, rfl, rfl⟩
theorem c163 : Callable Tryz.prog 163 := ⟨_, Tryz.func163, rfl, rfl⟩
theorem c164 : Callable Tryz.prog 164 := ⟨_, Tryz.func164, rfl, rfl⟩
theorem c165 : Callable Tryz.prog 165 := ⟨_, Tryz.func165, rfl, rfl⟩
theorem c174 : Callable Tryz.prog 174 := ⟨_, Tryz.func174, rfl, rfl⟩
theorem c175 : Callable Tryz.prog 175 := ⟨_, Tryz.func175, rfl, rfl⟩
theorem c176 : Callable Tryz.prog 176 := ⟨_, Tryz.func176, rfl, rfl⟩
theorem c177 : Callable Tryz.prog 177 := ⟨_, Tryz.func177, rfl, rfl⟩
theorem c178 : Callable Tryz.prog 178 := ⟨_, Tryz.func178, rfl, rfl⟩
theorem c179 : Callable Tryz.prog 179 := ⟨_, Tryz.func179, rfl, rfl⟩
theorem c180 : Callable Tryz.prog 180 := ⟨_, Tryz.func180, rfl, rfl⟩
theorem c181 : Callable Tryz.prog 181 := ⟨_, Tryz.func181, rfl, rfl⟩
theorem c182 : Callable Tryz.prog 182 := ⟨_, Tryz.func182, rfl, rfl⟩
theorem c183 : Callable Tryz.prog 183 := ⟨_, Tryz.func183, rfl, rfl⟩
theorem c184 : Callable Tryz.prog 184 := ⟨_, Tryz.func184, rfl, rfl⟩
theorem c185 : Callable Tryz.prog 185 := ⟨_, Tryz.func185, rfl, rfl⟩
theorem c186 : Callable Tryz.prog 186 := ⟨_, Tryz.func186, rfl, rfl⟩
theorem c187 : Callable Tryz.prog 187 := ⟨_, Tryz.func187, rfl, rfl⟩
theorem c193 : Callable Tryz.prog 193 := ⟨_, Tryz.func193, rfl, rfl⟩
theorem c194 : Callable Tryz.prog 194 := ⟨_, Tryz.func194, rfl, rfl⟩
theorem mixed : Tryz.prog.follows .mixedOrders = true := by kernel_rfl
end Go.Proofs.YtcngoccnfmhhnaaGreatDoor
end
section
namespace Go.Vg
open Go.RowKit

theorem Bx.ci {w : World} {b i : Nat} {us : List Value} {u : Value} (h : Bx w b us) (hi : us[i]? = some u) : CellAt w (padd (ptr b) i) u := h.cells.cell hi
theorem CellsAt.c0 {w : World} {p : Value} {us : List Value} {u : Value} (h : CellsAt w p us) (hi : us[0]? = some u) : CellAt w p u := by
  obtain ⟨a, rfl, _, hc⟩ := h
  exact ⟨a, rfl, by have := hc 0 u hi; rwa [Addr.add_zero] at this⟩
theorem Bx.c0 {w : World} {b : Nat} {us : List Value} {u : Value} (h : Bx w b us) (hi : us[0]? = some u) : CellAt w (ptr b) u := h.cells.c0 hi

section
variable {X : Cx} {ops : Array Oper} {l : List Oper} {k : List Kt} {e : Env} {w : World} {d : Nat} {c : Option Bool} {ty : TypeId} {pos : String} {af : Array Edge} {g : Option (Nat × Bool)} {S : World → Prop} {N : Env → World → Prop} {lb : List (Oper × Bool)}

theorem sFa (T : Tb X.P) {x : Operand} {st : TypeId} {f : Nat} {td : TypeDesc} {p z : Value} {off ft s b : Nat} (h : GL X ops l k ((d, c, padd p off) :: e) w) (hg : guardE ops e ⟨some d, .fieldAddr st x f, ty, pos, af, g⟩ = some c := by exact rfl) (hx : Op1 e c x p := by exact Op1.of rfl (by first | exact fun _ => rfl | exact fun h => h | exact fun h => bL h | exact fun h => bL (bL h) | exact fun h => bL (bL (bL h)))) (ht : T.ty st = some td := by exact rfl) (ho : fieldOff td f = some (off, ft) := by exact rfl) (hi : T.inf ft = some (z, s, b) := by exact rfl) (hs : Nat.blt 0 s = true := by exact rfl) (hp : cv c = true → ∃ a : Addr, p = .pointer (some a) := by intro _; first | exact ⟨_, rfl⟩ | exact CellsAt.ptr (by assumption) | exact (Sli.elem (by assumption) (by assumption)).ptr | exact (Sli.elem (Owns.sli (by assumption)) (by assumption)).ptr) (hn : Nat.blt d X.n = true := by exact rfl) :
    GL X ops (⟨some d, .fieldAddr st x f, ty, pos, af, g⟩ :: l) k e w := GL.cons (Step.fieldAddr T hg hx ht ho hi hs hp hn h)
theorem dFa (T : Tb X.P) {x : Operand} {st : TypeId} {f : Nat} {td : TypeDesc} {p z : Value} {off ft s b : Nat} (h : GMN X ops S N lb ((d, c, padd p off) :: e) w) (hg : guardE ops e ⟨some d, .fieldAddr st x f, ty, pos, af, g⟩ = some c := by exact rfl) (hx : Op1 e c x p := by exact Op1.of rfl (by first | exact fun _ => rfl | exact fun h => h | exact fun h => bL h | exact fun h => bL (bL h) | exact fun h => bL (bL (bL h)))) (ht : T.ty st = some td := by exact rfl) (ho : fieldOff td f = some (off, ft) := by exact rfl) (hi : T.inf ft = some (z, s, b) := by exact rfl) (hs : Nat.blt 0 s = true := by exact rfl) (hp : cv c = true → ∃ a : Addr, p = .pointer (some a) := by intro _; first | exact ⟨_, rfl⟩ | exact CellsAt.ptr (by assumption) | exact (Sli.elem (by assumption) (by assumption)).ptr | exact (Sli.elem (Owns.sli (by assumption)) (by assumption)).ptr) (hn : Nat.blt d X.n = true := by exact rfl) :
    GMN X ops S N ((⟨some d, .fieldAddr st x f, ty, pos, af, g⟩, true) :: lb) e w := GM.read (fun _ _ => Step.fieldAddr T hg hx ht ho hi hs hp hn ⟨rfl, rfl⟩) rfl hn h
theorem sLd (T : Tb X.P) {x : Operand} {t : TypeId} {td : TypeDesc} {p u : Value} (h : GL X ops l k ((d, c, u) :: e) w) (hg : guardE ops e ⟨some d, .load t x, ty, pos, af, g⟩ = some c := by exact rfl) (hx : Op1 e c x p := by exact Op1.of rfl (by first | exact fun _ => rfl | exact fun h => h | exact fun h => bL h | exact fun h => bL (bL h) | exact fun h => bL (bL (bL h)))) (ht : T.ty t = some td := by exact rfl) (ha : aggT td = false := by exact rfl) (hc : cv c = true → CellAt w p u := by intro _; first | exact Bx.c0 (by assumption) (by exact rfl) | exact Bx.ci (by assumption) (by exact rfl) | exact (Sli.elem (by assumption) (by assumption)).c0 (by exact rfl) | exact (Sli.elem (by assumption) (by assumption)).cell (by exact rfl) | exact (Sli.elem (Owns.sli (by assumption)) (by assumption)).c0 (by exact rfl) | exact (Sli.elem (Owns.sli (by assumption)) (by assumption)).cell (by exact rfl) | exact CellsAt.c0 (by assumption) (by exact rfl) | exact CellsAt.cell (by assumption) (by exact rfl)) (hn : Nat.blt d X.n = true := by exact rfl) :
    GL X ops (⟨some d, .load t x, ty, pos, af, g⟩ :: l) k e w := GL.cons (Step.load1 T hg hx ht ha hc hn h)
theorem dLd (T : Tb X.P) {x : Operand} {t : TypeId} {td : TypeDesc} {p u : Value} (h : GMN X ops S N lb ((d, c, u) :: e) w) (hg : guardE ops e ⟨some d, .load t x, ty, pos, af, g⟩ = some c := by exact rfl) (hx : Op1 e c x p := by exact Op1.of rfl (by first | exact fun _ => rfl | exact fun h => h | exact fun h => bL h | exact fun h => bL (bL h) | exact fun h => bL (bL (bL h)))) (ht : T.ty t = some td := by exact rfl) (ha : aggT td = false := by exact rfl) (hc : ∀ w', S w' → cv c = true → CellAt w' p u := by intro w1 hS1 _; first | exact Bx.c0 (Bx.to (by assumption) hS1) (by exact rfl) | exact Bx.ci (Bx.to (by assumption) hS1) (by exact rfl) | exact (Sli.elem (Sli.to (by assumption) hS1) (by assumption)).c0 (by exact rfl) | exact (Sli.elem (Sli.to (by assumption) hS1) (by assumption)).cell (by exact rfl) | exact (Sli.elem (Owns.sli (Owns.to (by assumption) hS1)) (by assumption)).c0 (by exact rfl) | exact (Sli.elem (Owns.sli (Owns.to (by assumption) hS1)) (by assumption)).cell (by exact rfl)) (hn : Nat.blt d X.n = true := by exact rfl) :
    GMN X ops S N ((⟨some d, .load t x, ty, pos, af, g⟩, true) :: lb) e w := GM.read (fun w' hS => Step.load1 T hg hx ht ha (hc w' hS) hn ⟨rfl, rfl⟩) rfl hn h
theorem sLa (T : Tb X.P) {x : Operand} {t : TypeId} {td : TypeDesc} {p z : Value} {s b : Nat} {us : List Value} (h : GL X ops l k ((d, c, .agg ⟨us⟩) :: e) w) (hg : guardE ops e ⟨some d, .load t x, ty, pos, af, g⟩ = some c := by exact rfl) (hx : Op1 e c x p := by exact Op1.of rfl (by first | exact fun _ => rfl | exact fun h => h | exact fun h => bL h | exact fun h => bL (bL h) | exact fun h => bL (bL (bL h)))) (ht : T.ty t = some td := by exact rfl) (ha : aggT td = true := by exact rfl) (hi : T.inf t = some (z, s, b) := by exact rfl) (hc : cv c = true → CellsAt w p us := by intro _; first | exact Bx.cells (by assumption) | exact Sli.elem (by assumption) (by assumption) | exact Sli.elem (Owns.sli (by assumption)) (by assumption) | assumption) (hl : cv c = true → us.length = s := by exact fun _ => rfl) (hn : Nat.blt d X.n = true := by exact rfl) :
    GL X ops (⟨some d, .load t x, ty, pos, af, g⟩ :: l) k e w := GL.cons (Step.loadA T hg hx ht ha hi hc hl hn h)
theorem dLa (T : Tb X.P) {x : Operand} {t : TypeId} {td : TypeDesc} {p z : Value} {s b : Nat} {us : List Value} (h : GMN X ops S N lb ((d, c, .agg ⟨us⟩) :: e) w) (hg : guardE ops e ⟨some d, .load t x, ty, pos, af, g⟩ = some c := by exact rfl) (hx : Op1 e c x p := by exact Op1.of rfl (by first | exact fun _ => rfl | exact fun h => h | exact fun h => bL h | exact fun h => bL (bL h) | exact fun h => bL (bL (bL h)))) (ht : T.ty t = some td := by exact rfl) (ha : aggT td = true := by exact rfl) (hi : T.inf t = some (z, s, b) := by exact rfl) (hc : ∀ w', S w' → cv c = true → CellsAt w' p us := by intro w1 hS1 _; first | exact Bx.cells (Bx.to (by assumption) hS1) | exact Sli.elem (Sli.to (by assumption) hS1) (by assumption) | exact Sli.elem (Owns.sli (Owns.to (by assumption) hS1)) (by assumption)) (hl : cv c = true → us.length = s := by exact fun _ => rfl) (hn : Nat.blt d X.n = true := by exact rfl) :
    GMN X ops S N ((⟨some d, .load t x, ty, pos, af, g⟩, true) :: lb) e w := GM.read (fun w' hS => Step.loadA T hg hx ht ha hi (hc w' hS) hl hn ⟨rfl, rfl⟩) rfl hn h
theorem sLen (T : Tb X.P) {x : Operand} {at_ et : TypeId} {v : Value} {m : Nat} {xs : List (List Value)} (h : GL X ops l k ((d, c, .int .i64 xs.length) :: e) w) (hg : guardE ops e ⟨some d, .call { callee := .builtin .len, args := #[x], argTypes := #[at_] }, ty, pos, af, g⟩ = some c := by exact rfl) (hx : Op1 e c x v := by exact Op1.of rfl (by first | exact fun _ => rfl | exact fun h => h | exact fun h => bL h | exact fun h => bL (bL h) | exact fun h => bL (bL (bL h)))) (ht : T.ty at_ = some (.slice et) := by exact rfl) (hs : cv c = true → ∃ w, Sli w v m xs := by intro _; first | exact ⟨_, by assumption⟩ | exact ⟨_, Owns.sli (by assumption)⟩) (hn : Nat.blt d X.n = true := by exact rfl) :
    GL X ops (⟨some d, .call { callee := .builtin .len, args := #[x], argTypes := #[at_] }, ty, pos, af, g⟩ :: l) k e w := GL.cons (Step.lenV T hg hx ht hs hn h)
theorem dLen (T : Tb X.P) {x : Operand} {at_ et : TypeId} {v : Value} {m : Nat} {xs : List (List Value)} (h : GMN X ops S N lb ((d, c, .int .i64 xs.length) :: e) w) (hg : guardE ops e ⟨some d, .call { callee := .builtin .len, args := #[x], argTypes := #[at_] }, ty, pos, af, g⟩ = some c := by exact rfl) (hx : Op1 e c x v := by exact Op1.of rfl (by first | exact fun _ => rfl | exact fun h => h | exact fun h => bL h | exact fun h => bL (bL h) | exact fun h => bL (bL (bL h)))) (ht : T.ty at_ = some (.slice et) := by exact rfl) (hs : cv c = true → ∃ w, Sli w v m xs := by intro _; first | exact ⟨_, by assumption⟩ | exact ⟨_, Owns.sli (by assumption)⟩) (hn : Nat.blt d X.n = true := by exact rfl) :
    GMN X ops S N ((⟨some d, .call { callee := .builtin .len, args := #[x], argTypes := #[at_] }, ty, pos, af, g⟩, true) :: lb) e w := GM.read (fun _ _ => Step.lenV T hg hx ht hs hn ⟨rfl, rfl⟩) rfl hn h
theorem sIa (T : Tb X.P) (j : Nat) {x i : Operand} {st et : TypeId} {v z : Value} {q b : Nat} {m : Int} {xs : List (List Value)} (h : GL X ops l k ((d, c, padd v (j * q)) :: e) w) (hg : guardE ops e ⟨some d, .indexAddr st x i, ty, pos, af, g⟩ = some c := by exact rfl) (hx : Op1 e c x v := by exact Op1.of rfl (by first | exact fun _ => rfl | exact fun h => h | exact fun h => bL h | exact fun h => bL (bL h) | exact fun h => bL (bL (bL h)))) (hi : Op1 e c i (.int .i64 m) := by exact Op1.of rfl (by first | exact fun _ => rfl | exact fun h => h | exact fun h => bL h | exact fun h => bL (bL h) | exact fun h => bL (bL (bL h)))) (ht : T.ty st = some (.slice et) := by exact rfl) (hk : T.inf et = some (z, q, b) := by exact rfl) (hs : cv c = true → ∃ w, Sli w v q xs := by intro _; first | exact ⟨_, by assumption⟩ | exact ⟨_, Owns.sli (by assumption)⟩) (hj : cv c = true → m = j ∧ j < xs.length := by intro hc; first | exact ⟨by omega, by first | omega | (simp only [List.length_map]; omega)⟩ | (simp only [cv, Bool.and_eq_true, decide_eq_true_eq] at hc; exact ⟨by omega, by first | omega | (simp only [List.length_map]; omega)⟩)) (hn : Nat.blt d X.n = true := by exact rfl) :
    GL X ops (⟨some d, .indexAddr st x i, ty, pos, af, g⟩ :: l) k e w := GL.cons (Step.indexAddr T j hg hx hi ht hk hs hj hn h)
theorem dIa (T : Tb X.P) (j : Nat) {x i : Operand} {st et : TypeId} {v z : Value} {q b : Nat} {m : Int} {xs : List (List Value)} (h : GMN X ops S N lb ((d, c, padd v (j * q)) :: e) w) (hg : guardE ops e ⟨some d, .indexAddr st x i, ty, pos, af, g⟩ = some c := by exact rfl) (hx : Op1 e c x v := by exact Op1.of rfl (by first | exact fun _ => rfl | exact fun h => h | exact fun h => bL h | exact fun h => bL (bL h) | exact fun h => bL (bL (bL h)))) (hi : Op1 e c i (.int .i64 m) := by exact Op1.of rfl (by first | exact fun _ => rfl | exact fun h => h | exact fun h => bL h | exact fun h => bL (bL h) | exact fun h => bL (bL (bL h)))) (ht : T.ty st = some (.slice et) := by exact rfl) (hk : T.inf et = some (z, q, b) := by exact rfl) (hs : cv c = true → ∃ w, Sli w v q xs := by intro _; first | exact ⟨_, by assumption⟩ | exact ⟨_, Owns.sli (by assumption)⟩) (hj : cv c = true → m = j ∧ j < xs.length := by intro hc; first | exact ⟨by omega, by first | omega | (simp only [List.length_map]; omega)⟩ | (simp only [cv, Bool.and_eq_true, decide_eq_true_eq] at hc; exact ⟨by omega, by first | omega | (simp only [List.length_map]; omega)⟩)) (hn : Nat.blt d X.n = true := by exact rfl) :
    GMN X ops S N ((⟨some d, .indexAddr st x i, ty, pos, af, g⟩, true) :: lb) e w := GM.read (fun _ _ => Step.indexAddr T j hg hx hi ht hk hs hj hn ⟨rfl, rfl⟩) rfl hn h
theorem sBs (T : Tb X.P) (j : Nat) {x i : Operand} {st : TypeId} {s : List UInt8} {m : Int} (h : GL X ops l k ((d, c, U (s.getD j 0)) :: e) w) (hg : guardE ops e ⟨some d, .index st x i, ty, pos, af, g⟩ = some c := by exact rfl) (hx : Op1 e c x (Vg.S s) := by exact Op1.of rfl (by first | exact fun _ => rfl | exact fun h => h | exact fun h => bL h | exact fun h => bL (bL h) | exact fun h => bL (bL (bL h)))) (hi : Op1 e c i (.int .i64 m) := by exact Op1.of rfl (by first | exact fun _ => rfl | exact fun h => h | exact fun h => bL h | exact fun h => bL (bL h) | exact fun h => bL (bL (bL h)))) (ht : T.ty st = some .string := by exact rfl) (hj : cv c = true → m = j ∧ j < s.length := by intro hc; first | exact ⟨by omega, by first | omega | (simp only [List.length_map]; omega)⟩ | (simp only [cv, Bool.and_eq_true, decide_eq_true_eq] at hc; exact ⟨by omega, by first | omega | (simp only [List.length_map]; omega)⟩)) (hn : Nat.blt d X.n = true := by exact rfl) :
    GL X ops (⟨some d, .index st x i, ty, pos, af, g⟩ :: l) k e w := GL.cons (Step.indexS T j hg hx hi ht hj hn h)
theorem dBs (T : Tb X.P) (j : Nat) {x i : Operand} {st : TypeId} {s : List UInt8} {m : Int} (h : GMN X ops S N lb ((d, c, U (s.getD j 0)) :: e) w) (hg : guardE ops e ⟨some d, .index st x i, ty, pos, af, g⟩ = some c := by exact rfl) (hx : Op1 e c x (Vg.S s) := by exact Op1.of rfl (by first | exact fun _ => rfl | exact fun h => h | exact fun h => bL h | exact fun h => bL (bL h) | exact fun h => bL (bL (bL h)))) (hi : Op1 e c i (.int .i64 m) := by exact Op1.of rfl (by first | exact fun _ => rfl | exact fun h => h | exact fun h => bL h | exact fun h => bL (bL h) | exact fun h => bL (bL (bL h)))) (ht : T.ty st = some .string := by exact rfl) (hj : cv c = true → m = j ∧ j < s.length := by intro hc; first | exact ⟨by omega, by first | omega | (simp only [List.length_map]; omega)⟩ | (simp only [cv, Bool.and_eq_true, decide_eq_true_eq] at hc; exact ⟨by omega, by first | omega | (simp only [List.length_map]; omega)⟩)) (hn : Nat.blt d X.n = true := by exact rfl) :
    GMN X ops S N ((⟨some d, .index st x i, ty, pos, af, g⟩, true) :: lb) e w := GM.read (fun _ _ => Step.indexS T j hg hx hi ht hj hn ⟨rfl, rfl⟩) rfl hn h
theorem sFd (T : Tb X.P) {x : Operand} {st : TypeId} {f : Nat} {td ftd : TypeDesc} {us : List Value} {u : Value} {off ft : Nat} (h : GL X ops l k ((d, c, u) :: e) w) (hg : guardE ops e ⟨some d, .field st x f, ty, pos, af, g⟩ = some c := by exact rfl) (hx : Op1 e c x (.agg ⟨us⟩) := by exact Op1.of rfl (by first | exact fun _ => rfl | exact fun h => h | exact fun h => bL h | exact fun h => bL (bL h) | exact fun h => bL (bL (bL h)))) (ht : T.ty st = some td := by exact rfl) (ho : fieldOff td f = some (off, ft) := by exact rfl) (hft : T.ty ft = some ftd := by exact rfl) (ha : aggT ftd = false := by exact rfl) (hu : us[off]? = some u := by exact rfl) (hn : Nat.blt d X.n = true := by exact rfl) :
    GL X ops (⟨some d, .field st x f, ty, pos, af, g⟩ :: l) k e w := GL.cons (Step.field T hg hx ht ho hft ha hu hn h)
theorem dFd (T : Tb X.P) {x : Operand} {st : TypeId} {f : Nat} {td ftd : TypeDesc} {us : List Value} {u : Value} {off ft : Nat} (h : GMN X ops S N lb ((d, c, u) :: e) w) (hg : guardE ops e ⟨some d, .field st x f, ty, pos, af, g⟩ = some c := by exact rfl) (hx : Op1 e c x (.agg ⟨us⟩) := by exact Op1.of rfl (by first | exact fun _ => rfl | exact fun h => h | exact fun h => bL h | exact fun h => bL (bL h) | exact fun h => bL (bL (bL h)))) (ht : T.ty st = some td := by exact rfl) (ho : fieldOff td f = some (off, ft) := by exact rfl) (hft : T.ty ft = some ftd := by exact rfl) (ha : aggT ftd = false := by exact rfl) (hu : us[off]? = some u := by exact rfl) (hn : Nat.blt d X.n = true := by exact rfl) :
    GMN X ops S N ((⟨some d, .field st x f, ty, pos, af, g⟩, true) :: lb) e w := GM.read (fun _ _ => Step.field T hg hx ht ho hft ha hu hn ⟨rfl, rfl⟩) rfl hn h
theorem sAd (_ : Tb X.P) {op : BinOp} {xt yt : TypeId} {x y : Operand} {a b r : Int} (h : GL X ops l k ((d, c, .int .i64 r) :: e) w) (hg : guardE ops e ⟨some d, .binOp op xt x y yt, ty, pos, af, g⟩ = some c := by exact rfl) (hx : Op1 e c x (.int .i64 a) := by exact Op1.of rfl (by first | exact fun _ => rfl | exact fun h => h | exact fun h => bL h | exact fun h => bL (bL h) | exact fun h => bL (bL (bL h)))) (hy : Op1 e c y (.int .i64 b) := by exact Op1.of rfl (by first | exact fun _ => rfl | exact fun h => h | exact fun h => bL h | exact fun h => bL (bL h) | exact fun h => bL (bL (bL h)))) (hp : match op with | .add => IntKind.i64.wrap (a + b) = r | .sub => IntKind.i64.wrap (a - b) = r | .mul => IntKind.i64.wrap (a * b) = r | _ => False := by exact wrap_i64 (by omega) (by omega)) (hn : Nat.blt d X.n = true := by exact rfl) :
    GL X ops (⟨some d, .binOp op xt x y yt, ty, pos, af, g⟩ :: l) k e w := GL.cons (Step.arith hg hx hy hp hn h)
theorem dAd (_ : Tb X.P) {op : BinOp} {xt yt : TypeId} {x y : Operand} {a b r : Int} (h : GMN X ops S N lb ((d, c, .int .i64 r) :: e) w) (hg : guardE ops e ⟨some d, .binOp op xt x y yt, ty, pos, af, g⟩ = some c := by exact rfl) (hx : Op1 e c x (.int .i64 a) := by exact Op1.of rfl (by first | exact fun _ => rfl | exact fun h => h | exact fun h => bL h | exact fun h => bL (bL h) | exact fun h => bL (bL (bL h)))) (hy : Op1 e c y (.int .i64 b) := by exact Op1.of rfl (by first | exact fun _ => rfl | exact fun h => h | exact fun h => bL h | exact fun h => bL (bL h) | exact fun h => bL (bL (bL h)))) (hp : match op with | .add => IntKind.i64.wrap (a + b) = r | .sub => IntKind.i64.wrap (a - b) = r | .mul => IntKind.i64.wrap (a * b) = r | _ => False := by exact wrap_i64 (by omega) (by omega)) (hn : Nat.blt d X.n = true := by exact rfl) :
    GMN X ops S N ((⟨some d, .binOp op xt x y yt, ty, pos, af, g⟩, true) :: lb) e w := GM.read (fun _ _ => Step.arith hg hx hy hp hn ⟨rfl, rfl⟩) rfl hn h
theorem sCat (_ : Tb X.P) {xt yt : TypeId} {x y : Operand} {a b : List UInt8} (h : GL X ops l k ((d, c, Vg.S (a ++ b)) :: e) w) (hg : guardE ops e ⟨some d, .binOp .add xt x y yt, ty, pos, af, g⟩ = some c := by exact rfl) (hx : Op1 e c x (Vg.S a) := by exact Op1.of rfl (by first | exact fun _ => rfl | exact fun h => h | exact fun h => bL h | exact fun h => bL (bL h) | exact fun h => bL (bL (bL h)))) (hy : Op1 e c y (Vg.S b) := by exact Op1.of rfl (by first | exact fun _ => rfl | exact fun h => h | exact fun h => bL h | exact fun h => bL (bL h) | exact fun h => bL (bL (bL h)))) (hk : cv c = true → a.length + b.length ≤ 9223372036854775807 := by intro _; simp only [List.length_append, List.length_cons, List.length_nil]; omega) (hn : Nat.blt d X.n = true := by exact rfl) :
    GL X ops (⟨some d, .binOp .add xt x y yt, ty, pos, af, g⟩ :: l) k e w := GL.cons (Step.cat hg hx hy hk hn h)
theorem dCat (_ : Tb X.P) {xt yt : TypeId} {x y : Operand} {a b : List UInt8} (h : GMN X ops S N lb ((d, c, Vg.S (a ++ b)) :: e) w) (hg : guardE ops e ⟨some d, .binOp .add xt x y yt, ty, pos, af, g⟩ = some c := by exact rfl) (hx : Op1 e c x (Vg.S a) := by exact Op1.of rfl (by first | exact fun _ => rfl | exact fun h => h | exact fun h => bL h | exact fun h => bL (bL h) | exact fun h => bL (bL (bL h)))) (hy : Op1 e c y (Vg.S b) := by exact Op1.of rfl (by first | exact fun _ => rfl | exact fun h => h | exact fun h => bL h | exact fun h => bL (bL h) | exact fun h => bL (bL (bL h)))) (hk : cv c = true → a.length + b.length ≤ 9223372036854775807 := by intro _; simp only [List.length_append, List.length_cons, List.length_nil]; omega) (hn : Nat.blt d X.n = true := by exact rfl) :
    GMN X ops S N ((⟨some d, .binOp .add xt x y yt, ty, pos, af, g⟩, true) :: lb) e w := GM.read (fun _ _ => Step.cat hg hx hy hk hn ⟨rfl, rfl⟩) rfl hn h
theorem sCv (T : Tb X.P) {x : Operand} {src dst : TypeId} {q q' : IntKind} {m r : Int} {sd : TypeDesc} (h : GL X ops l k ((d, c, .int q' r) :: e) w) (hg : guardE ops e ⟨some d, .convert src dst x, ty, pos, af, g⟩ = some c := by exact rfl) (hx : Op1 e c x (.int q m) := by exact Op1.of rfl (by first | exact fun _ => rfl | exact fun h => h | exact fun h => bL h | exact fun h => bL (bL h) | exact fun h => bL (bL (bL h)))) (hs : T.ty src = some sd := by exact rfl) (ht : T.ty dst = some (.int q') := by exact rfl) (hr : q'.wrap m = r := by exact wrap_i64 (by omega) (by omega)) (hn : Nat.blt d X.n = true := by exact rfl) :
    GL X ops (⟨some d, .convert src dst x, ty, pos, af, g⟩ :: l) k e w := GL.cons (Step.convI T hg hx hs ht hr hn h)
theorem sBd (T : Tb X.P) {t m bytes : Nat} {z : Value} {zs us : List Value} {fs : Array Field} {parts : Array (Nat × Operand)} {lo : List (Nat × Operand)} {vs : List (Nat × Value)} {pl : List (Nat × Nat)} (h : GL X ops l k ((d, none, .agg ⟨us⟩) :: e) w) (hg : guardE ops e ⟨some d, .build t parts, ty, pos, af, g⟩ = some none := by exact rfl) (hp : parts = ⟨lo⟩ := by exact rfl) (hvs : evps e lo = some vs := by exact rfl) (ht : T.ty t = some (.struct fs) := by exact rfl) (hi : T.inf t = some (z, m, bytes) := by exact rfl) (hz : z.cells = ⟨zs⟩ := by exact rfl) (hpl : fs.toList.mapM (fun f => (T.inf f.type).map fun i => (f.offset, i.2.1)) = some pl := by exact rfl) (hf : Instr.fill (fun i => pl[i]?) ⟨zs⟩ vs = some ⟨us⟩ := by exact rfl) (hn : Nat.blt d X.n = true := by exact rfl) :
    GL X ops (⟨some d, .build t parts, ty, pos, af, g⟩ :: l) k e w := GL.cons (Step.build T hg hp hvs ht hi hz hpl hf hn h)
/-! Operations that make or turn memory, and calls. -/
theorem sBox {x : Operand} {t : TypeId} {v : Value} {us : List Value}
    (h : ∀ w', Bx w' w.heap.size us → w'.heap.size = w.heap.size + 1 → Ext w w' → GL X ops l k ((d, none, ptr w.heap.size) :: e) w') (hg : guardE ops e ⟨some d, .box t x, ty, pos, af, g⟩ = some none := by exact rfl)
    (hx : Op1 e none x v := by exact Op1.of rfl (by first | exact fun _ => rfl | exact fun h => h | exact fun h => bL h | exact fun h => bL (bL h) | exact fun h => bL (bL (bL h)))) (hv : v.cells = ⟨us⟩ := by first | exact Sli.cells (by assumption) | exact Owns.cells (by assumption) | exact rfl) (hn : Nat.blt d X.n = true := by exact rfl) :
    GL X ops (⟨some d, .box t x, ty, pos, af, g⟩ :: l) k e w := GL.cons (Step.box hg hx hv hn h)
theorem sAl (T : Tb X.P) {t : TypeId} {z : Value} {s b : Nat} {us : List Value}
    (h : ∀ w', Bx w' w.heap.size us → w'.heap.size = w.heap.size + 1 → Ext w w' → GL X ops l k ((d, none, ptr w.heap.size) :: e) w') (hg : guardE ops e ⟨some d, .alloc t, ty, pos, af, g⟩ = some none := by exact rfl)
    (hi : T.inf t = some (z, s, b) := by exact rfl) (hv : z.cells = ⟨us⟩ := by exact rfl) (hn : Nat.blt d X.n = true := by exact rfl) :
    GL X ops (⟨some d, .alloc t, ty, pos, af, g⟩ :: l) k e w := GL.cons (Step.alloc T hg hi hv hn h)
/-- a whole box is stored into -/
theorem sSt (T : Tb X.P) {x y : Operand} {t : TypeId} {v z : Value} {vs us : List Value} {s by_ b : Nat}
    (h : ∀ w', Bx w' b vs → Wr b w w' → GL X ops l k e w') (hg : guardE ops e ⟨none, .store t x y, ty, pos, af, g⟩ = some none := by exact rfl)
    (hx : Op1 e none x (ptr b) := by exact Op1.of rfl (by first | exact fun _ => rfl | exact fun h => h | exact fun h => bL h | exact fun h => bL (bL h) | exact fun h => bL (bL (bL h)))) (hy : Op1 e none y v := by exact Op1.of rfl (by first | exact fun _ => rfl | exact fun h => h | exact fun h => bL h | exact fun h => bL (bL h) | exact fun h => bL (bL (bL h)))) (hi : T.inf t = some (z, s, by_) := by exact rfl) (hv : v.cells = ⟨vs⟩ := by first | exact Sli.cells (by assumption) | exact Owns.cells (by assumption) | exact rfl) (hs : vs.length = s := by exact rfl) (h1 : ∀ v ∈ vs, v.oneCell' = true := by first | exact Sli.one (by assumption) | exact Sli.one (Owns.sli (by assumption)) | simp [Value.oneCell', S, U])
    (hb : Bx w b us := by assumption) (hl : us.length = s := by exact rfl) :
    GL X ops (⟨none, .store t x y, ty, pos, af, g⟩ :: l) k e w := GL.cons (Step.store0 T hg hx hy hi hv hs h1 hb hl h)
/-- a field of a box is stored into -/
theorem sSf (T : Tb X.P) {x y : Operand} {t : TypeId} {v z : Value} {vs us : List Value} {s by_ b off : Nat}
    (h : ∀ w', Bx w' b (us.take off ++ vs ++ us.drop (off + s)) → Wr b w w' → GL X ops l k e w') (hg : guardE ops e ⟨none, .store t x y, ty, pos, af, g⟩ = some none := by exact rfl)
    (hx : Op1 e none x (padd (ptr b) off) := by exact Op1.of rfl (by first | exact fun _ => rfl | exact fun h => h | exact fun h => bL h | exact fun h => bL (bL h) | exact fun h => bL (bL (bL h)))) (hy : Op1 e none y v := by exact Op1.of rfl (by first | exact fun _ => rfl | exact fun h => h | exact fun h => bL h | exact fun h => bL (bL h) | exact fun h => bL (bL (bL h)))) (hi : T.inf t = some (z, s, by_) := by exact rfl) (hv : v.cells = ⟨vs⟩ := by first | exact Sli.cells (by assumption) | exact Owns.cells (by assumption) | exact rfl) (hs : vs.length = s := by exact rfl) (h1 : ∀ v ∈ vs, v.oneCell' = true := by first | exact Sli.one (by assumption) | exact Sli.one (Owns.sli (by assumption)) | simp [Value.oneCell', S, U])
    (hb : Bx w b us := by assumption) (hl : off + s ≤ us.length := by exact of_decide_eq_true rfl) :
    GL X ops (⟨none, .store t x y, ty, pos, af, g⟩ :: l) k e w := GL.cons (Step.store T hg hx hy hi hv hs h1 hb hl h)
theorem sCall {f : FuncId} {args : Array Operand} {ats : Array TypeId} {lo : List Operand} {vs : List Value} {Q : Value → World → Prop} (hf : Callable X.P f) (hc : Ret X.P f ⟨vs⟩ w Q)
    (h : ∀ v w', Q v w' → GL X ops l k ((d, none, v) :: e) w') (hg : guardE ops e ⟨some d, .call { callee := .value (.func f), args := args, argTypes := ats }, ty, pos, af, g⟩ = some none := by exact rfl)
    (ha : args = ⟨lo⟩ := by exact rfl) (hvs : evs e lo = some vs := by exact rfl) (hn : Nat.blt d X.n = true := by exact rfl) :
    GL X ops (⟨some d, .call { callee := .value (.func f), args := args, argTypes := ats }, ty, pos, af, g⟩ :: l) k e w := GL.cons (Step.callF hg ha hvs hf hn hc h)
/-- a call, guarded or not, that hands back v and only adds memory -/
theorem sCallx {f : FuncId} {args : Array Operand} {ats : Array TypeId} {lo : List Operand} {vs : List Value} {v : Value} (hf : Callable X.P f) (hc : cv c = true → Ret X.P f ⟨vs⟩ w fun r w' => r = v ∧ Ext w w')
    (h : ∀ w', Ext w w' → GL X ops l k ((d, c, v) :: e) w') (hg : guardE ops e ⟨some d, .call { callee := .value (.func f), args := args, argTypes := ats }, ty, pos, af, g⟩ = some c := by exact rfl)
    (ha : args = ⟨lo⟩ := by exact rfl) (hvs : OpL e c lo vs := by repeat (first | exact OpL.nil | refine OpL.cons (Op1.of rfl (by first | exact fun _ => rfl | exact fun h => h | exact fun h => bL h | exact fun h => bL (bL h) | exact fun h => bL (bL (bL h)))) ?_)) (hn : Nat.blt d X.n = true := by exact rfl) :
    GL X ops (⟨some d, .call { callee := .value (.func f), args := args, argTypes := ats }, ty, pos, af, g⟩ :: l) k e w := GL.cons (Step.callX hg ha hvs hf hn hc h)
/-- append onto a row of one's own -/
theorem sApp (T : Tb X.P) {x y : Operand} {t et : TypeId} {v u z : Value} {q bytes B : Nat} {xs ys : List (List Value)} (hv : Owns w B v et q xs) (hu : Sli w u q ys)
    (h : ∀ v' w', Owns w' B v' et q (xs ++ ys) → Grew B v w w' → GL X ops l k ((d, none, v') :: e) w')
    (h1 : ∀ y ∈ ys, ∀ c ∈ y, c.oneCell' = true := by intro y hy c hc; simp only [List.mem_cons, List.not_mem_nil, or_false] at hy; subst hy; simp only [List.mem_cons, List.not_mem_nil, or_false] at hc; rcases hc with rfl <;> rfl)
    (hg : guardE ops e ⟨some d, .call { callee := .builtin .append, args := #[x, y], argTypes := #[t, t] }, ty, pos, af, g⟩ = some none := by exact rfl)
    (hx : Op1 e none x v := by exact Op1.of rfl (by first | exact fun _ => rfl | exact fun h => h | exact fun h => bL h | exact fun h => bL (bL h) | exact fun h => bL (bL (bL h)))) (hy : Op1 e none y u := by exact Op1.of rfl (by first | exact fun _ => rfl | exact fun h => h | exact fun h => bL h | exact fun h => bL (bL h) | exact fun h => bL (bL (bL h)))) (ht : T.ty t = some (.slice et) := by exact rfl) (hi : T.inf et = some (z, q, bytes) := by exact rfl) (hk : Nat.blt 0 q = true := by exact rfl) (hz : z.cells.size = q := by exact rfl) (hn : Nat.blt d X.n = true := by exact rfl)
    (hb : (xs.length + ys.length) * bytes ≤ 140737488355328 := by simp only [List.length_map, List.length_append, List.length_cons, List.length_nil, List.length_take, List.length_drop]; omega)
    (hl : xs.length + ys.length ≤ 140737488355328 := by simp only [List.length_map, List.length_append, List.length_cons, List.length_nil, List.length_take, List.length_drop]; omega)
    (hB : B ≤ w.heap.size := by omega) :
    GL X ops (⟨some d, .call { callee := .builtin .append, args := #[x, y], argTypes := #[t, t] }, ty, pos, af, g⟩ :: l) k e w := GL.cons (Step.append T hg hx hy ht hi hk hz hv hu h1 hb hl hB hn h)
theorem sBs' (T : Tb X.P) {t et : TypeId} {n q bytes : Nat} {z : Value} {zs : List Value} {parts : Array (Nat × Operand)} {lo : List (Nat × Operand)} {vs : List (Nat × Value)} (xs : List (List Value))
    (h : ∀ v w', Owns w' w.heap.size v et q xs → w'.heap.size = w.heap.size + 1 → Ext w w' → GL X ops l k ((d, none, v) :: e) w')
    (hg : guardE ops e ⟨some d, .buildSlice t n parts, ty, pos, af, g⟩ = some none := by exact rfl)
    (hp : parts = ⟨lo⟩ := by exact rfl) (hvs : evps e lo = some vs := by exact rfl) (ht : T.ty t = some (.slice et) := by exact rfl) (hi : T.inf et = some (z, q, bytes) := by exact rfl) (hz : z.cells = ⟨zs⟩ := by exact rfl) (hzl : zs.length = q := by exact rfl) (hk : Nat.blt 0 q = true := by exact rfl)
    (hfill : Instr.fill (fun i => some (i * q, q)) ⟨if n * q = 0 then [] else zeros zs (n * q)⟩ vs = some ⟨xs.flatten⟩ := by rfl) (hsm : Nat.ble (n * q) 1000 = true := by exact rfl)
    (hlen : xs.length = n := by rfl) (hkl : ∀ x ∈ xs, x.length = q := by simp) (hn : Nat.blt d X.n = true := by exact rfl) :
    GL X ops (⟨some d, .buildSlice t n parts, ty, pos, af, g⟩ :: l) k e w := GL.cons (Step.buildSlice T xs hg hp hvs ht hi hz hzl hk hfill hsm hlen hkl hn h)
end

/-! A drawn region in its order: simple operations by reckoning. -/
inductive ResM where
  | done (l : List (Oper × Bool)) (e : Env) (L : List Prop)
  | no
def goM {P : Program} (T : Tb P) (n : Nat) (ops : Array Oper) : List (Oper × Bool) → Env → List Prop → ResM
  | [], e, L => .done [] e L
  | (o, true) :: l, e, L => match simp1 T ops n o e with
    | some (d, c, v, M) => goM T n ops l ((d, c, v) :: e) (M ++ L)
    | none => .done ((o, true) :: l) e L
  | (o, false) :: l, e, L => .done ((o, false) :: l) e L
theorem goM_ok {X : Cx} (T : Tb X.P) {ops : Array Oper} {S : World → Prop} {N : Env → World → Prop} {w : World} : ∀ (l : List (Oper × Bool)) (e : Env) (L : List Prop) {l' : List (Oper × Bool)} {e' : Env} {L' : List Prop},
    goM T X.n ops l e L = .done l' e' L' → AllP L' → GMN X ops S N l' e' w → AllP L ∧ GMN X ops S N l e w
  | [], e, L, l', e', L', h, hL, hs => by simp only [goM] at h; cases h; exact ⟨hL, hs⟩
  | (o, false) :: l, e, L, l', e', L', h, hL, hs => by simp only [goM] at h; cases h; exact ⟨hL, hs⟩
  | (o, true) :: l, e, L, l', e', L', h, hL, hs => by
    simp only [goM] at h
    split at h
    · rename_i d c v M hm
      obtain ⟨h1, h2⟩ := goM_ok T _ _ _ h hL hs
      obtain ⟨h3, h4, h5⟩ := simp1_step T hm h1.app.1
      exact ⟨h1.app.2, GM.read (fun w' _ => h3 ⟨rfl, rfl⟩) h4 h5 h2⟩
    · cases h; exact ⟨hL, hs⟩
section
variable {X : Cx} {ops : Array Oper} {e e' : Env} {w : World} {S : World → Prop} {N : Env → World → Prop} {l l' : List (Oper × Bool)} {L : List Prop}
theorem mm (T : Tb X.P) (h : GMN X ops S N l' e' w) (hr : goM T X.n ops l e [] = .done l' e' L := by exact rfl)
    (hL : AllP L := by repeat (first | exact trivial | refine And.intro (by first | exact fun _ => rfl | exact fun h => h | exact fun h => bL h | exact fun h => bL (bL h) | exact fun h => bL (bL (bL h)) | exact fun _ _ => rfl | exact fun _ h => h | exact fun _ h => bNot h | exact fun h k => bAnd h k | exact fun h k => bAnd h (bNot k)) ?_)) : GMN X ops S N l e w := (goM_ok T l e [] hr hL h).2
end
end Go.Vg
namespace Go.Vg
/-- steps that need no word: what is left of them is asked -/
structure Held (Q : Prop) : Prop where
  of : Q
theorem rn {Q R : Prop} (h : R) (q : Held R → Q := by (intro hh; (try (first | refine gl tb ?_ | refine gg tb ?_ | refine ll tb ?_ | refine lg tb ?_); repeat ((first | refine G.condT rfl ?_ | refine G.condF rfl ?_ | refine sFa tb ?_ | refine sLd tb ?_ | refine sLa tb ?_ | refine sLen tb ?_ | refine sFd tb ?_ | refine sBd tb ?_ | refine sBa tb ?_); try (first | refine gl tb ?_ | refine gg tb ?_ | refine ll tb ?_ | refine lg tb ?_))); exact hh.of)) : Q := q ⟨h⟩
theorem rg {Q R : Prop} (h : R) (q : Held R → Q := by (intro hh; (try (first | refine gl tb ?_ | refine gg tb ?_ | refine ll tb ?_ | refine lg tb ?_); repeat ((first | refine G.condT rfl ?_ | refine G.condF rfl ?_); try (first | refine gl tb ?_ | refine gg tb ?_ | refine ll tb ?_ | refine lg tb ?_))); exact hh.of)) : Q := q ⟨h⟩
theorem rd {Q R : Prop} (h : R) (q : Held R → Q := by (intro hh; (try (refine mm tb ?_); repeat ((first | refine dFa tb ?_ | refine dLd tb ?_ | refine dLa tb ?_ | refine dLen tb ?_ | refine dFd tb ?_); try (refine mm tb ?_))); exact hh.of)) : Q := q ⟨h⟩
end Go.Vg
end
section
namespace Go.Vg
open Go.RowKit

/-- bytes as a row's elements -/
def bysC (l : List UInt8) : List (List Value) := l.map fun b => [U b]
theorem bysC_len (l : List UInt8) : (bysC l).length = l.length := by simp [bysC]
theorem bysC_one (l : List UInt8) : ∀ y ∈ bysC l, ∀ c ∈ y, c.oneCell' = true := by
  intro y hy c hc
  obtain ⟨b, _, rfl⟩ := List.mem_map.1 hy
  simp only [List.mem_cons, List.not_mem_nil, or_false] at hc
  subst hc; rfl
theorem bysC_get {l : List UInt8} {i : Nat} (h : i < l.length) : (bysC l)[i]? = some [U (l.getD i 0)] := by
  simp [bysC, List.getD, h]
theorem bysC_k (l : List UInt8) : ∀ x ∈ bysC l, x.length = 1 := by
  intro y hy
  obtain ⟨b, _, rfl⟩ := List.mem_map.1 hy
  rfl
/-- a row of bytes -/
abbrev By (w : World) (v : Value) (l : List UInt8) : Prop := Sli w v 1 (bysC l)

theorem Owns.wr2 {w w' : World} {b B : Nat} {v : Value} {et k : Nat} {xs : List (List Value)} (h : Owns w B v et k xs) (hx : Wr b w w') (hb : some b ≠ v.ownBlock) : Owns w' B v et k xs := by
  obtain ⟨⟨hl, h⟩, hk⟩ := h
  refine ⟨⟨hl, ?_⟩, hk⟩
  rcases h with h | ⟨g, cap, cur, h1, h2, h3, h4⟩
  · exact .inl h
  · refine .inr ⟨g, cap, cur, h1, h2, ?_, h4⟩
    rw [hx.block g (fun e => hb (by rw [h1, e]; rfl))]; exact h3
theorem Df.neO {r : Nat} {w : World} {B : Nat} {v : Value} {et k : Nat} {xs : List (List Value)} (h : Df r w) (ho : Owns w B v et k xs) : some r ≠ v.ownBlock := by
  intro e
  rcases ho.1.2 with ⟨rfl, _⟩ | ⟨g, cap, cur, rfl, _, hg, _⟩
  · simp [Value.ownBlock] at e
  · simp only [Value.ownBlock, Option.some.injEq] at e
    subst e
    unfold Df at h
    rw [h] at hg; cases hg
theorem wrap_u64 {n : Int} (h0 : 0 ≤ n) (h1 : n ≤ 18446744073709551615) : IntKind.u64.wrap n = n := by
  have hb : IntKind.u64.bits = 64 := rfl
  have hs : IntKind.u64.signed = false := rfl
  unfold IntKind.wrap
  simp only [hb, hs, Bool.false_and]
  have e1 : (2 : Int) ^ 64 = 18446744073709551616 := by decide
  rw [e1]
  simp only [Bool.false_eq_true, if_false]
  omega
theorem wrap_u8 (n : Int) : IntKind.u8.wrap n = n % 256 := by
  have hb : IntKind.u8.bits = 8 := rfl
  have hs : IntKind.u8.signed = false := rfl
  unfold IntKind.wrap
  simp only [hb, hs, Bool.false_and]
  have e1 : (2 : Int) ^ 8 = 256 := by decide
  rw [e1]
  simp
def bigK : IntKind → Bool
  | .i64 => true
  | .u64 => true
  | _ => false
/-- a whole number's lowest byte -/
def byI (n : Int) : UInt8 := UInt8.ofNat (n % 256).toNat
theorem byI_int (n : Int) : ((byI n).toNat : Int) = n % 256 := by
  have h : (n % 256).toNat < 256 := by omega
  unfold byI
  rw [UInt8.toNat_ofNat_of_lt' h]; omega
theorem byI_u (n : Int) : Value.int .u8 (IntKind.u8.wrap n) = U (byI n) := by rw [wrap_u8, ← byI_int]; rfl

section
variable {X : Cx} {ops : Array Oper} {l : List Oper} {k : List Kt} {e : Env} {w : World} {N : Env → World → Prop} {d : Nat} {c : Option Bool} {ty : TypeId} {pos : String} {af : Array Edge} {g : Option (Nat × Bool)}

/-- to a byte -/
theorem Step.convB (T : Tb X.P) {x : Operand} {src dst : TypeId} {q : IntKind} {m : Int} {sd : TypeDesc}
    (hg : guardE ops e ⟨some d, .convert src dst x, ty, pos, af, g⟩ = some c) (hx : Op1 e c x (.int q m)) (hs : T.ty src = some sd) (ht : T.ty dst = some (.int .u8)) (hn : Nat.blt d X.n = true)
    (h : N ((d, c, U (byI m)) :: e) w) : Step X ops ⟨some d, .convert src dst x, ty, pos, af, g⟩ e w N :=
  Step.convI T hg hx hs ht rfl hn (by rw [byI_u]; exact h)
/-- a byte to a greater kind -/
theorem Step.convU (T : Tb X.P) {x : Operand} {src dst : TypeId} {q : IntKind} {b : UInt8} {sd : TypeDesc}
    (hg : guardE ops e ⟨some d, .convert src dst x, ty, pos, af, g⟩ = some c) (hx : Op1 e c x (U b)) (hs : T.ty src = some sd) (ht : T.ty dst = some (.int q)) (hq : bigK q = true) (hn : Nat.blt d X.n = true)
    (h : N ((d, c, .int q (b.toNat : Int)) :: e) w) : Step X ops ⟨some d, .convert src dst x, ty, pos, af, g⟩ e w N := by
  have hb := b.toNat_lt
  refine Step.convI T hg hx hs ht ?_ hn h
  cases q <;> first | exact wrap_i64 (by omega) (by omega) | exact wrap_u64 (by omega) (by omega) | cases hq
/-- shifted to the right by a fixed number -/
theorem Step.shr {xt yt : TypeId} {x y : Operand} {q qy : IntKind} {a r : Int} {n : Nat} (hg : guardE ops e ⟨some d, .binOp .shr xt x y yt, ty, pos, af, g⟩ = some c)
    (hx : Op1 e c x (.int q a)) (hy : Op1 e c y (.int qy n)) (hr : a / 2 ^ n = r) (hb : n ≤ q.bits) (hn : Nat.blt d X.n = true)
    (h : N ((d, c, .int q r) :: e) w) : Step X ops ⟨some d, .binOp .shr xt x y yt, ty, pos, af, g⟩ e w N :=
  Step.quiet rfl (by simpa [Nat.blt_eq] using hn) hg (fun _ hh => by cases hh) (fun t hf hc => by
    have h1 := shift_shr q qy a n (by omega) (by omega)
    simp only [Int.toNat_natCast, hr] at h1
    simp only [execOp, hx.val hf hc, hy.val hf hc]
    simp [go_sem, h1]) h
/-- a text of a row of bytes -/
theorem Step.bytesS (T : Tb X.P) {x : Operand} {src dst et : TypeId} {v : Value} {xs : List UInt8}
    (hg : guardE ops e ⟨some d, .convert src dst x, ty, pos, af, g⟩ = some c) (hx : Op1 e c x v) (hs : T.ty src = some (.slice et)) (he : T.ty et = some (.int .u8)) (ht : T.ty dst = some .string)
    (hv : cv c = true → By w v xs) (hn : Nat.blt d X.n = true) (h : N ((d, c, S xs) :: e) w) : Step X ops ⟨some d, .convert src dst x, ty, pos, af, g⟩ e w N :=
  Step.quiet rfl (by simpa [Nat.blt_eq] using hn) hg (fun _ hh => by cases hh) (fun t hf hc => by
    have hr : (convert src dst v).run X.P w = .ok (S xs) w := by
      rcases hv hc with ⟨rfl, h0⟩ | ⟨a, cap, rfl, hsp, hcap, hl, hcell, hb⟩
      · have : xs = [] := by simpa [bysC] using h0
        subst this
        rw [run_convert_bytes_nil w src et (T.ok _ _ hs) (T.ok _ _ he) 0 0 dst (T.ok _ _ ht)]
        rfl
      · rw [bysC_len]
        have := run_convert_bytes_back w src dst et a cap xs (T.ok _ _ hs) (T.ok _ _ he) (T.ok _ _ ht) (fun j hj => by
          have := hcell j _ (bysC_get hj) 0 _ rfl
          rw [Nat.mul_one, Nat.add_zero] at this
          rw [this]
          simp [U, List.getD, hj])
        rw [this]; rfl
    simp only [execOp, hx.val hf hc, Sem.run_bind, hr, Result.andThen_ok, Sem.run_pure]) h

/-- an array value -/
theorem Step.buildA (T : Tb X.P) {t k q by1 by2 m et : Nat} {z z2 : Value} {zs us : List Value} {parts : Array (Nat × Operand)} {lo : List (Nat × Operand)} {vs : List (Nat × Value)}
    (hg : guardE ops e ⟨some d, .build t parts, ty, pos, af, g⟩ = some none)
    (hp : parts = ⟨lo⟩) (hvs : evps e lo = some vs) (ht : T.ty t = some (.array m et)) (hi : T.inf t = some (z, k, by1)) (hi2 : T.inf et = some (z2, q, by2)) (hz : z.cells = ⟨zs⟩)
    (hfill : Instr.fill (fun i => some (i * q, q)) ⟨zs⟩ vs = some ⟨us⟩) (hn : Nat.blt d X.n = true)
    (h : N ((d, none, .agg ⟨us⟩) :: e) w) : Step X ops ⟨some d, .build t parts, ty, pos, af, g⟩ e w N := by
  obtain ⟨i, hi1, hi2', hi3, hi4⟩ := T.iok _ _ _ _ hi
  have hT := T.ok _ _ ht
  have hz' : (zeroValue t).run X.P w = .ok z w := by simp [zeroValue, typeInfo, hi1, hi2']
  refine Step.quiet rfl (by simpa [Nat.blt_eq] using hn) hg (fun _ hh => by cases hh) (fun t' hf _ => ?_) h
  have h1 := evps_map (ds := X.ds) hf hvs
  subst hp
  have h2 : (Array.mk lo).map (fun x : Nat × Operand => match x with | (i, x) => (i, (Act.mk t' X.ds).eval x)) = ⟨vs⟩ := by
    rw [show (fun x : Nat × Operand => match x with | (i, x) => (i, (Act.mk t' X.ds).eval x)) = (fun p => (p.1, (Act.mk t' X.ds).eval p.2)) from rfl]
    simp [h1]
  simp only [execOp, Instr.build, h2, Sem.run_bind, run_underlying hT, Result.andThen_ok, hz', hz, run_sizeOf hi2, hfill, Sem.run_pure]
theorem sBa (T : Tb X.P) {t k' q by1 by2 m et : Nat} {z z2 : Value} {zs us : List Value} {parts : Array (Nat × Operand)} {lo : List (Nat × Operand)} {vs : List (Nat × Value)}
    (h : GL X ops l k ((d, none, .agg ⟨us⟩) :: e) w) (hg : guardE ops e ⟨some d, .build t parts, ty, pos, af, g⟩ = some none := by exact rfl)
    (hp : parts = ⟨lo⟩ := by exact rfl) (hvs : evps e lo = some vs := by exact rfl) (ht : T.ty t = some (.array m et) := by exact rfl) (hi : T.inf t = some (z, k', by1) := by exact rfl) (hi2 : T.inf et = some (z2, q, by2) := by exact rfl) (hz : z.cells = ⟨zs⟩ := by exact rfl)
    (hfill : Instr.fill (fun i => some (i * q, q)) ⟨zs⟩ vs = some ⟨us⟩ := by exact rfl) (hn : Nat.blt d X.n = true := by exact rfl) :
    GL X ops (⟨some d, .build t parts, ty, pos, af, g⟩ :: l) k e w := GL.cons (Step.buildA T hg hp hvs ht hi hi2 hz hfill hn h)

/-- sums of any kind, as they are wrapped -/
theorem sAr {op : BinOp} {xt yt : TypeId} {x y : Operand} {q : IntKind} {a b r : Int} (h : GL X ops l k ((d, c, .int q r) :: e) w)
    (hg : guardE ops e ⟨some d, .binOp op xt x y yt, ty, pos, af, g⟩ = some c := by exact rfl) (hx : Op1 e c x (.int q a) := by exact Op1.of rfl (by first | exact fun _ => rfl | exact fun h => h)) (hy : Op1 e c y (.int q b) := by exact Op1.of rfl (by first | exact fun _ => rfl | exact fun h => h))
    (hp : match op with | .add => q.wrap (a + b) = r | .sub => q.wrap (a - b) = r | .mul => q.wrap (a * b) = r | _ => False := by exact rfl) (hn : Nat.blt d X.n = true := by exact rfl) :
    GL X ops (⟨some d, .binOp op xt x y yt, ty, pos, af, g⟩ :: l) k e w := GL.cons (Step.arith hg hx hy hp hn h)
/-- a call that computes and turns nothing -/
theorem Step.callQ {f : FuncId} {args : Array Operand} {ats : Array TypeId} {lo : List Operand} {vs : List Value} {v : Value}
    (hg : guardE ops e ⟨some d, .call { callee := .value (.func f), args := args, argTypes := ats }, ty, pos, af, g⟩ = some c)
    (ha : args = ⟨lo⟩) (hvs : OpL e c lo vs) (hf : Callable X.P f) (hn : Nat.blt d X.n = true) (hc : cv c = true → Ret X.P f ⟨vs⟩ w fun r w' => r = v ∧ w' = w)
    (h : N ((d, c, v) :: e) w) : Step X ops ⟨some d, .call { callee := .value (.func f), args := args, argTypes := ats }, ty, pos, af, g⟩ e w N := by
  intro t K Q hft hK
  rw [guardE_wanted hft hg]
  cases hcv : cv c with
  | false =>
    rw [if_neg (by simp)]
    have := hK _ _ _ h (hft.put (by simpa [Nat.blt_eq] using hn) c v)
    simp only [gval, hcv] at this
    exact this
  | true =>
    rw [if_pos rfl]
    refine ⟨fun _ _ => trivial, ?_⟩
    rw [Oper.semAt_eq _ _ _ (fun _ hh => by cases hh)]
    have h1 := hvs.map (ds := X.ds) hft hcv
    subst ha
    have h2 : (Array.mk lo).map (Act.mk t X.ds).eval = ⟨vs⟩ := by simp [h1]
    have hr : (execOp (Act.mk t X.ds).eval ⟨some d, .call { callee := .value (.func f), args := ⟨lo⟩, argTypes := ats }, ty, pos, af, g⟩).run X.P w = .ok (.enter f ⟨vs⟩) w := by
      simp only [execOp, resolve, h2, Act.eval, Deferred.ofValue, Sem.run_bind, Sem.run_pure, Result.andThen_ok, invoke, Array.empty_append, Array.append_empty, run_callFunc hf]
    show Oper.uponIn _ _ _ _ _ _ _ ((execOp (Act.mk t X.ds).eval _).run X.P w)
    rw [hr]
    refine ⟨fun h => by simp [Fence.wide] at h, callsW (Calls.mono (hc hcv) ?_)⟩
    rintro en w' ⟨r, rfl, rfl, rfl⟩
    show K (Act.put _ (some d) r) _
    have := hK _ _ _ h (hft.put (by simpa [Nat.blt_eq] using hn) c r)
    simp only [gval, hcv] at this
    exact this
theorem sCallq {f : FuncId} {args : Array Operand} {ats : Array TypeId} {lo : List Operand} {vs : List Value} {v : Value} (hf : Callable X.P f) (hc : cv c = true → Ret X.P f ⟨vs⟩ w fun r w' => r = v ∧ w' = w)
    (h : GL X ops l k ((d, c, v) :: e) w) (hg : guardE ops e ⟨some d, .call { callee := .value (.func f), args := args, argTypes := ats }, ty, pos, af, g⟩ = some c := by exact rfl)
    (ha : args = ⟨lo⟩ := by exact rfl) (hvs : OpL e c lo vs := by repeat (first | exact OpL.nil | refine OpL.cons (Op1.of rfl (by first | exact fun _ => rfl | exact fun h => h | exact fun h => bL h | exact fun h => bL (bL h))) ?_)) (hn : Nat.blt d X.n = true := by exact rfl) :
    GL X ops (⟨some d, .call { callee := .value (.func f), args := args, argTypes := ats }, ty, pos, af, g⟩ :: l) k e w := GL.cons (Step.callQ hg ha hvs hf hn hc h)
/-- the other sign -/
theorem Step.neg {xt : TypeId} {x : Operand} {q : IntKind} {a r : Int} (hg : guardE ops e ⟨some d, .unOp .neg xt x, ty, pos, af, g⟩ = some c)
    (hx : Op1 e c x (.int q a)) (hr : q.wrap (0 - a) = r) (hn : Nat.blt d X.n = true)
    (h : N ((d, c, .int q r) :: e) w) : Step X ops ⟨some d, .unOp .neg xt x, ty, pos, af, g⟩ e w N :=
  Step.quiet rfl (by simpa [Nat.blt_eq] using hn) hg (fun _ hh => by cases hh) (fun t hf hc => by
    simp only [execOp, hx.val hf hc]
    simp [go_sem, Op.intArith, ← hr]) h
theorem sNeg {xt : TypeId} {x : Operand} {a : Int} (h : GL X ops l k ((d, c, .int .i64 (0 - a)) :: e) w) (hg : guardE ops e ⟨some d, .unOp .neg xt x, ty, pos, af, g⟩ = some c := by exact rfl)
    (hx : Op1 e c x (.int .i64 a) := by exact Op1.of rfl (by first | exact fun _ => rfl | exact fun h => h | exact fun h => bL h)) (hr : IntKind.i64.wrap (0 - a) = 0 - a := by exact wrap_i64 (by omega) (by omega)) (hn : Nat.blt d X.n = true := by exact rfl) :
    GL X ops (⟨some d, .unOp .neg xt x, ty, pos, af, g⟩ :: l) k e w := GL.cons (Step.neg hg hx hr hn h)
/-- structs of texts and whole numbers held against each other -/
theorem Step.eqSt (T : Tb X.P) {op : BinOp} {xt yt : TypeId} {x y : Operand} {a b : List Value} {r : Bool} {fs : Array Field} (hg : guardE ops e ⟨some d, .binOp op xt x y yt, ty, pos, af, g⟩ = some c)
    (hx : Op1 e c x (.agg ⟨a⟩)) (hy : Op1 e c y (.agg ⟨b⟩)) (ht : T.ty xt = some (.struct fs)) (hp : X.P.stoodInHeld xt = false) (hm : X.P.eqGuardType X.P.depth xt = false)
    (hq : ∀ w, (Op.eqFields 9999 ⟨a⟩ ⟨b⟩ fs.toList).run X.P w = .ok r w) (hn : Nat.blt d X.n = true)
    (ho : op = .eql ∨ op = .neq) (h : N ((d, c, .bool (match op with | .eql => r | _ => !r)) :: e) w) : Step X ops ⟨some d, .binOp op xt x y yt, ty, pos, af, g⟩ e w N := by
  have hT := T.ok _ _ ht
  have hfs : X.P.fieldsOf xt = fs := by simp [Program.fieldsOf, hT]
  have he : ∀ w, (Op.equalIn 10000 xt (.agg ⟨a⟩) (.agg ⟨b⟩)).run X.P w = .ok r w := fun w => by
    rw [show (10000 : Nat) = 9999 + 1 from rfl, run_equalIn_struct w 9999 xt _ _ (by rw [hfs]; exact hT) hp, hfs]; exact hq w
  refine Step.eqA hg hx hy (fun w => ?_) hn h
  rcases ho with rfl | rfl
  · simp only [Sem.run_bind, run_eqGuard_agg w _ _ _ _ _ _ hm, Result.andThen_ok, run_eql_struct, he]
  · simp only [Sem.run_bind, run_eqGuard_agg w _ _ _ _ _ _ hm, Result.andThen_ok, run_neq_struct, he]
theorem sCb (T : Tb X.P) {x : Operand} {src dst : TypeId} {q : IntKind} {m : Int} {sd : TypeDesc} (h : GL X ops l k ((d, c, U (byI m)) :: e) w)
    (hg : guardE ops e ⟨some d, .convert src dst x, ty, pos, af, g⟩ = some c := by exact rfl) (hx : Op1 e c x (.int q m) := by exact Op1.of rfl (by first | exact fun _ => rfl | exact fun h => h)) (hs : T.ty src = some sd := by exact rfl) (ht : T.ty dst = some (.int .u8) := by exact rfl) (hn : Nat.blt d X.n = true := by exact rfl) :
    GL X ops (⟨some d, .convert src dst x, ty, pos, af, g⟩ :: l) k e w := GL.cons (Step.convB T hg hx hs ht hn h)
theorem sCu (T : Tb X.P) {x : Operand} {src dst : TypeId} {q : IntKind} {b : UInt8} {sd : TypeDesc} (h : GL X ops l k ((d, c, .int q (b.toNat : Int)) :: e) w)
    (hg : guardE ops e ⟨some d, .convert src dst x, ty, pos, af, g⟩ = some c := by exact rfl) (hx : Op1 e c x (U b) := by exact Op1.of rfl (by first | exact fun _ => rfl | exact fun h => h)) (hs : T.ty src = some sd := by exact rfl) (ht : T.ty dst = some (.int q) := by exact rfl) (hq : bigK q = true := by exact rfl) (hn : Nat.blt d X.n = true := by exact rfl) :
    GL X ops (⟨some d, .convert src dst x, ty, pos, af, g⟩ :: l) k e w := GL.cons (Step.convU T hg hx hs ht hq hn h)
theorem sShr {xt yt : TypeId} {x y : Operand} {q qy : IntKind} {a r : Int} {n : Nat} (hr : a / 2 ^ n = r) (h : GL X ops l k ((d, c, .int q r) :: e) w)
    (hg : guardE ops e ⟨some d, .binOp .shr xt x y yt, ty, pos, af, g⟩ = some c := by exact rfl) (hx : Op1 e c x (.int q a) := by exact Op1.of rfl (by first | exact fun _ => rfl | exact fun h => h)) (hy : Op1 e c y (.int qy n) := by exact Op1.of rfl (by first | exact fun _ => rfl | exact fun h => h)) (hb : n ≤ q.bits := by exact of_decide_eq_true rfl) (hn : Nat.blt d X.n = true := by exact rfl) :
    GL X ops (⟨some d, .binOp .shr xt x y yt, ty, pos, af, g⟩ :: l) k e w := GL.cons (Step.shr hg hx hy hr hb hn h)
theorem sByS (T : Tb X.P) {x : Operand} {src dst et : TypeId} {v : Value} {xs : List UInt8} (hv : By w v xs) (h : GL X ops l k ((d, c, S xs) :: e) w)
    (hg : guardE ops e ⟨some d, .convert src dst x, ty, pos, af, g⟩ = some c := by exact rfl) (hx : Op1 e c x v := by exact Op1.of rfl (by first | exact fun _ => rfl | exact fun h => h)) (hs : T.ty src = some (.slice et) := by exact rfl) (he : T.ty et = some (.int .u8) := by exact rfl) (ht : T.ty dst = some .string := by exact rfl) (hn : Nat.blt d X.n = true := by exact rfl) :
    GL X ops (⟨some d, .convert src dst x, ty, pos, af, g⟩ :: l) k e w := GL.cons (Step.bytesS T hg hx hs he ht (fun _ => hv) hn h)
end
end Go.Vg
end
section
namespace Go.Vg
open Go.RowKit

section steps
variable {X : Cx} {ops : Array Oper} {l : List Oper} {k : List Kt} {e : Env} {w : World} {N : Env → World → Prop} {d : Nat} {c : Option Bool} {ty : TypeId} {pos : String} {af : Array Edge} {g : Option (Nat × Bool)}
theorem Step.rem {xt yt : TypeId} {x y : Operand} {q : IntKind} {a b r : Int} (hg : guardE ops e ⟨some d, .binOp .rem xt x y yt, ty, pos, af, g⟩ = some c)
    (hx : Op1 e c x (.int q a)) (hy : Op1 e c y (.int q b)) (hb : cv c = true → b ≠ 0) (hr : a.tmod b = r) (hn : Nat.blt d X.n = true)
    (h : N ((d, c, .int q r) :: e) w) : Step X ops ⟨some d, .binOp .rem xt x y yt, ty, pos, af, g⟩ e w N :=
  Step.quiet rfl (by simpa [Nat.blt_eq] using hn) hg (fun _ hh => by cases hh) (fun t hf hc => by
    have h0 := hb hc
    simp only [execOp, hx.val hf hc, hy.val hf hc]
    simp [go_sem, Op.intDiv, h0, hr]) h
theorem Step.quo {xt yt : TypeId} {x y : Operand} {q : IntKind} {a b r : Int} (hg : guardE ops e ⟨some d, .binOp .quo xt x y yt, ty, pos, af, g⟩ = some c)
    (hx : Op1 e c x (.int q a)) (hy : Op1 e c y (.int q b)) (hb : cv c = true → b ≠ 0) (hr : q.wrap (a.tdiv b) = r) (hn : Nat.blt d X.n = true)
    (h : N ((d, c, .int q r) :: e) w) : Step X ops ⟨some d, .binOp .quo xt x y yt, ty, pos, af, g⟩ e w N :=
  Step.quiet rfl (by simpa [Nat.blt_eq] using hn) hg (fun _ hh => by cases hh) (fun t hf hc => by
    have h0 := hb hc
    simp only [execOp, hx.val hf hc, hy.val hf hc]
    simp [go_sem, Op.intDiv, h0, hr]) h
theorem sRem {xt yt : TypeId} {x y : Operand} {q : IntKind} {a b r : Int} (hr : a.tmod b = r) (h : GL X ops l k ((d, c, .int q r) :: e) w) (hg : guardE ops e ⟨some d, .binOp .rem xt x y yt, ty, pos, af, g⟩ = some c := by exact rfl)
    (hx : Op1 e c x (.int q a) := by exact Op1.of rfl (by first | exact fun _ => rfl | exact fun h => h | exact fun h => bL h)) (hy : Op1 e c y (.int q b) := by exact Op1.of rfl (by first | exact fun _ => rfl | exact fun h => h | exact fun h => bL h))
    (hb : cv c = true → b ≠ 0 := by intro _; omega) (hn : Nat.blt d X.n = true := by exact rfl) :
    GL X ops (⟨some d, .binOp .rem xt x y yt, ty, pos, af, g⟩ :: l) k e w := GL.cons (Step.rem hg hx hy hb hr hn h)
theorem sQuo {xt yt : TypeId} {x y : Operand} {q : IntKind} {a b r : Int} (hr : q.wrap (a.tdiv b) = r) (h : GL X ops l k ((d, c, .int q r) :: e) w) (hg : guardE ops e ⟨some d, .binOp .quo xt x y yt, ty, pos, af, g⟩ = some c := by exact rfl)
    (hx : Op1 e c x (.int q a) := by exact Op1.of rfl (by first | exact fun _ => rfl | exact fun h => h | exact fun h => bL h)) (hy : Op1 e c y (.int q b) := by exact Op1.of rfl (by first | exact fun _ => rfl | exact fun h => h | exact fun h => bL h))
    (hb : cv c = true → b ≠ 0 := by intro _; omega) (hn : Nat.blt d X.n = true := by exact rfl) :
    GL X ops (⟨some d, .binOp .quo xt x y yt, ty, pos, af, g⟩ :: l) k e w := GL.cons (Step.quo hg hx hy hb hr hn h)
end steps

theorem Df.lt {r : Nat} {w : World} (h : Df r w) : r < w.heap.size := (Array.getElem?_eq_some_iff.1 h).1
theorem Df.kept {l r : Nat} {w w' : World} (h : Df r w) (hk : Kept l w w') : Df r w' := hk.block h (fun _ hh => by cases hh)

theorem Df.outW {r r' : Nat} {w : World} (h : Df r w) (hne : r ≠ r') : Df r (outW r' w) := by
  unfold Df at *
  rw [World.putObj_heap_other hne]; exact h
end Go.Vg
end
section
namespace Go.Vg
open Go.RowKit

theorem run_storeCells_t (P : Program) (t : TypeId) : ∀ (vs : List Value) (b o i : Nat) (us : List Value) (w : World), w.heap[b]? = some (.cells ⟨us⟩ t (0, 0)) → o + i + vs.length ≤ us.length → (∀ v ∈ vs, v.oneCell' = true) →
    ∃ w', (storeCells ⟨b, o, none⟩ vs i).run P w = .ok () w' ∧ Wr b w w' ∧ w'.heap[b]? = some (.cells ⟨us.take (o + i) ++ vs ++ us.drop (o + i + vs.length)⟩ t (0, 0))
  | [], b, o, i, us, w, h, _, _ => ⟨w, by simp [storeCells], Wr.refl b w, by simpa using h⟩
  | v :: r, b, o, i, us, w, hb, hl, h1 => by
    simp only [List.length_cons] at hl
    have hc : (w.cell? ⟨b, o + i, none⟩).isSome = true := by
      rw [cell_of_row w b (o + i) ⟨us⟩ t (0, 0) hb]; simp; omega
    obtain ⟨u0, hu0⟩ := Option.isSome_iff_exists.1 hc
    have hf : w.frozen? ⟨b, o + i, none⟩ = false := frozen_of_row w b (o + i) ⟨us⟩ t hb
    have hst := run_store P w ⟨b, o + i, none⟩ v .plain (h1 v (by simp))
    rw [hu0] at hst
    simp only [hf, Bool.false_eq_true, if_false] at hst
    have hb2 : (w.setCell ⟨b, o + i, none⟩ v).heap[b]? = some (.cells ⟨us.set (o + i) v⟩ t (0, 0)) := by
      have := heap_setCell_same w b (o + i) ⟨us⟩ t v hb
      simpa using this
    obtain ⟨w', hr, hw, hx⟩ := run_storeCells_t P t r b o (i + 1) _ _ hb2 (by simp; omega) (fun u hu => h1 u (by simp [hu]))
    refine ⟨w', ?_, (Wr.setCell w b (o + i) v).trans hw, ?_⟩
    · simp only [storeCells, Sem.run_bind, Addr.add_lit, hst, Result.andThen_ok, hr]
    · have e : (us.set (o + i) v).take (o + (i + 1)) ++ r ++ (us.set (o + i) v).drop (o + (i + 1) + r.length) = us.take (o + i) ++ (v :: r) ++ us.drop (o + i + (v :: r).length) := by
        have h3 : o + i < us.length := by omega
        rw [show o + (i + 1) = (o + i) + 1 by omega, List.take_set, List.drop_set_of_lt (by omega)]
        rw [List.take_succ_eq_append_getElem (by simpa using h3)]
        rw [List.set_append_right _ _ (by simp; omega)]
        simp [show min (o + i) us.length = o + i by omega]
        congr 1; omega
      rw [← e]; exact hx

theorem flatten_take {k : Nat} : ∀ (xs : List (List Value)) (j : Nat), (∀ x ∈ xs, x.length = k) → (xs.take j).flatten = xs.flatten.take (j * k)
  | [], j, _ => by simp
  | x :: xs, 0, _ => by simp
  | x :: xs, j + 1, h => by
    have hx := h x (by simp)
    rw [List.take_succ_cons, List.flatten_cons, List.flatten_cons, flatten_take xs j (fun y hy => h y (by simp [hy])), Nat.add_mul, Nat.one_mul, Nat.add_comm, List.take_append_of_le_length' hx]
  where
  List.take_append_of_le_length' {x : List Value} {l : List Value} {k m : Nat} (hx : x.length = k) : (x ++ l).take (k + m) = x ++ l.take m := by
    rw [List.take_append, List.take_of_length_le (by omega)]
    congr 2; omega
theorem flatten_drop {k : Nat} (xs : List (List Value)) (j : Nat) (h : ∀ x ∈ xs, x.length = k) : (xs.drop j).flatten = xs.flatten.drop (j * k) := by
  have h1 := flatten_take xs j h
  have h2 : xs.flatten = (xs.take j).flatten ++ (xs.drop j).flatten := by rw [← List.flatten_append, List.take_append_drop]
  by_cases hj : j ≤ xs.length
  · have hl : (xs.take j).flatten.length = j * k := by
      rw [flatten_length _ (fun x hx => h x (List.mem_of_mem_take hx)), List.length_take, Nat.min_eq_left hj]
    rw [h2, List.drop_append_of_le_length (by omega), List.drop_of_length_le (l := (xs.take j).flatten) (by omega), List.nil_append]
  · rw [List.drop_of_length_le (by omega), List.flatten_nil, List.drop_of_length_le]
    rw [flatten_length _ h]; exact Nat.mul_le_mul_right _ (by omega)
theorem flatten_set {k : Nat} (xs : List (List Value)) (j : Nat) (x : List Value) (h : ∀ x ∈ xs, x.length = k) (_ : x.length = k) (hj : j < xs.length) :
    (xs.set j x).flatten = xs.flatten.take (j * k) ++ x ++ xs.flatten.drop (j * k + k) := by
  have e : xs.set j x = xs.take j ++ x :: xs.drop (j + 1) := by
    rw [List.set_eq_take_append_cons_drop, if_pos hj]
  rw [e, List.flatten_append, List.flatten_cons, flatten_take xs j h, flatten_drop xs (j + 1) h, Nat.add_mul, Nat.one_mul, List.append_assoc]

theorem Grew.trans {B : Nat} {u : Value} {w w1 w2 : World} (h : Grew B u w w1) (k : Grew B u w1 w2) : Grew B u w w2 :=
  ⟨fun _ hb => k.below _ (h.below _ hb), Nat.le_trans h.size k.size, fun q hq hne => (k.block q (Nat.lt_of_lt_of_le hq h.size) hne).trans (h.block q hq hne)⟩
theorem Grew.refl (B : Nat) (u : Value) (w : World) : Grew B u w w := ⟨fun _ h => h, Nat.le_refl _, fun _ _ _ => rfl⟩

section
variable {X : Cx} {ops : Array Oper} {l : List Oper} {kk : List Kt} {e : Env} {w : World} {N : Env → World → Prop} {d : Nat} {c : Option Bool} {ty : TypeId} {pos : String} {af : Array Edge} {g : Option (Nat × Bool)}

/-- an element of a row of one's own is stored -/
theorem Step.storeRow (T : Tb X.P) {x y : Operand} {t : TypeId} {v u z : Value} {vs : List Value} {k by_ B et j : Nat} {xs : List (List Value)} (hg : guardE ops e ⟨none, .store t x y, ty, pos, af, g⟩ = some none)
    (hx : Op1 e none x (padd v (j * k))) (hy : Op1 e none y u) (hi : T.inf t = some (z, k, by_)) (hv : u.cells = ⟨vs⟩) (hs : vs.length = k) (h1 : ∀ v ∈ vs, v.oneCell' = true)
    (ho : Owns w B v et k xs) (hj : j < xs.length)
    (h : ∀ w', Owns w' B v et k (xs.set j vs) → Grew B v w w' → N e w') : Step X ops ⟨none, .store t x y, ty, pos, af, g⟩ e w N := by
  have ho' := ho
  obtain ⟨⟨hl, hr⟩, hk, hb⟩ := ho
  rcases hr with ⟨rfl, hn⟩ | ⟨gb, cap, ⟨us⟩, rfl, hB, hgb, hc, hm, hsz, htk⟩
  · omega
  · have hle : xs.length * k ≤ cap * k := Nat.mul_le_mul_right _ hc
    have hjk : (j + 1) * k ≤ xs.length * k := Nat.mul_le_mul_right _ hj
    rw [Nat.add_mul, Nat.one_mul] at hjk
    have hus : us.length = cap * k := hsz
    simp only at htk
    obtain ⟨w', hrun, hw, hx'⟩ := run_storeCells_t X.P et vs gb (j * k) 0 us w hgb (by omega) h1
    rw [Nat.add_zero, hs] at hx'
    refine Step.effNone rfl hg (fun _ hh => by cases hh) (w' := w') (fun t' hf => ?_) (h w' ?_ ?_)
    · have hp : padd (Value.slice (some ⟨gb, 0, none⟩) xs.length cap) (j * k) = .pointer (some ⟨gb, j * k, none⟩) := by simp [padd, Addr.add_lit]
      have hsz' : ¬ ((⟨vs⟩ : Array Value).size ≠ k) := by simp [hs]
      simp only [execOp, hx.val hf rfl, hy.val hf rfl, hp, Instr.storeAt, Instr.sureAddr, storeVar, Sem.run_bind, Sem.run_pure, Result.andThen_ok, run_sizeOf hi, hv, if_neg hsz', hrun]
    · have hfl := flatten_set xs j vs hk hs hj
      refine ⟨⟨?_, .inr ⟨gb, cap, _, by rw [List.length_set], hB, hx', by rw [List.length_set]; exact hc, hm, ?_, ?_⟩⟩, ?_, by rw [List.length_set]; exact hb⟩
      · rw [flatten_length _ (fun y hy => by
          rcases List.mem_or_eq_of_mem_set hy with hy | rfl
          · exact hk y hy
          · exact hs)]
      · simp only [List.size_toArray, List.length_append, List.length_take, List.length_drop]; omega
      · rw [List.length_set, hfl, ← htk]
        simp only [List.append_assoc]
        rw [List.take_append, List.length_take, Nat.min_eq_left (by omega), List.take_of_length_le (by rw [List.length_take]; omega), List.take_append, hs, List.take_of_length_le (l := vs) (by omega), List.take_take, Nat.min_eq_left (by omega)]
        congr 2
        rw [List.drop_take]
        congr 1; omega
      · intro y hy
        rcases List.mem_or_eq_of_mem_set hy with hy | rfl
        · exact hk y hy
        · exact hs
    · exact ⟨fun w0 hb0 => hb0.wr hw hB, by rw [hw.size]; exact Nat.le_refl _, fun q hq hne => hw.block q (fun e => hne (by rw [e]; rfl))⟩
theorem sStR (T : Tb X.P) {x y : Operand} {t : TypeId} {v u z : Value} {vs : List Value} {k by_ B et j : Nat} {xs : List (List Value)} (ho : Owns w B v et k xs) (hj : j < xs.length)
    (h : ∀ w', Owns w' B v et k (xs.set j vs) → Grew B v w w' → GL X ops l kk e w') (hg : guardE ops e ⟨none, .store t x y, ty, pos, af, g⟩ = some none := by exact rfl)
    (hx : Op1 e none x (padd v (j * k)) := by exact Op1.of rfl (fun _ => rfl)) (hy : Op1 e none y u := by exact Op1.of rfl (fun _ => rfl)) (hi : T.inf t = some (z, k, by_) := by exact rfl) (hv : u.cells = ⟨vs⟩ := by exact rfl) (hs : vs.length = k := by exact rfl) (h1 : ∀ v ∈ vs, v.oneCell' = true := by simp [Value.oneCell', S, U]) :
    GL X ops (⟨none, .store t x y, ty, pos, af, g⟩ :: l) kk e w := GL.cons (Step.storeRow T hg hx hy hi hv hs h1 ho hj h)

end
end Go.Vg
end
section
namespace Go.Vg
open Go.RowKit

theorem By.sub {w : World} {v : Value} {l : List UInt8} (h : By w v l) {a b : Nat} (ha : a ≤ b) (hb : b ≤ l.length) : By w (subS v 1 a b) ((l.drop a).take (b - a)) := by
  have := Sli.sub h ha (by rw [bysC_len]; exact hb)
  unfold By bysC at *
  rw [List.map_take, List.map_drop]; exact this
/-- stands for a block, where a row's effect is spoken of -/
def blk (b : Nat) : Value := .slice (some ⟨b, 0, none⟩) 0 0
section
variable {X : Cx} {ops : Array Oper} {l : List Oper} {k : List Kt} {e : Env} {w : World} {N : Env → World → Prop} {S : World → Prop} {lb : List (Oper × Bool)} {d : Nat} {c : Option Bool} {ty : TypeId} {pos : String} {af : Array Edge} {g : Option (Nat × Bool)}
theorem Step.shl {xt yt : TypeId} {x y : Operand} {q qy : IntKind} {a r : Int} {n : Nat} (hg : guardE ops e ⟨some d, .binOp .shl xt x y yt, ty, pos, af, g⟩ = some c)
    (hx : Op1 e c x (.int q a)) (hy : Op1 e c y (.int qy n)) (hr : q.wrap (a * 2 ^ n) = r) (hb : n ≤ q.bits) (hn : Nat.blt d X.n = true)
    (h : N ((d, c, .int q r) :: e) w) : Step X ops ⟨some d, .binOp .shl xt x y yt, ty, pos, af, g⟩ e w N :=
  Step.quiet rfl (by simpa [Nat.blt_eq] using hn) hg (fun _ hh => by cases hh) (fun t hf hc => by
    have h1 := shift_shl q qy a n (by omega) (by omega)
    simp only [Int.toNat_natCast, hr] at h1
    simp only [execOp, hx.val hf hc, hy.val hf hc]
    simp [go_sem, h1]) h
theorem sShl {xt yt : TypeId} {x y : Operand} {q qy : IntKind} {a r : Int} {n : Nat} (hr : q.wrap (a * 2 ^ n) = r) (h : GL X ops l k ((d, c, .int q r) :: e) w)
    (hg : guardE ops e ⟨some d, .binOp .shl xt x y yt, ty, pos, af, g⟩ = some c := by exact rfl) (hx : Op1 e c x (.int q a) := by exact Op1.of rfl (by first | exact fun _ => rfl | exact fun h => h)) (hy : Op1 e c y (.int qy n) := by exact Op1.of rfl (by first | exact fun _ => rfl | exact fun h => h)) (hb : n ≤ q.bits := by exact of_decide_eq_true rfl) (hn : Nat.blt d X.n = true := by exact rfl) :
    GL X ops (⟨some d, .binOp .shl xt x y yt, ty, pos, af, g⟩ :: l) k e w := GL.cons (Step.shl hg hx hy hr hb hn h)
end
end Go.Vg
end
section
namespace Go.Vg
open Go.RowKit

/-- where a row lies behind an append: where it lay, or in new memory -/
def Own2 (w : World) (v v' : Value) : Prop := v'.ownBlock = v.ownBlock ∨ v'.ownBlock = some w.heap.size
theorem Own2.refl (w : World) (v : Value) : Own2 w v v := .inl rfl

section
variable {X : Cx} {ops : Array Oper} {l : List Oper} {kk : List Kt} {e : Env} {w : World} {N : Env → World → Prop} {d : Nat} {c : Option Bool} {ty : TypeId} {pos : String} {af : Array Edge} {g : Option (Nat × Bool)}

theorem Step.append2 (T : Tb X.P) {x y : Operand} {t et : TypeId} {v u z : Value} {k bytes B : Nat} {xs ys : List (List Value)}
    (hg : guardE ops e ⟨some d, .call { callee := .builtin .append, args := #[x, y], argTypes := #[t, t] }, ty, pos, af, g⟩ = some none)
    (hx : Op1 e none x v) (hy : Op1 e none y u) (ht : T.ty t = some (.slice et)) (hi : T.inf et = some (z, k, bytes)) (hk : Nat.blt 0 k = true) (hz : z.cells.size = k)
    (hv : Owns w B v et k xs) (hu : Sli w u k ys) (h1 : ∀ y ∈ ys, ∀ c ∈ y, c.oneCell' = true) (hb : (xs.length + ys.length) * bytes ≤ 140737488355328) (hl : xs.length + ys.length ≤ 140737488355328)
    (hB : B ≤ w.heap.size) (hn : Nat.blt d X.n = true)
    (h : ∀ v' w', Owns w' B v' et k (xs ++ ys) → Grew B v w w' → Own2 w v v' → N ((d, none, v') :: e) w') :
    Step X ops ⟨some d, .call { callee := .builtin .append, args := #[x, y], argTypes := #[t, t] }, ty, pos, af, g⟩ e w N := by
  obtain ⟨i, hi1, hi2, hi3, hi4⟩ := T.iok _ _ _ _ hi
  have hT := T.ok _ _ ht
  have hk' : 0 < k := by simpa [Nat.blt_eq] using hk
  rcases hu with ⟨rfl, rfl⟩ | ⟨a, cap, rfl, hs, hc, hyl, hcell, hyb⟩
  · have hr := run_append_owned_none (P := X.P) w B t ty et i k hT hi1 v xs.length xs.flatten hv.1
    refine Step.eff (v := v) (w' := w) rfl (by simpa [Nat.blt_eq] using hn) hg (fun _ hh => by cases hh) (fun t' hf => run_builtin2 (hx.val hf rfl) (hy.val hf rfl) fun cs => ?_) (h v w (by simpa using hv) ⟨fun _ h => h, Nat.le_refl _, fun _ _ _ => rfl⟩ (.inl rfl))
    simp only [builtin, Sem.run_bind, hr, Result.andThen_ok, Sem.run_pure]
  · have hfl := flatten_length ys hyl
    have hnews : ∀ j u, ys.flatten[j]? = some u → w.cell? (a.add j) = some u := fun j u hj => by
      have hj' : j < ys.length * k := by rw [← hfl]; exact (List.getElem?_eq_some_iff.1 hj).1
      have hq : j / k < ys.length := Nat.div_lt_of_lt_mul (by rw [Nat.mul_comm]; exact hj')
      have hyq : ys[j / k]? = some ys[j / k] := List.getElem?_eq_getElem hq
      have hlen : (ys[j / k]).length = k := hyl _ (List.getElem_mem hq)
      have hr' : j % k < (ys[j / k]).length := by rw [hlen]; exact Nat.mod_lt _ hk'
      have hu2 := List.getElem?_eq_getElem hr'
      have e1 : j / k * k + j % k = j := by rw [Nat.mul_comm]; exact Nat.div_add_mod j k
      have h5 := flatten_get ys hyl _ _ hyq _ _ hu2
      rw [e1, hj] at h5
      cases h5
      have := hcell _ _ hyq _ _ hu2
      rwa [e1] at this
    have hone : ∀ u ∈ ys.flatten, u.oneCell' = true := fun u hu => by obtain ⟨y, hy, hu'⟩ := List.mem_flatten.1 hu; exact h1 y hy u hu'
    obtain ⟨v', w', hr, h2, h3, _⟩ := run_append_own (P := X.P) w B t ty et i z k bytes hT hi1 hi2 hi3 hi4 hz hk' v xs.length xs.flatten hv.1 a ys.length cap ys.flatten hfl hnews hone (by unfold maxLen; omega) hb hB
    have hwhere : Own2 w v v' := by
      rcases hv.1.2 with ⟨rfl, hnil⟩ | ⟨gb, cp, cur, rfl, _, hgb, hcp, _, hsz, htk⟩
      · by_cases hm : ys.length = 0
        · have he : ys = [] := List.eq_nil_of_length_eq_zero hm
          subst he
          rcases h2.2 with ⟨rfl, _⟩ | ⟨g2, c2, cur2, rfl, _, hg2, _, _, _, _⟩
          · exact .inl rfl
          · by_cases hlt : g2 < w.heap.size
            · exfalso
              have hr0 : (Builtin.append_ #[t, t] ty #[.slice none 0 0, .slice (some a) 0 cap]).run X.P w = .ok (.slice none 0 0) w := by
                simp [Builtin.append_, run_underlying hT, sizeOf, typeInfo, hi1, Builtin.lenOf, Builtin.firstCells, loadCells, loadCellsFrom]
              rw [List.length_nil, hr0] at hr
              cases hr
            · have hr0 : (Builtin.append_ #[t, t] ty #[.slice none 0 0, .slice (some a) 0 cap]).run X.P w = .ok (.slice none 0 0) w := by
                simp [Builtin.append_, run_underlying hT, sizeOf, typeInfo, hi1, Builtin.lenOf, Builtin.firstCells, loadCells, loadCellsFrom]
              rw [List.length_nil, hr0] at hr
              cases hr
        · have h48 : ys.length * i.bytes ≤ 281474976710656 := by
            rw [hi4]
            have := Nat.mul_le_mul_right bytes (Nat.le_add_left ys.length xs.length)
            omega
          have hr2 := run_append_nil (P := X.P) w t ty et i z hT hi1 hi2 a ys.length cap ys.flatten (by rw [hi3]; exact hfl) hnews (by omega) (by omega) h48
          rw [hr2] at hr
          cases hr
          exact .inr rfl
      · by_cases hroom : xs.length + ys.length ≤ cp
        · have hr2 := run_append_room (P := X.P) w t ty et i hT hi1 gb xs.length cp cur hgb a ys.length cap ys.flatten (by rw [hi3]; exact hfl) hnews hone hroom (by rw [hi3, hfl, hsz, ← Nat.add_mul]; exact Nat.mul_le_mul_right _ hroom)
          rw [hr2] at hr
          cases hr
          exact .inl rfl
        · have holds : ∀ j u, xs.flatten[j]? = some u → w.cell? ((⟨gb, 0, none⟩ : Addr).add j) = some u := hv.1.cells (g := gb) rfl
          have hr2 := run_append_grow (P := X.P) w t ty et i z hT hi1 hi2 ⟨gb, 0, none⟩ xs.length cp xs.flatten (by rw [hi3]; exact hv.1.1) holds a ys.length cap ys.flatten (by rw [hi3]; exact hfl) hnews (by omega) (by omega) (growslice_fits (by omega) (by rw [hi4]; exact hb))
          rw [hr2] at hr
          cases hr
          exact .inr rfl
    have hown : Owns w' B v' et k (xs ++ ys) := by
      refine ⟨?_, ?_, by simpa using hl⟩
      · rw [List.length_append, List.flatten_append]; exact h2
      · intro x hx
        rcases List.mem_append.1 hx with hx | hx
        · exact hv.2.1 x hx
        · exact hyl x hx
    refine Step.eff (v := v') (w' := w') rfl (by simpa [Nat.blt_eq] using hn) hg (fun _ hh => by cases hh) (fun t' hf => run_builtin2 (hx.val hf rfl) (hy.val hf rfl) fun cs => ?_)
      (h v' w' hown ⟨fun w0 hb0 => hb0.grown h3 hB (fun k hk => by
        rcases hv.1.2 with ⟨rfl, _⟩ | ⟨g, cap, cur, rfl, hBg, _⟩
        · simp [Value.ownBlock] at hk
        · simp [Value.ownBlock] at hk; omega), h3.size, h3.block⟩ hwhere)
    simp only [builtin, Sem.run_bind, hr, Result.andThen_ok, Sem.run_pure]
theorem sApp2 (T : Tb X.P) {x y : Operand} {t et : TypeId} {v u z : Value} {q bytes B : Nat} {xs ys : List (List Value)} (hv : Owns w B v et q xs) (hu : Sli w u q ys)
    (h : ∀ v' w', Owns w' B v' et q (xs ++ ys) → Grew B v w w' → Own2 w v v' → GL X ops l kk ((d, none, v') :: e) w')
    (h1 : ∀ y ∈ ys, ∀ c ∈ y, c.oneCell' = true := by intro y hy c hc; simp only [List.mem_cons, List.not_mem_nil, or_false] at hy; subst hy; simp only [List.mem_cons, List.not_mem_nil, or_false] at hc; rcases hc with rfl <;> rfl)
    (hg : guardE ops e ⟨some d, .call { callee := .builtin .append, args := #[x, y], argTypes := #[t, t] }, ty, pos, af, g⟩ = some none := by exact rfl)
    (hx : Op1 e none x v := by exact Op1.of rfl (fun _ => rfl)) (hy : Op1 e none y u := by exact Op1.of rfl (fun _ => rfl)) (ht : T.ty t = some (.slice et) := by exact rfl) (hi : T.inf et = some (z, q, bytes) := by exact rfl) (hk : Nat.blt 0 q = true := by exact rfl) (hz : z.cells.size = q := by exact rfl) (hn : Nat.blt d X.n = true := by exact rfl)
    (hb : (xs.length + ys.length) * bytes ≤ 140737488355328 := by simp only [List.length_map, List.length_append, List.length_cons, List.length_nil, List.length_take, List.length_drop]; omega)
    (hl : xs.length + ys.length ≤ 140737488355328 := by simp only [List.length_map, List.length_append, List.length_cons, List.length_nil, List.length_take, List.length_drop]; omega)
    (hB : B ≤ w.heap.size := by omega) :
    GL X ops (⟨some d, .call { callee := .builtin .append, args := #[x, y], argTypes := #[t, t] }, ty, pos, af, g⟩ :: l) kk e w := GL.cons (Step.append2 T hg hx hy ht hi hk hz hv hu h1 hb hl hB hn h)
end

end Go.Vg
end
section
namespace Go.Vg
open Go.RowKit
section
variable {X : Cx} {ops : Array Oper} {l : List Oper} {k : List Kt} {e : Env} {w : World} {N : Env → World → Prop} {d : Nat} {c : Option Bool} {ty : TypeId} {pos : String} {af : Array Edge} {g : Option (Nat × Bool)}
/-- a call whose arguments may have been made under conditions -/
theorem Step.callO {f : FuncId} {args : Array Operand} {ats : Array TypeId} {lo : List Operand} {vs : List Value} {R : Value → World → Prop}
    (hg : guardE ops e ⟨some d, .call { callee := .value (.func f), args := args, argTypes := ats }, ty, pos, af, g⟩ = some none)
    (ha : args = ⟨lo⟩) (hvs : OpL e none lo vs) (hf : Callable X.P f)
    (hn : Nat.blt d X.n = true) (hc : Ret X.P f ⟨vs⟩ w R)
    (h : ∀ v w', R v w' → N ((d, none, v) :: e) w') : Step X ops ⟨some d, .call { callee := .value (.func f), args := args, argTypes := ats }, ty, pos, af, g⟩ e w N :=
  Step.call rfl (by simpa [Nat.blt_eq] using hn) hg (fun _ hh => by cases hh) (fun t hft => by
    have := hvs.map (ds := X.ds) hft rfl
    subst ha
    have h2 : (Array.mk lo).map (Act.mk t X.ds).eval = ⟨vs⟩ := by simp [this]
    simp only [execOp, resolve, h2, Act.eval, Deferred.ofValue, Sem.run_bind, Sem.run_pure, Result.andThen_ok, invoke, Array.empty_append, Array.append_empty, run_callFunc hf]) hc h
end
end Go.Vg
end
section
namespace Go.Vg
open Go.RowKit

/-- one element more of the room behind a row -/
theorem Owns.up {w : World} {B g cap : Nat} {et k : Nat} {xs : List (List Value)} (h : Owns w B (.slice (some ⟨g, 0, none⟩) xs.length cap) et k xs) (hc : xs.length < cap) (hb : xs.length + 1 ≤ 140737488355328) :
    ∃ y, Owns w B (.slice (some ⟨g, 0, none⟩) (xs.length + 1) cap) et k (xs ++ [y]) := by
  obtain ⟨⟨hl, hr⟩, hk, _⟩ := h
  rcases hr with ⟨hv, _⟩ | ⟨g', cap', cur, hv, hB, hg, hc', hm, hs, ht⟩
  · cases hv
  · cases hv
    have hle : (xs.length + 1) * k ≤ cap * k := Nat.mul_le_mul_right _ hc
    rw [Nat.add_mul, Nat.one_mul] at hle
    have hsz : cur.toList.length = cap * k := by rw [Array.length_toList]; exact hs
    have hy : ((cur.toList.drop (xs.length * k)).take k).length = k := by rw [List.length_take, List.length_drop]; omega
    refine ⟨(cur.toList.drop (xs.length * k)).take k, ⟨?_, .inr ⟨g, cap, cur, by simp, hB, hg, by simp; omega, hm, hs, ?_⟩⟩, ?_, by simp; omega⟩
    · simp only [List.flatten_append, List.length_append, hl, List.flatten_cons, List.flatten_nil, List.append_nil, hy, List.length_cons, List.length_nil, Nat.add_mul, Nat.zero_add, Nat.one_mul]
    · simp only [List.flatten_append, List.length_append, List.flatten_cons, List.flatten_nil, List.append_nil, List.length_cons, List.length_nil, Nat.add_mul, Nat.zero_add, Nat.one_mul]
      rw [← ht, List.take_add]
    · intro x hx
      rcases List.mem_append.1 hx with hx | hx
      · exact hk x hx
      · simp only [List.mem_cons, List.not_mem_nil, or_false] at hx
        subst hx; exact hy

theorem cellsOf {w : World} {a : Addr} {k : Nat} {ys : List (List Value)} {n cap : Nat} (hs : Sli w (.slice (some a) n cap) k ys) (hk : 0 < k) : ∀ j u, ys.flatten[j]? = some u → w.cell? (a.add j) = some u := by
  rcases hs with ⟨h, _⟩ | ⟨a', cap', hv, hsp, hc, hyl, hcell, hyb⟩
  · cases h
  · cases hv
    intro j u hj
    have hj' : j < ys.length * k := by rw [← flatten_length ys hyl]; exact (List.getElem?_eq_some_iff.1 hj).1
    have hq : j / k < ys.length := Nat.div_lt_of_lt_mul (by rw [Nat.mul_comm]; exact hj')
    have hyq : ys[j / k]? = some ys[j / k] := List.getElem?_eq_getElem hq
    have hlen : (ys[j / k]).length = k := hyl _ (List.getElem_mem hq)
    have hr' : j % k < (ys[j / k]).length := by rw [hlen]; exact Nat.mod_lt _ hk
    have hu2 := List.getElem?_eq_getElem hr'
    have e1 : j / k * k + j % k = j := by rw [Nat.mul_comm]; exact Nat.div_add_mod j k
    have h5 := flatten_get ys hyl _ _ hyq _ _ hu2
    rw [e1, hj] at h5
    cases h5
    have := hcell _ _ hyq _ _ hu2
    rwa [e1] at this

section
variable {X : Cx} {ops : Array Oper} {l : List Oper} {kk : List Kt} {e : Env} {w : World} {N : Env → World → Prop} {d : Nat} {c : Option Bool} {ty : TypeId} {pos : String} {af : Array Edge} {g : Option (Nat × Bool)}

end

section
variable {X : Cx} {ops : Array Oper} {e : Env} {w : World} {S : World → Prop} {N : Env → World → Prop} {lb : List (Oper × Bool)} {d : Nat} {c : Option Bool} {ty : TypeId} {pos : String} {af : Array Edge} {g : Option (Nat × Bool)}
end
end Go.Vg
end
section
namespace Go.Vg
open Go.RowKit
section
variable {X : Cx} {ops : Array Oper} {l : List Oper} {kk : List Kt} {e : Env} {w : World} {N : Env → World → Prop} {d : Nat} {c : Option Bool} {ty : TypeId} {pos : String} {af : Array Edge} {g : Option (Nat × Bool)}
theorem Step.strBytes (T : Tb X.P) {x : Operand} {src dst et : TypeId} {s : List UInt8} (hg : guardE ops e ⟨some d, .convert src dst x, ty, pos, af, g⟩ = some none)
    (hx : Op1 e none x (S s)) (hs : T.ty src = some .string) (ht : T.ty dst = some (.slice et)) (he : T.ty et = some (.int .u8)) (hl : s.length ≤ 9223372036854775807) (hn : Nat.blt d X.n = true)
    (h : ∀ v w', By w' v s → w'.heap.size = w.heap.size + 1 → Ext w w' → N ((d, none, v) :: e) w') : Step X ops ⟨some d, .convert src dst x, ty, pos, af, g⟩ e w N := by
  have hr := run_bytes_of_string w src dst et ⟨⟨s⟩⟩ (T.ok _ _ hs) (T.ok _ _ ht) (T.ok _ _ he)
  obtain ⟨G, hG⟩ : ∃ G, G = grownCap w (⟨⟨s⟩⟩ : ByteArray).size 0 et := ⟨_, rfl⟩
  have hge := grownCap_ge w (⟨⟨s⟩⟩ : ByteArray).size 0 et
  rw [← hG] at hr hge
  have hsz : (⟨⟨s⟩⟩ : ByteArray).size = s.length := rfl
  rw [hsz] at hr hge
  refine Step.eff rfl (by simpa [Nat.blt_eq] using hn) hg (fun _ hh => by cases hh) (fun t' hf => ?_) (h (.slice (some ⟨w.heap.size, 0, none⟩) s.length G) (w.drew.alloc (.cells (bytesRow ⟨⟨s⟩⟩ G) et ((bytesRow ⟨⟨s⟩⟩ G).size, (bytesRow ⟨⟨s⟩⟩ G).size + 1))) ?_ (by simp) ((Ext.drew w).trans (Ext.alloc _ _)))
  · have hv := hx.val (ds := X.ds) hf rfl
    simp only [execOp, hv]
    have : S s = .string ⟨⟨s⟩⟩ := rfl
    rw [this]
    simp only [Sem.run_bind, hr, Result.andThen_ok, Sem.run_pure]
  · refine .inr ⟨⟨w.heap.size, 0, none⟩, G, by rw [bysC_len], rfl, by rw [bysC_len]; exact hge, bysC_k s, ?_, by rw [bysC_len]; exact hl⟩
    intro i x hx j u hu
    have hi : i < s.length := by
      have := (List.getElem?_eq_some_iff.1 hx).1
      rwa [bysC_len] at this
    rw [bysC_get hi] at hx
    cases hx
    have hj : j = 0 := by
      have := (List.getElem?_eq_some_iff.1 hu).1
      simp at this; exact this
    subst hj
    cases hu
    simp only [Addr.add_lit, Nat.zero_add, Nat.mul_one, Nat.add_zero]
    refine (cell_of_row _ w.heap.size i (bytesRow ⟨⟨s⟩⟩ G) et _ (heap_alloc_new w.drew _)).trans ?_
    unfold bytesRow
    have hm : ((⟨⟨s⟩⟩ : ByteArray).data.map (fun b => Value.int .u8 b.toNat)).size = s.length := by simp
    rw [Array.getElem?_append_left (by rw [hm]; exact hi)]
    simp [List.getD, hi, U]
end
end Go.Vg
end
section
namespace Go.Vg
open Go.RowKit

abbrev TT := List (List UInt8 × List UInt8)
def aget : TT → List UInt8 → Option (List UInt8)
  | [], _ => none
  | p :: r, x => if p.1 = x then some p.2 else aget r x
def aput : TT → List UInt8 → List UInt8 → TT
  | [], x, y => [(x, y)]
  | p :: r, x, y => if p.1 = x then (x, y) :: r else p :: aput r x y
def mpC (es : TT) : List (Value × Value) := es.map fun p => (S p.1, S p.2)
/-- block b is a map of texts by texts -/
def Mp (w : World) (b : Nat) (es : TT) : Prop := ∃ ms clock, w.heap[b]? = some (.map ⟨ms⟩ clock) ∧ ms.map (fun e => (e.key, e.val)) = mpC es
theorem Mp.lt {w : World} {b : Nat} {es : TT} (h : Mp w b es) : b < w.heap.size := by
  obtain ⟨ms, clock, h, _⟩ := h; exact (Array.getElem?_eq_some_iff.1 h).1
theorem Mp.to {w w' : World} {b : Nat} {es : TT} (h : Mp w b es) (hx : Ext w w') : Mp w' b es := by
  obtain ⟨ms, clock, h, h2⟩ := h
  exact ⟨ms, clock, by rw [hx.block b (Array.getElem?_eq_some_iff.1 h).1]; exact h, h2⟩
theorem Mp.wr {w w' : World} {b b' : Nat} {es : TT} (h : Mp w b es) (hw : Wr b' w w') (hne : b ≠ b') : Mp w' b es := by
  obtain ⟨ms, clock, h, h2⟩ := h
  exact ⟨ms, clock, by rw [hw.block b hne]; exact h, h2⟩

theorem isKeyS (x : List UInt8) : MapKept.IsKey .string (S x) := by simp [MapKept.IsKey, S]
theorem sameNow_S (a b : List UInt8) : Instr.sameNow .string (S a) (S b) = some (decide (a = b)) := by
  show some ((⟨⟨a⟩⟩ : ByteArray) == ⟨⟨b⟩⟩) = _
  congr 1
  by_cases h : a = b
  · subst h; rw [decide_eq_true rfl]; exact (MapKept.bytes_beq _ _).2 rfl
  · rw [decide_eq_false h]
    cases hb : ((⟨⟨a⟩⟩ : ByteArray) == ⟨⟨b⟩⟩) with
    | false => rfl
    | true =>
      have := (MapKept.bytes_beq _ _).1 hb
      simp only [ByteArray.mk.injEq, Array.mk.injEq] at this
      exact absurd this h
theorem findNow_S (x : List UInt8) : ∀ (ms : List MapEntry) (es : TT) (i : Nat), ms.map (fun e => (e.key, e.val)) = mpC es →
    (Instr.findNow .string (S x) ms i = some none ∧ aget es x = none ∧ (∀ y, aput es x y = es ++ [(x, y)])) ∨
    ∃ j e v, Instr.findNow .string (S x) ms i = some (some (i + j, S v)) ∧ aget es x = some v ∧ ms[j]? = some e ∧ e.key = S x ∧ ∀ y, aput es x y = es.set j (x, y)
  | [], [], i, _ => .inl ⟨rfl, rfl, fun _ => rfl⟩
  | [], _ :: _, _, h => by cases h
  | _ :: _, [], _, h => by cases h
  | e :: ms, p :: es, i, h => by
    simp only [mpC, List.map_cons, List.cons.injEq, Prod.mk.injEq] at h
    obtain ⟨⟨hk, hv⟩, hr⟩ := h
    by_cases hx : p.1 = x
    · refine .inr ⟨0, e, p.2, ?_, by simp [aget, hx], rfl, by rw [hk, hx], fun y => by simp [aput, hx]⟩
      simp only [Instr.findNow, hk, sameNow_S, decide_eq_true hx.symm, hv, Nat.add_zero]
    · have hx' : ¬ x = p.1 := fun q => hx q.symm
      have hf : Instr.findNow .string (S x) (e :: ms) i = Instr.findNow .string (S x) ms (i + 1) := by
        simp only [Instr.findNow, hk, sameNow_S, decide_eq_false hx']
      rcases findNow_S x ms es (i + 1) hr with ⟨h1, h2, h3⟩ | ⟨j, e', v, h1, h2, h3, h4, h5⟩
      · exact .inl ⟨by rw [hf, h1], by simp [aget, hx, h2], fun y => by simp [aput, hx, h3]⟩
      · exact .inr ⟨j + 1, e', v, by rw [hf, h1, show i + 1 + j = i + (j + 1) by omega], by simp [aget, hx, h2], by simpa using h3, h4, fun y => by simp [aput, hx, h5]⟩

section
variable {X : Cx} {ops : Array Oper} {e : Env} {w : World} {N : Env → World → Prop} {d : Nat} {c : Option Bool} {ty : TypeId} {pos : String} {af : Array Edge} {g : Option (Nat × Bool)}
theorem Step.makeMap {t : TypeId} (hg : guardE ops e ⟨some d, .makeMap t none, ty, pos, af, g⟩ = some none) (hn : Nat.blt d X.n = true)
    (h : ∀ w', Mp w' w.heap.size [] → w'.heap.size = w.heap.size + 1 → Ext w w' → N ((d, none, .map (some w.heap.size)) :: e) w') : Step X ops ⟨some d, .makeMap t none, ty, pos, af, g⟩ e w N :=
  Step.eff (v := .map (some w.heap.size)) (w' := w.alloc (.map #[] 0)) rfl (by simpa [Nat.blt_eq] using hn) hg (fun _ hh => by cases hh) (fun t' _ => rfl)
    (h _ ⟨[], 0, heap_alloc_new _ _, rfl⟩ (by simp) (Ext.alloc _ _))

theorem Step.mapUpdate (T : Tb X.P) {x i y : Operand} {t kt et : TypeId} {b : Nat} {k v : List UInt8} {es : TT}
    (hg : guardE ops e ⟨none, .mapUpdate t x i y, ty, pos, af, g⟩ = some none) (hx : Op1 e none x (.map (some b))) (hi : Op1 e none i (S k)) (hy : Op1 e none y (S v)) (ht : T.ty t = some (.map kt et)) (hk : T.ty kt = some .string)
    (hm : Mp w b es) (h : ∀ w', Mp w' b (aput es k v) → Wr b w w' → N e w') : Step X ops ⟨none, .mapUpdate t x i y, ty, pos, af, g⟩ e w N := by
  obtain ⟨ms, clock, hb, he⟩ := hm
  have hck := MapKept.run_checkKey (P := X.P) (w := w) (T.ok _ _ hk) (isKeyS k) false 9999
  have hwr : ∀ o, Wr b w { w with heap := w.heap.setIfInBounds b o } := fun o => ⟨rfl, rfl, rfl, by simp, fun r' hne => (MapKept.heap_set hb).2 r' hne⟩
  rcases findNow_S k ms es 0 he with ⟨h1, h2, h3⟩ | ⟨j, e0, v0, h1, h2, h3, h4, h5⟩
  · have hf1 := MapKept.run_findKey (P := X.P) (w := w) (T.ok _ _ hk) h1
    refine Step.effNone (w' := { w with heap := w.heap.setIfInBounds b (.map ((⟨ms⟩ : Array MapEntry).push { key := S k, val := S v, born := clock }) (clock + 1)) }) rfl hg (fun _ hh => by cases hh) (fun t' hf => ?_) (h _ ⟨ms ++ [{ key := S k, val := S v, born := clock }], clock + 1, ?_, ?_⟩ (hwr _))
    · simp only [execOp, hx.val hf rfl, hi.val hf rfl, hy.val hf rfl, Instr.mapUpdate, Sem.run_bind, run_underlying (T.ok _ _ ht), Result.andThen_ok, MapKept.run_getObj_map hb, hck, hf1, MapKept.run_setObj_map _ hb, Sem.run_pure]
    · have := (MapKept.heap_set (o' := .map ((⟨ms⟩ : Array MapEntry).push { key := S k, val := S v, born := clock }) (clock + 1)) hb).1
      simpa using this
    · rw [h3, List.map_append, he]; simp [mpC]
  · have hf1 := MapKept.run_findKey (P := X.P) (w := w) (T.ok _ _ hk) h1
    have hst := MapKept.run_keyThatStays (P := X.P) (w := w) (isKeyS k)
    have hj : ((⟨ms⟩ : Array MapEntry)[j]?) = some e0 := by simpa using h3
    refine Step.effNone (w' := { w with heap := w.heap.setIfInBounds b (.map ((⟨ms⟩ : Array MapEntry).modify j fun e => { e with key := S k, val := S v }) clock) }) rfl hg (fun _ hh => by cases hh) (fun t' hf => ?_) (h _ ⟨((⟨ms⟩ : Array MapEntry).modify j fun e => { e with key := S k, val := S v }).toList, clock, ?_, ?_⟩ (hwr _))
    · simp only [execOp, hx.val hf rfl, hi.val hf rfl, hy.val hf rfl, Instr.mapUpdate, Sem.run_bind, run_underlying (T.ok _ _ ht), Result.andThen_ok, MapKept.run_getObj_map hb, hck, hf1, Nat.zero_add, hj, Option.map_some, Option.getD_some, h4, hst, MapKept.run_setObj_map _ hb, Sem.run_pure]
    · exact (MapKept.heap_set hb).1
    · rw [h5]
      apply List.ext_getElem?
      intro i
      have hi := congrArg (fun l => l[i]?) he
      simp only [List.getElem?_map, mpC] at hi
      simp only [List.getElem?_map, Array.getElem?_toList, Array.getElem?_modify, mpC, List.getElem?_set]
      have hlen : ms.length = es.length := by have := congrArg List.length he; simpa [mpC] using this
      have hjl : j < es.length := by rw [← hlen]; exact (List.getElem?_eq_some_iff.1 h3).1
      by_cases hij : j = i
      · subst hij
        rw [if_pos rfl, if_pos rfl, if_pos hjl]
        rw [show ((⟨ms⟩ : Array MapEntry)[j]?) = some e0 from hj]
        rfl
      · rw [if_neg hij, if_neg hij]
        simpa using hi
end
section
variable {X : Cx} {ops : Array Oper} {l : List Oper} {k : List Kt} {e : Env} {w : World} {d : Nat} {c : Option Bool} {ty : TypeId} {pos : String} {af : Array Edge} {g : Option (Nat × Bool)}
end
theorem post_goto {ρ : Option Nat} {P : Program} {fin : Exit → Act → World → Prop} {l : Nat} {a : Act} {w : World} : ∀ {k : List Kt}, post ρ P fin k (.goto l) a w → fin (.goto l) a w
  | [], h => h
  | .code _ :: k, h => post_goto (k := k) h
  | .lp _ :: k, h => post_goto (k := k) h
  | .blk _ :: k, h => post_goto (k := k) h
/-- a stretch with labels that nobody jumps to -/
theorem G.scope {X : Cx} {k : List Kt} {e : Env} {w : World} {c : Code} {P : Program} {fn : Func} {R : Value → World → Prop} (hX : X.fin = retFin P fn R) (hr : X.ρ = none) (h : G X (.code c :: k) e w) : G X (.code (.scope c) :: k) e w := by
  intro t ht
  have h1 := h t ht
  simp only [post] at h1 ⊢
  rw [hr] at h1 ⊢
  refine (wpIn_wide (n := 0)).2 (wp_scope_straight ((wpIn_wide (n := 0)).1 (wpIn_mono h1 ?_)))
  intro ex a w' hq
  cases ex with
  | goto l =>
    have := post_goto hq
    rw [hX] at this
    exact this.elim
  | _ => exact hq
theorem G.ret3 {X : Cx} {k : List Kt} {e : Env} {w : World} {P : Program} {fn : Func} {R : Value → World → Prop} (hX : X.fin = retFin P fn R) (hd : X.ds = []) {s s' s'' : Nat} {v v' v'' : Value}
    (hr : fn.results = #[.tmp s, .tmp s', .tmp s'']) (hv : look e s = some (none, v)) (hv' : look e s' = some (none, v')) (hv'' : look e s'' = some (none, v'')) (h : R (.tuple ⟨[v, v', v'']⟩) w) : G X (.code .ret :: k) e w := by
  refine G.ret fun t ht => ?_
  rw [hX, hd]
  refine ⟨rfl, _, ?_, _, rfl, h⟩
  rw [results_tmp3 hr, (ht.get _ _ _ hv).2, (ht.get _ _ _ hv').2, (ht.get _ _ _ hv'').2]
  rfl
/-- a result in a box, and one beside it -/
theorem G.retAT {X : Cx} {k : List Kt} {e : Env} {w : World} {P : Program} {fn : Func} {R : Value → World → Prop} (T : Tb P) (hX : X.fin = retFin P fn R) (hd : X.ds = []) {s ty sz b s' : Nat} {z p v : Value} {us : List Value} {td : TypeDesc}
    (hc : CellsAt w p us) (h : R (.tuple ⟨[.agg ⟨us⟩, v]⟩) w) (hr : fn.results = #[.cell s ty, .tmp s']) (hv : look e s = some (none, p)) (hv' : look e s' = some (none, v)) (ht : T.ty ty = some td) (ha : aggT td = true) (hi : T.inf ty = some (z, sz, b)) (hl : us.length = sz) : G X (.code .ret :: k) e w := by
  refine G.ret fun t hf => ?_
  rw [hX, hd]
  refine ⟨rfl, _, ?_, _, rfl, h⟩
  obtain ⟨a, rfl, _, hc⟩ := hc
  subst hl
  have h1 : t.getD s undef = .pointer (some a) := (hf.get _ _ _ hv).2
  have h1' : t.getD s' undef = v := (hf.get _ _ _ hv').2
  have h0 := run_loadCells_list (P := P) w a us hc
  have h2 : (loadVar ty a).run P w = .ok (.agg ⟨us⟩) w := by
    simp only [loadVar, Sem.run_bind, Sem.run_pure, Result.andThen_ok, run_isAgg (T.ok _ _ ht), ha, if_true, run_sizeOf hi, h0]
  simp only [results, hr, List.mapM_toArray, List.mapM_cons, List.mapM_nil, h1, h1', asAddr, Sem.run_bind, Sem.run_map, Sem.run_pure, Result.andThen_ok, h2]
  rfl
end Go.Vg
end
section
namespace Go.Vg
open Go.RowKit

/-- as Below, but that some block from B on may bear a mark -/
theorem Sli.same {w w' : World} {v : Value} {k : Nat} {xs : List (List Value)} (h : Sli w v k xs) (hc : ∀ a, w'.cell? a = w.cell? a) : Sli w' v k xs := by
  rcases h with h | ⟨a, cap, h1, h2, h3, h4, h5, h6⟩
  · exact .inl h
  · exact .inr ⟨a, cap, h1, h2, h3, h4, fun i x hx j u hu => by rw [hc]; exact h5 i x hx j u hu, h6⟩
section
variable {X : Cx} {ops : Array Oper} {l : List Oper} {k : List Kt} {e : Env} {w : World} {N : Env → World → Prop} {d : Nat} {c : Option Bool} {ty : TypeId} {pos : String} {af : Array Edge} {g : Option (Nat × Bool)}
theorem Step.markS (T : Tb X.P) {x : Operand} {t et : TypeId} {v : Value} {B : Nat} {xs : List UInt8} (hg : guardE ops e ⟨some d, .convert t t x, ty, pos, af, g⟩ = some none) (hx : Op1 e none x v) (ht : T.ty t = some (.slice et)) (he : T.ty et = some (.int .u8))
    (hv : Owns w B v et 1 (bysC xs)) (hne : xs ≠ []) (hn : Nat.blt d X.n = true) (h : ∀ w', By w' v xs → Below B w w' → N ((d, none, v) :: e) w') : Step X ops ⟨some d, .convert t t x, ty, pos, af, g⟩ e w N := by
  have hs := hv.sli
  rcases hv.1.2 with ⟨rfl, h0⟩ | ⟨gb, cap, cur, rfl, hB, hb, _, _, _, _⟩
  · rw [bysC_len] at h0
    exact absurd (List.length_eq_zero_iff.1 h0) hne
  · have hsh : w.shape? gb = some (et, cur.size) := by unfold World.shape?; rw [hb]
    obtain ⟨W, hW⟩ : ∃ W, W = w.freeze ⟨gb, cur.size, none⟩ 1 := ⟨_, rfl⟩
    have hblk : ∀ r, r ≠ gb → W.heap[r]? = w.heap[r]? := by
      intro r hr
      rw [hW]; unfold World.freeze; rw [if_neg (by decide)]
      show (w.heap.modify gb _)[r]? = _
      rw [Array.getElem?_modify, if_neg (fun q => hr q.symm)]
    have hsame : W.heap[gb]? = some (.cells cur et (cur.size, cur.size + 1)) := by
      rw [hW]; unfold World.freeze; rw [if_neg (by decide)]
      show (w.heap.modify gb _)[gb]? = _
      rw [Array.getElem?_modify, if_pos rfl, hb]; rfl
    have hsize : W.heap.size = w.heap.size := by
      rw [hW]; unfold World.freeze; rw [if_neg (by decide)]
      show (w.heap.modify gb _).size = _
      simp
    have hcell : ∀ a, W.cell? a = w.cell? a := by
      intro a
      unfold World.cell?
      by_cases ha : a.block = gb
      · rw [ha, hsame, hb]
      · rw [hblk _ ha]
    refine Step.eff (v := .slice (some ⟨gb, 0, none⟩) (bysC xs).length cap) (w' := W) rfl (by simpa [Nat.blt_eq] using hn) hg (fun _ hh => by cases hh) (fun t' hf => ?_) (h W (hs.same hcell) ?_)
    · have hr : (convert t t (.slice (some ⟨gb, 0, none⟩) (bysC xs).length cap)).run X.P w = .ok (.slice (some ⟨gb, 0, none⟩) (bysC xs).length cap) W := by
        rw [hW]
        simp [convert, run_underlying (T.ok _ _ ht), run_underlying (T.ok _ _ he), markStringish, hsh]
      simp only [execOp, hx.val hf rfl, Sem.run_bind, hr, Result.andThen_ok, Sem.run_pure]
    · have e1 : W.os = w.os ∧ W.tape = w.tape ∧ W.output = w.output := by
        rw [hW]; unfold World.freeze; rw [if_neg (by decide)]; exact ⟨rfl, rfl, rfl⟩
      exact ⟨e1.1, e1.2.1, e1.2.2, by rw [hsize]; exact Nat.le_refl _, fun r hr => hblk r (by omega)⟩
end
end Go.Vg
end
section
namespace Go.Vg
open Go.RowKit

theorem run_storeCells_f (P : Program) (t m : Nat) : ∀ (vs : List Value) (b o i : Nat) (us : List Value) (w : World), w.heap[b]? = some (.cells ⟨us⟩ t (m, m + 1)) → us.length = m → o + i + vs.length ≤ us.length → (∀ v ∈ vs, v.oneCell' = true) →
    ∃ w', (storeCells ⟨b, o, none⟩ vs i).run P w = .ok () w' ∧ Wr b w w' ∧ w'.heap[b]? = some (.cells ⟨us.take (o + i) ++ vs ++ us.drop (o + i + vs.length)⟩ t (m, m + 1))
  | [], b, o, i, us, w, h, _, _, _ => ⟨w, by simp [storeCells], Wr.refl b w, by simpa using h⟩
  | v :: r, b, o, i, us, w, hb, hm, hl, h1 => by
    simp only [List.length_cons] at hl
    have hc : (w.cell? ⟨b, o + i, none⟩).isSome = true := by
      rw [Joins.cell_of_block hb (o + i)]; simp; omega
    obtain ⟨u0, hu0⟩ := Option.isSome_iff_exists.1 hc
    have hf : w.frozen? ⟨b, o + i, none⟩ = false := by
      unfold World.frozen?
      simp only [hb]
      rw [show decide (m ≤ o + i) = false from decide_eq_false (by omega)]; rfl
    have hst := run_store P w ⟨b, o + i, none⟩ v .plain (h1 v (by simp))
    rw [hu0] at hst
    simp only [hf, Bool.false_eq_true, if_false] at hst
    have hb2 : (w.setCell ⟨b, o + i, none⟩ v).heap[b]? = some (.cells ⟨us.set (o + i) v⟩ t (m, m + 1)) := by
      have := Joins.block_setCell (i := o + i) hb v
      simpa using this
    obtain ⟨w', hr, hw, hx⟩ := run_storeCells_f P t m r b o (i + 1) _ _ hb2 (by simpa using hm) (by simp; omega) (fun u hu => h1 u (by simp [hu]))
    refine ⟨w', ?_, (Wr.setCell w b (o + i) v).trans hw, ?_⟩
    · simp only [storeCells, Sem.run_bind, Addr.add_lit, hst, Result.andThen_ok, hr]
    · have e : (us.set (o + i) v).take (o + (i + 1)) ++ r ++ (us.set (o + i) v).drop (o + (i + 1) + r.length) = us.take (o + i) ++ (v :: r) ++ us.drop (o + i + (v :: r).length) := by
        have h3 : o + i < us.length := by omega
        rw [show o + (i + 1) = (o + i) + 1 by omega, List.take_set, List.drop_set_of_lt (by omega)]
        rw [List.take_succ_eq_append_getElem (by simpa using h3)]
        rw [List.set_append_right _ _ (by simp; omega)]
        simp [show min (o + i) us.length = o + i by omega]
        congr 1; omega
      rw [← e]; exact hx

/-- a row whose first cells are bytes -/
theorem by_of {w : World} {b : Nat} {cs : List Value} {t cap : Nat} {fr : Nat × Nat} {l : List UInt8} (hb : w.heap[b]? = some (.cells ⟨cs⟩ t fr)) (h : cs.take l.length = l.map U) (hc : l.length ≤ cap) (hl : l.length ≤ 9223372036854775807) : By w (.slice (some ⟨b, 0, none⟩) l.length cap) l := by
  refine .inr ⟨⟨b, 0, none⟩, cap, by rw [bysC_len], rfl, by rw [bysC_len]; exact hc, bysC_k l, ?_, by rw [bysC_len]; exact hl⟩
  intro i x hx j u hu
  have hi : i < l.length := by
    have := (List.getElem?_eq_some_iff.1 hx).1
    rwa [bysC_len] at this
  rw [bysC_get hi] at hx
  cases hx
  have hj : j = 0 := by
    have := (List.getElem?_eq_some_iff.1 hu).1
    simp at this; exact this
  subst hj
  cases hu
  simp only [Addr.add_lit, Nat.zero_add, Nat.mul_one, Nat.add_zero]
  rw [Joins.cell_of_block hb i]
  have h2 : (cs.take l.length)[i]? = (l.map U)[i]? := by rw [h]
  rw [List.getElem?_take_of_lt hi, List.getElem?_map] at h2
  simpa [List.getD, hi] using h2
section
variable {X : Cx} {ops : Array Oper} {l : List Oper} {kk : List Kt} {e : Env} {w : World} {N : Env → World → Prop} {d : Nat} {c : Option Bool} {ty : TypeId} {pos : String} {af : Array Edge} {g : Option (Nat × Bool)}
/-- bytes of a text, the row known whole -/
theorem Step.strBytes2 (T : Tb X.P) {x : Operand} {src dst et : TypeId} {s : List UInt8} (hg : guardE ops e ⟨some d, .convert src dst x, ty, pos, af, g⟩ = some none)
    (hx : Op1 e none x (S s)) (hs : T.ty src = some .string) (ht : T.ty dst = some (.slice et)) (he : T.ty et = some (.int .u8)) (hn : Nat.blt d X.n = true)
    (h : ∀ w' G cs, w'.heap[w.heap.size]? = some (.cells ⟨cs⟩ et (cs.length, cs.length + 1)) → cs.take s.length = s.map U → cs.length = G → s.length ≤ G → w'.heap.size = w.heap.size + 1 → Ext w w' →
      N ((d, none, .slice (some ⟨w.heap.size, 0, none⟩) s.length G) :: e) w') : Step X ops ⟨some d, .convert src dst x, ty, pos, af, g⟩ e w N := by
  have hr := run_bytes_of_string w src dst et ⟨⟨s⟩⟩ (T.ok _ _ hs) (T.ok _ _ ht) (T.ok _ _ he)
  obtain ⟨G, hG⟩ : ∃ G, G = grownCap w (⟨⟨s⟩⟩ : ByteArray).size 0 et := ⟨_, rfl⟩
  have hge := grownCap_ge w (⟨⟨s⟩⟩ : ByteArray).size 0 et
  rw [← hG] at hr hge
  have hsz : (⟨⟨s⟩⟩ : ByteArray).size = s.length := rfl
  rw [hsz] at hr hge
  obtain ⟨cs, hcs⟩ : ∃ cs, cs = (bytesRow ⟨⟨s⟩⟩ G).toList := ⟨_, rfl⟩
  have hrow : bytesRow ⟨⟨s⟩⟩ G = ⟨cs⟩ := by rw [hcs]
  have hcl : cs.length = G := by
    rw [hcs, Array.length_toList]; unfold bytesRow
    simp only [Array.size_append, Array.size_map, Array.size_replicate]
    show s.length + (G - s.length) = G
    omega
  have htk : cs.take s.length = s.map U := by
    rw [hcs]; unfold bytesRow
    rw [Array.toList_append, Array.toList_map]
    exact List.take_left' (by simp)
  rw [hrow] at hr
  have hsize : (Array.mk cs).size = cs.length := rfl
  rw [hsize] at hr
  refine Step.eff rfl (by simpa [Nat.blt_eq] using hn) hg (fun _ hh => by cases hh) (fun t' hf => ?_) (h (w.drew.alloc (.cells ⟨cs⟩ et (cs.length, cs.length + 1))) G cs (heap_alloc_new w.drew _) htk hcl hge (by simp) ((Ext.drew w).trans (Ext.alloc _ _)))
  have hv := hx.val (ds := X.ds) hf rfl
  simp only [execOp, hv]
  have : S s = .string ⟨⟨s⟩⟩ := rfl
  rw [this]
  simp only [Sem.run_bind, hr, Result.andThen_ok, Sem.run_pure]

end
end Go.Vg
end
section
namespace Go.Vg
section
variable {X : Cx} {ops : Array Oper} {e : Env} {w : World} {N : Env → World → Prop} {d : Nat} {c : Option Bool} {ty : TypeId} {pos : String} {af : Array Edge} {g : Option (Nat × Bool)}
theorem Step.indexSk (T : Tb X.P) {x i : Operand} {st : TypeId} {l : List UInt8} {m : Int} {q : IntKind} (k : Nat)
    (hg : guardE ops e ⟨some d, .index st x i, ty, pos, af, g⟩ = some c)
    (hx : Op1 e c x (S l)) (hi : Op1 e c i (.int q m)) (ht : T.ty st = some .string) (hk : cv c = true → m = k ∧ k < l.length) (hn : Nat.blt d X.n = true)
    (h : N ((d, c, U (l.getD k 0)) :: e) w) : Step X ops ⟨some d, .index st x i, ty, pos, af, g⟩ e w N :=
  Step.quiet rfl (by simpa [Nat.blt_eq] using hn) hg (fun _ hh => by cases hh) (fun t hf hc => by
    obtain ⟨rfl, hlt⟩ := hk hc
    have hr := run_index_string (P := X.P) w st ⟨⟨l⟩⟩ q (k : Int) (T.ok _ _ ht)
    have hv : Act.eval ⟨t, X.ds⟩ x = .string ⟨⟨l⟩⟩ := hx.val hf hc
    have hlt' : k < (ByteArray.mk ⟨l⟩).size := hlt
    rw [dif_pos ⟨by omega, by exact_mod_cast hlt'⟩] at hr
    simp only [execOp, hv, hi.val hf hc, Sem.run_bind, hr, Result.andThen_ok, Sem.run_pure]
    have : (ByteArray.mk ⟨l⟩)[(k : Int).toNat]'(by simpa using hlt') = l.getD k 0 := by
      show l[k] = _
      simp [List.getD, hlt]
    rw [this]; rfl) h

end
end Go.Vg
end
section
namespace Go.Vg
open Go.RowKit

/-- a row made of a text: what lies behind the text's bytes may hold more -/
def Frz (w : World) (B : Nat) (v : Value) (et : Nat) (s : List UInt8) : Prop :=
  ∃ b G cs, v = .slice (some ⟨b, 0, none⟩) s.length G ∧ B ≤ b ∧ w.heap[b]? = some (.cells ⟨cs⟩ et (cs.length, cs.length + 1)) ∧ cs.take s.length = s.map U ∧ cs.length = G ∧ s.length ≤ G
/-- bytes of one's own -/
def Bwy (w : World) (B : Nat) (v : Value) (et : Nat) (s : List UInt8) : Prop := Frz w B v et s ∨ Owns w B v et 1 (bysC s)
theorem Frz.sli {w : World} {B et : Nat} {v : Value} {s : List UInt8} (h : Frz w B v et s) (hl : s.length ≤ 9223372036854775807) : By w v s := by
  obtain ⟨b, G, cs, rfl, _, hb, htk, _, hsG⟩ := h
  exact by_of hb htk hsG hl
theorem Bwy.sli {w : World} {B et : Nat} {v : Value} {s : List UInt8} (h : Bwy w B v et s) (hl : s.length ≤ 9223372036854775807) : By w v s := by
  rcases h with h | h
  · exact h.sli hl
  · exact h.sli
theorem Frz.to {w w' : World} {B et : Nat} {v : Value} {s : List UInt8} (h : Frz w B v et s) (hx : Ext w w') : Frz w' B v et s := by
  obtain ⟨b, G, cs, hv, hB, hb, hr⟩ := h
  exact ⟨b, G, cs, hv, hB, by rw [hx.block b (Array.getElem?_eq_some_iff.1 hb).1]; exact hb, hr⟩
theorem Bwy.to {w w' : World} {B et : Nat} {v : Value} {s : List UInt8} (h : Bwy w B v et s) (hx : Ext w w') : Bwy w' B v et s := by
  rcases h with h | h
  · exact .inl (h.to hx)
  · exact .inr (Owns.to h hx)
theorem Frz.mono {w : World} {B B' et : Nat} {v : Value} {s : List UInt8} (h : Frz w B v et s) (hB : B' ≤ B) : Frz w B' v et s := by
  obtain ⟨b, G, cs, hv, hb, hr⟩ := h
  exact ⟨b, G, cs, hv, Nat.le_trans hB hb, hr⟩
section
variable {X : Cx} {ops : Array Oper} {l : List Oper} {kk : List Kt} {e : Env} {w : World} {N : Env → World → Prop} {d : Nat} {c : Option Bool} {ty : TypeId} {pos : String} {af : Array Edge} {g : Option (Nat × Bool)}
theorem Step.strBytesF (T : Tb X.P) {x : Operand} {src dst et : TypeId} {s : List UInt8} (hg : guardE ops e ⟨some d, .convert src dst x, ty, pos, af, g⟩ = some none)
    (hx : Op1 e none x (S s)) (hs : T.ty src = some .string) (ht : T.ty dst = some (.slice et)) (he : T.ty et = some (.int .u8)) (hn : Nat.blt d X.n = true)
    (h : ∀ v w', Frz w' w.heap.size v et s → Ext w w' → N ((d, none, v) :: e) w') : Step X ops ⟨some d, .convert src dst x, ty, pos, af, g⟩ e w N :=
  Step.strBytes2 T hg hx hs ht he hn fun w' G cs hb htk hcl hsG _ hxx => h _ w' ⟨_, G, cs, rfl, Nat.le_refl _, hb, htk, hcl, hsG⟩ hxx
/-- a byte written over -/
theorem Step.storeF (T : Tb X.P) {x y : Operand} {t : TypeId} {v z : Value} {by_ B et j : Nat} {s : List UInt8} {u : UInt8} (hg : guardE ops e ⟨none, .store t x y, ty, pos, af, g⟩ = some none)
    (hx : Op1 e none x (padd v (j * 1))) (hy : Op1 e none y (U u)) (hi : T.inf t = some (z, 1, by_)) (ho : Frz w B v et s) (hj : j < s.length)
    (h : ∀ w', Frz w' B v et (s.set j u) → Below B w w' → N e w') : Step X ops ⟨none, .store t x y, ty, pos, af, g⟩ e w N := by
  obtain ⟨b, G, cs, rfl, hB, hb, htk, hcl, hsG⟩ := ho
  obtain ⟨w', hrun, hw, hx'⟩ := run_storeCells_f X.P et cs.length [U u] b (j * 1) 0 cs w hb rfl (by simp; omega) (fun v hv => by simp only [List.mem_cons, List.not_mem_nil, or_false] at hv; subst hv; rfl)
  simp only [Nat.add_zero, Nat.mul_one, List.length_cons, List.length_nil, Nat.zero_add] at hx'
  have hset : cs.take j ++ [U u] ++ cs.drop (j + 1) = cs.set j (U u) := by
    rw [List.set_eq_take_append_cons_drop, if_pos (by omega)]; simp
  rw [hset] at hx'
  refine Step.effNone rfl hg (fun _ hh => by cases hh) (w' := w') (fun t' hf => ?_) (h w' ⟨b, G, cs.set j (U u), by rw [List.length_set], hB, by rw [List.length_set]; exact hx', ?_, by rw [List.length_set]; exact hcl, by rw [List.length_set]; exact hsG⟩ ((Below.refl B w).wr hw hB))
  · have hp : padd (Value.slice (some ⟨b, 0, none⟩) s.length G) (j * 1) = .pointer (some ⟨b, j * 1, none⟩) := by simp [padd, Addr.add_lit]
    have hv : (U u).cells = ⟨[U u]⟩ := rfl
    have hsz' : ¬ ((⟨[U u]⟩ : Array Value).size ≠ 1) := by simp
    simp only [execOp, hx.val hf rfl, hy.val hf rfl, hp, Instr.storeAt, Instr.sureAddr, storeVar, Sem.run_bind, Sem.run_pure, Result.andThen_ok, run_sizeOf hi, hv, if_neg hsz', hrun]
  · rw [List.length_set, List.take_set, htk, List.map_set]
end
end Go.Vg
end
section
namespace Go.Vg
open Go.RowKit

/-- a float of 64 bits -/
abbrev Fl (b : Nat) : Value := .float .f64 b
/-- how two floats stand to each other, tested -/
def fcmpB (op : BinOp) (x y : Nat) : Option Bool := match op with
  | .eql => some (FloatKind.f64.format.order x y == some .eq)
  | .neq => some (FloatKind.f64.format.order x y != some .eq)
  | .lss => some (FloatKind.f64.format.order x y == some .lt)
  | .leq => some (FloatKind.f64.format.order x y == some .lt || FloatKind.f64.format.order x y == some .eq)
  | .gtr => some (FloatKind.f64.format.order x y == some .gt)
  | .geq => some (FloatKind.f64.format.order x y == some .gt || FloatKind.f64.format.order x y == some .eq)
  | _ => none
section
variable {X : Cx} {ops : Array Oper} {l : List Oper} {k : List Kt} {e : Env} {w : World} {N : Env → World → Prop} {d : Nat} {c : Option Bool} {ty : TypeId} {pos : String} {af : Array Edge} {g : Option (Nat × Bool)}
theorem Step.fcmp {op : BinOp} {xt yt : TypeId} {x y : Operand} {a b : Nat} {r : Bool} (hg : guardE ops e ⟨some d, .binOp op xt x y yt, ty, pos, af, g⟩ = some c)
    (hx : Op1 e c x (Fl a)) (hy : Op1 e c y (Fl b)) (hr : fcmpB op a b = some r) (hn : Nat.blt d X.n = true)
    (h : N ((d, c, .bool r) :: e) w) : Step X ops ⟨some d, .binOp op xt x y yt, ty, pos, af, g⟩ e w N :=
  Step.quiet rfl (by simpa [Nat.blt_eq] using hn) hg (fun _ hh => by cases hh) (fun t hf hc => by
    simp only [execOp, hx.val hf hc, hy.val hf hc]
    unfold fcmpB at hr
    cases op <;> simp only at hr <;> first | (cases hr; done) | (cases hr; simp [go_sem]; done) | (cases hr; simp [go_sem]; rfl)) h
/-- a call that the model answers by itself -/
theorem Step.ext {f : FuncId} {args : Array Operand} {ats : Array TypeId} {lo : List Operand} {vs : List Value} {v : Value}
    (hg : guardE ops e ⟨some d, .call { callee := .value (.func f), args := args, argTypes := ats }, ty, pos, af, g⟩ = some c)
    (ha : args = ⟨lo⟩) (hvs : OpL e c lo vs) (hr : (callFunc f ⟨vs⟩).run X.P w = .ok (.value v) w) (hn : Nat.blt d X.n = true)
    (h : N ((d, c, v) :: e) w) : Step X ops ⟨some d, .call { callee := .value (.func f), args := args, argTypes := ats }, ty, pos, af, g⟩ e w N :=
  Step.quiet rfl (by simpa [Nat.blt_eq] using hn) hg (fun _ hh => by cases hh) (fun t hf hc => by
    have := hvs.map (ds := X.ds) hf hc
    subst ha
    have h2 : (Array.mk lo).map (Act.mk t X.ds).eval = ⟨vs⟩ := by simp [this]
    simp only [execOp, resolve, h2, Act.eval, Deferred.ofValue, Sem.run_bind, Sem.run_pure, Result.andThen_ok, invoke, Array.empty_append, Array.append_empty, hr]) h
/-- the bits of a float, and back -/
theorem run_fbits {P : Program} {f : FuncId} {fn : Func} (hf : P.funcs[f]? = some fn) (hname : (fn.name == "runtime.NumGoroutine") = false) (hb : fn.body.isNone = true) (hn : Extern.findNext fn = none) (he : Extern.find fn = some Extern.MathFloatBits.float64bits) (b : Nat) (w : World) :
    (callFunc f #[Fl b]).run P w = .ok (.value (.int .u64 b)) w := by
  rw [run_callFunc_extern hf hname hb hn he]; rfl
theorem run_ofbits {P : Program} {f : FuncId} {fn : Func} (hf : P.funcs[f]? = some fn) (hname : (fn.name == "runtime.NumGoroutine") = false) (hb : fn.body.isNone = true) (hn : Extern.findNext fn = none) (he : Extern.find fn = some Extern.MathFloatBits.float64frombits) (b : Nat) (w : World) :
    (callFunc f #[.int .u64 b]).run P w = .ok (.value (Fl b)) w := by
  rw [run_callFunc_extern hf hname hb hn he]; rfl
end
end Go.Vg
end
section
namespace Go.Vg
open Go.RowKit

/-- it returns, and S holds; or it panics, and Z holds -/
def RetP (P : Program) (f : FuncId) (args : Array Value) (w : World) (S : Value → World → Prop) (Z : List PanicEntry → World → Prop) : Prop :=
  Calls P f args w fun en w' => (∃ v, en = .returned v ∧ S v w') ∨ (∃ ch, en = .panicked ch ∧ Z ch w')
theorem RetP.mono {P : Program} {f : FuncId} {args : Array Value} {w : World} {S S' : Value → World → Prop} {Z Z' : List PanicEntry → World → Prop} (h : RetP P f args w S Z) (hs : ∀ v w', S v w' → S' v w') (hz : ∀ c w', Z c w' → Z' c w') : RetP P f args w S' Z' :=
  Calls.mono h fun _ _ h => h.elim (fun ⟨v, he, hv⟩ => .inl ⟨v, he, hs _ _ hv⟩) (fun ⟨c, he, hv⟩ => .inr ⟨c, he, hz _ _ hv⟩)

def retFinP (P : Program) (fn : Func) (S : Value → World → Prop) (Z : List PanicEntry → World → Prop) : Exit → Act → World → Prop :=
  bodyPost P fn fun en w' => (∃ v, en = .returned v ∧ S v w') ∨ (∃ ch, en = .panicked ch ∧ Z ch w')

theorem fits_start {vs : List Value} {n m : Nat} (hn : m = n) (hsz : vs.length ≤ n) : Fits n (argEnv 0 vs) ((⟨vs⟩ : Array Value) ++ Array.replicate (m - (⟨vs⟩ : Array Value).size) undef) := by
  refine fits_args vs [] 0 rfl (by omega) _ (by simp [hn]; omega) (fun i hi => ?_)
  have hi' : i < vs.length := by omega
  simp [Array.getD_eq_getD_getElem?, List.getD, Array.getElem?_append, hi']
theorem ret_of_GP {P : Program} {f : FuncId} {fn : Func} {c : Code} {vs : List Value} {w : World} {S : Value → World → Prop} {Z : List PanicEntry → World → Prop} {n : Nat}
    (hf : P.funcs[f]? = some fn) (hb : fn.body = some c) (hn : fn.ntmps = n) (hl : Nat.ble vs.length n = true)
    (h : G ⟨none, P, retFinP P fn S Z, n, []⟩ [.code c] (argEnv 0 vs) w) : RetP P f ⟨vs⟩ w S Z := by
  refine calls_of_wp hf hb ?_
  have h1 := h _ (fits_start hn (by simpa using hl))
  refine wpIn_wide (n := 0) |>.1 ?_
  refine wpIn_mono h1 ?_
  intro ex a w' hq
  cases ex <;> exact hq
theorem px_P {X : Cx} {P : Program} {fn : Func} {S : Value → World → Prop} {Z : List PanicEntry → World → Prop} {ch : List PanicEntry} {w : World} (hX : X.fin = retFinP P fn S Z) (hd : X.ds = []) (h : Z ch w) : X.px ch w := by
  intro t
  rw [hX, hd]
  exact ⟨rfl, .inr ⟨ch, rfl, h⟩⟩

/-- the results, read off the slots -/
theorem res0 {P : Program} {fn : Func} {t : Array Value} (hr : fn.results = #[]) (w : World) : (results fn t).run P w = .ok (.tuple #[]) w := results_none hr _ _ _
theorem res2 {P : Program} {fn : Func} {n : Nat} {e : Env} {t : Array Value} (hf : Fits n e t) {s s' : Nat} {v v' : Value} (hr : fn.results = #[.tmp s, .tmp s']) (hv : look e s = some (none, v)) (hv' : look e s' = some (none, v')) (w : World) :
    (results fn t).run P w = .ok (.tuple ⟨[v, v']⟩) w := by
  rw [results_tmp2 hr, (hf.get _ _ _ hv).2, (hf.get _ _ _ hv').2]; rfl
theorem G.retP {X : Cx} {k : List Kt} {e : Env} {w : World} {P : Program} {fn : Func} {S : Value → World → Prop} {Z : List PanicEntry → World → Prop} (hX : X.fin = retFinP P fn S Z) (hd : X.ds = [])
    (v : Value) (hr : ∀ t, Fits X.n e t → (results fn t).run P w = .ok v w) (h : S v w) : G X (.code .ret :: k) e w := by
  refine G.ret fun t ht => ?_
  rw [hX, hd]
  exact ⟨rfl, v, hr t ht, .inl ⟨v, rfl, h⟩⟩
theorem G.retP1 {X : Cx} {k : List Kt} {e : Env} {w : World} {P : Program} {fn : Func} {S : Value → World → Prop} {Z : List PanicEntry → World → Prop} (hX : X.fin = retFinP P fn S Z) (hd : X.ds = []) {s : Nat} {v : Value}
    (hr : fn.results = #[.tmp s]) (hv : look e s = some (none, v)) (h : S v w) : G X (.code .ret :: k) e w := G.retP hX hd v (fun _ ht => res1 ht hr hv w) h
theorem G.retP2 {X : Cx} {k : List Kt} {e : Env} {w : World} {P : Program} {fn : Func} {S : Value → World → Prop} {Z : List PanicEntry → World → Prop} (hX : X.fin = retFinP P fn S Z) (hd : X.ds = []) {s s' : Nat} {v v' : Value}
    (hr : fn.results = #[.tmp s, .tmp s']) (hv : look e s = some (none, v)) (hv' : look e s' = some (none, v')) (h : S (.tuple ⟨[v, v']⟩) w) : G X (.code .ret :: k) e w := G.retP hX hd _ (fun _ ht => res2 ht hr hv hv' w) h
theorem G.endP0 {X : Cx} {e : Env} {w : World} {P : Program} {fn : Func} {S : Value → World → Prop} {Z : List PanicEntry → World → Prop} (hX : X.fin = retFinP P fn S Z) (hd : X.ds = [])
    (hr : fn.results = #[]) (h : S (.tuple #[]) w) : G X [] e w := by
  refine G.nil fun t _ => ?_
  rw [hX, hd]
  exact ⟨rfl, _, res0 hr w, .inl ⟨_, rfl, h⟩⟩

section steps
variable {X : Cx} {ops : Array Oper} {e : Env} {w : World} {N : Env → World → Prop} {d : Nat} {c : Option Bool} {ty : TypeId} {pos : String} {af : Array Edge} {g : Option (Nat × Bool)} {l : List Oper} {k : List Kt} {lb : List (Oper × Bool)} {W : World → Prop}

theorem GL.consP {o : Oper} (h : StepP X ops o e w (fun e' w' => GL X ops l k e' w')) : GL X ops (o :: l) k e w := by
  intro t hf
  exact h t _ _ hf (fun e' w' t' hN hf' => hN t' hf') (fun ch t' w' hp => post_panic (hp t'))

theorem StepP.callF {f : FuncId} {args : Array Operand} {ats : Array TypeId} {lo : List Operand} {vs : List Value} {S : Value → World → Prop} {Z : List PanicEntry → World → Prop}
    (hg : guardE ops e ⟨some d, .call { callee := .value (.func f), args := args, argTypes := ats }, ty, pos, af, g⟩ = some none)
    (ha : args = ⟨lo⟩) (hvs : evs e lo = some vs) (hf : Callable X.P f)
    (hn : Nat.blt d X.n = true) (hc : RetP X.P f ⟨vs⟩ w S Z) (hz : ∀ ch w', Z ch w' → X.px ch w')
    (h : ∀ v w', S v w' → N ((d, none, v) :: e) w') : StepP X ops ⟨some d, .call { callee := .value (.func f), args := args, argTypes := ats }, ty, pos, af, g⟩ e w N := by
  intro t K Q hft hK hP
  rw [guardE_wanted hft hg, if_pos (by rfl)]
  refine ⟨fun _ _ => trivial, ?_⟩
  rw [Oper.semAt_eq _ _ _ (fun _ hh => by cases hh)]
  have := evs_map (ds := X.ds) hft hvs
  subst ha
  have h2 : (Array.mk lo).map (Act.mk t X.ds).eval = ⟨vs⟩ := by simp [this]
  have hrun : (execOp (Act.mk t X.ds).eval ⟨some d, .call { callee := .value (.func f), args := ⟨lo⟩, argTypes := ats }, ty, pos, af, g⟩).run X.P w = .ok (.enter f ⟨vs⟩) w := by
    simp only [execOp, resolve, h2, Act.eval, Deferred.ofValue, Sem.run_bind, Sem.run_pure, Result.andThen_ok, invoke, Array.empty_append, Array.append_empty, run_callFunc hf]
  show Oper.uponIn _ _ _ _ _ _ _ ((execOp (Act.mk t X.ds).eval _).run X.P w)
  rw [hrun]
  refine ⟨fun h => by simp [Fence.wide] at h, callsW (Calls.mono hc ?_)⟩
  rintro en w' (⟨v, rfl, hS⟩ | ⟨ch, rfl, hZ⟩)
  · show K (Act.put _ (some d) v) w'
    exact hK _ _ _ (h v w' hS) (hft.put (by simpa [Nat.blt_eq] using hn) none v)
  · exact hP ch t w' (hz ch w' hZ)
def ifaceT : TypeDesc → Bool
  | .interface _ => true
  | _ => false
theorem Step.mkIface (T : Tb X.P) {x : Operand} {t : TypeId} {td : TypeDesc} {v : Value} (hg : guardE ops e ⟨some d, .makeInterface t x, ty, pos, af, g⟩ = some c) (hx : Op1 e c x v) (ht : T.ty t = some td) (hi : ifaceT td = false)
    (hn : Nat.blt d X.n = true) (h : N ((d, c, .iface t v) :: e) w) : Step X ops ⟨some d, .makeInterface t x, ty, pos, af, g⟩ e w N :=
  Step.quiet rfl (by simpa [Nat.blt_eq] using hn) hg (fun _ hh => by cases hh) (fun t' hf hc => by
    have hT := T.ok _ _ ht
    simp only [execOp, hx.val hf hc, Instr.makeInterface, Sem.run_bind, run_underlying hT, Result.andThen_ok]
    cases td <;> first | (cases hi; done) | rfl) h
theorem StepP.panic {x : Operand} {t : TypeId} {v : Value} (hg : guardE ops e ⟨none, .panic x, ty, pos, af, g⟩ = some none) (hx : Op1 e none x (.iface t v))
    (hz : X.px [{ v := .iface t v, recovered := false }] w) : StepP X ops ⟨none, .panic x, ty, pos, af, g⟩ e w N := by
  intro t' K Q hft hK hP
  rw [guardE_wanted hft hg, if_pos (by rfl)]
  refine ⟨fun _ _ => trivial, ?_⟩
  rw [Oper.semAt_eq _ _ _ (fun _ hh => by cases hh)]
  have hrun : (execOp (Act.mk t' X.ds).eval ⟨none, .panic x, ty, pos, af, g⟩).run X.P w = .halt (.panic (.iface t v)) w := by
    simp only [execOp, hx.val hft rfl, Instr.panic]
    rfl
  show Oper.uponIn _ _ _ _ _ _ _ ((execOp (Act.mk t' X.ds).eval _).run X.P w)
  rw [hrun]
  exact hP _ t' w hz
theorem sIf (T : Tb X.P) {x : Operand} {t : TypeId} {td : TypeDesc} {v : Value} (h : GL X ops l k ((d, c, .iface t v) :: e) w) (hg : guardE ops e ⟨some d, .makeInterface t x, ty, pos, af, g⟩ = some c := by exact rfl)
    (hx : Op1 e c x v := by exact Op1.of rfl (fun _ => rfl)) (ht : T.ty t = some td := by exact rfl) (hi : ifaceT td = false := by exact rfl) (hn : Nat.blt d X.n = true := by exact rfl) :
    GL X ops (⟨some d, .makeInterface t x, ty, pos, af, g⟩ :: l) k e w := GL.cons (Step.mkIface T hg hx ht hi hn h)
theorem sPanic {x : Operand} {t : TypeId} {v : Value} (hz : X.px [{ v := .iface t v, recovered := false }] w) (hg : guardE ops e ⟨none, .panic x, ty, pos, af, g⟩ = some none := by exact rfl) (hx : Op1 e none x (.iface t v) := by exact Op1.of rfl (fun _ => rfl)) :
    GL X ops (⟨none, .panic x, ty, pos, af, g⟩ :: l) k e w := GL.consP (StepP.panic hg hx hz)

/-- a guarded call that may panic -/
theorem StepP.on {o : Oper} {c : Bool} (hg : guardE ops e o = some (some c)) (hc : c = true) (h : StepP X ops { o with guard := none } e w N) : StepP X ops o e w N := by
  intro t K Q hf hK hP
  have := h t K Q hf hK hP
  rw [guardE_wanted hf hg]
  subst hc
  rw [if_pos (by rfl)] at this ⊢
  exact this

theorem sCallP {f : FuncId} {args : Array Operand} {ats : Array TypeId} {lo : List Operand} {vs : List Value} {S : Value → World → Prop} {Z : List PanicEntry → World → Prop} (hf : Callable X.P f) (hc : RetP X.P f ⟨vs⟩ w S Z)
    (hz : ∀ ch w', Z ch w' → X.px ch w') (h : ∀ v w', S v w' → GL X ops l k ((d, none, v) :: e) w')
    (hg : guardE ops e ⟨some d, .call { callee := .value (.func f), args := args, argTypes := ats }, ty, pos, af, g⟩ = some none := by exact rfl)
    (ha : args = ⟨lo⟩ := by exact rfl) (hvs : evs e lo = some vs := by exact rfl) (hn : Nat.blt d X.n = true := by exact rfl) :
    GL X ops (⟨some d, .call { callee := .value (.func f), args := args, argTypes := ats }, ty, pos, af, g⟩ :: l) k e w := GL.consP (StepP.callF hg ha hvs hf hn hc hz h)
end steps

/-! ### A world changed at one block, with more behind it -/
structure Kp (b : Nat) (w w' : World) : Prop where
  os : w'.os = w.os
  tape : w'.tape = w.tape
  output : w'.output = w.output
  size : w.heap.size ≤ w'.heap.size
  block : ∀ k, k < w.heap.size → k ≠ b → w'.heap[k]? = w.heap[k]?
theorem Kp.refl (b : Nat) (w : World) : Kp b w w := ⟨rfl, rfl, rfl, Nat.le_refl _, fun _ _ _ => rfl⟩
theorem Kp.trans {b : Nat} {w w1 w2 : World} (h : Kp b w w1) (k : Kp b w1 w2) : Kp b w w2 :=
  ⟨k.os.trans h.os, k.tape.trans h.tape, k.output.trans h.output, Nat.le_trans h.size k.size, fun i hi hne => (k.block i (Nat.lt_of_lt_of_le hi h.size) hne).trans (h.block i hi hne)⟩
theorem Ext.kp {b : Nat} {w w' : World} (h : Ext w w') : Kp b w w' := ⟨h.os, h.tape, h.output, h.size, fun i hi _ => h.block i hi⟩
theorem Wr.kp {b : Nat} {w w' : World} (h : Wr b w w') : Kp b w w' := ⟨h.os, h.tape, h.output, by rw [h.size]; exact Nat.le_refl _, fun i _ hne => h.block i hne⟩
/-- a change of a block that was not there before -/
theorem Kp.new {b c : Nat} {w w1 w2 : World} (h : Kp b w w1) (k : Kp c w1 w2) (hc : w.heap.size ≤ c) : Kp b w w2 :=
  ⟨k.os.trans h.os, k.tape.trans h.tape, k.output.trans h.output, Nat.le_trans h.size k.size, fun i hi hne => (k.block i (Nat.lt_of_lt_of_le hi h.size) (by omega)).trans (h.block i hi hne)⟩
theorem Ext.ofKp {c : Nat} {w w1 w2 : World} (h : Ext w w1) (k : Kp c w1 w2) (hc : w.heap.size ≤ c) : Ext w w2 :=
  ⟨k.os.trans h.os, k.tape.trans h.tape, k.output.trans h.output, Nat.le_trans h.size k.size, fun i hi => (k.block i (Nat.lt_of_lt_of_le hi h.size) (by omega)).trans (h.block i hi)⟩
theorem Bx.kp {b c : Nat} {w w' : World} {us : List Value} (h : Bx w c us) (k : Kp b w w') (hne : c ≠ b) : Bx w' c us := by
  obtain ⟨t, h⟩ := h
  exact ⟨t, by rw [k.block c (Array.getElem?_eq_some_iff.1 h).1 hne]; exact h⟩
theorem Owns.kp {b B : Nat} {w w' : World} {v : Value} {et k : Nat} {xs : List (List Value)} (h : Owns w B v et k xs) (hk : Kp b w w') (hb : b < B) : Owns w' B v et k xs := by
  obtain ⟨⟨hl, h⟩, h0⟩ := h
  refine ⟨⟨hl, ?_⟩, h0⟩
  rcases h with h | ⟨g, cap, cur, h1, h2, h3, h4⟩
  · exact .inl h
  · exact .inr ⟨g, cap, cur, h1, h2, by rw [hk.block g (Array.getElem?_eq_some_iff.1 h3).1 (by omega)]; exact h3, h4⟩
theorem CellAt.kp {b : Nat} {w w' : World} {p u : Value} (h : CellAt w p u) (k : Kp b w w') (hne : ∀ a, p = .pointer (some a) → a.block ≠ b) : CellAt w' p u := by
  obtain ⟨a, rfl, hc⟩ := h
  refine ⟨a, rfl, ?_⟩
  have hlt := World.block_lt_of_cell? w a hc
  have := k.block a.block hlt (hne a rfl)
  unfold World.cell? at hc ⊢
  rw [this]; exact hc
end Go.Vg
end
section
namespace Go.Vg
open Go.RowKit
section
variable {X : Cx} {ops : Array Oper} {l : List Oper} {k : List Kt} {e : Env} {w : World} {N : Env → World → Prop} {d : Nat} {c : Option Bool} {ty : TypeId} {pos : String} {af : Array Edge} {g : Option (Nat × Bool)}
theorem Step.eqSN (T : Tb X.P) {xt yt et : TypeId} {x y : Operand} {a : Addr} {n cap : Nat} (hg : guardE ops e ⟨some d, .binOp .eql xt x y yt, ty, pos, af, g⟩ = some c)
    (hx : Op1 e c x (.slice (some a) n cap)) (hy : Op1 e c y (.slice none 0 0)) (ht : T.ty xt = some (.slice et)) (hn : Nat.blt d X.n = true)
    (h : N ((d, c, .bool false) :: e) w) : Step X ops ⟨some d, .binOp .eql xt x y yt, ty, pos, af, g⟩ e w N :=
  Step.quiet rfl (by simpa [Nat.blt_eq] using hn) hg (fun _ hh => by cases hh) (fun t hf hc => by
    have hT := T.ok _ _ ht
    have h1 : (eqGuard .eql xt x y (.slice (some a) n cap) (.slice none 0 0)).run X.P w = .ok () w := by simp [eqGuard]
    have he := run_equal_slice_nil (P := X.P) w xt et (some a) n cap hT
    have h2 : (binOp .eql xt (.slice (some a) n cap) (.slice none 0 0)).run X.P w = .ok (.bool false) w := by
      simp only [binOp, Sem.run_bind, he, Sem.run_map, Result.andThen_ok, Sem.run_pure]; rfl
    simp only [execOp, hx.val hf hc, hy.val hf hc, Sem.run_bind, h1, h2, Result.andThen_ok, Sem.run_pure]) h
end
end Go.Vg
end
section
namespace Go.Vg
open Go.RowKit
section
variable {X : Cx} {ops : Array Oper} {l : List Oper} {k : List Kt} {e : Env} {w : World} {N : Env → World → Prop} {d : Nat} {c : Option Bool} {ty : TypeId} {pos : String} {af : Array Edge} {g : Option (Nat × Bool)}
theorem Step.min2 {x y : Operand} {t1 t2 : TypeId} {q : IntKind} {a b : Int} (hg : guardE ops e ⟨some d, .call { callee := .builtin .min, args := #[x, y], argTypes := #[t1, t2] }, ty, pos, af, g⟩ = some none)
    (hx : Op1 e none x (.int q a)) (hy : Op1 e none y (.int q b)) (hn : Nat.blt d X.n = true)
    (h : N ((d, none, .int q (if b < a then b else a)) :: e) w) : Step X ops ⟨some d, .call { callee := .builtin .min, args := #[x, y], argTypes := #[t1, t2] }, ty, pos, af, g⟩ e w N :=
  Step.eff rfl (by simpa [Nat.blt_eq] using hn) hg (fun _ hh => by cases hh) (fun t' hf => run_builtin2 (hx.val hf rfl) (hy.val hf rfl) fun cs => by
    simp [builtin, Builtin.min_, Builtin.min2]) h
end
end Go.Vg
end
section
namespace Go.Vg
open Go.RowKit Go.Proofs Go.Lib

section
variable {X : Cx} {ops : Array Oper} {l : List Oper} {kk : List Kt} {e : Env} {w : World} {N : Env → World → Prop} {d : Nat} {c : Option Bool} {ty : TypeId} {pos : String} {af : Array Edge} {g : Option (Nat × Bool)}

theorem Step.max2 {x y : Operand} {t1 t2 : TypeId} {q : IntKind} {a b : Int} (hg : guardE ops e ⟨some d, .call { callee := .builtin .max, args := #[x, y], argTypes := #[t1, t2] }, ty, pos, af, g⟩ = some none)
    (hx : Op1 e none x (.int q a)) (hy : Op1 e none y (.int q b)) (hn : Nat.blt d X.n = true)
    (h : N ((d, none, .int q (if a < b then b else a)) :: e) w) : Step X ops ⟨some d, .call { callee := .builtin .max, args := #[x, y], argTypes := #[t1, t2] }, ty, pos, af, g⟩ e w N :=
  Step.eff rfl (by simpa [Nat.blt_eq] using hn) hg (fun _ hh => by cases hh) (fun t' hf => run_builtin2 (hx.val hf rfl) (hy.val hf rfl) fun cs => by
    simp [builtin, Builtin.max_, Builtin.max2]) h
end
end Go.Vg
end
