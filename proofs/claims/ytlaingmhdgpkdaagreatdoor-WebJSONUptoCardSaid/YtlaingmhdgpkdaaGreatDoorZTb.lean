/- The table of the types of this seat, printed by wip/tb.py out of the translation. -/
import Derived.Test.YtlaingmhdgpkdaaGreatDoorProg
import Derived.Test.YtlaingmhdgpkdaaGreatDoorGV1
import Derived.Test.YtlaingmhdgpkdaaGreatDoorGV2
import Derived.KernelRfl
namespace Go.Proofs.YtlaingmhdgpkdaaGreatDoor
open Go Go.Vg
def tyL : List (Nat × TypeDesc) := [(0, (TypeDesc.tuple #[])),
  (1, (TypeDesc.func #[] #[] false)),
  (2, (TypeDesc.int IntKind.i64)),
  (3, (TypeDesc.int IntKind.i64)),
  (4, TypeDesc.bool),
  (5, (TypeDesc.int IntKind.u8)),
  (6, (TypeDesc.int IntKind.u8)),
  (7, (TypeDesc.struct #[{ name := "x", type := 2, offset := 0, embedded := false, tag := "", pkgPath := "runtime", byteOffset := 0 }, { name := "y", type := 3, offset := 1, embedded := false, tag := "", pkgPath := "runtime", byteOffset := 8 }, { name := "signed", type := 4, offset := 2, embedded := false, tag := "", pkgPath := "runtime", byteOffset := 16 }, { name := "code", type := 6, offset := 3, embedded := false, tag := "", pkgPath := "runtime", byteOffset := 17 }])),
  (8, (TypeDesc.struct #[{ name := "x", type := 2, offset := 0, embedded := false, tag := "", pkgPath := "runtime", byteOffset := 0 }, { name := "y", type := 3, offset := 1, embedded := false, tag := "", pkgPath := "runtime", byteOffset := 8 }, { name := "signed", type := 4, offset := 2, embedded := false, tag := "", pkgPath := "runtime", byteOffset := 16 }, { name := "code", type := 6, offset := 3, embedded := false, tag := "", pkgPath := "runtime", byteOffset := 17 }])),
  (9, TypeDesc.string),
  (10, TypeDesc.string),
  (11, TypeDesc.string),
  (12, (TypeDesc.int IntKind.u64)),
  (13, (TypeDesc.struct #[{ name := "msg", type := 9, offset := 0, embedded := false, tag := "", pkgPath := "runtime", byteOffset := 0 }, { name := "addr", type := 12, offset := 1, embedded := false, tag := "", pkgPath := "runtime", byteOffset := 16 }])),
  (14, (TypeDesc.struct #[{ name := "msg", type := 9, offset := 0, embedded := false, tag := "", pkgPath := "runtime", byteOffset := 0 }, { name := "addr", type := 12, offset := 1, embedded := false, tag := "", pkgPath := "runtime", byteOffset := 16 }])),
  (15, (TypeDesc.pointer 192)),
  (16, (TypeDesc.pointer 195)),
  (17, (TypeDesc.pointer 202)),
  (18, (TypeDesc.struct #[{ name := "typ", type := 17, offset := 0, embedded := false, tag := "", pkgPath := "internal/runtime/maps", byteOffset := 0 }])),
  (19, (TypeDesc.struct #[{ name := "typ", type := 17, offset := 0, embedded := false, tag := "", pkgPath := "internal/runtime/maps", byteOffset := 0 }])),
  (20, (TypeDesc.interface #[])),
  (21, (TypeDesc.int IntKind.i32)),
  (22, (TypeDesc.func #[9] #[9] false)),
  (23, (TypeDesc.func #[5] #[3] false)),
  (24, (TypeDesc.slice 5)),
  (25, (TypeDesc.func #[] #[4] false)),
  (26, (TypeDesc.func #[9] #[4] false)),
  (27, (TypeDesc.slice 64)),
  (28, (TypeDesc.slice 9)),
  (29, (TypeDesc.func #[9, 9] #[9] false)),
  (30, (TypeDesc.func #[3, 9] #[24] false)),
  (31, (TypeDesc.func #[24] #[] false)),
  (32, (TypeDesc.func #[27] #[9] false)),
  (33, (TypeDesc.func #[28] #[9] false)),
  (34, (TypeDesc.func #[27, 28, 3] #[4] false)),
  (35, (TypeDesc.int IntKind.i64)),
  (36, (TypeDesc.tuple #[3, 35])),
  (37, (TypeDesc.func #[9] #[3, 35] false)),
  (38, (TypeDesc.func #[28] #[4] false)),
  (39, (TypeDesc.func #[24] #[24] false)),
  (40, (TypeDesc.int IntKind.i8)),
  (41, (TypeDesc.int IntKind.i8)),
  (42, (TypeDesc.struct #[{ name := "buf", type := 24, offset := 0, embedded := false, tag := "", pkgPath := "bytes", byteOffset := 0 }, { name := "off", type := 3, offset := 1, embedded := false, tag := "", pkgPath := "bytes", byteOffset := 24 }, { name := "lastRead", type := 41, offset := 2, embedded := false, tag := "", pkgPath := "bytes", byteOffset := 32 }])),
  (43, (TypeDesc.struct #[{ name := "buf", type := 24, offset := 0, embedded := false, tag := "", pkgPath := "bytes", byteOffset := 0 }, { name := "off", type := 3, offset := 1, embedded := false, tag := "", pkgPath := "bytes", byteOffset := 24 }, { name := "lastRead", type := 41, offset := 2, embedded := false, tag := "", pkgPath := "bytes", byteOffset := 32 }])),
  (44, (TypeDesc.interface #[("Error", 51)])),
  (45, (TypeDesc.interface #[("Error", 51)])),
  (46, (TypeDesc.func #[5] #[45] false)),
  (47, (TypeDesc.tuple #[21, 3])),
  (48, (TypeDesc.func #[9] #[21, 3] false)),
  (49, (TypeDesc.tuple #[3, 45])),
  (50, (TypeDesc.func #[9] #[3, 45] false)),
  (51, (TypeDesc.func #[] #[9] false)),
  (52, (TypeDesc.func #[9, 3] #[3] false)),
  (53, (TypeDesc.struct #[{ name := "Method", type := 9, offset := 0, embedded := false, tag := "", pkgPath := "", byteOffset := 0 }, { name := "Path", type := 9, offset := 1, embedded := false, tag := "", pkgPath := "", byteOffset := 16 }, { name := "Params", type := 27, offset := 2, embedded := false, tag := "", pkgPath := "", byteOffset := 32 }])),
  (54, (TypeDesc.struct #[{ name := "Method", type := 9, offset := 0, embedded := false, tag := "", pkgPath := "", byteOffset := 0 }, { name := "Path", type := 9, offset := 1, embedded := false, tag := "", pkgPath := "", byteOffset := 16 }, { name := "Params", type := 27, offset := 2, embedded := false, tag := "", pkgPath := "", byteOffset := 32 }])),
  (55, (TypeDesc.tuple #[54, 3])),
  (56, (TypeDesc.func #[24] #[54, 3] false)),
  (57, (TypeDesc.func #[54, 9] #[9] false)),
  (58, (TypeDesc.func #[3] #[9] false)),
  (59, (TypeDesc.func #[90] #[] false)),
  (60, (TypeDesc.func #[90] #[] false)),
  (61, (TypeDesc.func #[27] #[60] false)),
  (62, (TypeDesc.func #[28, 9] #[9] false)),
  (63, (TypeDesc.struct #[{ name := "Name", type := 9, offset := 0, embedded := false, tag := "", pkgPath := "", byteOffset := 0 }, { name := "Value", type := 9, offset := 1, embedded := false, tag := "", pkgPath := "", byteOffset := 16 }])),
  (64, (TypeDesc.struct #[{ name := "Name", type := 9, offset := 0, embedded := false, tag := "", pkgPath := "", byteOffset := 0 }, { name := "Value", type := 9, offset := 1, embedded := false, tag := "", pkgPath := "", byteOffset := 16 }])),
  (65, (TypeDesc.float FloatKind.f64)),
  (66, (TypeDesc.tuple #[65, 35])),
  (67, (TypeDesc.func #[9] #[65, 35] false)),
  (68, (TypeDesc.func #[65] #[65] false)),
  (69, (TypeDesc.func #[65, 3] #[4] false)),
  (70, (TypeDesc.pointer 43)),
  (71, (TypeDesc.tuple #[3, 4])),
  (72, (TypeDesc.func #[3] #[3, 4] false)),
  (73, (TypeDesc.func #[3] #[3] false)),
  (74, (TypeDesc.tuple #[9, 9, 4])),
  (75, (TypeDesc.func #[9, 9] #[9, 9, 4] false)),
  (76, (TypeDesc.func #[9, 9] #[28] false)),
  (77, (TypeDesc.func #[9] #[9, 9, 4] false)),
  (78, (TypeDesc.map 9 9)),
  (79, (TypeDesc.tuple #[78, 4])),
  (80, (TypeDesc.func #[28] #[78, 4] false)),
  (81, (TypeDesc.func #[78, 9] #[4] false)),
  (82, (TypeDesc.tuple #[9, 35])),
  (83, (TypeDesc.func #[9, 4] #[9, 35] false)),
  (84, (TypeDesc.tuple #[27, 35])),
  (85, (TypeDesc.func #[9] #[27, 35] false)),
  (86, (TypeDesc.func #[9, 27] #[4] false)),
  (87, (TypeDesc.func #[54, 9] #[28] false)),
  (88, (TypeDesc.int IntKind.u64)),
  (89, (TypeDesc.array 20 5)),
  (90, (TypeDesc.func #[9, 9] #[4] false)),
  (91, (TypeDesc.pointer 93)),
  (92, (TypeDesc.struct #[{ name := "addr", type := 91, offset := 0, embedded := false, tag := "", pkgPath := "strings", byteOffset := 0 }, { name := "buf", type := 24, offset := 1, embedded := false, tag := "", pkgPath := "strings", byteOffset := 8 }])),
  (93, (TypeDesc.struct #[{ name := "addr", type := 91, offset := 0, embedded := false, tag := "", pkgPath := "strings", byteOffset := 0 }, { name := "buf", type := 24, offset := 1, embedded := false, tag := "", pkgPath := "strings", byteOffset := 8 }])),
  (94, (TypeDesc.func #[3] #[] false)),
  (95, (TypeDesc.func #[88] #[65] false)),
  (96, (TypeDesc.struct #[{ name := "digits", type := 9, offset := 0, embedded := false, tag := "", pkgPath := "vigil/num", byteOffset := 0 }, { name := "exp", type := 3, offset := 1, embedded := false, tag := "", pkgPath := "vigil/num", byteOffset := 16 }])),
  (97, (TypeDesc.struct #[{ name := "digits", type := 9, offset := 0, embedded := false, tag := "", pkgPath := "vigil/num", byteOffset := 0 }, { name := "exp", type := 3, offset := 1, embedded := false, tag := "", pkgPath := "vigil/num", byteOffset := 16 }])),
  (98, (TypeDesc.tuple #[97, 4])),
  (99, (TypeDesc.func #[9] #[97, 4] false)),
  (100, (TypeDesc.func #[] #[88] false)),
  (101, (TypeDesc.func #[65] #[88] false)),
  (102, (TypeDesc.int IntKind.u64)),
  (103, (TypeDesc.func #[] #[65] false)),
  (104, (TypeDesc.func #[88, 4] #[65] false)),
  (105, (TypeDesc.slice 3)),
  (106, (TypeDesc.slice 3)),
  (107, (TypeDesc.struct #[{ name := "digits", type := 106, offset := 0, embedded := false, tag := "", pkgPath := "vigil/vigilref03", byteOffset := 0 }, { name := "exp", type := 3, offset := 1, embedded := false, tag := "", pkgPath := "vigil/vigilref03", byteOffset := 24 }])),
  (108, (TypeDesc.struct #[{ name := "digits", type := 106, offset := 0, embedded := false, tag := "", pkgPath := "vigil/vigilref03", byteOffset := 0 }, { name := "exp", type := 3, offset := 1, embedded := false, tag := "", pkgPath := "vigil/vigilref03", byteOffset := 24 }])),
  (109, (TypeDesc.func #[5] #[4] false)),
  (110, (TypeDesc.func #[106, 3, 3] #[106] false)),
  (111, (TypeDesc.func #[9] #[3, 4] false)),
  (112, (TypeDesc.func #[108, 3] #[88] false)),
  (113, (TypeDesc.slice 119)),
  (114, (TypeDesc.func #[] #[113] false)),
  (115, (TypeDesc.func #[9] #[3] false)),
  (116, (TypeDesc.func #[9, 117] #[3] false)),
  (117, (TypeDesc.func #[21] #[4] false)),
  (118, (TypeDesc.struct #[{ name := "name", type := 9, offset := 0, embedded := false, tag := "", pkgPath := "vigil/num", byteOffset := 0 }, { name := "ms", type := 3, offset := 1, embedded := false, tag := "", pkgPath := "vigil/num", byteOffset := 16 }])),
  (119, (TypeDesc.struct #[{ name := "name", type := 9, offset := 0, embedded := false, tag := "", pkgPath := "vigil/num", byteOffset := 0 }, { name := "ms", type := 3, offset := 1, embedded := false, tag := "", pkgPath := "vigil/num", byteOffset := 16 }])),
  (120, (TypeDesc.tuple #[9, 3])),
  (121, (TypeDesc.func #[3] #[9, 3] false)),
  (122, (TypeDesc.func #[] #[3] false)),
  (123, (TypeDesc.func #[24, 3] #[24] false)),
  (124, (TypeDesc.array 256 5)),
  (125, (TypeDesc.struct #[{ name := "lo", type := 5, offset := 0, embedded := false, tag := "", pkgPath := "unicode/utf8", byteOffset := 0 }, { name := "hi", type := 5, offset := 1, embedded := false, tag := "", pkgPath := "unicode/utf8", byteOffset := 1 }])),
  (126, (TypeDesc.struct #[{ name := "lo", type := 5, offset := 0, embedded := false, tag := "", pkgPath := "unicode/utf8", byteOffset := 0 }, { name := "hi", type := 5, offset := 1, embedded := false, tag := "", pkgPath := "unicode/utf8", byteOffset := 1 }])),
  (127, (TypeDesc.array 16 126)),
  (128, (TypeDesc.func #[9, 9, 3, 3] #[28] false)),
  (129, (TypeDesc.func #[9, 109] #[4] false)),
  (130, (TypeDesc.tuple #[9, 4])),
  (131, (TypeDesc.func #[26] #[] false)),
  (132, (TypeDesc.func #[26] #[] false)),
  (133, (TypeDesc.func #[9, 9] #[132] false)),
  (134, (TypeDesc.func #[9, 5] #[9] false)),
  (135, (TypeDesc.array 256 4)),
  (136, (TypeDesc.array 256 4)),
  (137, (TypeDesc.tuple #[136, 4])),
  (138, (TypeDesc.func #[9] #[136, 4] false)),
  (139, (TypeDesc.func #[9, 140] #[9] false)),
  (140, (TypeDesc.pointer 136)),
  (141, (TypeDesc.pointer 5)),
  (142, (TypeDesc.slice 145)),
  (143, (TypeDesc.slice 145)),
  (144, (TypeDesc.func #[145, 145] #[143] false)),
  (145, (TypeDesc.int IntKind.u32)),
  (146, (TypeDesc.func #[88] #[143] false)),
  (147, (TypeDesc.func #[3] #[143] false)),
  (148, (TypeDesc.func #[143] #[3] false)),
  (149, (TypeDesc.func #[143] #[143] false)),
  (150, (TypeDesc.func #[88, 3, 4] #[88] false)),
  (151, (TypeDesc.tuple #[3, 3])),
  (152, (TypeDesc.func #[88] #[3, 3] false)),
  (153, (TypeDesc.func #[3, 3, 108] #[3] false)),
  (154, (TypeDesc.func #[9, 117, 4] #[3] false)),
  (155, (TypeDesc.array 7 9)),
  (156, (TypeDesc.array 7 3)),
  (157, (TypeDesc.func #[9, 9] #[3] false)),
  (158, (TypeDesc.func #[9, 3] #[28] false)),
  (159, (TypeDesc.func #[160, 9] #[9] false)),
  (160, (TypeDesc.func #[21] #[21] false)),
  (161, (TypeDesc.func #[9, 9] #[9, 4] false)),
  (162, (TypeDesc.func #[9] #[12] false)),
  (163, (TypeDesc.func #[9, 21] #[4] false)),
  (164, TypeDesc.unsafePointer),
  (165, (TypeDesc.func #[164] #[164] false)),
  (166, (TypeDesc.func #[3] #[24] false)),
  (167, (TypeDesc.func #[] #[143] false)),
  (168, (TypeDesc.func #[145] #[3] false)),
  (169, (TypeDesc.func #[88] #[3] false)),
  (170, (TypeDesc.func #[3] #[106] false)),
  (171, (TypeDesc.func #[106, 106] #[3] false)),
  (172, (TypeDesc.func #[9, 5] #[3] false)),
  (173, (TypeDesc.func #[21] #[3] false)),
  (174, (TypeDesc.func #[21] #[3, 45] false)),
  (175, (TypeDesc.func #[3, 21] #[21] false)),
  (176, (TypeDesc.func #[9, 21] #[3] false)),
  (177, (TypeDesc.tuple #[145, 145])),
  (178, (TypeDesc.func #[9] #[145, 145] false)),
  (179, (TypeDesc.func #[24, 21] #[24] false)),
  (180, (TypeDesc.tuple #[21, 4])),
  (181, (TypeDesc.func #[3, 21, 182] #[21, 4] false)),
  (182, (TypeDesc.slice 189)),
  (183, (TypeDesc.pointer 189)),
  (184, (TypeDesc.func #[21, 182] #[183] false)),
  (185, (TypeDesc.func #[3, 21, 183] #[21] false)),
  (186, (TypeDesc.array 3 21)),
  (187, (TypeDesc.array 3 21)),
  (188, (TypeDesc.struct #[{ name := "Lo", type := 145, offset := 0, embedded := false, tag := "", pkgPath := "", byteOffset := 0 }, { name := "Hi", type := 145, offset := 1, embedded := false, tag := "", pkgPath := "", byteOffset := 4 }, { name := "Delta", type := 187, offset := 2, embedded := false, tag := "", pkgPath := "", byteOffset := 8 }])),
  (189, (TypeDesc.struct #[{ name := "Lo", type := 145, offset := 0, embedded := false, tag := "", pkgPath := "", byteOffset := 0 }, { name := "Hi", type := 145, offset := 1, embedded := false, tag := "", pkgPath := "", byteOffset := 4 }, { name := "Delta", type := 187, offset := 2, embedded := false, tag := "", pkgPath := "", byteOffset := 8 }])),
  (190, (TypeDesc.pointer 204)),
  (191, (TypeDesc.struct #[{ name := "_interface", type := 17, offset := 0, embedded := false, tag := "", pkgPath := "runtime", byteOffset := 0 }, { name := "concrete", type := 17, offset := 1, embedded := false, tag := "", pkgPath := "runtime", byteOffset := 8 }, { name := "asserted", type := 17, offset := 2, embedded := false, tag := "", pkgPath := "runtime", byteOffset := 16 }, { name := "missingMethod", type := 9, offset := 3, embedded := false, tag := "", pkgPath := "runtime", byteOffset := 24 }])),
  (192, (TypeDesc.struct #[{ name := "_interface", type := 17, offset := 0, embedded := false, tag := "", pkgPath := "runtime", byteOffset := 0 }, { name := "concrete", type := 17, offset := 1, embedded := false, tag := "", pkgPath := "runtime", byteOffset := 8 }, { name := "asserted", type := 17, offset := 2, embedded := false, tag := "", pkgPath := "runtime", byteOffset := 16 }, { name := "missingMethod", type := 9, offset := 3, embedded := false, tag := "", pkgPath := "runtime", byteOffset := 24 }])),
  (193, (TypeDesc.array 0 16)),
  (194, (TypeDesc.struct #[{ name := "_", type := 193, offset := 0, embedded := false, tag := "", pkgPath := "runtime", byteOffset := 0 }])),
  (195, (TypeDesc.struct #[{ name := "_", type := 193, offset := 0, embedded := false, tag := "", pkgPath := "runtime", byteOffset := 0 }])),
  (196, (TypeDesc.int IntKind.u8)),
  (197, (TypeDesc.int IntKind.u8)),
  (198, (TypeDesc.func #[164, 164] #[4] false)),
  (199, (TypeDesc.int IntKind.i32)),
  (200, (TypeDesc.int IntKind.i32)),
  (201, (TypeDesc.struct #[{ name := "Size_", type := 12, offset := 0, embedded := false, tag := "", pkgPath := "", byteOffset := 0 }, { name := "PtrBytes", type := 12, offset := 1, embedded := false, tag := "", pkgPath := "", byteOffset := 8 }, { name := "Hash", type := 145, offset := 2, embedded := false, tag := "", pkgPath := "", byteOffset := 16 }, { name := "TFlag", type := 196, offset := 3, embedded := false, tag := "", pkgPath := "", byteOffset := 20 }, { name := "Align_", type := 5, offset := 4, embedded := false, tag := "", pkgPath := "", byteOffset := 21 }, { name := "FieldAlign_", type := 5, offset := 5, embedded := false, tag := "", pkgPath := "", byteOffset := 22 }, { name := "Kind_", type := 197, offset := 6, embedded := false, tag := "", pkgPath := "", byteOffset := 23 }, { name := "Equal", type := 198, offset := 7, embedded := false, tag := "", pkgPath := "", byteOffset := 24 }, { name := "GCData", type := 141, offset := 8, embedded := false, tag := "", pkgPath := "", byteOffset := 32 }, { name := "Str", type := 199, offset := 9, embedded := false, tag := "", pkgPath := "", byteOffset := 40 }, { name := "PtrToThis", type := 200, offset := 10, embedded := false, tag := "", pkgPath := "", byteOffset := 44 }])),
  (202, (TypeDesc.struct #[{ name := "Size_", type := 12, offset := 0, embedded := false, tag := "", pkgPath := "", byteOffset := 0 }, { name := "PtrBytes", type := 12, offset := 1, embedded := false, tag := "", pkgPath := "", byteOffset := 8 }, { name := "Hash", type := 145, offset := 2, embedded := false, tag := "", pkgPath := "", byteOffset := 16 }, { name := "TFlag", type := 196, offset := 3, embedded := false, tag := "", pkgPath := "", byteOffset := 20 }, { name := "Align_", type := 5, offset := 4, embedded := false, tag := "", pkgPath := "", byteOffset := 21 }, { name := "FieldAlign_", type := 5, offset := 5, embedded := false, tag := "", pkgPath := "", byteOffset := 22 }, { name := "Kind_", type := 197, offset := 6, embedded := false, tag := "", pkgPath := "", byteOffset := 23 }, { name := "Equal", type := 198, offset := 7, embedded := false, tag := "", pkgPath := "", byteOffset := 24 }, { name := "GCData", type := 141, offset := 8, embedded := false, tag := "", pkgPath := "", byteOffset := 32 }, { name := "Str", type := 199, offset := 9, embedded := false, tag := "", pkgPath := "", byteOffset := 40 }, { name := "PtrToThis", type := 200, offset := 10, embedded := false, tag := "", pkgPath := "", byteOffset := 44 }])),
  (203, (TypeDesc.struct #[{ name := "s", type := 9, offset := 0, embedded := false, tag := "", pkgPath := "errors", byteOffset := 0 }])),
  (204, (TypeDesc.struct #[{ name := "s", type := 9, offset := 0, embedded := false, tag := "", pkgPath := "errors", byteOffset := 0 }])),
  (205, (TypeDesc.func #[9] #[45] false))]
theorem tyL_ok : AllT Tryz.prog tyL := ⟨Tryz.underlying0, Tryz.underlying1, Tryz.underlying2, Tryz.underlying3, Tryz.underlying4, Tryz.underlying5, Tryz.underlying6, Tryz.underlying7, Tryz.underlying8, Tryz.underlying9, Tryz.underlying10, Tryz.underlying11, Tryz.underlying12, Tryz.underlying13, Tryz.underlying14, Tryz.underlying15, Tryz.underlying16, Tryz.underlying17, Tryz.underlying18, Tryz.underlying19, Tryz.underlying20, Tryz.underlying21, Tryz.underlying22, Tryz.underlying23, Tryz.underlying24, Tryz.underlying25, Tryz.underlying26, Tryz.underlying27, Tryz.underlying28, Tryz.underlying29, Tryz.underlying30, Tryz.underlying31, Tryz.underlying32, Tryz.underlying33, Tryz.underlying34, Tryz.underlying35, Tryz.underlying36, Tryz.underlying37, Tryz.underlying38, Tryz.underlying39, Tryz.underlying40, Tryz.underlying41, Tryz.underlying42, Tryz.underlying43, Tryz.underlying44, Tryz.underlying45, Tryz.underlying46, Tryz.underlying47, Tryz.underlying48, Tryz.underlying49, Tryz.underlying50, Tryz.underlying51, Tryz.underlying52, Tryz.underlying53, Tryz.underlying54, Tryz.underlying55, Tryz.underlying56, Tryz.underlying57, Tryz.underlying58, Tryz.underlying59, Tryz.underlying60, Tryz.underlying61, Tryz.underlying62, Tryz.underlying63, Tryz.underlying64, Tryz.underlying65, Tryz.underlying66, Tryz.underlying67, Tryz.underlying68, Tryz.underlying69, Tryz.underlying70, Tryz.underlying71, Tryz.underlying72, Tryz.underlying73, Tryz.underlying74, Tryz.underlying75, Tryz.underlying76, Tryz.underlying77, Tryz.underlying78, Tryz.underlying79, Tryz.underlying80, Tryz.underlying81, Tryz.underlying82, Tryz.underlying83, Tryz.underlying84, Tryz.underlying85, Tryz.underlying86, Tryz.underlying87, Tryz.underlying88, Tryz.underlying89, Tryz.underlying90, Tryz.underlying91, Tryz.underlying92, Tryz.underlying93, Tryz.underlying94, Tryz.underlying95, Tryz.underlying96, Tryz.underlying97, Tryz.underlying98, Tryz.underlying99, Tryz.underlying100, Tryz.underlying101, Tryz.underlying102, Tryz.underlying103, Tryz.underlying104, Tryz.underlying105, Tryz.underlying106, Tryz.underlying107, Tryz.underlying108, Tryz.underlying109, Tryz.underlying110, Tryz.underlying111, Tryz.underlying112, Tryz.underlying113, Tryz.underlying114, Tryz.underlying115, Tryz.underlying116, Tryz.underlying117, Tryz.underlying118, Tryz.underlying119, Tryz.underlying120, Tryz.underlying121, Tryz.underlying122, Tryz.underlying123, Tryz.underlying124, Tryz.underlying125, Tryz.underlying126, Tryz.underlying127, Tryz.underlying128, Tryz.underlying129, Tryz.underlying130, Tryz.underlying131, Tryz.underlying132, Tryz.underlying133, Tryz.underlying134, Tryz.underlying135, Tryz.underlying136, Tryz.underlying137, Tryz.underlying138, Tryz.underlying139, Tryz.underlying140, Tryz.underlying141, Tryz.underlying142, Tryz.underlying143, Tryz.underlying144, Tryz.underlying145, Tryz.underlying146, Tryz.underlying147, Tryz.underlying148, Tryz.underlying149, Tryz.underlying150, Tryz.underlying151, Tryz.underlying152, Tryz.underlying153, Tryz.underlying154, Tryz.underlying155, Tryz.underlying156, Tryz.underlying157, Tryz.underlying158, Tryz.underlying159, Tryz.underlying160, Tryz.underlying161, Tryz.underlying162, Tryz.underlying163, Tryz.underlying164, Tryz.underlying165, Tryz.underlying166, Tryz.underlying167, Tryz.underlying168, Tryz.underlying169, Tryz.underlying170, Tryz.underlying171, Tryz.underlying172, Tryz.underlying173, Tryz.underlying174, Tryz.underlying175, Tryz.underlying176, Tryz.underlying177, Tryz.underlying178, Tryz.underlying179, Tryz.underlying180, Tryz.underlying181, Tryz.underlying182, Tryz.underlying183, Tryz.underlying184, Tryz.underlying185, Tryz.underlying186, Tryz.underlying187, Tryz.underlying188, Tryz.underlying189, Tryz.underlying190, Tryz.underlying191, Tryz.underlying192, Tryz.underlying193, Tryz.underlying194, Tryz.underlying195, Tryz.underlying196, Tryz.underlying197, Tryz.underlying198, Tryz.underlying199, Tryz.underlying200, Tryz.underlying201, Tryz.underlying202, Tryz.underlying203, Tryz.underlying204, Tryz.underlying205, trivial⟩
def infL : List (Nat × Value × Nat × Nat) := [(1, .nilFunc, 1, 8),
  (2, (.int .i64 0), 1, 8),
  (3, (.int .i64 0), 1, 8),
  (4, (.bool false), 1, 1),
  (5, (.int .u8 0), 1, 1),
  (6, (.int .u8 0), 1, 1),
  (7, (.agg ⟨[(.int .i64 0), (.int .i64 0), (.bool false), (.int .u8 0)]⟩), 4, 24),
  (9, (S []), 1, 16),
  (12, (.int .u64 0), 1, 8),
  (13, (.agg ⟨[(S []), (.int .u64 0)]⟩), 2, 24),
  (18, (.agg ⟨[(.pointer none)]⟩), 1, 8),
  (20, .nilIface, 1, 16),
  (21, (.int .i32 0), 1, 4),
  (22, .nilFunc, 1, 8),
  (23, .nilFunc, 1, 8),
  (24, (.slice none 0 0), 1, 24),
  (25, .nilFunc, 1, 8),
  (26, .nilFunc, 1, 8),
  (27, (.slice none 0 0), 1, 24),
  (28, (.slice none 0 0), 1, 24),
  (29, .nilFunc, 1, 8),
  (30, .nilFunc, 1, 8),
  (31, .nilFunc, 1, 8),
  (32, .nilFunc, 1, 8),
  (33, .nilFunc, 1, 8),
  (34, .nilFunc, 1, 8),
  (35, (.int .i64 0), 1, 8),
  (37, .nilFunc, 1, 8),
  (38, .nilFunc, 1, 8),
  (39, .nilFunc, 1, 8),
  (40, (.int .i8 0), 1, 1),
  (41, (.int .i8 0), 1, 1),
  (42, (.agg ⟨[(.slice none 0 0), (.int .i64 0), (.int .i8 0)]⟩), 3, 40),
  (43, (.agg ⟨[(.slice none 0 0), (.int .i64 0), (.int .i8 0)]⟩), 3, 40),
  (44, .nilIface, 1, 16),
  (45, .nilIface, 1, 16),
  (46, .nilFunc, 1, 8),
  (48, .nilFunc, 1, 8),
  (50, .nilFunc, 1, 8),
  (51, .nilFunc, 1, 8),
  (52, .nilFunc, 1, 8),
  (53, (.agg ⟨[(S []), (S []), (.slice none 0 0)]⟩), 3, 56),
  (54, (.agg ⟨[(S []), (S []), (.slice none 0 0)]⟩), 3, 56),
  (56, .nilFunc, 1, 8),
  (57, .nilFunc, 1, 8),
  (58, .nilFunc, 1, 8),
  (59, .nilFunc, 1, 8),
  (60, .nilFunc, 1, 8),
  (61, .nilFunc, 1, 8),
  (62, .nilFunc, 1, 8),
  (63, (.agg ⟨[(S []), (S [])]⟩), 2, 32),
  (64, (.agg ⟨[(S []), (S [])]⟩), 2, 32),
  (65, (.float .f64 0), 1, 8),
  (67, .nilFunc, 1, 8),
  (68, .nilFunc, 1, 8),
  (69, .nilFunc, 1, 8),
  (72, .nilFunc, 1, 8),
  (73, .nilFunc, 1, 8),
  (75, .nilFunc, 1, 8),
  (76, .nilFunc, 1, 8),
  (77, .nilFunc, 1, 8),
  (78, (.map none), 1, 8),
  (80, .nilFunc, 1, 8),
  (81, .nilFunc, 1, 8),
  (83, .nilFunc, 1, 8),
  (85, .nilFunc, 1, 8),
  (86, .nilFunc, 1, 8),
  (87, .nilFunc, 1, 8),
  (88, (.int .u64 0), 1, 8),
  (89, (.agg ⟨[(.int .u8 0), (.int .u8 0), (.int .u8 0), (.int .u8 0), (.int .u8 0), (.int .u8 0), (.int .u8 0), (.int .u8 0), (.int .u8 0), (.int .u8 0), (.int .u8 0), (.int .u8 0), (.int .u8 0), (.int .u8 0), (.int .u8 0), (.int .u8 0), (.int .u8 0), (.int .u8 0), (.int .u8 0), (.int .u8 0)]⟩), 20, 20),
  (90, .nilFunc, 1, 8),
  (92, (.agg ⟨[(.pointer none), (.slice none 0 0)]⟩), 2, 32),
  (93, (.agg ⟨[(.pointer none), (.slice none 0 0)]⟩), 2, 32),
  (94, .nilFunc, 1, 8),
  (95, .nilFunc, 1, 8),
  (96, (.agg ⟨[(S []), (.int .i64 0)]⟩), 2, 24),
  (99, .nilFunc, 1, 8),
  (100, .nilFunc, 1, 8),
  (101, .nilFunc, 1, 8),
  (102, (.int .u64 0), 1, 8),
  (103, .nilFunc, 1, 8),
  (104, .nilFunc, 1, 8),
  (105, (.slice none 0 0), 1, 24),
  (106, (.slice none 0 0), 1, 24),
  (107, (.agg ⟨[(.slice none 0 0), (.int .i64 0)]⟩), 2, 32),
  (108, (.agg ⟨[(.slice none 0 0), (.int .i64 0)]⟩), 2, 32),
  (109, .nilFunc, 1, 8),
  (110, .nilFunc, 1, 8),
  (111, .nilFunc, 1, 8),
  (112, .nilFunc, 1, 8),
  (113, (.slice none 0 0), 1, 24),
  (114, .nilFunc, 1, 8),
  (115, .nilFunc, 1, 8),
  (116, .nilFunc, 1, 8),
  (117, .nilFunc, 1, 8),
  (118, (.agg ⟨[(S []), (.int .i64 0)]⟩), 2, 24),
  (119, (.agg ⟨[(S []), (.int .i64 0)]⟩), 2, 24),
  (121, .nilFunc, 1, 8),
  (122, .nilFunc, 1, 8),
  (123, .nilFunc, 1, 8),
  (124, (.agg ⟨[(.int .u8 0), (.int .u8 0), (.int .u8 0), (.int .u8 0), (.int .u8 0), (.int .u8 0), (.int .u8 0), (.int .u8 0), (.int .u8 0), (.int .u8 0), (.int .u8 0), (.int .u8 0), (.int .u8 0), (.int .u8 0), (.int .u8 0), (.int .u8 0), (.int .u8 0), (.int .u8 0), (.int .u8 0), (.int .u8 0), (.int .u8 0), (.int .u8 0), (.int .u8 0), (.int .u8 0), (.int .u8 0), (.int .u8 0), (.int .u8 0), (.int .u8 0), (.int .u8 0), (.int .u8 0), (.int .u8 0), (.int .u8 0), (.int .u8 0), (.int .u8 0), (.int .u8 0), (.int .u8 0), (.int .u8 0), (.int .u8 0), (.int .u8 0), (.int .u8 0), (.int .u8 0), (.int .u8 0), (.int .u8 0), (.int .u8 0), (.int .u8 0), (.int .u8 0), (.int .u8 0), (.int .u8 0), (.int .u8 0), (.int .u8 0), (.int .u8 0), (.int .u8 0), (.int .u8 0), (.int .u8 0), (.int .u8 0), (.int .u8 0), (.int .u8 0), (.int .u8 0), (.int .u8 0), (.int .u8 0), (.int .u8 0), (.int .u8 0), (.int .u8 0), (.int .u8 0), (.int .u8 0), (.int .u8 0), (.int .u8 0), (.int .u8 0), (.int .u8 0), (.int .u8 0), (.int .u8 0), (.int .u8 0), (.int .u8 0), (.int .u8 0), (.int .u8 0), (.int .u8 0), (.int .u8 0), (.int .u8 0), (.int .u8 0), (.int .u8 0), (.int .u8 0), (.int .u8 0), (.int .u8 0), (.int .u8 0), (.int .u8 0), (.int .u8 0), (.int .u8 0), (.int .u8 0), (.int .u8 0), (.int .u8 0), (.int .u8 0), (.int .u8 0), (.int .u8 0), (.int .u8 0), (.int .u8 0), (.int .u8 0), (.int .u8 0), (.int .u8 0), (.int .u8 0), (.int .u8 0), (.int .u8 0), (.int .u8 0), (.int .u8 0), (.int .u8 0), (.int .u8 0), (.int .u8 0), (.int .u8 0), (.int .u8 0), (.int .u8 0), (.int .u8 0), (.int .u8 0), (.int .u8 0), (.int .u8 0), (.int .u8 0), (.int .u8 0), (.int .u8 0), (.int .u8 0), (.int .u8 0), (.int .u8 0), (.int .u8 0), (.int .u8 0), (.int .u8 0), (.int .u8 0), (.int .u8 0), (.int .u8 0), (.int .u8 0), (.int .u8 0), (.int .u8 0), (.int .u8 0), (.int .u8 0), (.int .u8 0), (.int .u8 0), (.int .u8 0), (.int .u8 0), (.int .u8 0), (.int .u8 0), (.int .u8 0), (.int .u8 0), (.int .u8 0), (.int .u8 0), (.int .u8 0), (.int .u8 0), (.int .u8 0), (.int .u8 0), (.int .u8 0), (.int .u8 0), (.int .u8 0), (.int .u8 0), (.int .u8 0), (.int .u8 0), (.int .u8 0), (.int .u8 0), (.int .u8 0), (.int .u8 0), (.int .u8 0), (.int .u8 0), (.int .u8 0), (.int .u8 0), (.int .u8 0), (.int .u8 0), (.int .u8 0), (.int .u8 0), (.int .u8 0), (.int .u8 0), (.int .u8 0), (.int .u8 0), (.int .u8 0), (.int .u8 0), (.int .u8 0), (.int .u8 0), (.int .u8 0), (.int .u8 0), (.int .u8 0), (.int .u8 0), (.int .u8 0), (.int .u8 0), (.int .u8 0), (.int .u8 0), (.int .u8 0), (.int .u8 0), (.int .u8 0), (.int .u8 0), (.int .u8 0), (.int .u8 0), (.int .u8 0), (.int .u8 0), (.int .u8 0), (.int .u8 0), (.int .u8 0), (.int .u8 0), (.int .u8 0), (.int .u8 0), (.int .u8 0), (.int .u8 0), (.int .u8 0), (.int .u8 0), (.int .u8 0), (.int .u8 0), (.int .u8 0), (.int .u8 0), (.int .u8 0), (.int .u8 0), (.int .u8 0), (.int .u8 0), (.int .u8 0), (.int .u8 0), (.int .u8 0), (.int .u8 0), (.int .u8 0), (.int .u8 0), (.int .u8 0), (.int .u8 0), (.int .u8 0), (.int .u8 0), (.int .u8 0), (.int .u8 0), (.int .u8 0), (.int .u8 0), (.int .u8 0), (.int .u8 0), (.int .u8 0), (.int .u8 0), (.int .u8 0), (.int .u8 0), (.int .u8 0), (.int .u8 0), (.int .u8 0), (.int .u8 0), (.int .u8 0), (.int .u8 0), (.int .u8 0), (.int .u8 0), (.int .u8 0), (.int .u8 0), (.int .u8 0), (.int .u8 0), (.int .u8 0), (.int .u8 0), (.int .u8 0), (.int .u8 0), (.int .u8 0), (.int .u8 0), (.int .u8 0), (.int .u8 0), (.int .u8 0), (.int .u8 0), (.int .u8 0), (.int .u8 0), (.int .u8 0), (.int .u8 0), (.int .u8 0), (.int .u8 0), (.int .u8 0), (.int .u8 0), (.int .u8 0), (.int .u8 0)]⟩), 256, 256),
  (125, (.agg ⟨[(.int .u8 0), (.int .u8 0)]⟩), 2, 2),
  (126, (.agg ⟨[(.int .u8 0), (.int .u8 0)]⟩), 2, 2),
  (127, (.agg ⟨[(.int .u8 0), (.int .u8 0), (.int .u8 0), (.int .u8 0), (.int .u8 0), (.int .u8 0), (.int .u8 0), (.int .u8 0), (.int .u8 0), (.int .u8 0), (.int .u8 0), (.int .u8 0), (.int .u8 0), (.int .u8 0), (.int .u8 0), (.int .u8 0), (.int .u8 0), (.int .u8 0), (.int .u8 0), (.int .u8 0), (.int .u8 0), (.int .u8 0), (.int .u8 0), (.int .u8 0), (.int .u8 0), (.int .u8 0), (.int .u8 0), (.int .u8 0), (.int .u8 0), (.int .u8 0), (.int .u8 0), (.int .u8 0)]⟩), 32, 32),
  (128, .nilFunc, 1, 8),
  (129, .nilFunc, 1, 8),
  (131, .nilFunc, 1, 8),
  (132, .nilFunc, 1, 8),
  (133, .nilFunc, 1, 8),
  (134, .nilFunc, 1, 8),
  (135, (.agg ⟨[(.bool false), (.bool false), (.bool false), (.bool false), (.bool false), (.bool false), (.bool false), (.bool false), (.bool false), (.bool false), (.bool false), (.bool false), (.bool false), (.bool false), (.bool false), (.bool false), (.bool false), (.bool false), (.bool false), (.bool false), (.bool false), (.bool false), (.bool false), (.bool false), (.bool false), (.bool false), (.bool false), (.bool false), (.bool false), (.bool false), (.bool false), (.bool false), (.bool false), (.bool false), (.bool false), (.bool false), (.bool false), (.bool false), (.bool false), (.bool false), (.bool false), (.bool false), (.bool false), (.bool false), (.bool false), (.bool false), (.bool false), (.bool false), (.bool false), (.bool false), (.bool false), (.bool false), (.bool false), (.bool false), (.bool false), (.bool false), (.bool false), (.bool false), (.bool false), (.bool false), (.bool false), (.bool false), (.bool false), (.bool false), (.bool false), (.bool false), (.bool false), (.bool false), (.bool false), (.bool false), (.bool false), (.bool false), (.bool false), (.bool false), (.bool false), (.bool false), (.bool false), (.bool false), (.bool false), (.bool false), (.bool false), (.bool false), (.bool false), (.bool false), (.bool false), (.bool false), (.bool false), (.bool false), (.bool false), (.bool false), (.bool false), (.bool false), (.bool false), (.bool false), (.bool false), (.bool false), (.bool false), (.bool false), (.bool false), (.bool false), (.bool false), (.bool false), (.bool false), (.bool false), (.bool false), (.bool false), (.bool false), (.bool false), (.bool false), (.bool false), (.bool false), (.bool false), (.bool false), (.bool false), (.bool false), (.bool false), (.bool false), (.bool false), (.bool false), (.bool false), (.bool false), (.bool false), (.bool false), (.bool false), (.bool false), (.bool false), (.bool false), (.bool false), (.bool false), (.bool false), (.bool false), (.bool false), (.bool false), (.bool false), (.bool false), (.bool false), (.bool false), (.bool false), (.bool false), (.bool false), (.bool false), (.bool false), (.bool false), (.bool false), (.bool false), (.bool false), (.bool false), (.bool false), (.bool false), (.bool false), (.bool false), (.bool false), (.bool false), (.bool false), (.bool false), (.bool false), (.bool false), (.bool false), (.bool false), (.bool false), (.bool false), (.bool false), (.bool false), (.bool false), (.bool false), (.bool false), (.bool false), (.bool false), (.bool false), (.bool false), (.bool false), (.bool false), (.bool false), (.bool false), (.bool false), (.bool false), (.bool false), (.bool false), (.bool false), (.bool false), (.bool false), (.bool false), (.bool false), (.bool false), (.bool false), (.bool false), (.bool false), (.bool false), (.bool false), (.bool false), (.bool false), (.bool false), (.bool false), (.bool false), (.bool false), (.bool false), (.bool false), (.bool false), (.bool false), (.bool false), (.bool false), (.bool false), (.bool false), (.bool false), (.bool false), (.bool false), (.bool false), (.bool false), (.bool false), (.bool false), (.bool false), (.bool false), (.bool false), (.bool false), (.bool false), (.bool false), (.bool false), (.bool false), (.bool false), (.bool false), (.bool false), (.bool false), (.bool false), (.bool false), (.bool false), (.bool false), (.bool false), (.bool false), (.bool false), (.bool false), (.bool false), (.bool false), (.bool false), (.bool false), (.bool false), (.bool false), (.bool false), (.bool false), (.bool false), (.bool false), (.bool false), (.bool false), (.bool false), (.bool false), (.bool false), (.bool false), (.bool false), (.bool false), (.bool false), (.bool false), (.bool false), (.bool false), (.bool false), (.bool false), (.bool false), (.bool false)]⟩), 256, 256),
  (136, (.agg ⟨[(.bool false), (.bool false), (.bool false), (.bool false), (.bool false), (.bool false), (.bool false), (.bool false), (.bool false), (.bool false), (.bool false), (.bool false), (.bool false), (.bool false), (.bool false), (.bool false), (.bool false), (.bool false), (.bool false), (.bool false), (.bool false), (.bool false), (.bool false), (.bool false), (.bool false), (.bool false), (.bool false), (.bool false), (.bool false), (.bool false), (.bool false), (.bool false), (.bool false), (.bool false), (.bool false), (.bool false), (.bool false), (.bool false), (.bool false), (.bool false), (.bool false), (.bool false), (.bool false), (.bool false), (.bool false), (.bool false), (.bool false), (.bool false), (.bool false), (.bool false), (.bool false), (.bool false), (.bool false), (.bool false), (.bool false), (.bool false), (.bool false), (.bool false), (.bool false), (.bool false), (.bool false), (.bool false), (.bool false), (.bool false), (.bool false), (.bool false), (.bool false), (.bool false), (.bool false), (.bool false), (.bool false), (.bool false), (.bool false), (.bool false), (.bool false), (.bool false), (.bool false), (.bool false), (.bool false), (.bool false), (.bool false), (.bool false), (.bool false), (.bool false), (.bool false), (.bool false), (.bool false), (.bool false), (.bool false), (.bool false), (.bool false), (.bool false), (.bool false), (.bool false), (.bool false), (.bool false), (.bool false), (.bool false), (.bool false), (.bool false), (.bool false), (.bool false), (.bool false), (.bool false), (.bool false), (.bool false), (.bool false), (.bool false), (.bool false), (.bool false), (.bool false), (.bool false), (.bool false), (.bool false), (.bool false), (.bool false), (.bool false), (.bool false), (.bool false), (.bool false), (.bool false), (.bool false), (.bool false), (.bool false), (.bool false), (.bool false), (.bool false), (.bool false), (.bool false), (.bool false), (.bool false), (.bool false), (.bool false), (.bool false), (.bool false), (.bool false), (.bool false), (.bool false), (.bool false), (.bool false), (.bool false), (.bool false), (.bool false), (.bool false), (.bool false), (.bool false), (.bool false), (.bool false), (.bool false), (.bool false), (.bool false), (.bool false), (.bool false), (.bool false), (.bool false), (.bool false), (.bool false), (.bool false), (.bool false), (.bool false), (.bool false), (.bool false), (.bool false), (.bool false), (.bool false), (.bool false), (.bool false), (.bool false), (.bool false), (.bool false), (.bool false), (.bool false), (.bool false), (.bool false), (.bool false), (.bool false), (.bool false), (.bool false), (.bool false), (.bool false), (.bool false), (.bool false), (.bool false), (.bool false), (.bool false), (.bool false), (.bool false), (.bool false), (.bool false), (.bool false), (.bool false), (.bool false), (.bool false), (.bool false), (.bool false), (.bool false), (.bool false), (.bool false), (.bool false), (.bool false), (.bool false), (.bool false), (.bool false), (.bool false), (.bool false), (.bool false), (.bool false), (.bool false), (.bool false), (.bool false), (.bool false), (.bool false), (.bool false), (.bool false), (.bool false), (.bool false), (.bool false), (.bool false), (.bool false), (.bool false), (.bool false), (.bool false), (.bool false), (.bool false), (.bool false), (.bool false), (.bool false), (.bool false), (.bool false), (.bool false), (.bool false), (.bool false), (.bool false), (.bool false), (.bool false), (.bool false), (.bool false), (.bool false), (.bool false), (.bool false), (.bool false), (.bool false), (.bool false), (.bool false), (.bool false), (.bool false), (.bool false), (.bool false), (.bool false), (.bool false), (.bool false), (.bool false), (.bool false), (.bool false), (.bool false), (.bool false)]⟩), 256, 256),
  (138, .nilFunc, 1, 8),
  (139, .nilFunc, 1, 8),
  (141, (.pointer none), 1, 8),
  (142, (.slice none 0 0), 1, 24),
  (144, .nilFunc, 1, 8),
  (145, (.int .u32 0), 1, 4),
  (146, .nilFunc, 1, 8),
  (147, .nilFunc, 1, 8),
  (148, .nilFunc, 1, 8),
  (149, .nilFunc, 1, 8),
  (150, .nilFunc, 1, 8),
  (152, .nilFunc, 1, 8),
  (153, .nilFunc, 1, 8),
  (154, .nilFunc, 1, 8),
  (155, (.agg ⟨[(S []), (S []), (S []), (S []), (S []), (S []), (S [])]⟩), 7, 112),
  (156, (.agg ⟨[(.int .i64 0), (.int .i64 0), (.int .i64 0), (.int .i64 0), (.int .i64 0), (.int .i64 0), (.int .i64 0)]⟩), 7, 56),
  (157, .nilFunc, 1, 8),
  (158, .nilFunc, 1, 8),
  (159, .nilFunc, 1, 8),
  (160, .nilFunc, 1, 8),
  (161, .nilFunc, 1, 8),
  (162, .nilFunc, 1, 8),
  (163, .nilFunc, 1, 8),
  (164, (.pointer none), 1, 8),
  (165, .nilFunc, 1, 8),
  (166, .nilFunc, 1, 8),
  (167, .nilFunc, 1, 8),
  (168, .nilFunc, 1, 8),
  (169, .nilFunc, 1, 8),
  (170, .nilFunc, 1, 8),
  (171, .nilFunc, 1, 8),
  (172, .nilFunc, 1, 8),
  (173, .nilFunc, 1, 8),
  (174, .nilFunc, 1, 8),
  (175, .nilFunc, 1, 8),
  (176, .nilFunc, 1, 8),
  (178, .nilFunc, 1, 8),
  (179, .nilFunc, 1, 8),
  (181, .nilFunc, 1, 8),
  (182, (.slice none 0 0), 1, 24),
  (183, (.pointer none), 1, 8),
  (184, .nilFunc, 1, 8),
  (185, .nilFunc, 1, 8),
  (186, (.agg ⟨[(.int .i32 0), (.int .i32 0), (.int .i32 0)]⟩), 3, 12),
  (187, (.agg ⟨[(.int .i32 0), (.int .i32 0), (.int .i32 0)]⟩), 3, 12),
  (188, (.agg ⟨[(.int .u32 0), (.int .u32 0), (.int .i32 0), (.int .i32 0), (.int .i32 0)]⟩), 5, 20),
  (189, (.agg ⟨[(.int .u32 0), (.int .u32 0), (.int .i32 0), (.int .i32 0), (.int .i32 0)]⟩), 5, 20),
  (191, (.agg ⟨[(.pointer none), (.pointer none), (.pointer none), (S [])]⟩), 4, 40),
  (192, (.agg ⟨[(.pointer none), (.pointer none), (.pointer none), (S [])]⟩), 4, 40),
  (193, (.agg ⟨[]⟩), 0, 0),
  (194, (.agg ⟨[]⟩), 0, 0),
  (195, (.agg ⟨[]⟩), 0, 0),
  (196, (.int .u8 0), 1, 1),
  (198, .nilFunc, 1, 8),
  (199, (.int .i32 0), 1, 4),
  (200, (.int .i32 0), 1, 4),
  (201, (.agg ⟨[(.int .u64 0), (.int .u64 0), (.int .u32 0), (.int .u8 0), (.int .u8 0), (.int .u8 0), (.int .u8 0), .nilFunc, (.pointer none), (.int .i32 0), (.int .i32 0)]⟩), 11, 48),
  (202, (.agg ⟨[(.int .u64 0), (.int .u64 0), (.int .u32 0), (.int .u8 0), (.int .u8 0), (.int .u8 0), (.int .u8 0), .nilFunc, (.pointer none), (.int .i32 0), (.int .i32 0)]⟩), 11, 48),
  (203, (.agg ⟨[(S [])]⟩), 1, 16),
  (204, (.agg ⟨[(S [])]⟩), 1, 16),
  (205, .nilFunc, 1, 8)]
theorem infL_ok : AllI Tryz.prog infL := by
  refine ⟨?_, ?_, ?_, ?_, ?_, ?_, ?_, ?_, ?_, ?_, ?_, ?_, ?_, ?_, ?_, ?_, ?_, ?_, ?_, ?_, ?_, ?_, ?_, ?_, ?_, ?_, ?_, ?_, ?_, ?_, ?_, ?_, ?_, ?_, ?_, ?_, ?_, ?_, ?_, ?_, ?_, ?_, ?_, ?_, ?_, ?_, ?_, ?_, ?_, ?_, ?_, ?_, ?_, ?_, ?_, ?_, ?_, ?_, ?_, ?_, ?_, ?_, ?_, ?_, ?_, ?_, ?_, ?_, ?_, ?_, ?_, ?_, ?_, ?_, ?_, ?_, ?_, ?_, ?_, ?_, ?_, ?_, ?_, ?_, ?_, ?_, ?_, ?_, ?_, ?_, ?_, ?_, ?_, ?_, ?_, ?_, ?_, ?_, ?_, ?_, ?_, ?_, ?_, ?_, ?_, ?_, ?_, ?_, ?_, ?_, ?_, ?_, ?_, ?_, ?_, ?_, ?_, ?_, ?_, ?_, ?_, ?_, ?_, ?_, ?_, ?_, ?_, ?_, ?_, ?_, ?_, ?_, ?_, ?_, ?_, ?_, ?_, ?_, ?_, ?_, ?_, ?_, ?_, ?_, ?_, ?_, ?_, ?_, ?_, ?_, ?_, ?_, ?_, ?_, ?_, ?_, ?_, ?_, ?_, ?_, ?_, ?_, ?_, ?_, ?_, ?_, ?_, ?_, ?_, ?_, ?_, ?_, ?_, trivial⟩ <;> kernel_rfl
def tb : Tb Tryz.prog := Tb.mk' tyL infL tyL_ok infL_ok
theorem c2 : Callable Tryz.prog 2 := ⟨_, Tryz.func2, rfl, rfl⟩
theorem c3 : Callable Tryz.prog 3 := ⟨_, Tryz.func3, rfl, rfl⟩
theorem c4 : Callable Tryz.prog 4 := ⟨_, Tryz.func4, rfl, rfl⟩
theorem c5 : Callable Tryz.prog 5 := ⟨_, Tryz.func5, rfl, rfl⟩
theorem c6 : Callable Tryz.prog 6 := ⟨_, Tryz.func6, rfl, rfl⟩
theorem c7 : Callable Tryz.prog 7 := ⟨_, Tryz.func7, rfl, rfl⟩
theorem c8 : Callable Tryz.prog 8 := ⟨_, Tryz.func8, rfl, rfl⟩
theorem c9 : Callable Tryz.prog 9 := ⟨_, Tryz.func9, rfl, rfl⟩
theorem c10 : Callable Tryz.prog 10 := ⟨_, Tryz.func10, rfl, rfl⟩
theorem c11 : Callable Tryz.prog 11 := ⟨_, Tryz.func11, rfl, rfl⟩
theorem c12 : Callable Tryz.prog 12 := ⟨_, Tryz.func12, rfl, rfl⟩
theorem c13 : Callable Tryz.prog 13 := ⟨_, Tryz.func13, rfl, rfl⟩
theorem c14 : Callable Tryz.prog 14 := ⟨_, Tryz.func14, rfl, rfl⟩
theorem c15 : Callable Tryz.prog 15 := ⟨_, Tryz.func15, rfl, rfl⟩
theorem c16 : Callable Tryz.prog 16 := ⟨_, Tryz.func16, rfl, rfl⟩
theorem c17 : Callable Tryz.prog 17 := ⟨_, Tryz.func17, rfl, rfl⟩
theorem c18 : Callable Tryz.prog 18 := ⟨_, Tryz.func18, rfl, rfl⟩
theorem c19 : Callable Tryz.prog 19 := ⟨_, Tryz.func19, rfl, rfl⟩
theorem c20 : Callable Tryz.prog 20 := ⟨_, Tryz.func20, rfl, rfl⟩
theorem c21 : Callable Tryz.prog 21 := ⟨_, Tryz.func21, rfl, rfl⟩
theorem c22 : Callable Tryz.prog 22 := ⟨_, Tryz.func22, rfl, rfl⟩
theorem c23 : Callable Tryz.prog 23 := ⟨_, Tryz.func23, rfl, rfl⟩
theorem c24 : Callable Tryz.prog 24 := ⟨_, Tryz.func24, rfl, rfl⟩
theorem c25 : Callable Tryz.prog 25 := ⟨_, Tryz.func25, rfl, rfl⟩
theorem c26 : Callable Tryz.prog 26 := ⟨_, Tryz.func26, rfl, rfl⟩
theorem c27 : Callable Tryz.prog 27 := ⟨_, Tryz.func27, rfl, rfl⟩
theorem c28 : Callable Tryz.prog 28 := ⟨_, Tryz.func28, rfl, rfl⟩
theorem c29 : Callable Tryz.prog 29 := ⟨_, Tryz.func29, rfl, rfl⟩
theorem c30 : Callable Tryz.prog 30 := ⟨_, Tryz.func30, rfl, rfl⟩
theorem c31 : Callable Tryz.prog 31 := ⟨_, Tryz.func31, rfl, rfl⟩
theorem c32 : Callable Tryz.prog 32 := ⟨_, Tryz.func32, rfl, rfl⟩
theorem c33 : Callable Tryz.prog 33 := ⟨_, Tryz.func33, rfl, rfl⟩
theorem c34 : Callable Tryz.prog 34 := ⟨_, Tryz.func34, rfl, rfl⟩
theorem c35 : Callable Tryz.prog 35 := ⟨_, Tryz.func35, rfl, rfl⟩
theorem c36 : Callable Tryz.prog 36 := ⟨_, Tryz.func36, rfl, rfl⟩
theorem c37 : Callable Tryz.prog 37 := ⟨_, Tryz.func37, rfl, rfl⟩
theorem c38 : Callable Tryz.prog 38 := ⟨_, Tryz.func38, rfl, rfl⟩
theorem c39 : Callable Tryz.prog 39 := ⟨_, Tryz.func39, rfl, rfl⟩
theorem c40 : Callable Tryz.prog 40 := ⟨_, Tryz.func40, rfl, rfl⟩
theorem c41 : Callable Tryz.prog 41 := ⟨_, Tryz.func41, rfl, rfl⟩
theorem c42 : Callable Tryz.prog 42 := ⟨_, Tryz.func42, rfl, rfl⟩
theorem c43 : Callable Tryz.prog 43 := ⟨_, Tryz.func43, rfl, rfl⟩
theorem c44 : Callable Tryz.prog 44 := ⟨_, Tryz.func44, rfl, rfl⟩
theorem c45 : Callable Tryz.prog 45 := ⟨_, Tryz.func45, rfl, rfl⟩
theorem c46 : Callable Tryz.prog 46 := ⟨_, Tryz.func46, rfl, rfl⟩
theorem c47 : Callable Tryz.prog 47 := ⟨_, Tryz.func47, rfl, rfl⟩
theorem c48 : Callable Tryz.prog 48 := ⟨_, Tryz.func48, rfl, rfl⟩
theorem c49 : Callable Tryz.prog 49 := ⟨_, Tryz.func49, rfl, rfl⟩
theorem c50 : Callable Tryz.prog 50 := ⟨_, Tryz.func50, rfl, rfl⟩
theorem c51 : Callable Tryz.prog 51 := ⟨_, Tryz.func51, rfl, rfl⟩
theorem c52 : Callable Tryz.prog 52 := ⟨_, Tryz.func52, rfl, rfl⟩
theorem c53 : Callable Tryz.prog 53 := ⟨_, Tryz.func53, rfl, rfl⟩
theorem c54 : Callable Tryz.prog 54 := ⟨_, Tryz.func54, rfl, rfl⟩
theorem c55 : Callable Tryz.prog 55 := ⟨_, Tryz.func55, rfl, rfl⟩
theorem c56 : Callable Tryz.prog 56 := ⟨_, Tryz.func56, rfl, rfl⟩
theorem c57 : Callable Tryz.prog 57 := ⟨_, Tryz.func57, rfl, rfl⟩
theorem c58 : Callable Tryz.prog 58 := ⟨_, Tryz.func58, rfl, rfl⟩
theorem c59 : Callable Tryz.prog 59 := ⟨_, Tryz.func59, rfl, rfl⟩
theorem c60 : Callable Tryz.prog 60 := ⟨_, Tryz.func60, rfl, rfl⟩
theorem c61 : Callable Tryz.prog 61 := ⟨_, Tryz.func61, rfl, rfl⟩
theorem c62 : Callable Tryz.prog 62 := ⟨_, Tryz.func62, rfl, rfl⟩
theorem c63 : Callable Tryz.prog 63 := ⟨_, Tryz.func63, rfl, rfl⟩
theorem c64 : Callable Tryz.prog 64 := ⟨_, Tryz.func64, rfl, rfl⟩
theorem c65 : Callable Tryz.prog 65 := ⟨_, Tryz.func65, rfl, rfl⟩
theorem c66 : Callable Tryz.prog 66 := ⟨_, Tryz.func66, rfl, rfl⟩
theorem c68 : Callable Tryz.prog 68 := ⟨_, Tryz.func68, rfl, rfl⟩
theorem c69 : Callable Tryz.prog 69 := ⟨_, Tryz.func69, rfl, rfl⟩
theorem c71 : Callable Tryz.prog 71 := ⟨_, Tryz.func71, rfl, rfl⟩
theorem c72 : Callable Tryz.prog 72 := ⟨_, Tryz.func72, rfl, rfl⟩
theorem c73 : Callable Tryz.prog 73 := ⟨_, Tryz.func73, rfl, rfl⟩
theorem c74 : Callable Tryz.prog 74 := ⟨_, Tryz.func74, rfl, rfl⟩
theorem c75 : Callable Tryz.prog 75 := ⟨_, Tryz.func75, rfl, rfl⟩
theorem c76 : Callable Tryz.prog 76 := ⟨_, Tryz.func76, rfl, rfl⟩
theorem c77 : Callable Tryz.prog 77 := ⟨_, Tryz.func77, rfl, rfl⟩
theorem c78 : Callable Tryz.prog 78 := ⟨_, Tryz.func78, rfl, rfl⟩
theorem c79 : Callable Tryz.prog 79 := ⟨_, Tryz.func79, rfl, rfl⟩
theorem c80 : Callable Tryz.prog 80 := ⟨_, Tryz.func80, rfl, rfl⟩
theorem c81 : Callable Tryz.prog 81 := ⟨_, Tryz.func81, rfl, rfl⟩
theorem c82 : Callable Tryz.prog 82 := ⟨_, Tryz.func82, rfl, rfl⟩
theorem c83 : Callable Tryz.prog 83 := ⟨_, Tryz.func83, rfl, rfl⟩
theorem c84 : Callable Tryz.prog 84 := ⟨_, Tryz.func84, rfl, rfl⟩
theorem c85 : Callable Tryz.prog 85 := ⟨_, Tryz.func85, rfl, rfl⟩
theorem c86 : Callable Tryz.prog 86 := ⟨_, Tryz.func86, rfl, rfl⟩
theorem c87 : Callable Tryz.prog 87 := ⟨_, Tryz.func87, rfl, rfl⟩
theorem c88 : Callable Tryz.prog 88 := ⟨_, Tryz.func88, rfl, rfl⟩
theorem c89 : Callable Tryz.prog 89 := ⟨_, Tryz.func89, rfl, rfl⟩
theorem c90 : Callable Tryz.prog 90 := ⟨_, Tryz.func90, rfl, rfl⟩
theorem c91 : Callable Tryz.prog 91 := ⟨_, Tryz.func91, rfl, rfl⟩
theorem c92 : Callable Tryz.prog 92 := ⟨_, Tryz.func92, rfl, rfl⟩
theorem c93 : Callable Tryz.prog 93 := ⟨_, Tryz.func93, rfl, rfl⟩
theorem c94 : Callable Tryz.prog 94 := ⟨_, Tryz.func94, rfl, rfl⟩
theorem c95 : Callable Tryz.prog 95 := ⟨_, Tryz.func95, rfl, rfl⟩
theorem c96 : Callable Tryz.prog 96 := ⟨_, Tryz.func96, rfl, rfl⟩
theorem c97 : Callable Tryz.prog 97 := ⟨_, Tryz.func97, rfl, rfl⟩
theorem c98 : Callable Tryz.prog 98 := ⟨_, Tryz.func98, rfl, rfl⟩
theorem c99 : Callable Tryz.prog 99 := ⟨_, Tryz.func99, rfl, rfl⟩
theorem c100 : Callable Tryz.prog 100 := ⟨_, Tryz.func100, rfl, rfl⟩
theorem c101 : Callable Tryz.prog 101 := ⟨_, Tryz.func101, rfl, rfl⟩
theorem c102 : Callable Tryz.prog 102 := ⟨_, Tryz.func102, rfl, rfl⟩
theorem c103 : Callable Tryz.prog 103 := ⟨_, Tryz.func103, rfl, rfl⟩
theorem c104 : Callable Tryz.prog 104 := ⟨_, Tryz.func104, rfl, rfl⟩
theorem c105 : Callable Tryz.prog 105 := ⟨_, Tryz.func105, rfl, rfl⟩
theorem c106 : Callable Tryz.prog 106 := ⟨_, Tryz.func106, rfl, rfl⟩
theorem c107 : Callable Tryz.prog 107 := ⟨_, Tryz.func107, rfl, rfl⟩
theorem c108 : Callable Tryz.prog 108 := ⟨_, Tryz.func108, rfl, rfl⟩
theorem c109 : Callable Tryz.prog 109 := ⟨_, Tryz.func109, rfl, rfl⟩
theorem c110 : Callable Tryz.prog 110 := ⟨_, Tryz.func110, rfl, rfl⟩
theorem c111 : Callable Tryz.prog 111 := ⟨_, Tryz.func111, rfl, rfl⟩
theorem c112 : Callable Tryz.prog 112 := ⟨_, Tryz.func112, rfl, rfl⟩
theorem c113 : Callable Tryz.prog 113 := ⟨_, Tryz.func113, rfl, rfl⟩
theorem c114 : Callable Tryz.prog 114 := ⟨_, Tryz.func114, rfl, rfl⟩
theorem c115 : Callable Tryz.prog 115 := ⟨_, Tryz.func115, rfl, rfl⟩
theorem c116 : Callable Tryz.prog 116 := ⟨_, Tryz.func116, rfl, rfl⟩
theorem c117 : Callable Tryz.prog 117 := ⟨_, Tryz.func117, rfl, rfl⟩
theorem c118 : Callable Tryz.prog 118 := ⟨_, Tryz.func118, rfl, rfl⟩
theorem c119 : Callable Tryz.prog 119 := ⟨_, Tryz.func119, rfl, rfl⟩
theorem c120 : Callable Tryz.prog 120 := ⟨_, Tryz.func120, rfl, rfl⟩
theorem c121 : Callable Tryz.prog 121 := ⟨_, Tryz.func121, rfl, rfl⟩
theorem c122 : Callable Tryz.prog 122 := ⟨_, Tryz.func122, rfl, rfl⟩
theorem c123 : Callable Tryz.prog 123 := ⟨_, Tryz.func123, rfl, rfl⟩
theorem c124 : Callable Tryz.prog 124 := ⟨_, Tryz.func124, rfl, rfl⟩
theorem c125 : Callable Tryz.prog 125 := ⟨_, Tryz.func125, rfl, rfl⟩
theorem c126 : Callable Tryz.prog 126 := ⟨_, Tryz.func126, rfl, rfl⟩
theorem c127 : Callable Tryz.prog 127 := ⟨_, Tryz.func127, rfl, rfl⟩
theorem c128 : Callable Tryz.prog 128 := ⟨_, Tryz.func128, rfl, rfl⟩
theorem c129 : Callable Tryz.prog 129 := ⟨_, Tryz.func129, rfl, rfl⟩
theorem c130 : Callable Tryz.prog 130 := ⟨_, Tryz.func130, rfl, rfl⟩
theorem c131 : Callable Tryz.prog 131 := ⟨_, Tryz.func131, rfl, rfl⟩
theorem c132 : Callable Tryz.prog 132 := ⟨_, Tryz.func132, rfl, rfl⟩
theorem c133 : Callable Tryz.prog 133 := ⟨_, Tryz.func133, rfl, rfl⟩
theorem c134 : Callable Tryz.prog 134 := ⟨_, Tryz.func134, rfl, rfl⟩
theorem c135 : Callable Tryz.prog 135 := ⟨_, Tryz.func135, rfl, rfl⟩
theorem c136 : Callable Tryz.prog 136 := ⟨_, Tryz.func136, rfl, rfl⟩
theorem c137 : Callable Tryz.prog 137 := ⟨_, Tryz.func137, rfl, rfl⟩
theorem c140 : Callable Tryz.prog 140 := ⟨_, Tryz.func140, rfl, rfl⟩
theorem c141 : Callable Tryz.prog 141 := ⟨_, Tryz.func141, rfl, rfl⟩
theorem c142 : Callable Tryz.prog 142 := ⟨_, Tryz.func142, rfl, rfl⟩
theorem c143 : Callable Tryz.prog 143 := ⟨_, Tryz.func143, rfl, rfl⟩
theorem c144 : Callable Tryz.prog 144 := ⟨_, Tryz.func144, rfl, rfl⟩
theorem c145 : Callable Tryz.prog 145 := ⟨_, Tryz.func145, rfl, rfl⟩
theorem c146 : Callable Tryz.prog 146 := ⟨_, Tryz.func146, rfl, rfl⟩
theorem c148 : Callable Tryz.prog 148 := ⟨_, Tryz.func148, rfl, rfl⟩
theorem c149 : Callable Tryz.prog 149 := ⟨_, Tryz.func149, rfl, rfl⟩
theorem c150 : Callable Tryz.prog 150 := ⟨_, Tryz.func150, rfl, rfl⟩
theorem c152 : Callable Tryz.prog 152 := ⟨_, Tryz.func152, rfl, rfl⟩
theorem c153 : Callable Tryz.prog 153 := ⟨_, Tryz.func153, rfl, rfl⟩
theorem c154 : Callable Tryz.prog 154 := ⟨_, Tryz.func154, rfl, rfl⟩
theorem c155 : Callable Tryz.prog 155 := ⟨_, Tryz.func155, rfl, rfl⟩
theorem c156 : Callable Tryz.prog 156 := ⟨_, Tryz.func156, rfl, rfl⟩
theorem c157 : Callable Tryz.prog 157 := ⟨_, Tryz.func157, rfl, rfl⟩
theorem c158 : Callable Tryz.prog 158 := ⟨_, Tryz.func158, rfl, rfl⟩
theorem c160 : Callable Tryz.prog 160 := ⟨_, Tryz.func160, rfl, rfl⟩
theorem c161 : Callable Tryz.prog 161 := ⟨_, Tryz.func161, rfl, rfl⟩
theorem c162 : Callable Tryz.prog 162 := ⟨_, Tryz.func162, rfl, rfl⟩
theorem c163 : Callable Tryz.prog 163 := ⟨_, Tryz.func163, rfl, rfl⟩
theorem c164 : Callable Tryz.prog 164 := ⟨_, Tryz.func164, rfl, rfl⟩
theorem c165 : Callable Tryz.prog 165 := ⟨_, Tryz.func165, rfl, rfl⟩
theorem c166 : Callable Tryz.prog 166 := ⟨_, Tryz.func166, rfl, rfl⟩
theorem c167 : Callable Tryz.prog 167 := ⟨_, Tryz.func167, rfl, rfl⟩
theorem c186 : Callable Tryz.prog 186 := ⟨_, Tryz.func186, rfl, rfl⟩
theorem c193 : Callable Tryz.prog 193 := ⟨_, Tryz.func193, rfl, rfl⟩
theorem mixed : Tryz.prog.follows .mixedOrders = true := by kernel_rfl
end Go.Proofs.YtlaingmhdgpkdaaGreatDoor
