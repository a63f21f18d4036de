/- The table of the types of this seat, printed by wip/tb.py out of the translation. -/
import Derived.Test.YtbpkhgehchelhaaDoorProg
import Derived.Test.YtbpkhgehchelhaaDoorGV1
import Derived.Test.YtbpkhgehchelhaaDoorGV2
import Derived.KernelRfl
namespace Go.Proofs.YtbpkhgehchelhaaDoor
open Go Go.Vg
def tyL : List (Nat × TypeDesc) := [(0, (TypeDesc.tuple #[])),
  (1, (TypeDesc.func #[] #[] false)),
  (2, (TypeDesc.int IntKind.i64)),
  (3, (TypeDesc.int IntKind.i64)),
  (4, TypeDesc.bool),
  (5, (TypeDesc.int IntKind.u8)),
  (6, (TypeDesc.int IntKind.u8)),
  (7, (TypeDesc.struct #[{ name := "x", type := 2, offset := 0, embedded := false, tag := "", pkgPath := "runtime", byteOffset := 0 }, { name := "y", type := 3, offset := 1, embedded := false, tag := "", pkgPath := "runtime", byteOffset := 8 }, { name := "signed", type := 4, offset := 2, embedded := false, tag := "", pkgPath := "runtime", byteOffset := 16 }, { name := "code", type := 6, offset := 3, embedded := false, tag := "", pkgPath := "runtime", byteOffset := 17 }])),
  (8, (TypeDesc.struct #[{ name := "x", type := 2, offset := 0, embedded := false, tag := "", pkgPath := "runtime", byteOffset := 0 }, { name := "y", type := 3, offset := 1, embedded := false, tag := "", pkgPath := "runtime", byteOffset := 8 }, { name := "signed", type := 4, offset := 2, embedded := false, tag := "", pkgPath := "runtime", byteOffset := 16 }, { name := "code", type := 6, offset := 3, embedded := false, tag := "", pkgPath := "runtime", byteOffset := 17 }])),
  (9, TypeDesc.string),
  (10, TypeDesc.string),
  (11, TypeDesc.string),
  (12, (TypeDesc.int IntKind.u64)),
  (13, (TypeDesc.struct #[{ name := "msg", type := 9, offset := 0, embedded := false, tag := "", pkgPath := "runtime", byteOffset := 0 }, { name := "addr", type := 12, offset := 1, embedded := false, tag := "", pkgPath := "runtime", byteOffset := 16 }])),
  (14, (TypeDesc.struct #[{ name := "msg", type := 9, offset := 0, embedded := false, tag := "", pkgPath := "runtime", byteOffset := 0 }, { name := "addr", type := 12, offset := 1, embedded := false, tag := "", pkgPath := "runtime", byteOffset := 16 }])),
  (15, (TypeDesc.pointer 164)),
  (16, (TypeDesc.pointer 167)),
  (17, (TypeDesc.pointer 175)),
  (18, (TypeDesc.struct #[{ name := "typ", type := 17, offset := 0, embedded := false, tag := "", pkgPath := "internal/runtime/maps", byteOffset := 0 }])),
  (19, (TypeDesc.struct #[{ name := "typ", type := 17, offset := 0, embedded := false, tag := "", pkgPath := "internal/runtime/maps", byteOffset := 0 }])),
  (20, (TypeDesc.interface #[])),
  (21, (TypeDesc.int IntKind.i32)),
  (22, (TypeDesc.slice 9)),
  (23, (TypeDesc.pointer 77)),
  (24, (TypeDesc.int IntKind.i64)),
  (25, (TypeDesc.tuple #[23, 3, 24])),
  (26, (TypeDesc.func #[9] #[23, 3, 24] false)),
  (27, (TypeDesc.pointer 56)),
  (28, (TypeDesc.tuple #[27, 3, 24])),
  (29, (TypeDesc.func #[9] #[27, 3, 24] false)),
  (30, (TypeDesc.func #[] #[4] false)),
  (31, (TypeDesc.func #[22] #[22] false)),
  (32, (TypeDesc.slice 3)),
  (33, (TypeDesc.tuple #[32, 4])),
  (34, (TypeDesc.func #[9] #[32, 4] false)),
  (35, (TypeDesc.func #[32, 32] #[4] false)),
  (36, (TypeDesc.func #[9] #[4] false)),
  (37, (TypeDesc.func #[32] #[] false)),
  (38, (TypeDesc.func #[9, 22] #[4] false)),
  (39, (TypeDesc.func #[23, 23, 9] #[4] false)),
  (40, (TypeDesc.func #[9, 9, 22] #[4] false)),
  (41, (TypeDesc.struct #[{ name := "S", type := 9, offset := 0, embedded := false, tag := "", pkgPath := "", byteOffset := 0 }, { name := "N", type := 3, offset := 1, embedded := false, tag := "", pkgPath := "", byteOffset := 16 }, { name := "M", type := 3, offset := 2, embedded := false, tag := "", pkgPath := "", byteOffset := 24 }, { name := "L", type := 22, offset := 3, embedded := false, tag := "", pkgPath := "", byteOffset := 32 }])),
  (42, (TypeDesc.struct #[{ name := "S", type := 9, offset := 0, embedded := false, tag := "", pkgPath := "", byteOffset := 0 }, { name := "N", type := 3, offset := 1, embedded := false, tag := "", pkgPath := "", byteOffset := 16 }, { name := "M", type := 3, offset := 2, embedded := false, tag := "", pkgPath := "", byteOffset := 24 }, { name := "L", type := 22, offset := 3, embedded := false, tag := "", pkgPath := "", byteOffset := 32 }])),
  (43, (TypeDesc.func #[3, 3] #[3] false)),
  (44, (TypeDesc.slice 5)),
  (45, (TypeDesc.array 4 9)),
  (46, (TypeDesc.array 4 3)),
  (47, (TypeDesc.func #[42] #[4] false)),
  (48, (TypeDesc.slice 21)),
  (49, (TypeDesc.struct #[{ name := "Chars", type := 48, offset := 0, embedded := false, tag := "", pkgPath := "", byteOffset := 0 }, { name := "Lo", type := 21, offset := 1, embedded := false, tag := "", pkgPath := "", byteOffset := 24 }, { name := "Hi", type := 21, offset := 2, embedded := false, tag := "", pkgPath := "", byteOffset := 28 }, { name := "L", type := 22, offset := 3, embedded := false, tag := "", pkgPath := "", byteOffset := 32 }])),
  (50, (TypeDesc.struct #[{ name := "Chars", type := 48, offset := 0, embedded := false, tag := "", pkgPath := "", byteOffset := 0 }, { name := "Lo", type := 21, offset := 1, embedded := false, tag := "", pkgPath := "", byteOffset := 24 }, { name := "Hi", type := 21, offset := 2, embedded := false, tag := "", pkgPath := "", byteOffset := 28 }, { name := "L", type := 22, offset := 3, embedded := false, tag := "", pkgPath := "", byteOffset := 32 }])),
  (51, (TypeDesc.func #[9, 3] #[3] false)),
  (52, (TypeDesc.func #[50] #[4] false)),
  (53, (TypeDesc.func #[] #[3] false)),
  (54, (TypeDesc.slice 90)),
  (55, (TypeDesc.struct #[{ name := "Steps", type := 54, offset := 0, embedded := false, tag := "", pkgPath := "", byteOffset := 0 }, { name := "Count", type := 3, offset := 1, embedded := false, tag := "", pkgPath := "", byteOffset := 24 }])),
  (56, (TypeDesc.struct #[{ name := "Steps", type := 54, offset := 0, embedded := false, tag := "", pkgPath := "", byteOffset := 0 }, { name := "Count", type := 3, offset := 1, embedded := false, tag := "", pkgPath := "", byteOffset := 24 }])),
  (57, (TypeDesc.func #[22] #[4] false)),
  (58, (TypeDesc.func #[96] #[] false)),
  (59, (TypeDesc.func #[96] #[] false)),
  (60, (TypeDesc.func #[22] #[59] false)),
  (61, (TypeDesc.func #[9, 9] #[4] false)),
  (62, (TypeDesc.func #[9, 22, 3] #[4] false)),
  (63, (TypeDesc.func #[9] #[9] false)),
  (64, (TypeDesc.func #[9, 9, 32] #[9] false)),
  (65, (TypeDesc.pointer 123)),
  (66, (TypeDesc.tuple #[65, 3, 3, 4])),
  (67, (TypeDesc.func #[9] #[65, 3, 3, 4] false)),
  (68, (TypeDesc.pointer 71)),
  (69, (TypeDesc.slice 75)),
  (70, (TypeDesc.struct #[{ name := "steps", type := 69, offset := 0, embedded := false, tag := "", pkgPath := "vigil/regex", byteOffset := 0 }, { name := "full", type := 4, offset := 1, embedded := false, tag := "", pkgPath := "vigil/regex", byteOffset := 24 }])),
  (71, (TypeDesc.struct #[{ name := "steps", type := 69, offset := 0, embedded := false, tag := "", pkgPath := "vigil/regex", byteOffset := 0 }, { name := "full", type := 4, offset := 1, embedded := false, tag := "", pkgPath := "vigil/regex", byteOffset := 24 }])),
  (72, (TypeDesc.func #[65] #[] false)),
  (73, (TypeDesc.func #[75] #[3] false)),
  (74, (TypeDesc.struct #[{ name := "kind", type := 3, offset := 0, embedded := false, tag := "", pkgPath := "vigil/regex", byteOffset := 0 }, { name := "set", type := 65, offset := 1, embedded := false, tag := "", pkgPath := "vigil/regex", byteOffset := 8 }, { name := "slot", type := 3, offset := 2, embedded := false, tag := "", pkgPath := "vigil/regex", byteOffset := 16 }, { name := "a", type := 3, offset := 3, embedded := false, tag := "", pkgPath := "vigil/regex", byteOffset := 24 }, { name := "b", type := 3, offset := 4, embedded := false, tag := "", pkgPath := "vigil/regex", byteOffset := 32 }])),
  (75, (TypeDesc.struct #[{ name := "kind", type := 3, offset := 0, embedded := false, tag := "", pkgPath := "vigil/regex", byteOffset := 0 }, { name := "set", type := 65, offset := 1, embedded := false, tag := "", pkgPath := "vigil/regex", byteOffset := 8 }, { name := "slot", type := 3, offset := 2, embedded := false, tag := "", pkgPath := "vigil/regex", byteOffset := 16 }, { name := "a", type := 3, offset := 3, embedded := false, tag := "", pkgPath := "vigil/regex", byteOffset := 24 }, { name := "b", type := 3, offset := 4, embedded := false, tag := "", pkgPath := "vigil/regex", byteOffset := 32 }])),
  (76, (TypeDesc.struct #[{ name := "steps", type := 69, offset := 0, embedded := false, tag := "", pkgPath := "vigil/regex", byteOffset := 0 }, { name := "groups", type := 3, offset := 1, embedded := false, tag := "", pkgPath := "vigil/regex", byteOffset := 24 }])),
  (77, (TypeDesc.struct #[{ name := "steps", type := 69, offset := 0, embedded := false, tag := "", pkgPath := "vigil/regex", byteOffset := 0 }, { name := "groups", type := 3, offset := 1, embedded := false, tag := "", pkgPath := "vigil/regex", byteOffset := 24 }])),
  (78, (TypeDesc.pointer 80)),
  (79, (TypeDesc.struct #[{ name := "s", type := 9, offset := 0, embedded := false, tag := "", pkgPath := "vigil/vigilref04", byteOffset := 0 }, { name := "at", type := 3, offset := 1, embedded := false, tag := "", pkgPath := "vigil/vigilref04", byteOffset := 16 }, { name := "wrong", type := 3, offset := 2, embedded := false, tag := "", pkgPath := "vigil/vigilref04", byteOffset := 24 }, { name := "count", type := 3, offset := 3, embedded := false, tag := "", pkgPath := "vigil/vigilref04", byteOffset := 32 }])),
  (80, (TypeDesc.struct #[{ name := "s", type := 9, offset := 0, embedded := false, tag := "", pkgPath := "vigil/vigilref04", byteOffset := 0 }, { name := "at", type := 3, offset := 1, embedded := false, tag := "", pkgPath := "vigil/vigilref04", byteOffset := 16 }, { name := "wrong", type := 3, offset := 2, embedded := false, tag := "", pkgPath := "vigil/vigilref04", byteOffset := 24 }, { name := "count", type := 3, offset := 3, embedded := false, tag := "", pkgPath := "vigil/vigilref04", byteOffset := 32 }])),
  (81, (TypeDesc.struct #[{ name := "l", type := 32, offset := 0, embedded := false, tag := "", pkgPath := "vigil/vigilref04", byteOffset := 0 }, { name := "not", type := 4, offset := 1, embedded := false, tag := "", pkgPath := "vigil/vigilref04", byteOffset := 24 }])),
  (82, (TypeDesc.struct #[{ name := "l", type := 32, offset := 0, embedded := false, tag := "", pkgPath := "vigil/vigilref04", byteOffset := 0 }, { name := "not", type := 4, offset := 1, embedded := false, tag := "", pkgPath := "vigil/vigilref04", byteOffset := 24 }])),
  (83, (TypeDesc.slice 85)),
  (84, (TypeDesc.struct #[{ name := "kind", type := 3, offset := 0, embedded := false, tag := "", pkgPath := "vigil/vigilref04", byteOffset := 0 }, { name := "c", type := 82, offset := 1, embedded := false, tag := "", pkgPath := "vigil/vigilref04", byteOffset := 8 }, { name := "kids", type := 83, offset := 3, embedded := false, tag := "", pkgPath := "vigil/vigilref04", byteOffset := 40 }, { name := "n", type := 3, offset := 4, embedded := false, tag := "", pkgPath := "vigil/vigilref04", byteOffset := 64 }, { name := "lo", type := 3, offset := 5, embedded := false, tag := "", pkgPath := "vigil/vigilref04", byteOffset := 72 }, { name := "hi", type := 3, offset := 6, embedded := false, tag := "", pkgPath := "vigil/vigilref04", byteOffset := 80 }, { name := "lazy", type := 4, offset := 7, embedded := false, tag := "", pkgPath := "vigil/vigilref04", byteOffset := 88 }])),
  (85, (TypeDesc.struct #[{ name := "kind", type := 3, offset := 0, embedded := false, tag := "", pkgPath := "vigil/vigilref04", byteOffset := 0 }, { name := "c", type := 82, offset := 1, embedded := false, tag := "", pkgPath := "vigil/vigilref04", byteOffset := 8 }, { name := "kids", type := 83, offset := 3, embedded := false, tag := "", pkgPath := "vigil/vigilref04", byteOffset := 40 }, { name := "n", type := 3, offset := 4, embedded := false, tag := "", pkgPath := "vigil/vigilref04", byteOffset := 64 }, { name := "lo", type := 3, offset := 5, embedded := false, tag := "", pkgPath := "vigil/vigilref04", byteOffset := 72 }, { name := "hi", type := 3, offset := 6, embedded := false, tag := "", pkgPath := "vigil/vigilref04", byteOffset := 80 }, { name := "lazy", type := 4, offset := 7, embedded := false, tag := "", pkgPath := "vigil/vigilref04", byteOffset := 88 }])),
  (86, (TypeDesc.func #[4] #[85] false)),
  (87, (TypeDesc.func #[85] #[3] false)),
  (88, (TypeDesc.func #[85] #[] false)),
  (89, (TypeDesc.struct #[{ name := "kind", type := 3, offset := 0, embedded := false, tag := "", pkgPath := "vigil/vigilref04", byteOffset := 0 }, { name := "a", type := 3, offset := 1, embedded := false, tag := "", pkgPath := "vigil/vigilref04", byteOffset := 8 }, { name := "b", type := 3, offset := 2, embedded := false, tag := "", pkgPath := "vigil/vigilref04", byteOffset := 16 }, { name := "c", type := 82, offset := 3, embedded := false, tag := "", pkgPath := "vigil/vigilref04", byteOffset := 24 }])),
  (90, (TypeDesc.struct #[{ name := "kind", type := 3, offset := 0, embedded := false, tag := "", pkgPath := "vigil/vigilref04", byteOffset := 0 }, { name := "a", type := 3, offset := 1, embedded := false, tag := "", pkgPath := "vigil/vigilref04", byteOffset := 8 }, { name := "b", type := 3, offset := 2, embedded := false, tag := "", pkgPath := "vigil/vigilref04", byteOffset := 16 }, { name := "c", type := 82, offset := 3, embedded := false, tag := "", pkgPath := "vigil/vigilref04", byteOffset := 24 }])),
  (91, (TypeDesc.pointer 94)),
  (92, (TypeDesc.slice 4)),
  (93, (TypeDesc.struct #[{ name := "p", type := 27, offset := 0, embedded := false, tag := "", pkgPath := "vigil/vigilref04", byteOffset := 0 }, { name := "s", type := 9, offset := 1, embedded := false, tag := "", pkgPath := "vigil/vigilref04", byteOffset := 8 }, { name := "seen", type := 92, offset := 2, embedded := false, tag := "", pkgPath := "vigil/vigilref04", byteOffset := 24 }])),
  (94, (TypeDesc.struct #[{ name := "p", type := 27, offset := 0, embedded := false, tag := "", pkgPath := "vigil/vigilref04", byteOffset := 0 }, { name := "s", type := 9, offset := 1, embedded := false, tag := "", pkgPath := "vigil/vigilref04", byteOffset := 8 }, { name := "seen", type := 92, offset := 2, embedded := false, tag := "", pkgPath := "vigil/vigilref04", byteOffset := 24 }])),
  (95, (TypeDesc.func #[3, 3, 32] #[32, 4] false)),
  (96, (TypeDesc.func #[3] #[4] false)),
  (97, (TypeDesc.pointer 99)),
  (98, (TypeDesc.struct #[{ name := "addr", type := 97, offset := 0, embedded := false, tag := "", pkgPath := "strings", byteOffset := 0 }, { name := "buf", type := 44, offset := 1, embedded := false, tag := "", pkgPath := "strings", byteOffset := 8 }])),
  (99, (TypeDesc.struct #[{ name := "addr", type := 97, offset := 0, embedded := false, tag := "", pkgPath := "strings", byteOffset := 0 }, { name := "buf", type := 44, offset := 1, embedded := false, tag := "", pkgPath := "strings", byteOffset := 8 }])),
  (100, (TypeDesc.interface #[("Error", 106)])),
  (101, (TypeDesc.interface #[("Error", 106)])),
  (102, (TypeDesc.tuple #[3, 101])),
  (103, (TypeDesc.func #[9] #[3, 101] false)),
  (104, (TypeDesc.func #[9, 5] #[3] false)),
  (105, (TypeDesc.func #[5] #[101] false)),
  (106, (TypeDesc.func #[] #[9] false)),
  (107, (TypeDesc.func #[5] #[4] false)),
  (108, (TypeDesc.tuple #[3, 3])),
  (109, (TypeDesc.func #[9] #[3, 3] false)),
  (110, (TypeDesc.func #[9, 32, 3] #[9] false)),
  (111, (TypeDesc.tuple #[3, 24])),
  (112, (TypeDesc.func #[9] #[3, 24] false)),
  (113, (TypeDesc.pointer 115)),
  (114, (TypeDesc.struct #[{ name := "s", type := 9, offset := 0, embedded := false, tag := "", pkgPath := "vigil/regex", byteOffset := 0 }, { name := "at", type := 3, offset := 1, embedded := false, tag := "", pkgPath := "vigil/regex", byteOffset := 16 }, { name := "groups", type := 3, offset := 2, embedded := false, tag := "", pkgPath := "vigil/regex", byteOffset := 24 }])),
  (115, (TypeDesc.struct #[{ name := "s", type := 9, offset := 0, embedded := false, tag := "", pkgPath := "vigil/regex", byteOffset := 0 }, { name := "at", type := 3, offset := 1, embedded := false, tag := "", pkgPath := "vigil/regex", byteOffset := 16 }, { name := "groups", type := 3, offset := 2, embedded := false, tag := "", pkgPath := "vigil/regex", byteOffset := 24 }])),
  (116, (TypeDesc.struct #[{ name := "at", type := 3, offset := 0, embedded := false, tag := "", pkgPath := "vigil/regex", byteOffset := 0 }])),
  (117, (TypeDesc.struct #[{ name := "at", type := 3, offset := 0, embedded := false, tag := "", pkgPath := "vigil/regex", byteOffset := 0 }])),
  (118, (TypeDesc.func #[] #[65] false)),
  (119, (TypeDesc.func #[3] #[] false)),
  (120, (TypeDesc.slice 140)),
  (121, (TypeDesc.slice 65)),
  (122, (TypeDesc.struct #[{ name := "kind", type := 3, offset := 0, embedded := false, tag := "", pkgPath := "vigil/regex", byteOffset := 0 }, { name := "spans", type := 120, offset := 1, embedded := false, tag := "", pkgPath := "vigil/regex", byteOffset := 8 }, { name := "not", type := 4, offset := 2, embedded := false, tag := "", pkgPath := "vigil/regex", byteOffset := 32 }, { name := "number", type := 3, offset := 3, embedded := false, tag := "", pkgPath := "vigil/regex", byteOffset := 40 }, { name := "min", type := 3, offset := 4, embedded := false, tag := "", pkgPath := "vigil/regex", byteOffset := 48 }, { name := "max", type := 3, offset := 5, embedded := false, tag := "", pkgPath := "vigil/regex", byteOffset := 56 }, { name := "few", type := 4, offset := 6, embedded := false, tag := "", pkgPath := "vigil/regex", byteOffset := 64 }, { name := "plus", type := 4, offset := 7, embedded := false, tag := "", pkgPath := "vigil/regex", byteOffset := 65 }, { name := "kids", type := 121, offset := 8, embedded := false, tag := "", pkgPath := "vigil/regex", byteOffset := 72 }])),
  (123, (TypeDesc.struct #[{ name := "kind", type := 3, offset := 0, embedded := false, tag := "", pkgPath := "vigil/regex", byteOffset := 0 }, { name := "spans", type := 120, offset := 1, embedded := false, tag := "", pkgPath := "vigil/regex", byteOffset := 8 }, { name := "not", type := 4, offset := 2, embedded := false, tag := "", pkgPath := "vigil/regex", byteOffset := 32 }, { name := "number", type := 3, offset := 3, embedded := false, tag := "", pkgPath := "vigil/regex", byteOffset := 40 }, { name := "min", type := 3, offset := 4, embedded := false, tag := "", pkgPath := "vigil/regex", byteOffset := 48 }, { name := "max", type := 3, offset := 5, embedded := false, tag := "", pkgPath := "vigil/regex", byteOffset := 56 }, { name := "few", type := 4, offset := 6, embedded := false, tag := "", pkgPath := "vigil/regex", byteOffset := 64 }, { name := "plus", type := 4, offset := 7, embedded := false, tag := "", pkgPath := "vigil/regex", byteOffset := 65 }, { name := "kids", type := 121, offset := 8, embedded := false, tag := "", pkgPath := "vigil/regex", byteOffset := 72 }])),
  (124, (TypeDesc.func #[3, 3, 3, 4] #[] false)),
  (125, (TypeDesc.struct #[{ name := "fork", type := 4, offset := 0, embedded := false, tag := "", pkgPath := "vigil/regex", byteOffset := 0 }, { name := "step", type := 3, offset := 1, embedded := false, tag := "", pkgPath := "vigil/regex", byteOffset := 8 }, { name := "at", type := 3, offset := 2, embedded := false, tag := "", pkgPath := "vigil/regex", byteOffset := 16 }, { name := "slot", type := 3, offset := 3, embedded := false, tag := "", pkgPath := "vigil/regex", byteOffset := 24 }, { name := "was", type := 3, offset := 4, embedded := false, tag := "", pkgPath := "vigil/regex", byteOffset := 32 }, { name := "seq", type := 3, offset := 5, embedded := false, tag := "", pkgPath := "vigil/regex", byteOffset := 40 }])),
  (126, (TypeDesc.struct #[{ name := "fork", type := 4, offset := 0, embedded := false, tag := "", pkgPath := "vigil/regex", byteOffset := 0 }, { name := "step", type := 3, offset := 1, embedded := false, tag := "", pkgPath := "vigil/regex", byteOffset := 8 }, { name := "at", type := 3, offset := 2, embedded := false, tag := "", pkgPath := "vigil/regex", byteOffset := 16 }, { name := "slot", type := 3, offset := 3, embedded := false, tag := "", pkgPath := "vigil/regex", byteOffset := 24 }, { name := "was", type := 3, offset := 4, embedded := false, tag := "", pkgPath := "vigil/regex", byteOffset := 32 }, { name := "seq", type := 3, offset := 5, embedded := false, tag := "", pkgPath := "vigil/regex", byteOffset := 40 }])),
  (127, (TypeDesc.slice 126)),
  (128, (TypeDesc.pointer 75)),
  (129, (TypeDesc.tuple #[21, 3])),
  (130, (TypeDesc.func #[9] #[21, 3] false)),
  (131, (TypeDesc.func #[21] #[4] false)),
  (132, (TypeDesc.func #[9, 3] #[3, 3] false)),
  (133, (TypeDesc.pointer 5)),
  (134, (TypeDesc.func #[9] #[3] false)),
  (135, (TypeDesc.func #[3] #[9] false)),
  (136, (TypeDesc.tuple #[85, 4])),
  (137, (TypeDesc.func #[] #[85, 4] false)),
  (138, (TypeDesc.func #[85, 4] #[85] false)),
  (139, (TypeDesc.struct #[{ name := "from", type := 21, offset := 0, embedded := false, tag := "", pkgPath := "vigil/regex", byteOffset := 0 }, { name := "to", type := 21, offset := 1, embedded := false, tag := "", pkgPath := "vigil/regex", byteOffset := 4 }])),
  (140, (TypeDesc.struct #[{ name := "from", type := 21, offset := 0, embedded := false, tag := "", pkgPath := "vigil/regex", byteOffset := 0 }, { name := "to", type := 21, offset := 1, embedded := false, tag := "", pkgPath := "vigil/regex", byteOffset := 4 }])),
  (141, (TypeDesc.array 5 3)),
  (142, TypeDesc.unsafePointer),
  (143, (TypeDesc.func #[142] #[142] false)),
  (144, (TypeDesc.func #[] #[85] false)),
  (145, (TypeDesc.func #[] #[82] false)),
  (146, (TypeDesc.func #[4] #[3, 3] false)),
  (147, (TypeDesc.array 256 5)),
  (148, (TypeDesc.int IntKind.u64)),
  (149, (TypeDesc.struct #[{ name := "lo", type := 5, offset := 0, embedded := false, tag := "", pkgPath := "unicode/utf8", byteOffset := 0 }, { name := "hi", type := 5, offset := 1, embedded := false, tag := "", pkgPath := "unicode/utf8", byteOffset := 1 }])),
  (150, (TypeDesc.struct #[{ name := "lo", type := 5, offset := 0, embedded := false, tag := "", pkgPath := "unicode/utf8", byteOffset := 0 }, { name := "hi", type := 5, offset := 1, embedded := false, tag := "", pkgPath := "unicode/utf8", byteOffset := 1 }])),
  (151, (TypeDesc.array 16 150)),
  (152, (TypeDesc.func #[] #[3, 3] false)),
  (153, (TypeDesc.func #[] #[32] false)),
  (154, (TypeDesc.func #[] #[21] false)),
  (155, (TypeDesc.tuple #[120, 4])),
  (156, (TypeDesc.func #[] #[120, 4] false)),
  (157, (TypeDesc.func #[9, 21] #[4] false)),
  (158, (TypeDesc.func #[21] #[21] false)),
  (159, (TypeDesc.func #[9, 21] #[3] false)),
  (160, (TypeDesc.func #[120] #[120] false)),
  (161, (TypeDesc.func #[3] #[3] false)),
  (162, (TypeDesc.func #[9, 9] #[3] false)),
  (163, (TypeDesc.struct #[{ name := "_interface", type := 17, offset := 0, embedded := false, tag := "", pkgPath := "runtime", byteOffset := 0 }, { name := "concrete", type := 17, offset := 1, embedded := false, tag := "", pkgPath := "runtime", byteOffset := 8 }, { name := "asserted", type := 17, offset := 2, embedded := false, tag := "", pkgPath := "runtime", byteOffset := 16 }, { name := "missingMethod", type := 9, offset := 3, embedded := false, tag := "", pkgPath := "runtime", byteOffset := 24 }])),
  (164, (TypeDesc.struct #[{ name := "_interface", type := 17, offset := 0, embedded := false, tag := "", pkgPath := "runtime", byteOffset := 0 }, { name := "concrete", type := 17, offset := 1, embedded := false, tag := "", pkgPath := "runtime", byteOffset := 8 }, { name := "asserted", type := 17, offset := 2, embedded := false, tag := "", pkgPath := "runtime", byteOffset := 16 }, { name := "missingMethod", type := 9, offset := 3, embedded := false, tag := "", pkgPath := "runtime", byteOffset := 24 }])),
  (165, (TypeDesc.array 0 16)),
  (166, (TypeDesc.struct #[{ name := "_", type := 165, offset := 0, embedded := false, tag := "", pkgPath := "runtime", byteOffset := 0 }])),
  (167, (TypeDesc.struct #[{ name := "_", type := 165, offset := 0, embedded := false, tag := "", pkgPath := "runtime", byteOffset := 0 }])),
  (168, (TypeDesc.int IntKind.u32)),
  (169, (TypeDesc.int IntKind.u8)),
  (170, (TypeDesc.int IntKind.u8)),
  (171, (TypeDesc.func #[142, 142] #[4] false)),
  (172, (TypeDesc.int IntKind.i32)),
  (173, (TypeDesc.int IntKind.i32)),
  (174, (TypeDesc.struct #[{ name := "Size_", type := 12, offset := 0, embedded := false, tag := "", pkgPath := "", byteOffset := 0 }, { name := "PtrBytes", type := 12, offset := 1, embedded := false, tag := "", pkgPath := "", byteOffset := 8 }, { name := "Hash", type := 168, offset := 2, embedded := false, tag := "", pkgPath := "", byteOffset := 16 }, { name := "TFlag", type := 169, offset := 3, embedded := false, tag := "", pkgPath := "", byteOffset := 20 }, { name := "Align_", type := 5, offset := 4, embedded := false, tag := "", pkgPath := "", byteOffset := 21 }, { name := "FieldAlign_", type := 5, offset := 5, embedded := false, tag := "", pkgPath := "", byteOffset := 22 }, { name := "Kind_", type := 170, offset := 6, embedded := false, tag := "", pkgPath := "", byteOffset := 23 }, { name := "Equal", type := 171, offset := 7, embedded := false, tag := "", pkgPath := "", byteOffset := 24 }, { name := "GCData", type := 133, offset := 8, embedded := false, tag := "", pkgPath := "", byteOffset := 32 }, { name := "Str", type := 172, offset := 9, embedded := false, tag := "", pkgPath := "", byteOffset := 40 }, { name := "PtrToThis", type := 173, offset := 10, embedded := false, tag := "", pkgPath := "", byteOffset := 44 }])),
  (175, (TypeDesc.struct #[{ name := "Size_", type := 12, offset := 0, embedded := false, tag := "", pkgPath := "", byteOffset := 0 }, { name := "PtrBytes", type := 12, offset := 1, embedded := false, tag := "", pkgPath := "", byteOffset := 8 }, { name := "Hash", type := 168, offset := 2, embedded := false, tag := "", pkgPath := "", byteOffset := 16 }, { name := "TFlag", type := 169, offset := 3, embedded := false, tag := "", pkgPath := "", byteOffset := 20 }, { name := "Align_", type := 5, offset := 4, embedded := false, tag := "", pkgPath := "", byteOffset := 21 }, { name := "FieldAlign_", type := 5, offset := 5, embedded := false, tag := "", pkgPath := "", byteOffset := 22 }, { name := "Kind_", type := 170, offset := 6, embedded := false, tag := "", pkgPath := "", byteOffset := 23 }, { name := "Equal", type := 171, offset := 7, embedded := false, tag := "", pkgPath := "", byteOffset := 24 }, { name := "GCData", type := 133, offset := 8, embedded := false, tag := "", pkgPath := "", byteOffset := 32 }, { name := "Str", type := 172, offset := 9, embedded := false, tag := "", pkgPath := "", byteOffset := 40 }, { name := "PtrToThis", type := 173, offset := 10, embedded := false, tag := "", pkgPath := "", byteOffset := 44 }]))]
theorem tyL_ok : AllT Tryd.prog tyL := ⟨Tryd.underlying0, Tryd.underlying1, Tryd.underlying2, Tryd.underlying3, Tryd.underlying4, Tryd.underlying5, Tryd.underlying6, Tryd.underlying7, Tryd.underlying8, Tryd.underlying9, Tryd.underlying10, Tryd.underlying11, Tryd.underlying12, Tryd.underlying13, Tryd.underlying14, Tryd.underlying15, Tryd.underlying16, Tryd.underlying17, Tryd.underlying18, Tryd.underlying19, Tryd.underlying20, Tryd.underlying21, Tryd.underlying22, Tryd.underlying23, Tryd.underlying24, Tryd.underlying25, Tryd.underlying26, Tryd.underlying27, Tryd.underlying28, Tryd.underlying29, Tryd.underlying30, Tryd.underlying31, Tryd.underlying32, Tryd.underlying33, Tryd.underlying34, Tryd.underlying35, Tryd.underlying36, Tryd.underlying37, Tryd.underlying38, Tryd.underlying39, Tryd.underlying40, Tryd.underlying41, Tryd.underlying42, Tryd.underlying43, Tryd.underlying44, Tryd.underlying45, Tryd.underlying46, Tryd.underlying47, Tryd.underlying48, Tryd.underlying49, Tryd.underlying50, Tryd.underlying51, Tryd.underlying52, Tryd.underlying53, Tryd.underlying54, Tryd.underlying55, Tryd.underlying56, Tryd.underlying57, Tryd.underlying58, Tryd.underlying59, Tryd.underlying60, Tryd.underlying61, Tryd.underlying62, Tryd.underlying63, Tryd.underlying64, Tryd.underlying65, Tryd.underlying66, Tryd.underlying67, Tryd.underlying68, Tryd.underlying69, Tryd.underlying70, Tryd.underlying71, Tryd.underlying72, Tryd.underlying73, Tryd.underlying74, Tryd.underlying75, Tryd.underlying76, Tryd.underlying77, Tryd.underlying78, Tryd.underlying79, Tryd.underlying80, Tryd.underlying81, Tryd.underlying82, Tryd.underlying83, Tryd.underlying84, Tryd.underlying85, Tryd.underlying86, Tryd.underlying87, Tryd.underlying88, Tryd.underlying89, Tryd.underlying90, Tryd.underlying91, Tryd.underlying92, Tryd.underlying93, Tryd.underlying94, Tryd.underlying95, Tryd.underlying96, Tryd.underlying97, Tryd.underlying98, Tryd.underlying99, Tryd.underlying100, Tryd.underlying101, Tryd.underlying102, Tryd.underlying103, Tryd.underlying104, Tryd.underlying105, Tryd.underlying106, Tryd.underlying107, Tryd.underlying108, Tryd.underlying109, Tryd.underlying110, Tryd.underlying111, Tryd.underlying112, Tryd.underlying113, Tryd.underlying114, Tryd.underlying115, Tryd.underlying116, Tryd.underlying117, Tryd.underlying118, Tryd.underlying119, Tryd.underlying120, Tryd.underlying121, Tryd.underlying122, Tryd.underlying123, Tryd.underlying124, Tryd.underlying125, Tryd.underlying126, Tryd.underlying127, Tryd.underlying128, Tryd.underlying129, Tryd.underlying130, Tryd.underlying131, Tryd.underlying132, Tryd.underlying133, Tryd.underlying134, Tryd.underlying135, Tryd.underlying136, Tryd.underlying137, Tryd.underlying138, Tryd.underlying139, Tryd.underlying140, Tryd.underlying141, Tryd.underlying142, Tryd.underlying143, Tryd.underlying144, Tryd.underlying145, Tryd.underlying146, Tryd.underlying147, Tryd.underlying148, Tryd.underlying149, Tryd.underlying150, Tryd.underlying151, Tryd.underlying152, Tryd.underlying153, Tryd.underlying154, Tryd.underlying155, Tryd.underlying156, Tryd.underlying157, Tryd.underlying158, Tryd.underlying159, Tryd.underlying160, Tryd.underlying161, Tryd.underlying162, Tryd.underlying163, Tryd.underlying164, Tryd.underlying165, Tryd.underlying166, Tryd.underlying167, Tryd.underlying168, Tryd.underlying169, Tryd.underlying170, Tryd.underlying171, Tryd.underlying172, Tryd.underlying173, Tryd.underlying174, Tryd.underlying175, trivial⟩
def infL : List (Nat × Value × Nat × Nat) := [(1, .nilFunc, 1, 8),
  (2, (.int .i64 0), 1, 8),
  (3, (.int .i64 0), 1, 8),
  (4, (.bool false), 1, 1),
  (5, (.int .u8 0), 1, 1),
  (6, (.int .u8 0), 1, 1),
  (7, (.agg ⟨[(.int .i64 0), (.int .i64 0), (.bool false), (.int .u8 0)]⟩), 4, 24),
  (8, (.agg ⟨[(.int .i64 0), (.int .i64 0), (.bool false), (.int .u8 0)]⟩), 4, 24),
  (9, (S []), 1, 16),
  (10, (S []), 1, 16),
  (11, (S []), 1, 16),
  (12, (.int .u64 0), 1, 8),
  (13, (.agg ⟨[(S []), (.int .u64 0)]⟩), 2, 24),
  (14, (.agg ⟨[(S []), (.int .u64 0)]⟩), 2, 24),
  (15, (.pointer none), 1, 8),
  (16, (.pointer none), 1, 8),
  (17, (.pointer none), 1, 8),
  (18, (.agg ⟨[(.pointer none)]⟩), 1, 8),
  (19, (.agg ⟨[(.pointer none)]⟩), 1, 8),
  (20, .nilIface, 1, 16),
  (21, (.int .i32 0), 1, 4),
  (22, (.slice none 0 0), 1, 24),
  (23, (.pointer none), 1, 8),
  (24, (.int .i64 0), 1, 8),
  (26, .nilFunc, 1, 8),
  (27, (.pointer none), 1, 8),
  (29, .nilFunc, 1, 8),
  (30, .nilFunc, 1, 8),
  (31, .nilFunc, 1, 8),
  (32, (.slice none 0 0), 1, 24),
  (34, .nilFunc, 1, 8),
  (35, .nilFunc, 1, 8),
  (36, .nilFunc, 1, 8),
  (37, .nilFunc, 1, 8),
  (38, .nilFunc, 1, 8),
  (39, .nilFunc, 1, 8),
  (40, .nilFunc, 1, 8),
  (41, (.agg ⟨[(S []), (.int .i64 0), (.int .i64 0), (.slice none 0 0)]⟩), 4, 56),
  (42, (.agg ⟨[(S []), (.int .i64 0), (.int .i64 0), (.slice none 0 0)]⟩), 4, 56),
  (43, .nilFunc, 1, 8),
  (44, (.slice none 0 0), 1, 24),
  (45, (.agg ⟨[(S []), (S []), (S []), (S [])]⟩), 4, 64),
  (46, (.agg ⟨[(.int .i64 0), (.int .i64 0), (.int .i64 0), (.int .i64 0)]⟩), 4, 32),
  (47, .nilFunc, 1, 8),
  (48, (.slice none 0 0), 1, 24),
  (49, (.agg ⟨[(.slice none 0 0), (.int .i32 0), (.int .i32 0), (.slice none 0 0)]⟩), 4, 56),
  (50, (.agg ⟨[(.slice none 0 0), (.int .i32 0), (.int .i32 0), (.slice none 0 0)]⟩), 4, 56),
  (51, .nilFunc, 1, 8),
  (52, .nilFunc, 1, 8),
  (53, .nilFunc, 1, 8),
  (54, (.slice none 0 0), 1, 24),
  (55, (.agg ⟨[(.slice none 0 0), (.int .i64 0)]⟩), 2, 32),
  (56, (.agg ⟨[(.slice none 0 0), (.int .i64 0)]⟩), 2, 32),
  (57, .nilFunc, 1, 8),
  (58, .nilFunc, 1, 8),
  (59, .nilFunc, 1, 8),
  (60, .nilFunc, 1, 8),
  (61, .nilFunc, 1, 8),
  (62, .nilFunc, 1, 8),
  (63, .nilFunc, 1, 8),
  (64, .nilFunc, 1, 8),
  (65, (.pointer none), 1, 8),
  (67, .nilFunc, 1, 8),
  (68, (.pointer none), 1, 8),
  (69, (.slice none 0 0), 1, 24),
  (70, (.agg ⟨[(.slice none 0 0), (.bool false)]⟩), 2, 32),
  (71, (.agg ⟨[(.slice none 0 0), (.bool false)]⟩), 2, 32),
  (72, .nilFunc, 1, 8),
  (73, .nilFunc, 1, 8),
  (74, (.agg ⟨[(.int .i64 0), (.pointer none), (.int .i64 0), (.int .i64 0), (.int .i64 0)]⟩), 5, 40),
  (75, (.agg ⟨[(.int .i64 0), (.pointer none), (.int .i64 0), (.int .i64 0), (.int .i64 0)]⟩), 5, 40),
  (76, (.agg ⟨[(.slice none 0 0), (.int .i64 0)]⟩), 2, 32),
  (77, (.agg ⟨[(.slice none 0 0), (.int .i64 0)]⟩), 2, 32),
  (78, (.pointer none), 1, 8),
  (79, (.agg ⟨[(S []), (.int .i64 0), (.int .i64 0), (.int .i64 0)]⟩), 4, 40),
  (80, (.agg ⟨[(S []), (.int .i64 0), (.int .i64 0), (.int .i64 0)]⟩), 4, 40),
  (81, (.agg ⟨[(.slice none 0 0), (.bool false)]⟩), 2, 32),
  (82, (.agg ⟨[(.slice none 0 0), (.bool false)]⟩), 2, 32),
  (83, (.slice none 0 0), 1, 24),
  (84, (.agg ⟨[(.int .i64 0), (.slice none 0 0), (.bool false), (.slice none 0 0), (.int .i64 0), (.int .i64 0), (.int .i64 0), (.bool false)]⟩), 8, 96),
  (85, (.agg ⟨[(.int .i64 0), (.slice none 0 0), (.bool false), (.slice none 0 0), (.int .i64 0), (.int .i64 0), (.int .i64 0), (.bool false)]⟩), 8, 96),
  (86, .nilFunc, 1, 8),
  (87, .nilFunc, 1, 8),
  (88, .nilFunc, 1, 8),
  (89, (.agg ⟨[(.int .i64 0), (.int .i64 0), (.int .i64 0), (.slice none 0 0), (.bool false)]⟩), 5, 56),
  (90, (.agg ⟨[(.int .i64 0), (.int .i64 0), (.int .i64 0), (.slice none 0 0), (.bool false)]⟩), 5, 56),
  (91, (.pointer none), 1, 8),
  (92, (.slice none 0 0), 1, 24),
  (93, (.agg ⟨[(.pointer none), (S []), (.slice none 0 0)]⟩), 3, 48),
  (94, (.agg ⟨[(.pointer none), (S []), (.slice none 0 0)]⟩), 3, 48),
  (95, .nilFunc, 1, 8),
  (96, .nilFunc, 1, 8),
  (97, (.pointer none), 1, 8),
  (98, (.agg ⟨[(.pointer none), (.slice none 0 0)]⟩), 2, 32),
  (99, (.agg ⟨[(.pointer none), (.slice none 0 0)]⟩), 2, 32),
  (100, .nilIface, 1, 16),
  (101, .nilIface, 1, 16),
  (103, .nilFunc, 1, 8),
  (104, .nilFunc, 1, 8),
  (105, .nilFunc, 1, 8),
  (106, .nilFunc, 1, 8),
  (107, .nilFunc, 1, 8),
  (109, .nilFunc, 1, 8),
  (110, .nilFunc, 1, 8),
  (112, .nilFunc, 1, 8),
  (113, (.pointer none), 1, 8),
  (114, (.agg ⟨[(S []), (.int .i64 0), (.int .i64 0)]⟩), 3, 32),
  (115, (.agg ⟨[(S []), (.int .i64 0), (.int .i64 0)]⟩), 3, 32),
  (116, (.agg ⟨[(.int .i64 0)]⟩), 1, 8),
  (117, (.agg ⟨[(.int .i64 0)]⟩), 1, 8),
  (118, .nilFunc, 1, 8),
  (119, .nilFunc, 1, 8),
  (120, (.slice none 0 0), 1, 24),
  (121, (.slice none 0 0), 1, 24),
  (122, (.agg ⟨[(.int .i64 0), (.slice none 0 0), (.bool false), (.int .i64 0), (.int .i64 0), (.int .i64 0), (.bool false), (.bool false), (.slice none 0 0)]⟩), 9, 96),
  (123, (.agg ⟨[(.int .i64 0), (.slice none 0 0), (.bool false), (.int .i64 0), (.int .i64 0), (.int .i64 0), (.bool false), (.bool false), (.slice none 0 0)]⟩), 9, 96),
  (124, .nilFunc, 1, 8),
  (125, (.agg ⟨[(.bool false), (.int .i64 0), (.int .i64 0), (.int .i64 0), (.int .i64 0), (.int .i64 0)]⟩), 6, 48),
  (126, (.agg ⟨[(.bool false), (.int .i64 0), (.int .i64 0), (.int .i64 0), (.int .i64 0), (.int .i64 0)]⟩), 6, 48),
  (127, (.slice none 0 0), 1, 24),
  (128, (.pointer none), 1, 8),
  (130, .nilFunc, 1, 8),
  (131, .nilFunc, 1, 8),
  (132, .nilFunc, 1, 8),
  (133, (.pointer none), 1, 8),
  (134, .nilFunc, 1, 8),
  (135, .nilFunc, 1, 8),
  (137, .nilFunc, 1, 8),
  (138, .nilFunc, 1, 8),
  (139, (.agg ⟨[(.int .i32 0), (.int .i32 0)]⟩), 2, 8),
  (140, (.agg ⟨[(.int .i32 0), (.int .i32 0)]⟩), 2, 8),
  (141, (.agg ⟨[(.int .i64 0), (.int .i64 0), (.int .i64 0), (.int .i64 0), (.int .i64 0)]⟩), 5, 40),
  (142, (.pointer none), 1, 8),
  (143, .nilFunc, 1, 8),
  (144, .nilFunc, 1, 8),
  (145, .nilFunc, 1, 8),
  (146, .nilFunc, 1, 8),
  (147, (.agg ⟨[(.int .u8 0), (.int .u8 0), (.int .u8 0), (.int .u8 0), (.int .u8 0), (.int .u8 0), (.int .u8 0), (.int .u8 0), (.int .u8 0), (.int .u8 0), (.int .u8 0), (.int .u8 0), (.int .u8 0), (.int .u8 0), (.int .u8 0), (.int .u8 0), (.int .u8 0), (.int .u8 0), (.int .u8 0), (.int .u8 0), (.int .u8 0), (.int .u8 0), (.int .u8 0), (.int .u8 0), (.int .u8 0), (.int .u8 0), (.int .u8 0), (.int .u8 0), (.int .u8 0), (.int .u8 0), (.int .u8 0), (.int .u8 0), (.int .u8 0), (.int .u8 0), (.int .u8 0), (.int .u8 0), (.int .u8 0), (.int .u8 0), (.int .u8 0), (.int .u8 0), (.int .u8 0), (.int .u8 0), (.int .u8 0), (.int .u8 0), (.int .u8 0), (.int .u8 0), (.int .u8 0), (.int .u8 0), (.int .u8 0), (.int .u8 0), (.int .u8 0), (.int .u8 0), (.int .u8 0), (.int .u8 0), (.int .u8 0), (.int .u8 0), (.int .u8 0), (.int .u8 0), (.int .u8 0), (.int .u8 0), (.int .u8 0), (.int .u8 0), (.int .u8 0), (.int .u8 0), (.int .u8 0), (.int .u8 0), (.int .u8 0), (.int .u8 0), (.int .u8 0), (.int .u8 0), (.int .u8 0), (.int .u8 0), (.int .u8 0), (.int .u8 0), (.int .u8 0), (.int .u8 0), (.int .u8 0), (.int .u8 0), (.int .u8 0), (.int .u8 0), (.int .u8 0), (.int .u8 0), (.int .u8 0), (.int .u8 0), (.int .u8 0), (.int .u8 0), (.int .u8 0), (.int .u8 0), (.int .u8 0), (.int .u8 0), (.int .u8 0), (.int .u8 0), (.int .u8 0), (.int .u8 0), (.int .u8 0), (.int .u8 0), (.int .u8 0), (.int .u8 0), (.int .u8 0), (.int .u8 0), (.int .u8 0), (.int .u8 0), (.int .u8 0), (.int .u8 0), (.int .u8 0), (.int .u8 0), (.int .u8 0), (.int .u8 0), (.int .u8 0), (.int .u8 0), (.int .u8 0), (.int .u8 0), (.int .u8 0), (.int .u8 0), (.int .u8 0), (.int .u8 0), (.int .u8 0), (.int .u8 0), (.int .u8 0), (.int .u8 0), (.int .u8 0), (.int .u8 0), (.int .u8 0), (.int .u8 0), (.int .u8 0), (.int .u8 0), (.int .u8 0), (.int .u8 0), (.int .u8 0), (.int .u8 0), (.int .u8 0), (.int .u8 0), (.int .u8 0), (.int .u8 0), (.int .u8 0), (.int .u8 0), (.int .u8 0), (.int .u8 0), (.int .u8 0), (.int .u8 0), (.int .u8 0), (.int .u8 0), (.int .u8 0), (.int .u8 0), (.int .u8 0), (.int .u8 0), (.int .u8 0), (.int .u8 0), (.int .u8 0), (.int .u8 0), (.int .u8 0), (.int .u8 0), (.int .u8 0), (.int .u8 0), (.int .u8 0), (.int .u8 0), (.int .u8 0), (.int .u8 0), (.int .u8 0), (.int .u8 0), (.int .u8 0), (.int .u8 0), (.int .u8 0), (.int .u8 0), (.int .u8 0), (.int .u8 0), (.int .u8 0), (.int .u8 0), (.int .u8 0), (.int .u8 0), (.int .u8 0), (.int .u8 0), (.int .u8 0), (.int .u8 0), (.int .u8 0), (.int .u8 0), (.int .u8 0), (.int .u8 0), (.int .u8 0), (.int .u8 0), (.int .u8 0), (.int .u8 0), (.int .u8 0), (.int .u8 0), (.int .u8 0), (.int .u8 0), (.int .u8 0), (.int .u8 0), (.int .u8 0), (.int .u8 0), (.int .u8 0), (.int .u8 0), (.int .u8 0), (.int .u8 0), (.int .u8 0), (.int .u8 0), (.int .u8 0), (.int .u8 0), (.int .u8 0), (.int .u8 0), (.int .u8 0), (.int .u8 0), (.int .u8 0), (.int .u8 0), (.int .u8 0), (.int .u8 0), (.int .u8 0), (.int .u8 0), (.int .u8 0), (.int .u8 0), (.int .u8 0), (.int .u8 0), (.int .u8 0), (.int .u8 0), (.int .u8 0), (.int .u8 0), (.int .u8 0), (.int .u8 0), (.int .u8 0), (.int .u8 0), (.int .u8 0), (.int .u8 0), (.int .u8 0), (.int .u8 0), (.int .u8 0), (.int .u8 0), (.int .u8 0), (.int .u8 0), (.int .u8 0), (.int .u8 0), (.int .u8 0), (.int .u8 0), (.int .u8 0), (.int .u8 0), (.int .u8 0), (.int .u8 0), (.int .u8 0), (.int .u8 0), (.int .u8 0), (.int .u8 0), (.int .u8 0), (.int .u8 0), (.int .u8 0), (.int .u8 0), (.int .u8 0), (.int .u8 0), (.int .u8 0), (.int .u8 0), (.int .u8 0), (.int .u8 0), (.int .u8 0), (.int .u8 0), (.int .u8 0), (.int .u8 0), (.int .u8 0), (.int .u8 0)]⟩), 256, 256),
  (148, (.int .u64 0), 1, 8),
  (149, (.agg ⟨[(.int .u8 0), (.int .u8 0)]⟩), 2, 2),
  (150, (.agg ⟨[(.int .u8 0), (.int .u8 0)]⟩), 2, 2),
  (151, (.agg ⟨[(.int .u8 0), (.int .u8 0), (.int .u8 0), (.int .u8 0), (.int .u8 0), (.int .u8 0), (.int .u8 0), (.int .u8 0), (.int .u8 0), (.int .u8 0), (.int .u8 0), (.int .u8 0), (.int .u8 0), (.int .u8 0), (.int .u8 0), (.int .u8 0), (.int .u8 0), (.int .u8 0), (.int .u8 0), (.int .u8 0), (.int .u8 0), (.int .u8 0), (.int .u8 0), (.int .u8 0), (.int .u8 0), (.int .u8 0), (.int .u8 0), (.int .u8 0), (.int .u8 0), (.int .u8 0), (.int .u8 0), (.int .u8 0)]⟩), 32, 32),
  (152, .nilFunc, 1, 8),
  (153, .nilFunc, 1, 8),
  (154, .nilFunc, 1, 8),
  (156, .nilFunc, 1, 8),
  (157, .nilFunc, 1, 8),
  (158, .nilFunc, 1, 8),
  (159, .nilFunc, 1, 8),
  (160, .nilFunc, 1, 8),
  (161, .nilFunc, 1, 8),
  (162, .nilFunc, 1, 8),
  (163, (.agg ⟨[(.pointer none), (.pointer none), (.pointer none), (S [])]⟩), 4, 40),
  (164, (.agg ⟨[(.pointer none), (.pointer none), (.pointer none), (S [])]⟩), 4, 40),
  (165, (.agg ⟨[]⟩), 0, 0),
  (166, (.agg ⟨[]⟩), 0, 0),
  (167, (.agg ⟨[]⟩), 0, 0),
  (168, (.int .u32 0), 1, 4),
  (169, (.int .u8 0), 1, 1),
  (170, (.int .u8 0), 1, 1),
  (171, .nilFunc, 1, 8),
  (172, (.int .i32 0), 1, 4),
  (173, (.int .i32 0), 1, 4),
  (174, (.agg ⟨[(.int .u64 0), (.int .u64 0), (.int .u32 0), (.int .u8 0), (.int .u8 0), (.int .u8 0), (.int .u8 0), .nilFunc, (.pointer none), (.int .i32 0), (.int .i32 0)]⟩), 11, 48),
  (175, (.agg ⟨[(.int .u64 0), (.int .u64 0), (.int .u32 0), (.int .u8 0), (.int .u8 0), (.int .u8 0), (.int .u8 0), .nilFunc, (.pointer none), (.int .i32 0), (.int .i32 0)]⟩), 11, 48)]
theorem infL_ok : AllI Tryd.prog infL := by
  refine ⟨?_, ?_, ?_, ?_, ?_, ?_, ?_, ?_, ?_, ?_, ?_, ?_, ?_, ?_, ?_, ?_, ?_, ?_, ?_, ?_, ?_, ?_, ?_, ?_, ?_, ?_, ?_, ?_, ?_, ?_, ?_, ?_, ?_, ?_, ?_, ?_, ?_, ?_, ?_, ?_, ?_, ?_, ?_, ?_, ?_, ?_, ?_, ?_, ?_, ?_, ?_, ?_, ?_, ?_, ?_, ?_, ?_, ?_, ?_, ?_, ?_, ?_, ?_, ?_, ?_, ?_, ?_, ?_, ?_, ?_, ?_, ?_, ?_, ?_, ?_, ?_, ?_, ?_, ?_, ?_, ?_, ?_, ?_, ?_, ?_, ?_, ?_, ?_, ?_, ?_, ?_, ?_, ?_, ?_, ?_, ?_, ?_, ?_, ?_, ?_, ?_, ?_, ?_, ?_, ?_, ?_, ?_, ?_, ?_, ?_, ?_, ?_, ?_, ?_, ?_, ?_, ?_, ?_, ?_, ?_, ?_, ?_, ?_, ?_, ?_, ?_, ?_, ?_, ?_, ?_, ?_, ?_, ?_, ?_, ?_, ?_, ?_, ?_, ?_, ?_, ?_, ?_, ?_, ?_, ?_, ?_, ?_, ?_, ?_, ?_, ?_, ?_, ?_, ?_, ?_, ?_, ?_, ?_, ?_, ?_, ?_, ?_, ?_, ?_, ?_, trivial⟩ <;> kernel_rfl
def tb : Tb Tryd.prog := Tb.mk' tyL infL tyL_ok infL_ok
theorem c2 : Callable Tryd.prog 2 := ⟨_, Tryd.func2, rfl, rfl⟩
theorem c3 : Callable Tryd.prog 3 := ⟨_, Tryd.func3, rfl, rfl⟩
theorem c4 : Callable Tryd.prog 4 := ⟨_, Tryd.func4, rfl, rfl⟩
theorem c5 : Callable Tryd.prog 5 := ⟨_, Tryd.func5, rfl, rfl⟩
theorem c6 : Callable Tryd.prog 6 := ⟨_, Tryd.func6, rfl, rfl⟩
theorem c7 : Callable Tryd.prog 7 := ⟨_, Tryd.func7, rfl, rfl⟩
theorem c8 : Callable Tryd.prog 8 := ⟨_, Tryd.func8, rfl, rfl⟩
theorem c9 : Callable Tryd.prog 9 := ⟨_, Tryd.func9, rfl, rfl⟩
theorem c10 : Callable Tryd.prog 10 := ⟨_, Tryd.func10, rfl, rfl⟩
theorem c11 : Callable Tryd.prog 11 := ⟨_, Tryd.func11, rfl, rfl⟩
theorem c12 : Callable Tryd.prog 12 := ⟨_, Tryd.func12, rfl, rfl⟩
theorem c13 : Callable Tryd.prog 13 := ⟨_, Tryd.func13, rfl, rfl⟩
theorem c14 : Callable Tryd.prog 14 := ⟨_, Tryd.func14, rfl, rfl⟩
theorem c15 : Callable Tryd.prog 15 := ⟨_, Tryd.func15, rfl, rfl⟩
theorem c16 : Callable Tryd.prog 16 := ⟨_, Tryd.func16, rfl, rfl⟩
theorem c17 : Callable Tryd.prog 17 := ⟨_, Tryd.func17, rfl, rfl⟩
theorem c18 : Callable Tryd.prog 18 := ⟨_, Tryd.func18, rfl, rfl⟩
theorem c19 : Callable Tryd.prog 19 := ⟨_, Tryd.func19, rfl, rfl⟩
theorem c20 : Callable Tryd.prog 20 := ⟨_, Tryd.func20, rfl, rfl⟩
theorem c21 : Callable Tryd.prog 21 := ⟨_, Tryd.func21, rfl, rfl⟩
theorem c22 : Callable Tryd.prog 22 := ⟨_, Tryd.func22, rfl, rfl⟩
theorem c23 : Callable Tryd.prog 23 := ⟨_, Tryd.func23, rfl, rfl⟩
theorem c24 : Callable Tryd.prog 24 := ⟨_, Tryd.func24, rfl, rfl⟩
theorem c25 : Callable Tryd.prog 25 := ⟨_, Tryd.func25, rfl, rfl⟩
theorem c26 : Callable Tryd.prog 26 := ⟨_, Tryd.func26, rfl, rfl⟩
theorem c27 : Callable Tryd.prog 27 := ⟨_, Tryd.func27, rfl, rfl⟩
theorem c28 : Callable Tryd.prog 28 := ⟨_, Tryd.func28, rfl, rfl⟩
theorem c29 : Callable Tryd.prog 29 := ⟨_, Tryd.func29, rfl, rfl⟩
theorem c30 : Callable Tryd.prog 30 := ⟨_, Tryd.func30, rfl, rfl⟩
theorem c31 : Callable Tryd.prog 31 := ⟨_, Tryd.func31, rfl, rfl⟩
theorem c32 : Callable Tryd.prog 32 := ⟨_, Tryd.func32, rfl, rfl⟩
theorem c33 : Callable Tryd.prog 33 := ⟨_, Tryd.func33, rfl, rfl⟩
theorem c34 : Callable Tryd.prog 34 := ⟨_, Tryd.func34, rfl, rfl⟩
theorem c35 : Callable Tryd.prog 35 := ⟨_, Tryd.func35, rfl, rfl⟩
theorem c36 : Callable Tryd.prog 36 := ⟨_, Tryd.func36, rfl, rfl⟩
theorem c37 : Callable Tryd.prog 37 := ⟨_, Tryd.func37, rfl, rfl⟩
theorem c38 : Callable Tryd.prog 38 := ⟨_, Tryd.func38, rfl, rfl⟩
theorem c39 : Callable Tryd.prog 39 := ⟨_, Tryd.func39, rfl, rfl⟩
theorem c40 : Callable Tryd.prog 40 := ⟨_, Tryd.func40, rfl, rfl⟩
theorem c41 : Callable Tryd.prog 41 := ⟨_, Tryd.func41, rfl, rfl⟩
theorem c42 : Callable Tryd.prog 42 := ⟨_, Tryd.func42, rfl, rfl⟩
theorem c43 : Callable Tryd.prog 43 := ⟨_, Tryd.func43, rfl, rfl⟩
theorem c44 : Callable Tryd.prog 44 := ⟨_, Tryd.func44, rfl, rfl⟩
theorem c45 : Callable Tryd.prog 45 := ⟨_, Tryd.func45, rfl, rfl⟩
theorem c46 : Callable Tryd.prog 46 := ⟨_, Tryd.func46, rfl, rfl⟩
theorem c47 : Callable Tryd.prog 47 := ⟨_, Tryd.func47, rfl, rfl⟩
theorem c48 : Callable Tryd.prog 48 := ⟨_, Tryd.func48, rfl, rfl⟩
theorem c49 : Callable Tryd.prog 49 := ⟨_, Tryd.func49, rfl, rfl⟩
theorem c50 : Callable Tryd.prog 50 := ⟨_, Tryd.func50, rfl, rfl⟩
theorem c51 : Callable Tryd.prog 51 := ⟨_, Tryd.func51, rfl, rfl⟩
theorem c52 : Callable Tryd.prog 52 := ⟨_, Tryd.func52, rfl, rfl⟩
theorem c53 : Callable Tryd.prog 53 := ⟨_, Tryd.func53, rfl, rfl⟩
theorem c54 : Callable Tryd.prog 54 := ⟨_, Tryd.func54, rfl, rfl⟩
theorem c55 : Callable Tryd.prog 55 := ⟨_, Tryd.func55, rfl, rfl⟩
theorem c56 : Callable Tryd.prog 56 := ⟨_, Tryd.func56, rfl, rfl⟩
theorem c57 : Callable Tryd.prog 57 := ⟨_, Tryd.func57, rfl, rfl⟩
theorem c58 : Callable Tryd.prog 58 := ⟨_, Tryd.func58, rfl, rfl⟩
theorem c59 : Callable Tryd.prog 59 := ⟨_, Tryd.func59, rfl, rfl⟩
theorem c60 : Callable Tryd.prog 60 := ⟨_, Tryd.func60, rfl, rfl⟩
theorem c61 : Callable Tryd.prog 61 := ⟨_, Tryd.func61, rfl, rfl⟩
theorem c62 : Callable Tryd.prog 62 := ⟨_, Tryd.func62, rfl, rfl⟩
theorem c63 : Callable Tryd.prog 63 := ⟨_, Tryd.func63, rfl, rfl⟩
theorem c64 : Callable Tryd.prog 64 := ⟨_, Tryd.func64, rfl, rfl⟩
theorem c65 : Callable Tryd.prog 65 := ⟨_, Tryd.func65, rfl, rfl⟩
theorem c66 : Callable Tryd.prog 66 := ⟨_, Tryd.func66, rfl, rfl⟩
theorem c67 : Callable Tryd.prog 67 := ⟨_, Tryd.func67, rfl, rfl⟩
theorem c68 : Callable Tryd.prog 68 := ⟨_, Tryd.func68, rfl, rfl⟩
theorem c69 : Callable Tryd.prog 69 := ⟨_, Tryd.func69, rfl, rfl⟩
theorem c70 : Callable Tryd.prog 70 := ⟨_, Tryd.func70, rfl, rfl⟩
theorem c71 : Callable Tryd.prog 71 := ⟨_, Tryd.func71, rfl, rfl⟩
theorem c72 : Callable Tryd.prog 72 := ⟨_, Tryd.func72, rfl, rfl⟩
theorem c73 : Callable Tryd.prog 73 := ⟨_, Tryd.func73, rfl, rfl⟩
theorem c74 : Callable Tryd.prog 74 := ⟨_, Tryd.func74, rfl, rfl⟩
theorem c75 : Callable Tryd.prog 75 := ⟨_, Tryd.func75, rfl, rfl⟩
theorem c76 : Callable Tryd.prog 76 := ⟨_, Tryd.func76, rfl, rfl⟩
theorem c77 : Callable Tryd.prog 77 := ⟨_, Tryd.func77, rfl, rfl⟩
theorem c78 : Callable Tryd.prog 78 := ⟨_, Tryd.func78, rfl, rfl⟩
theorem c79 : Callable Tryd.prog 79 := ⟨_, Tryd.func79, rfl, rfl⟩
theorem c82 : Callable Tryd.prog 82 := ⟨_, Tryd.func82, rfl, rfl⟩
theorem c83 : Callable Tryd.prog 83 := ⟨_, Tryd.func83, rfl, rfl⟩
theorem c84 : Callable Tryd.prog 84 := ⟨_, Tryd.func84, rfl, rfl⟩
theorem c85 : Callable Tryd.prog 85 := ⟨_, Tryd.func85, rfl, rfl⟩
theorem c86 : Callable Tryd.prog 86 := ⟨_, Tryd.func86, rfl, rfl⟩
theorem c87 : Callable Tryd.prog 87 := ⟨_, Tryd.func87, rfl, rfl⟩
theorem c88 : Callable Tryd.prog 88 := ⟨_, Tryd.func88, rfl, rfl⟩
theorem c89 : Callable Tryd.prog 89 := ⟨_, Tryd.func89, rfl, rfl⟩
theorem c90 : Callable Tryd.prog 90 := ⟨_, Tryd.func90, rfl, rfl⟩
theorem c91 : Callable Tryd.prog 91 := ⟨_, Tryd.func91, rfl, rfl⟩
theorem c92 : Callable Tryd.prog 92 := ⟨_, Tryd.func92, rfl, rfl⟩
theorem c93 : Callable Tryd.prog 93 := ⟨_, Tryd.func93, rfl, rfl⟩
theorem c94 : Callable Tryd.prog 94 := ⟨_, Tryd.func94, rfl, rfl⟩
theorem c95 : Callable Tryd.prog 95 := ⟨_, Tryd.func95, rfl, rfl⟩
theorem c96 : Callable Tryd.prog 96 := ⟨_, Tryd.func96, rfl, rfl⟩
theorem c97 : Callable Tryd.prog 97 := ⟨_, Tryd.func97, rfl, rfl⟩
theorem c98 : Callable Tryd.prog 98 := ⟨_, Tryd.func98, rfl, rfl⟩
theorem c99 : Callable Tryd.prog 99 := ⟨_, Tryd.func99, rfl, rfl⟩
theorem c100 : Callable Tryd.prog 100 := ⟨_, Tryd.func100, rfl, rfl⟩
theorem c101 : Callable Tryd.prog 101 := ⟨_, Tryd.func101, rfl, rfl⟩
theorem c102 : Callable Tryd.prog 102 := ⟨_, Tryd.func102, rfl, rfl⟩
theorem c103 : Callable Tryd.prog 103 := ⟨_, Tryd.func103, rfl, rfl⟩
theorem c104 : Callable Tryd.prog 104 := ⟨_, Tryd.func104, rfl, rfl⟩
theorem c105 : Callable Tryd.prog 105 := ⟨_, Tryd.func105, rfl, rfl⟩
theorem c128 : Callable Tryd.prog 128 := ⟨_, Tryd.func128, rfl, rfl⟩
theorem mixed : Tryd.prog.follows .mixedOrders = true := by kernel_rfl
end Go.Proofs.YtbpkhgehchelhaaDoor
