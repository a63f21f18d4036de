/- Part of the proof of a statement about the given program. -/
import Derived.Test.YtbpkhgehchelhaaDoorP01
import Derived.Test.YtbpkhgehchelhaaDoorProg
import Derived.KernelRfl
import Derived.Shelf.Strings.Builder1
import Derived.Shelf.Small.Utf8
import Derived.Shelf.Small.Strs
import Derived.Shelf.Strings.Search1
import Derived.Shelf.Strings.Prefix
import Derived.Shelf.Strings.Runes
import Derived.Shelf.Unicode.DecodeSlow
import Derived.Shelf.Unicode.DecodeAny
import Derived.Lib.AppendStr
import Derived.Laws.BytesArg
import Derived.Laws.IdiomStrings
import Derived.Lib.Overlaps
import Derived.Lib.AppendZerosOnto
import Derived.Lib.SlBytesConst
import Derived.MapKept
import Derived.Scope
import Derived.OwnWalk
import Derived.Lib.SmallJoins
import Derived.WalkLawsBesides
import Derived.Recover
import Derived.Lib.OthersKept
import Derived.Laws.RangeString
import Derived.Laws.Runes
set_option linter.unusedSimpArgs false
set_option linter.unusedVariables false
set_option linter.unusedSectionVars false
section
namespace Go.Proofs.YtbpkhgehchelhaaDoor
open Go Go.Vg
def tyL : List (Nat × TypeDesc) := [(0, (TypeDesc.tuple #[])),
  (1, (TypeDesc.func #[] #[] false)),
  (2, (TypeDesc.int IntKind.i64)),
  (3, (TypeDesc.int IntKind.i64)),
  (4, TypeDesc.bool),
  (5, (TypeDesc.int IntKind.u8)),
  (6, (TypeDesc.int IntKind.u8)),
  (7, (TypeDesc.struct #[{ name := "x", type := 2, offset := 0, embedded := false, tag := "", pkgPath := "runtime", byteOffset := 0 }, { name := "y", type := 3, offset := 1, embedded := false, tag := "", pkgPath := "runtime", byteOffset := 8 }, { name := "signed", type := 4, offset := 2, embedded := false, tag := "", pkgPath := "runtime", byteOffset := 16 }, { name := "code", type := 6, offset := 3, embedded := false, tag := "", pkgPath := "runtime", byteOffset := 17 }])),
  (8, (TypeDesc.struct #[{ name := "x", type := 2, offset := 0, embedded := false, tag := "", pkgPath := "runtime", byteOffset := 0 }, { name := "y", type := 3, offset := 1, embedded := false, tag := "", pkgPath := "runtime", byteOffset := 8 }, { name := "signed", type := 4, offset := 2, embedded := false, tag := "", pkgPath := "runtime", byteOffset := 16 }, { name := "code", type := 6, offset := 3, embedded := false, tag := "", pkgPath := "runtime", byteOffset := 17 }])),
  (9, TypeDesc.string),
  (10, TypeDesc.string),
  (11, TypeDesc.string),
  (12, (TypeDesc.int IntKind.u64)),
  (13, (TypeDesc.struct #[{ name := "msg", type := 9, offset := 0, embedded := false, tag := "", pkgPath := "runtime", byteOffset := 0 }, { name := "addr", type := 12, offset := 1, embedded := false, tag := "", pkgPath := "runtime", byteOffset := 16 }])),
  (14, (TypeDesc.struct #[{ name := "msg", type := 9, offset := 0, embedded := false, tag := "", pkgPath := "runtime", byteOffset := 0 }, { name := "addr", type := 12, offset := 1, embedded := false, tag := "", pkgPath := "runtime", byteOffset := 16 }])),
  (15, (TypeDesc.pointer 164)),
  (16, (TypeDesc.pointer 167)),
  (17, (TypeDesc.pointer 175)),
  (18, (TypeDesc.struct #[{ name := "typ", type := 17, offset := 0, embedded := false, tag := "", pkgPath := "internal/runtime/maps", byteOffset := 0 }])),
  (19, (TypeDesc.struct #[{ name := "typ", type := 17, offset := 0, embedded := false, tag := "", pkgPath := "internal/runtime/maps", byteOffset := 0 }])),
  (20, (TypeDesc.interface #[])),
  (21, (TypeDesc.int IntKind.i32)),
  (22, (TypeDesc.slice 9)),
  (23, (TypeDesc.pointer 77)),
  (24, (TypeDesc.int IntKind.i64)),
  (25, (TypeDesc.tuple #[23, 3, 24])),
  (26, (TypeDesc.func #[9] #[23, 3, 24] false)),
  (27, (TypeDesc.pointer 56)),
  (28, (TypeDesc.tuple #[27, 3, 24])),
  (29, (TypeDesc.func #[9] #[27, 3, 24] false)),
  (30, (TypeDesc.func #[] #[4] false)),
  (31, (TypeDesc.func #[22] #[22] false)),
  (32, (TypeDesc.slice 3)),
  (33, (TypeDesc.tuple #[32, 4])),
  (34, (TypeDesc.func #[9] #[32, 4] false)),
  (35, (TypeDesc.func #[32, 32] #[4] false)),
  (36, (TypeDesc.func #[9] #[4] false)),
  (37, (TypeDesc.func #[32] #[] false)),
  (38, (TypeDesc.func #[9, 22] #[4] false)),
  (39, (TypeDesc.func #[23, 23, 9] #[4] false)),
  (40, (TypeDesc.func #[9, 9, 22] #[4] false)),
  (41, (TypeDesc.struct #[{ name := "S", type := 9, offset := 0, embedded := false, tag := "", pkgPath := "", byteOffset := 0 }, { name := "N", type := 3, offset := 1, embedded := false, tag := "", pkgPath := "", byteOffset := 16 }, { name := "M", type := 3, offset := 2, embedded := false, tag := "", pkgPath := "", byteOffset := 24 }, { name := "L", type := 22, offset := 3, embedded := false, tag := "", pkgPath := "", byteOffset := 32 }])),
  (42, (TypeDesc.struct #[{ name := "S", type := 9, offset := 0, embedded := false, tag := "", pkgPath := "", byteOffset := 0 }, { name := "N", type := 3, offset := 1, embedded := false, tag := "", pkgPath := "", byteOffset := 16 }, { name := "M", type := 3, offset := 2, embedded := false, tag := "", pkgPath := "", byteOffset := 24 }, { name := "L", type := 22, offset := 3, embedded := false, tag := "", pkgPath := "", byteOffset := 32 }])),
  (43, (TypeDesc.func #[3, 3] #[3] false)),
  (44, (TypeDesc.slice 5)),
  (45, (TypeDesc.array 4 9)),
  (46, (TypeDesc.array 4 3)),
  (47, (TypeDesc.func #[42] #[4] false)),
  (48, (TypeDesc.slice 21)),
  (49, (TypeDesc.struct #[{ name := "Chars", type := 48, offset := 0, embedded := false, tag := "", pkgPath := "", byteOffset := 0 }, { name := "Lo", type := 21, offset := 1, embedded := false, tag := "", pkgPath := "", byteOffset := 24 }, { name := "Hi", type := 21, offset := 2, embedded := false, tag := "", pkgPath := "", byteOffset := 28 }, { name := "L", type := 22, offset := 3, embedded := false, tag := "", pkgPath := "", byteOffset := 32 }])),
  (50, (TypeDesc.struct #[{ name := "Chars", type := 48, offset := 0, embedded := false, tag := "", pkgPath := "", byteOffset := 0 }, { name := "Lo", type := 21, offset := 1, embedded := false, tag := "", pkgPath := "", byteOffset := 24 }, { name := "Hi", type := 21, offset := 2, embedded := false, tag := "", pkgPath := "", byteOffset := 28 }, { name := "L", type := 22, offset := 3, embedded := false, tag := "", pkgPath := "", byteOffset := 32 }])),
  (51, (TypeDesc.func #[9, 3] #[3] false)),
  (52, (TypeDesc.func #[50] #[4] false)),
  (53, (TypeDesc.func #[] #[3] false)),
  (54, (TypeDesc.slice 90)),
  (55, (TypeDesc.struct #[{ name := "Steps", type := 54, offset := 0, embedded := false, tag := "", pkgPath := "", byteOffset := 0 }, { name := "Count", type := 3, offset := 1, embedded := false, tag := "", pkgPath := "", byteOffset := 24 }])),
  (56, (TypeDesc.struct #[{ name := "Steps", type := 54, offset := 0, embedded := false, tag := "", pkgPath := "", byteOffset := 0 }, { name := "Count", type := 3, offset := 1, embedded := false, tag := "", pkgPath := "", byteOffset := 24 }])),
  (57, (TypeDesc.func #[22] #[4] false)),
  (58, (TypeDesc.func #[96] #[] false)),
  (59, (TypeDesc.func #[96] #[] false)),
  (60, (TypeDesc.func #[22] #[59] false)),
  (61, (TypeDesc.func #[9, 9] #[4] false)),
  (62, (TypeDesc.func #[9, 22, 3] #[4] false)),
  (63, (TypeDesc.func #[9] #[9] false)),
  (64, (TypeDesc.func #[9, 9, 32] #[9] false)),
  (65, (TypeDesc.pointer 123)),
  (66, (TypeDesc.tuple #[65, 3, 3, 4])),
  (67, (TypeDesc.func #[9] #[65, 3, 3, 4] false)),
  (68, (TypeDesc.pointer 71)),
  (69, (TypeDesc.slice 75)),
  (70, (TypeDesc.struct #[{ name := "steps", type := 69, offset := 0, embedded := false, tag := "", pkgPath := "vigil/regex", byteOffset := 0 }, { name := "full", type := 4, offset := 1, embedded := false, tag := "", pkgPath := "vigil/regex", byteOffset := 24 }])),
  (71, (TypeDesc.struct #[{ name := "steps", type := 69, offset := 0, embedded := false, tag := "", pkgPath := "vigil/regex", byteOffset := 0 }, { name := "full", type := 4, offset := 1, embedded := false, tag := "", pkgPath := "vigil/regex", byteOffset := 24 }])),
  (72, (TypeDesc.func #[65] #[] false)),
  (73, (TypeDesc.func #[75] #[3] false)),
  (74, (TypeDesc.struct #[{ name := "kind", type := 3, offset := 0, embedded := false, tag := "", pkgPath := "vigil/regex", byteOffset := 0 }, { name := "set", type := 65, offset := 1, embedded := false, tag := "", pkgPath := "vigil/regex", byteOffset := 8 }, { name := "slot", type := 3, offset := 2, embedded := false, tag := "", pkgPath := "vigil/regex", byteOffset := 16 }, { name := "a", type := 3, offset := 3, embedded := false, tag := "", pkgPath := "vigil/regex", byteOffset := 24 }, { name := "b", type := 3, offset := 4, embedded := false, tag := "", pkgPath := "vigil/regex", byteOffset := 32 }])),
  (75, (TypeDesc.struct #[{ name := "kind", type := 3, offset := 0, embedded := false, tag := "", pkgPath := "vigil/regex", byteOffset := 0 }, { name := "set", type := 65, offset := 1, embedded := false, tag := "", pkgPath := "vigil/regex", byteOffset := 8 }, { name := "slot", type := 3, offset := 2, embedded := false, tag := "", pkgPath := "vigil/regex", byteOffset := 16 }, { name := "a", type := 3, offset := 3, embedded := false, tag := "", pkgPath := "vigil/regex", byteOffset := 24 }, { name := "b", type := 3, offset := 4, embedded := false, tag := "", pkgPath := "vigil/regex", byteOffset := 32 }])),
  (76, (TypeDesc.struct #[{ name := "steps", type := 69, offset := 0, embedded := false, tag := "", pkgPath := "vigil/regex", byteOffset := 0 }, { name := "groups", type := 3, offset := 1, embedded := false, tag := "", pkgPath := "vigil/regex", byteOffset := 24 }])),
  (77, (TypeDesc.struct #[{ name := "steps", type := 69, offset := 0, embedded := false, tag := "", pkgPath := "vigil/regex", byteOffset := 0 }, { name := "groups", type := 3, offset := 1, embedded := false, tag := "", pkgPath := "vigil/regex", byteOffset := 24 }])),
  (78, (TypeDesc.pointer 80)),
  (79, (TypeDesc.struct #[{ name := "s", type := 9, offset := 0, embedded := false, tag := "", pkgPath := "vigil/vigilref04", byteOffset := 0 }, { name := "at", type := 3, offset := 1, embedded := false, tag := "", pkgPath := "vigil/vigilref04", byteOffset := 16 }, { name := "wrong", type := 3, offset := 2, embedded := false, tag := "", pkgPath := "vigil/vigilref04", byteOffset := 24 }, { name := "count", type := 3, offset := 3, embedded := false, tag := "", pkgPath := "vigil/vigilref04", byteOffset := 32 }])),
  (80, (TypeDesc.struct #[{ name := "s", type := 9, offset := 0, embedded := false, tag := "", pkgPath := "vigil/vigilref04", byteOffset := 0 }, { name := "at", type := 3, offset := 1, embedded := false, tag := "", pkgPath := "vigil/vigilref04", byteOffset := 16 }, { name := "wrong", type := 3, offset := 2, embedded := false, tag := "", pkgPath := "vigil/vigilref04", byteOffset := 24 }, { name := "count", type := 3, offset := 3, embedded := false, tag := "", pkgPath := "vigil/vigilref04", byteOffset := 32 }])),
  (81, (TypeDesc.struct #[{ name := "l", type := 32, offset := 0, embedded := false, tag := "", pkgPath := "vigil/vigilref04", byteOffset := 0 }, { name := "not", type := 4, offset := 1, embedded := false, tag := "", pkgPath := "vigil/vigilref04", byteOffset := 24 }])),
  (82, (TypeDesc.struct #[{ name := "l", type := 32, offset := 0, embedded := false, tag := "", pkgPath := "vigil/vigilref04", byteOffset := 0 }, { name := "not", type := 4, offset := 1, embedded := false, tag := "", pkgPath := "vigil/vigilref04", byteOffset := 24 }])),
  (83, (TypeDesc.slice 85)),
  (84, (TypeDesc.struct #[{ name := "kind", type := 3, offset := 0, embedded := false, tag := "", pkgPath := "vigil/vigilref04", byteOffset := 0 }, { name := "c", type := 82, offset := 1, embedded := false, tag := "", pkgPath := "vigil/vigilref04", byteOffset := 8 }, { name := "kids", type := 83, offset := 3, embedded := false, tag := "", pkgPath := "vigil/vigilref04", byteOffset := 40 }, { name := "n", type := 3, offset := 4, embedded := false, tag := "", pkgPath := "vigil/vigilref04", byteOffset := 64 }, { name := "lo", type := 3, offset := 5, embedded := false, tag := "", pkgPath := "vigil/vigilref04", byteOffset := 72 }, { name := "hi", type := 3, offset := 6, embedded := false, tag := "", pkgPath := "vigil/vigilref04", byteOffset := 80 }, { name := "lazy", type := 4, offset := 7, embedded := false, tag := "", pkgPath := "vigil/vigilref04", byteOffset := 88 }])),
  (85, (TypeDesc.struct #[{ name := "kind", type := 3, offset := 0, embedded := false, tag := "", pkgPath := "vigil/vigilref04", byteOffset := 0 }, { name := "c", type := 82, offset := 1, embedded := false, tag := "", pkgPath := "vigil/vigilref04", byteOffset := 8 }, { name := "kids", type := 83, offset := 3, embedded := false, tag := "", pkgPath := "vigil/vigilref04", byteOffset := 40 }, { name := "n", type := 3, offset := 4, embedded := false, tag := "", pkgPath := "vigil/vigilref04", byteOffset := 64 }, { name := "lo", type := 3, offset := 5, embedded := false, tag := "", pkgPath := "vigil/vigilref04", byteOffset := 72 }, { name := "hi", type := 3, offset := 6, embedded := false, tag := "", pkgPath := "vigil/vigilref04", byteOffset := 80 }, { name := "lazy", type := 4, offset := 7, embedded := false, tag := "", pkgPath := "vigil/vigilref04", byteOffset := 88 }])),
  (86, (TypeDesc.func #[4] #[85] false)),
  (87, (TypeDesc.func #[85] #[3] false)),
  (88, (TypeDesc.func #[85] #[] false)),
  (89, (TypeDesc.struct #[{ name := "kind", type := 3, offset := 0, embedded := false, tag := "", pkgPath := "vigil/vigilref04", byteOffset := 0 }, { name := "a", type := 3, offset := 1, embedded := false, tag := "", pkgPath := "vigil/vigilref04", byteOffset := 8 }, { name := "b", type := 3, offset := 2, embedded := false, tag := "", pkgPath := "vigil/vigilref04", byteOffset := 16 }, { name := "c", type := 82, offset := 3, embedded := false, tag := "", pkgPath := "vigil/vigilref04", byteOffset := 24 }])),
  (90, (TypeDesc.struct #[{ name := "kind", type := 3, offset := 0, embedded := false, tag := "", pkgPath := "vigil/vigilref04", byteOffset := 0 }, { name := "a", type := 3, offset := 1, embedded := false, tag := "", pkgPath := "vigil/vigilref04", byteOffset := 8 }, { name := "b", type := 3, offset := 2, embedded := false, tag := "", pkgPath := "vigil/vigilref04", byteOffset := 16 }, { name := "c", type := 82, offset := 3, embedded := false, tag := "", pkgPath := "vigil/vigilref04", byteOffset := 24 }])),
  (91, (TypeDesc.pointer 94)),
  (92, (TypeDesc.slice 4)),
  (93, (TypeDesc.struct #[{ name := "p", type := 27, offset := 0, embedded := false, tag := "", pkgPath := "vigil/vigilref04", byteOffset := 0 }, { name := "s", type := 9, offset := 1, embedded := false, tag := "", pkgPath := "vigil/vigilref04", byteOffset := 8 }, { name := "seen", type := 92, offset := 2, embedded := false, tag := "", pkgPath := "vigil/vigilref04", byteOffset := 24 }])),
  (94, (TypeDesc.struct #[{ name := "p", type := 27, offset := 0, embedded := false, tag := "", pkgPath := "vigil/vigilref04", byteOffset := 0 }, { name := "s", type := 9, offset := 1, embedded := false, tag := "", pkgPath := "vigil/vigilref04", byteOffset := 8 }, { name := "seen", type := 92, offset := 2, embedded := false, tag := "", pkgPath := "vigil/vigilref04", byteOffset := 24 }])),
  (95, (TypeDesc.func #[3, 3, 32] #[32, 4] false)),
  (96, (TypeDesc.func #[3] #[4] false)),
  (97, (TypeDesc.pointer 99)),
  (98, (TypeDesc.struct #[{ name := "addr", type := 97, offset := 0, embedded := false, tag := "", pkgPath := "strings", byteOffset := 0 }, { name := "buf", type := 44, offset := 1, embedded := false, tag := "", pkgPath := "strings", byteOffset := 8 }])),
  (99, (TypeDesc.struct #[{ name := "addr", type := 97, offset := 0, embedded := false, tag := "", pkgPath := "strings", byteOffset := 0 }, { name := "buf", type := 44, offset := 1, embedded := false, tag := "", pkgPath := "strings", byteOffset := 8 }])),
  (100, (TypeDesc.interface #[("Error", 106)])),
  (101, (TypeDesc.interface #[("Error", 106)])),
  (102, (TypeDesc.tuple #[3, 101])),
  (103, (TypeDesc.func #[9] #[3, 101] false)),
  (104, (TypeDesc.func #[9, 5] #[3] false)),
  (105, (TypeDesc.func #[5] #[101] false)),
  (106, (TypeDesc.func #[] #[9] false)),
  (107, (TypeDesc.func #[5] #[4] false)),
  (108, (TypeDesc.tuple #[3, 3])),
  (109, (TypeDesc.func #[9] #[3, 3] false)),
  (110, (TypeDesc.func #[9, 32, 3] #[9] false)),
  (111, (TypeDesc.tuple #[3, 24])),
  (112, (TypeDesc.func #[9] #[3, 24] false)),
  (113, (TypeDesc.pointer 115)),
  (114, (TypeDesc.struct #[{ name := "s", type := 9, offset := 0, embedded := false, tag := "", pkgPath := "vigil/regex", byteOffset := 0 }, { name := "at", type := 3, offset := 1, embedded := false, tag := "", pkgPath := "vigil/regex", byteOffset := 16 }, { name := "groups", type := 3, offset := 2, embedded := false, tag := "", pkgPath := "vigil/regex", byteOffset := 24 }])),
  (115, (TypeDesc.struct #[{ name := "s", type := 9, offset := 0, embedded := false, tag := "", pkgPath := "vigil/regex", byteOffset := 0 }, { name := "at", type := 3, offset := 1, embedded := false, tag := "", pkgPath := "vigil/regex", byteOffset := 16 }, { name := "groups", type := 3, offset := 2, embedded := false, tag := "", pkgPath := "vigil/regex", byteOffset := 24 }])),
  (116, (TypeDesc.struct #[{ name := "at", type := 3, offset := 0, embedded := false, tag := "", pkgPath := "vigil/regex", byteOffset := 0 }])),
  (117, (TypeDesc.struct #[{ name := "at", type := 3, offset := 0, embedded := false, tag := "", pkgPath := "vigil/regex", byteOffset := 0 }])),
  (118, (TypeDesc.func #[] #[65] false)),
  (119, (TypeDesc.func #[3] #[] false)),
  (120, (TypeDesc.slice 140)),
  (121, (TypeDesc.slice 65)),
  (122, (TypeDesc.struct #[{ name := "kind", type := 3, offset := 0, embedded := false, tag := "", pkgPath := "vigil/regex", byteOffset := 0 }, { name := "spans", type := 120, offset := 1, embedded := false, tag := "", pkgPath := "vigil/regex", byteOffset := 8 }, { name := "not", type := 4, offset := 2, embedded := false, tag := "", pkgPath := "vigil/regex", byteOffset := 32 }, { name := "number", type := 3, offset := 3, embedded := false, tag := "", pkgPath := "vigil/regex", byteOffset := 40 }, { name := "min", type := 3, offset := 4, embedded := false, tag := "", pkgPath := "vigil/regex", byteOffset := 48 }, { name := "max", type := 3, offset := 5, embedded := false, tag := "", pkgPath := "vigil/regex", byteOffset := 56 }, { name := "few", type := 4, offset := 6, embedded := false, tag := "", pkgPath := "vigil/regex", byteOffset := 64 }, { name := "plus", type := 4, offset := 7, embedded := false, tag := "", pkgPath := "vigil/regex", byteOffset := 65 }, { name := "kids", type := 121, offset := 8, embedded := false, tag := "", pkgPath := "vigil/regex", byteOffset := 72 }])),
  (123, (TypeDesc.struct #[{ name := "kind", type := 3, offset := 0, embedded := false, tag := "", pkgPath := "vigil/regex", byteOffset := 0 }, { name := "spans", type := 120, offset := 1, embedded := false, tag := "", pkgPath := "vigil/regex", byteOffset := 8 }, { name := "not", type := 4, offset := 2, embedded := false, tag := "", pkgPath := "vigil/regex", byteOffset := 32 }, { name := "number", type := 3, offset := 3, embedded := false, tag := "", pkgPath := "vigil/regex", byteOffset := 40 }, { name := "min", type := 3, offset := 4, embedded := false, tag := "", pkgPath := "vigil/regex", byteOffset := 48 }, { name := "max", type := 3, offset := 5, embedded := false, tag := "", pkgPath := "vigil/regex", byteOffset := 56 }, { name := "few", type := 4, offset := 6, embedded := false, tag := "", pkgPath := "vigil/regex", byteOffset := 64 }, { name := "plus", type := 4, offset := 7, embedded := false, tag := "", pkgPath := "vigil/regex", byteOffset := 65 }, { name := "kids", type := 121, offset := 8, embedded := false, tag := "", pkgPath := "vigil/regex", byteOffset := 72 }])),
  (124, (TypeDesc.func #[3, 3, 3, 4] #[] false)),
  (125, (TypeDesc.struct #[{ name := "fork", type := 4, offset := 0, embedded := false, tag := "", pkgPath := "vigil/regex", byteOffset := 0 }, { name := "step", type := 3, offset := 1, embedded := false, tag := "", pkgPath := "vigil/regex", byteOffset := 8 }, { name := "at", type := 3, offset := 2, embedded := false, tag := "", pkgPath := "vigil/regex", byteOffset := 16 }, { name := "slot", type := 3, offset := 3, embedded := false, tag := "", pkgPath := "vigil/regex", byteOffset := 24 }, { name := "was", type := 3, offset := 4, embedded := false, tag := "", pkgPath := "vigil/regex", byteOffset := 32 }, { name := "seq", type := 3, offset := 5, embedded := false, tag := "", pkgPath := "vigil/regex", byteOffset := 40 }])),
  (126, (TypeDesc.struct #[{ name := "fork", type := 4, offset := 0, embedded := false, tag := "", pkgPath := "vigil/regex", byteOffset := 0 }, { name := "step", type := 3, offset := 1, embedded := false, tag := "", pkgPath := "vigil/regex", byteOffset := 8 }, { name := "at", type := 3, offset := 2, embedded := false, tag := "", pkgPath := "vigil/regex", byteOffset := 16 }, { name := "slot", type := 3, offset := 3, embedded := false, tag := "", pkgPath := "vigil/regex", byteOffset := 24 }, { name := "was", type := 3, offset := 4, embedded := false, tag := "", pkgPath := "vigil/regex", byteOffset := 32 }, { name := "seq", type := 3, offset := 5, embedded := false, tag := "", pkgPath := "vigil/regex", byteOffset := 40 }])),
  (127, (TypeDesc.slice 126)),
  (128, (TypeDesc.pointer 75)),
  (129, (TypeDesc.tuple #[21, 3])),
  (130, (TypeDesc.func #[9] #[21, 3] false)),
  (131, (TypeDesc.func #[21] #[4] false)),
  (132, (TypeDesc.func #[9, 3] #[3, 3] false)),
  (133, (TypeDesc.pointer 5)),
  (134, (TypeDesc.func #[9] #[3] false)),
  (135, (TypeDesc.func #[3] #[9] false)),
  (136, (TypeDesc.tuple #[85, 4])),
  (137, (TypeDesc.func #[] #[85, 4] false)),
  (138, (TypeDesc.func #[85, 4] #[85] false)),
  (139, (TypeDesc.struct #[{ name := "from", type := 21, offset := 0, embedded := false, tag := "", pkgPath := "vigil/regex", byteOffset := 0 }, { name := "to", type := 21, offset := 1, embedded := false, tag := "", pkgPath := "vigil/regex", byteOffset := 4 }])),
  (140, (TypeDesc.struct #[{ name := "from", type := 21, offset := 0, embedded := false, tag := "", pkgPath := "vigil/regex", byteOffset := 0 }, { name := "to", type := 21, offset := 1, embedded := false, tag := "", pkgPath := "vigil/regex", byteOffset := 4 }])),
  (141, (TypeDesc.array 5 3)),
  (142, TypeDesc.unsafePointer),
  (143, (TypeDesc.func #[142] #[142] false)),
  (144, (TypeDesc.func #[] #[85] false)),
  (145, (TypeDesc.func #[] #[82] false)),
  (146, (TypeDesc.func #[4] #[3, 3] false)),
  (147, (TypeDesc.array 256 5)),
  (148, (TypeDesc.int IntKind.u64)),
  (149, (TypeDesc.struct #[{ name := "lo", type := 5, offset := 0, embedded := false, tag := "", pkgPath := "unicode/utf8", byteOffset := 0 }, { name := "hi", type := 5, offset := 1, embedded := false, tag := "", pkgPath := "unicode/utf8", byteOffset := 1 }])),
  (150, (TypeDesc.struct #[{ name := "lo", type := 5, offset := 0, embedded := false, tag := "", pkgPath := "unicode/utf8", byteOffset := 0 }, { name := "hi", type := 5, offset := 1, embedded := false, tag := "", pkgPath := "unicode/utf8", byteOffset := 1 }])),
  (151, (TypeDesc.array 16 150)),
  (152, (TypeDesc.func #[] #[3, 3] false)),
  (153, (TypeDesc.func #[] #[32] false)),
  (154, (TypeDesc.func #[] #[21] false)),
  (155, (TypeDesc.tuple #[120, 4])),
  (156, (TypeDesc.func #[] #[120, 4] false)),
  (157, (TypeDesc.func #[9, 21] #[4] false)),
  (158, (TypeDesc.func #[21] #[21] false)),
  (159, (TypeDesc.func #[9, 21] #[3] false)),
  (160, (TypeDesc.func #[120] #[120] false)),
  (161, (TypeDesc.func #[3] #[3] false)),
  (162, (TypeDesc.func #[9, 9] #[3] false)),
  (163, (TypeDesc.struct #[{ name := "_interface", type := 17, offset := 0, embedded := false, tag := "", pkgPath := "runtime", byteOffset := 0 }, { name := "concrete", type := 17, offset := 1, embedded := false, tag := "", pkgPath := "runtime", byteOffset := 8 }, { name := "asserted", type := 17, offset := 2, embedded := false, tag := "", pkgPath := "runtime", byteOffset := 16 }, { name := "missingMethod", type := 9, offset := 3, embedded := false, tag := "", pkgPath := "runtime", byteOffset := 24 }])),
  (164, (TypeDesc.struct #[{ name := "_interface", type := 17, offset := 0, embedded := false, tag := "", pkgPath := "runtime", byteOffset := 0 }, { name := "concrete", type := 17, offset := 1, embedded := false, tag := "", pkgPath := "runtime", byteOffset := 8 }, { name := "asserted", type := 17, offset := 2, embedded := false, tag := "", pkgPath := "runtime", byteOffset := 16 }, { name := "missingMethod", type := 9, offset := 3, embedded := false, tag := "", pkgPath := "runtime", byteOffset := 24 }])),
  (165, (TypeDesc.array 0 16)),
  (166, (TypeDesc.struct #[{ name := "_", type := 165, offset := 0, embedded := false, tag := "", pkgPath := "runtime", byteOffset := 0 }])),
  (167, (TypeDesc.struct #[{ name := "_", type := 165, offset := 0, embedded := false, tag := "", pkgPath := "runtime", byteOffset := 0 }])),
  (168, (TypeDesc.int IntKind.u32)),
  (169, (TypeDesc.int IntKind.u8)),
  (170, (TypeDesc.int IntKind.u8)),
  (171, (TypeDesc.func #[142, 142] #[4] false)),
  (172, (TypeDesc.int IntKind.i32)),
  (173, (TypeDesc.int IntKind.i32)),
  (174, (TypeDesc.struct #[{ name := "Size_", type := 12, offset := 0, embedded := false, tag := "", pkgPath := "", byteOffset := 0 }, { name := "PtrBytes", type := 12, offset := 1, embedded := false, tag := "", pkgPath := "", byteOffset := 8 }, { name := "Hash", type := 168, offset := 2, embedded := false, tag := "", pkgPath := "", byteOffset := 16 }, { name := "TFlag", type := 169, offset := 3, embedded := false, tag := "", pkgPath := "", byteOffset := 20 }, { name := "Align_", type := 5, offset := 4, embedded := false, tag := "", pkgPath := "", byteOffset := 21 }, { name := "FieldAlign_", type := 5, offset := 5, embedded := false, tag := "", pkgPath := "", byteOffset := 22 }, { name := "Kind_", type := 170, offset := 6, embedded := false, tag := "", pkgPath := "", byteOffset := 23 }, { name := "Equal", type := 171, offset := 7, embedded := false, tag := "", pkgPath := "", byteOffset := 24 }, { name := "GCData", type := 133, offset := 8, embedded := false, tag := "", pkgPath := "", byteOffset := 32 }, { name := "Str", type := 172, offset := 9, embedded := false, tag := "", pkgPath := "", byteOffset := 40 }, { name := "PtrToThis", type := 173, offset := 10, embedded := false, tag := "", pkgPath := "", byteOffset := 44 }])),
  (175, (TypeDesc.struct #[{ name := "Size_", type := 12, offset := 0, embedded := false, tag := "", pkgPath := "", byteOffset := 0 }, { name := "PtrBytes", type := 12, offset := 1, embedded := false, tag := "", pkgPath := "", byteOffset := 8 }, { name := "Hash", type := 168, offset := 2, embedded := false, tag := "", pkgPath := "", byteOffset := 16 }, { name := "TFlag", type := 169, offset := 3, embedded := false, tag := "", pkgPath := "", byteOffset := 20 }, { name := "Align_", type := 5, offset := 4, embedded := false, tag := "", pkgPath := "", byteOffset := 21 }, { name := "FieldAlign_", type := 5, offset := 5, embedded := false, tag := "", pkgPath := "", byteOffset := 22 }, { name := "Kind_", type := 170, offset := 6, embedded := false, tag := "", pkgPath := "", byteOffset := 23 }, { name := "Equal", type := 171, offset := 7, embedded := false, tag := "", pkgPath := "", byteOffset := 24 }, { name := "GCData", type := 133, offset := 8, embedded := false, tag := "", pkgPath := "", byteOffset := 32 }, { name := "Str", type := 172, offset := 9, embedded := false, tag := "", pkgPath := "", byteOffset := 40 }, { name := "PtrToThis", type := 173, offset := 10, embedded := false, tag := "", pkgPath := "", byteOffset := 44 }]))]
theorem tyL_ok : AllT Tryd.prog tyL := ⟨Tryd.underlying0, Tryd.underlying1, Tryd.underlying2, Tryd.underlying3, Tryd.underlying4, Tryd.underlying5, Tryd.underlying6, Tryd.underlying7, Tryd.underlying8, Tryd.underlying9, Tryd.underlying10, Tryd.underlying11, Tryd.underlying12, Tryd.underlying13, Tryd.underlying14, Tryd.underlying15, Tryd.underlying16, Tryd.underlying17, Tryd.underlying18, Tryd.underlying19, Tryd.underlying20, Tryd.underlying21, Tryd.underlying22, Tryd.underlying23, Tryd.underlying24, Tryd.underlying25, Tryd.underlying26, Tryd.underlying27, Tryd.underlying28, Tryd.underlying29, Tryd.underlying30, Tryd.underlying31, Tryd.underlying32, Tryd.underlying33, Tryd.underlying34, Tryd.underlying35, Tryd.underlying36, Tryd.underlying37, Tryd.underlying38, Tryd.underlying39, Tryd.underlying40, Tryd.underlying41, Tryd.underlying42, Tryd.underlying43, Tryd.underlying44, Tryd.underlying45, Tryd.underlying46, Tryd.underlying47, Tryd.underlying48, Tryd.underlying49, Tryd.underlying50, Tryd.underlying51, Tryd.underlying52, Tryd.underlying53, Tryd.underlying54, Tryd.underlying55, Tryd.underlying56, Tryd.underlying57, Tryd.underlying58, Tryd.underlying59, Tryd.underlying60, Tryd.underlying61, Tryd.underlying62, Tryd.underlying63, Tryd.underlying64, Tryd.underlying65, Tryd.underlying66, Tryd.underlying67, Tryd.underlying68, Tryd.underlying69, Tryd.underlying70, Tryd.underlying71, Tryd.underlying72, Tryd.underlying73, Tryd.underlying74, Tryd.underlying75, Tryd.underlying76, Tryd.underlying77, Tryd.underlying78, Tryd.underlying79, Tryd.underlying80, Tryd.underlying81, Tryd.underlying82, Tryd.underlying83, Tryd.underlying84, Tryd.underlying85, Tryd.underlying86, Tryd.underlying87, Tryd.underlying88, Tryd.underlying89, Tryd.underlying90, Tryd.underlying91, Tryd.underlying92, Tryd.underlying93, Tryd.underlying94, Tryd.underlying95, Tryd.underlying96, Tryd.underlying97, Tryd.underlying98, Tryd.underlying99, Tryd.underlying100, Tryd.underlying101, Tryd.underlying102, Tryd.underlying103, Tryd.underlying104, Tryd.underlying105, Tryd.underlying106, Tryd.underlying107, Tryd.underlying108, Tryd.underlying109, Tryd.underlying110, Tryd.underlying111, Tryd.underlying112, Tryd.underlying113, Tryd.underlying114, Tryd.underlying115, Tryd.underlying116, Tryd.underlying117, Tryd.underlying118, Tryd.underlying119, Tryd.underlying120, Tryd.underlying121, Tryd.underlying122, Tryd.underlying123, Tryd.underlying124, Tryd.underlying125, Tryd.underlying126, Tryd.underlying127, Tryd.underlying128, Tryd.underlying129, Tryd.underlying130, Tryd.underlying131, Tryd.underlying132, Tryd.underlying133, Tryd.underlying134, Tryd.underlying135, Tryd.underlying136, Tryd.underlying137, Tryd.underlying138, Tryd.underlying139, Tryd.underlying140, Tryd.underlying141, Tryd.underlying142, Tryd.underlying143, Tryd.underlying144, Tryd.underlying145, Tryd.underlying146, Tryd.underlying147, Tryd.underlying148, Tryd.underlying149, Tryd.underlying150, Tryd.underlying151, Tryd.underlying152, Tryd.underlying153, Tryd.underlying154, Tryd.underlying155, Tryd.underlying156, Tryd.underlying157, Tryd.underlying158, Tryd.underlying159, Tryd.underlying160, Tryd.underlying161, Tryd.underlying162, Tryd.underlying163, Tryd.underlying164, Tryd.underlying165, Tryd.underlying166, Tryd.underlying167, Tryd.underlying168, Tryd.underlying169, Tryd.underlying170, Tryd.underlying171, Tryd.underlying172, Tryd.underlying173, Tryd.underlying174, Tryd.underlying175, trivial⟩
def infL : List (Nat × Value × Nat × Nat) := [(1, .nilFunc, 1, 8),
  (2, (.int .i64 0), 1, 8),
  (3, (.int .i64 0), 1, 8),
  (4, (.bool false), 1, 1),
  (5, (.int .u8 0), 1, 1),
  (6, (.int .u8 0), 1, 1),
  (7, (.agg ⟨[(.int .i64 0), (.int .i64 0), (.bool false), (.int .u8 0)]⟩), 4, 24),
  (8, (.agg ⟨[(.int .i64 0), (.int .i64 0), (.bool false), (.int .u8 0)]⟩), 4, 24),
  (9, (S []), 1, 16),
  (10, (S []), 1, 16),
  (11, (S []), 1, 16),
  (12, (.int .u64 0), 1, 8),
  (13, (.agg ⟨[(S []), (.int .u64 0)]⟩), 2, 24),
  (14, (.agg ⟨[(S []), (.int .u64 0)]⟩), 2, 24),
  (15, (.pointer none), 1, 8),
  (16, (.pointer none), 1, 8),
  (17, (.pointer none), 1, 8),
  (18, (.agg ⟨[(.pointer none)]⟩), 1, 8),
  (19, (.agg ⟨[(.pointer none)]⟩), 1, 8),
  (20, .nilIface, 1, 16),
  (21, (.int .i32 0), 1, 4),
  (22, (.slice none 0 0), 1, 24),
  (23, (.pointer none), 1, 8),
  (24, (.int .i64 0), 1, 8),
  (26, .nilFunc, 1, 8),
  (27, (.pointer none), 1, 8),
  (29, .nilFunc, 1, 8),
  (30, .nilFunc, 1, 8),
  (31, .nilFunc, 1, 8),
  (32, (.slice none 0 0), 1, 24),
  (34, .nilFunc, 1, 8),
  (35, .nilFunc, 1, 8),
  (36, .nilFunc, 1, 8),
  (37, .nilFunc, 1, 8),
  (38, .nilFunc, 1, 8),
  (39, .nilFunc, 1, 8),
  (40, .nilFunc, 1, 8),
  (41, (.agg ⟨[(S []), (.int .i64 0), (.int .i64 0), (.slice none 0 0)]⟩), 4, 56),
  (42, (.agg ⟨[(S []), (.int .i64 0), (.int .i64 0), (.slice none 0 0)]⟩), 4, 56),
  (43, .nilFunc, 1, 8),
  (44, (.slice none 0 0), 1, 24),
  (45, (.agg ⟨[(S []), (S []), (S []), (S [])]⟩), 4, 64),
  (46, (.agg ⟨[(.int .i64 0), (.int .i64 0), (.int .i64 0), (.int .i64 0)]⟩), 4, 32),
  (47, .nilFunc, 1, 8),
  (48, (.slice none 0 0), 1, 24),
  (49, (.agg ⟨[(.slice none 0 0), (.int .i32 0), (.int .i32 0), (.slice none 0 0)]⟩), 4, 56),
  (50, (.agg ⟨[(.slice none 0 0), (.int .i32 0), (.int .i32 0), (.slice none 0 0)]⟩), 4, 56),
  (51, .nilFunc, 1, 8),
  (52, .nilFunc, 1, 8),
  (53, .nilFunc, 1, 8),
  (54, (.slice none 0 0), 1, 24),
  (55, (.agg ⟨[(.slice none 0 0), (.int .i64 0)]⟩), 2, 32),
  (56, (.agg ⟨[(.slice none 0 0), (.int .i64 0)]⟩), 2, 32),
  (57, .nilFunc, 1, 8),
  (58, .nilFunc, 1, 8),
  (59, .nilFunc, 1, 8),
  (60, .nilFunc, 1, 8),
  (61, .nilFunc, 1, 8),
  (62, .nilFunc, 1, 8),
  (63, .nilFunc, 1, 8),
  (64, .nilFunc, 1, 8),
  (65, (.pointer none), 1, 8),
  (67, .nilFunc, 1, 8),
  (68, (.pointer none), 1, 8),
  (69, (.slice none 0 0), 1, 24),
  (70, (.agg ⟨[(.slice none 0 0), (.bool false)]⟩), 2, 32),
  (71, (.agg ⟨[(.slice none 0 0), (.bool false)]⟩), 2, 32),
  (72, .nilFunc, 1, 8),
  (73, .nilFunc, 1, 8),
  (74, (.agg ⟨[(.int .i64 0), (.pointer none), (.int .i64 0), (.int .i64 0), (.int .i64 0)]⟩), 5, 40),
  (75, (.agg ⟨[(.int .i64 0), (.pointer none), (.int .i64 0), (.int .i64 0), (.int .i64 0)]⟩), 5, 40),
  (76, (.agg ⟨[(.slice none 0 0), (.int .i64 0)]⟩), 2, 32),
  (77, (.agg ⟨[(.slice none 0 0), (.int .i64 0)]⟩), 2, 32),
  (78, (.pointer none), 1, 8),
  (79, (.agg ⟨[(S []), (.int .i64 0), (.int .i64 0), (.int .i64 0)]⟩), 4, 40),
  (80, (.agg ⟨[(S []), (.int .i64 0), (.int .i64 0), (.int .i64 0)]⟩), 4, 40),
  (81, (.agg ⟨[(.slice none 0 0), (.bool false)]⟩), 2, 32),
  (82, (.agg ⟨[(.slice none 0 0), (.bool false)]⟩), 2, 32),
  (83, (.slice none 0 0), 1, 24),
  (84, (.agg ⟨[(.int .i64 0), (.slice none 0 0), (.bool false), (.slice none 0 0), (.int .i64 0), (.int .i64 0), (.int .i64 0), (.bool false)]⟩), 8, 96),
  (85, (.agg ⟨[(.int .i64 0), (.slice none 0 0), (.bool false), (.slice none 0 0), (.int .i64 0), (.int .i64 0), (.int .i64 0), (.bool false)]⟩), 8, 96),
  (86, .nilFunc, 1, 8),
  (87, .nilFunc, 1, 8),
  (88, .nilFunc, 1, 8),
  (89, (.agg ⟨[(.int .i64 0), (.int .i64 0), (.int .i64 0), (.slice none 0 0), (.bool false)]⟩), 5, 56),
  (90, (.agg ⟨[(.int .i64 0), (.int .i64 0), (.int .i64 0), (.slice none 0 0), (.bool false)]⟩), 5, 56),
  (91, (.pointer none), 1, 8),
  (92, (.slice none 0 0), 1, 24),
  (93, (.agg ⟨[(.pointer none), (S []), (.slice none 0 0)]⟩), 3, 48),
  (94, (.agg ⟨[(.pointer none), (S []), (.slice none 0 0)]⟩), 3, 48),
  (95, .nilFunc, 1, 8),
  (96, .nilFunc, 1, 8),
  (97, (.pointer none), 1, 8),
  (98, (.agg ⟨[(.pointer none), (.slice none 0 0)]⟩), 2, 32),
  (99, (.agg ⟨[(.pointer none), (.slice none 0 0)]⟩), 2, 32),
  (100, .nilIface, 1, 16),
  (101, .nilIface, 1, 16),
  (103, .nilFunc, 1, 8),
  (104, .nilFunc, 1, 8),
  (105, .nilFunc, 1, 8),
  (106, .nilFunc, 1, 8),
  (107, .nilFunc, 1, 8),
  (109, .nilFunc, 1, 8),
  (110, .nilFunc, 1, 8),
  (112, .nilFunc, 1, 8),
  (113, (.pointer none), 1, 8),
  (114, (.agg ⟨[(S []), (.int .i64 0), (.int .i64 0)]⟩), 3, 32),
  (115, (.agg ⟨[(S []), (.int .i64 0), (.int .i64 0)]⟩), 3, 32),
  (116, (.agg ⟨[(.int .i64 0)]⟩), 1, 8),
  (117, (.agg ⟨[(.int .i64 0)]⟩), 1, 8),
  (118, .nilFunc, 1, 8),
  (119, .nilFunc, 1, 8),
  (120, (.slice none 0 0), 1, 24),
  (121, (.slice none 0 0), 1, 24),
  (122, (.agg ⟨[(.int .i64 0), (.slice none 0 0), (.bool false), (.int .i64 0), (.int .i64 0), (.int .i64 0), (.bool false), (.bool false), (.slice none 0 0)]⟩), 9, 96),
  (123, (.agg ⟨[(.int .i64 0), (.slice none 0 0), (.bool false), (.int .i64 0), (.int .i64 0), (.int .i64 0), (.bool false), (.bool false), (.slice none 0 0)]⟩), 9, 96),
  (124, .nilFunc, 1, 8),
  (125, (.agg ⟨[(.bool false), (.int .i64 0), (.int .i64 0), (.int .i64 0), (.int .i64 0), (.int .i64 0)]⟩), 6, 48),
  (126, (.agg ⟨[(.bool false), (.int .i64 0), (.int .i64 0), (.int .i64 0), (.int .i64 0), (.int .i64 0)]⟩), 6, 48),
  (127, (.slice none 0 0), 1, 24),
  (128, (.pointer none), 1, 8),
  (130, .nilFunc, 1, 8),
  (131, .nilFunc, 1, 8),
  (132, .nilFunc, 1, 8),
  (133, (.pointer none), 1, 8),
  (134, .nilFunc, 1, 8),
  (135, .nilFunc, 1, 8),
  (137, .nilFunc, 1, 8),
  (138, .nilFunc, 1, 8),
  (139, (.agg ⟨[(.int .i32 0), (.int .i32 0)]⟩), 2, 8),
  (140, (.agg ⟨[(.int .i32 0), (.int .i32 0)]⟩), 2, 8),
  (141, (.agg ⟨[(.int .i64 0), (.int .i64 0), (.int .i64 0), (.int .i64 0), (.int .i64 0)]⟩), 5, 40),
  (142, (.pointer none), 1, 8),
  (143, .nilFunc, 1, 8),
  (144, .nilFunc, 1, 8),
  (145, .nilFunc, 1, 8),
  (146, .nilFunc, 1, 8),
  (147, (.agg ⟨[(.int .u8 0), (.int .u8 0), (.int .u8 0), (.int .u8 0), (.int .u8 0), (.int .u8 0), (.int .u8 0), (.int .u8 0), (.int .u8 0), (.int .u8 0), (.int .u8 0), (.int .u8 0), (.int .u8 0), (.int .u8 0), (.int .u8 0), (.int .u8 0), (.int .u8 0), (.int .u8 0), (.int .u8 0), (.int .u8 0), (.int .u8 0), (.int .u8 0), (.int .u8 0), (.int .u8 0), (.int .u8 0), (.int .u8 0), (.int .u8 0), (.int .u8 0), (.int .u8 0), (.int .u8 0), (.int .u8 0), (.int .u8 0), (.int .u8 0), (.int .u8 0), (.int .u8 0), (.int .u8 0), (.int .u8 0), (.int .u8 0), (.int .u8 0), (.int .u8 0), (.int .u8 0), (.int .u8 0), (.int .u8 0), (.int .u8 0), (.int .u8 0), (.int .u8 0), (.int .u8 0), (.int .u8 0), (.int .u8 0), (.int .u8 0), (.int .u8 0), (.int .u8 0), (.int .u8 0), (.int .u8 0), (.int .u8 0), (.int .u8 0), (.int .u8 0), (.int .u8 0), (.int .u8 0), (.int .u8 0), (.int .u8 0), (.int .u8 0), (.int .u8 0), (.int .u8 0), (.int .u8 0), (.int .u8 0), (.int .u8 0), (.int .u8 0), (.int .u8 0), (.int .u8 0), (.int .u8 0), (.int .u8 0), (.int .u8 0), (.int .u8 0), (.int .u8 0), (.int .u8 0), (.int .u8 0), (.int .u8 0), (.int .u8 0), (.int .u8 0), (.int .u8 0), (.int .u8 0), (.int .u8 0), (.int .u8 0), (.int .u8 0), (.int .u8 0), (.int .u8 0), (.int .u8 0), (.int .u8 0), (.int .u8 0), (.int .u8 0), (.int .u8 0), (.int .u8 0), (.int .u8 0), (.int .u8 0), (.int .u8 0), (.int .u8 0), (.int .u8 0), (.int .u8 0), (.int .u8 0), (.int .u8 0), (.int .u8 0), (.int .u8 0), (.int .u8 0), (.int .u8 0), (.int .u8 0), (.int .u8 0), (.int .u8 0), (.int .u8 0), (.int .u8 0), (.int .u8 0), (.int .u8 0), (.int .u8 0), (.int .u8 0), (.int .u8 0), (.int .u8 0), (.int .u8 0), (.int .u8 0), (.int .u8 0), (.int .u8 0), (.int .u8 0), (.int .u8 0), (.int .u8 0), (.int .u8 0), (.int .u8 0), (.int .u8 0), (.int .u8 0), (.int .u8 0), (.int .u8 0), (.int .u8 0), (.int .u8 0), (.int .u8 0), (.int .u8 0), (.int .u8 0), (.int .u8 0), (.int .u8 0), (.int .u8 0), (.int .u8 0), (.int .u8 0), (.int .u8 0), (.int .u8 0), (.int .u8 0), (.int .u8 0), (.int .u8 0), (.int .u8 0), (.int .u8 0), (.int .u8 0), (.int .u8 0), (.int .u8 0), (.int .u8 0), (.int .u8 0), (.int .u8 0), (.int .u8 0), (.int .u8 0), (.int .u8 0), (.int .u8 0), (.int .u8 0), (.int .u8 0), (.int .u8 0), (.int .u8 0), (.int .u8 0), (.int .u8 0), (.int .u8 0), (.int .u8 0), (.int .u8 0), (.int .u8 0), (.int .u8 0), (.int .u8 0), (.int .u8 0), (.int .u8 0), (.int .u8 0), (.int .u8 0), (.int .u8 0), (.int .u8 0), (.int .u8 0), (.int .u8 0), (.int .u8 0), (.int .u8 0), (.int .u8 0), (.int .u8 0), (.int .u8 0), (.int .u8 0), (.int .u8 0), (.int .u8 0), (.int .u8 0), (.int .u8 0), (.int .u8 0), (.int .u8 0), (.int .u8 0), (.int .u8 0), (.int .u8 0), (.int .u8 0), (.int .u8 0), (.int .u8 0), (.int .u8 0), (.int .u8 0), (.int .u8 0), (.int .u8 0), (.int .u8 0), (.int .u8 0), (.int .u8 0), (.int .u8 0), (.int .u8 0), (.int .u8 0), (.int .u8 0), (.int .u8 0), (.int .u8 0), (.int .u8 0), (.int .u8 0), (.int .u8 0), (.int .u8 0), (.int .u8 0), (.int .u8 0), (.int .u8 0), (.int .u8 0), (.int .u8 0), (.int .u8 0), (.int .u8 0), (.int .u8 0), (.int .u8 0), (.int .u8 0), (.int .u8 0), (.int .u8 0), (.int .u8 0), (.int .u8 0), (.int .u8 0), (.int .u8 0), (.int .u8 0), (.int .u8 0), (.int .u8 0), (.int .u8 0), (.int .u8 0), (.int .u8 0), (.int .u8 0), (.int .u8 0), (.int .u8 0), (.int .u8 0), (.int .u8 0), (.int .u8 0), (.int .u8 0), (.int .u8 0), (.int .u8 0), (.int .u8 0), (.int .u8 0), (.int .u8 0), (.int .u8 0), (.int .u8 0), (.int .u8 0), (.int .u8 0), (.int .u8 0), (.int .u8 0), (.int .u8 0), (.int .u8 0), (.int .u8 0), (.int .u8 0), (.int .u8 0)]⟩), 256, 256),
  (148, (.int .u64 0), 1, 8),
  (149, (.agg ⟨[(.int .u8 0), (.int .u8 0)]⟩), 2, 2),
  (150, (.agg ⟨[(.int .u8 0), (.int .u8 0)]⟩), 2, 2),
  (151, (.agg ⟨[(.int .u8 0), (.int .u8 0), (.int .u8 0), (.int .u8 0), (.int .u8 0), (.int .u8 0), (.int .u8 0), (.int .u8 0), (.int .u8 0), (.int .u8 0), (.int .u8 0), (.int .u8 0), (.int .u8 0), (.int .u8 0), (.int .u8 0), (.int .u8 0), (.int .u8 0), (.int .u8 0), (.int .u8 0), (.int .u8 0), (.int .u8 0), (.int .u8 0), (.int .u8 0), (.int .u8 0), (.int .u8 0), (.int .u8 0), (.int .u8 0), (.int .u8 0), (.int .u8 0), (.int .u8 0), (.int .u8 0), (.int .u8 0)]⟩), 32, 32),
  (152, .nilFunc, 1, 8),
  (153, .nilFunc, 1, 8),
  (154, .nilFunc, 1, 8),
  (156, .nilFunc, 1, 8),
  (157, .nilFunc, 1, 8),
  (158, .nilFunc, 1, 8),
  (159, .nilFunc, 1, 8),
  (160, .nilFunc, 1, 8),
  (161, .nilFunc, 1, 8),
  (162, .nilFunc, 1, 8),
  (163, (.agg ⟨[(.pointer none), (.pointer none), (.pointer none), (S [])]⟩), 4, 40),
  (164, (.agg ⟨[(.pointer none), (.pointer none), (.pointer none), (S [])]⟩), 4, 40),
  (165, (.agg ⟨[]⟩), 0, 0),
  (166, (.agg ⟨[]⟩), 0, 0),
  (167, (.agg ⟨[]⟩), 0, 0),
  (168, (.int .u32 0), 1, 4),
  (169, (.int .u8 0), 1, 1),
  (170, (.int .u8 0), 1, 1),
  (171, .nilFunc, 1, 8),
  (172, (.int .i32 0), 1, 4),
  (173, (.int .i32 0), 1, 4),
  (174, (.agg ⟨[(.int .u64 0), (.int .u64 0), (.int .u32 0), (.int .u8 0), (.int .u8 0), (.int .u8 0), (.int .u8 0), .nilFunc, (.pointer none), (.int .i32 0), (.int .i32 0)]⟩), 11, 48),
  (175, (.agg ⟨[(.int .u64 0), (.int .u64 0), (.int .u32 0), (.int .u8 0), (.int .u8 0), (.int .u8 0), (.int .u8 0), .nilFunc, (.pointer none), (.int .i32 0), (.int .i32 0)]⟩), 11, 48)]
theorem infL_ok : AllI Tryd.prog infL := by
  refine ⟨?_, ?_, ?_, ?_, ?_, ?_, ?_, ?_, ?_, ?_, ?_, ?_, ?_, ?_, ?_, ?_, ?_, ?_, ?_, ?_, ?_, ?_, ?_, ?_, ?_, ?_, ?_, ?_, ?_, ?_, ?_, ?_, ?_, ?_, ?_, ?_, ?_, ?_, ?_, ?_, ?_, ?_, ?_, ?_, ?_, ?_, ?_, ?_, ?_, ?_, ?_, ?_, ?_, ?_, ?_, ?_, ?_, ?_, ?_, ?_, ?_, ?_, ?_, ?_, ?_, ?_, ?_, ?_, ?_, ?_, ?_, ?_, ?_, ?_, ?_, ?_, ?_, ?_, ?_, ?_, ?_, ?_, ?_, ?_, ?_, ?_, ?_, ?_, ?_, ?_, ?_, ?_, ?_, ?_, ?_, ?_, ?_, ?_, ?_, ?_, ?_, ?_, ?_, ?_, ?_, ?_, ?_, ?_, ?_, ?_, ?_, ?_, ?_, ?_, ?_, ?_, ?_, ?_, ?_, ?_, ?_, ?_, ?_, ?_, ?_, ?_, ?_, ?_, ?_, ?_, ?_, ?_, ?_, ?_, ?_, ?_, ?_, ?_, ?_, ?_, ?_, ?_, ?_, ?_, ?_, ?_, ?_, ?_, ?_, ?_, ?_, ?_, ?_, ?_, ?_, ?_, ?_, ?_, ?_, ?_, ?_, ?_, ?_, ?_, ?_, trivial⟩ <;> kernel_rfl
def tb : Tb Tryd.prog := Tb.mk' tyL infL tyL_ok infL_ok
theorem c2 : Callable Tryd.prog 2 := ⟨_, Tryd.func2, rfl, rfl⟩
theorem c3 : Callable Tryd.prog 3 := ⟨_, Tryd.func3, rfl, rfl⟩
theorem c4 : Callable Tryd.prog 4 := ⟨_, Tryd.func4, rfl, rfl⟩
theorem c5 : Callable Tryd.prog 5 := ⟨_, Tryd.func5, rfl, rfl⟩
theorem c6 : Callable Tryd.prog 6 := ⟨_, Tryd.func6, rfl, rfl⟩
theorem c11 : Callable Tryd.prog 11 := ⟨_, Tryd.func11, rfl, rfl⟩
theorem c12 : Callable Tryd.prog 12 := ⟨_, Tryd.func12, rfl, rfl⟩
theorem c13 : Callable Tryd.prog 13 := ⟨_, Tryd.func13, rfl, rfl⟩
theorem c14 : Callable Tryd.prog 14 := ⟨_, Tryd.func14, rfl, rfl⟩
theorem c15 : Callable Tryd.prog 15 := ⟨_, Tryd.func15, rfl, rfl⟩
theorem c16 : Callable Tryd.prog 16 := ⟨_, Tryd.func16, rfl, rfl⟩
theorem c17 : Callable Tryd.prog 17 := ⟨_, Tryd.func17, rfl, rfl⟩
theorem c18 : Callable Tryd.prog 18 := ⟨_, Tryd.func18, rfl, rfl⟩
theorem c22 : Callable Tryd.prog 22 := ⟨_, Tryd.func22, rfl, rfl⟩
theorem c23 : Callable Tryd.prog 23 := ⟨_, Tryd.func23, rfl, rfl⟩
theorem c24 : Callable Tryd.prog 24 := ⟨_, Tryd.func24, rfl, rfl⟩
theorem c26 : Callable Tryd.prog 26 := ⟨_, Tryd.func26, rfl, rfl⟩
theorem c27 : Callable Tryd.prog 27 := ⟨_, Tryd.func27, rfl, rfl⟩
theorem c28 : Callable Tryd.prog 28 := ⟨_, Tryd.func28, rfl, rfl⟩
theorem c34 : Callable Tryd.prog 34 := ⟨_, Tryd.func34, rfl, rfl⟩
theorem c35 : Callable Tryd.prog 35 := ⟨_, Tryd.func35, rfl, rfl⟩
theorem c36 : Callable Tryd.prog 36 := ⟨_, Tryd.func36, rfl, rfl⟩
theorem c37 : Callable Tryd.prog 37 := ⟨_, Tryd.func37, rfl, rfl⟩
theorem c38 : Callable Tryd.prog 38 := ⟨_, Tryd.func38, rfl, rfl⟩
theorem c39 : Callable Tryd.prog 39 := ⟨_, Tryd.func39, rfl, rfl⟩
theorem c40 : Callable Tryd.prog 40 := ⟨_, Tryd.func40, rfl, rfl⟩
theorem c41 : Callable Tryd.prog 41 := ⟨_, Tryd.func41, rfl, rfl⟩
theorem c42 : Callable Tryd.prog 42 := ⟨_, Tryd.func42, rfl, rfl⟩
theorem c43 : Callable Tryd.prog 43 := ⟨_, Tryd.func43, rfl, rfl⟩
theorem c45 : Callable Tryd.prog 45 := ⟨_, Tryd.func45, rfl, rfl⟩
theorem c48 : Callable Tryd.prog 48 := ⟨_, Tryd.func48, rfl, rfl⟩
theorem c49 : Callable Tryd.prog 49 := ⟨_, Tryd.func49, rfl, rfl⟩
theorem c53 : Callable Tryd.prog 53 := ⟨_, Tryd.func53, rfl, rfl⟩
theorem c54 : Callable Tryd.prog 54 := ⟨_, Tryd.func54, rfl, rfl⟩
theorem c55 : Callable Tryd.prog 55 := ⟨_, Tryd.func55, rfl, rfl⟩
theorem c56 : Callable Tryd.prog 56 := ⟨_, Tryd.func56, rfl, rfl⟩
theorem c57 : Callable Tryd.prog 57 := ⟨_, Tryd.func57, rfl, rfl⟩
theorem c58 : Callable Tryd.prog 58 := ⟨_, Tryd.func58, rfl, rfl⟩
theorem c59 : Callable Tryd.prog 59 := ⟨_, Tryd.func59, rfl, rfl⟩
theorem c60 : Callable Tryd.prog 60 := ⟨_, Tryd.func60, rfl, rfl⟩
theorem c61 : Callable Tryd.prog 61 := ⟨_, Tryd.func61, rfl, rfl⟩
theorem c62 : Callable Tryd.prog 62 := ⟨_, Tryd.func62, rfl, rfl⟩
theorem c63 : Callable Tryd.prog 63 := ⟨_, Tryd.func63, rfl, rfl⟩
theorem c64 : Callable Tryd.prog 64 := ⟨_, Tryd.func64, rfl, rfl⟩
theorem c65 : Callable Tryd.prog 65 := ⟨_, Tryd.func65, rfl, rfl⟩
theorem c72 : Callable Tryd.prog 72 := ⟨_, Tryd.func72, rfl, rfl⟩
theorem c73 : Callable Tryd.prog 73 := ⟨_, Tryd.func73, rfl, rfl⟩
theorem c74 : Callable Tryd.prog 74 := ⟨_, Tryd.func74, rfl, rfl⟩
theorem c75 : Callable Tryd.prog 75 := ⟨_, Tryd.func75, rfl, rfl⟩
theorem c76 : Callable Tryd.prog 76 := ⟨_, Tryd.func76, rfl, rfl⟩
theorem c77 : Callable Tryd.prog 77 := ⟨_, Tryd.func77, rfl, rfl⟩
theorem c78 : Callable Tryd.prog 78 := ⟨_, Tryd.func78, rfl, rfl⟩
theorem c83 : Callable Tryd.prog 83 := ⟨_, Tryd.func83, rfl, rfl⟩
theorem c84 : Callable Tryd.prog 84 := ⟨_, Tryd.func84, rfl, rfl⟩
theorem c85 : Callable Tryd.prog 85 := ⟨_, Tryd.func85, rfl, rfl⟩
theorem c86 : Callable Tryd.prog 86 := ⟨_, Tryd.func86, rfl, rfl⟩
theorem c87 : Callable Tryd.prog 87 := ⟨_, Tryd.func87, rfl, rfl⟩
theorem c88 : Callable Tryd.prog 88 := ⟨_, Tryd.func88, rfl, rfl⟩
theorem c89 : Callable Tryd.prog 89 := ⟨_, Tryd.func89, rfl, rfl⟩
theorem c90 : Callable Tryd.prog 90 := ⟨_, Tryd.func90, rfl, rfl⟩
theorem c91 : Callable Tryd.prog 91 := ⟨_, Tryd.func91, rfl, rfl⟩
theorem c92 : Callable Tryd.prog 92 := ⟨_, Tryd.func92, rfl, rfl⟩
theorem c93 : Callable Tryd.prog 93 := ⟨_, Tryd.func93, rfl, rfl⟩
theorem c94 : Callable Tryd.prog 94 := ⟨_, Tryd.func94, rfl, rfl⟩
theorem c95 : Callable Tryd.prog 95 := ⟨_, Tryd.func95, rfl, rfl⟩
theorem c96 : Callable Tryd.prog 96 := ⟨_, Tryd.func96, rfl, rfl⟩
theorem c97 : Callable Tryd.prog 97 := ⟨_, Tryd.func97, rfl, rfl⟩
theorem c98 : Callable Tryd.prog 98 := ⟨_, Tryd.func98, rfl, rfl⟩
theorem c99 : Callable Tryd.prog 99 := ⟨_, Tryd.func99, rfl, rfl⟩
theorem c100 : Callable Tryd.prog 100 := ⟨_, Tryd.func100, rfl, rfl⟩
theorem c101 : Callable Tryd.prog 101 := ⟨_, Tryd.func101, rfl, rfl⟩
theorem c102 : Callable Tryd.prog 102 := ⟨_, Tryd.func102, rfl, rfl⟩
theorem c103 : Callable Tryd.prog 103 := ⟨_, Tryd.func103, rfl, rfl⟩
theorem c104 : Callable Tryd.prog 104 := ⟨_, Tryd.func104, rfl, rfl⟩
theorem mixed : Tryd.prog.follows .mixedOrders = true := by kernel_rfl
end Go.Proofs.YtbpkhgehchelhaaDoor
end
section
namespace Go.Proofs
open Go.Shelf
def Tryd.lays119_ren : Go.Shelf.Ren := ⟨fun | 119 => 104 | n => n, fun | 21 => 21 | 4 => 4 | n => n, fun | n => n⟩
theorem Tryd.lays119 : Go.Proofs.Lays.n119 Tryd.prog Tryd.lays119_ren := {
  mixed := by kernel_rfl
  f119 := Tryd.func104.trans (congrArg some (by kernel_rfl))
  t4 := Tryd.underlying4
  a4 := Tryd.isAgg4
  z4 := Tryd.sizeOf4
  v4 := Tryd.zeroValue4
  t21 := Tryd.underlying21
  a21 := Tryd.isAgg21
  z21 := Tryd.sizeOf21
  v21 := Tryd.zeroValue21 }
/-- utf8.ValidRune: "ValidRune reports whether r can be legally encoded as UTF-8. Code points that are out of range or a surrogate half are illegal.": IT RETURNS 'Lib.validRune r'; the world is as it was. (LAID: no walk: one application.) -/
theorem Tryd.utf8_ValidRune (r : Int) (w : World) :
    Calls Tryd.prog 104 #[.int .i32 r] w fun e w' => e = .returned (.bool (Lib.validRune r)) ∧ w' = w := Any.utf8_ValidRune Tryd.lays119 r w
def Tryd.lays137_ren : Go.Shelf.Ren := ⟨fun | 137 => 45 | 217 => 67 | 266 => 81 | n => n, fun | 9 => 9 | 5 => 5 | 3 => 3 | n => n, fun | n => n⟩
theorem Tryd.lays137 : Go.Proofs.Lays.n137 Tryd.prog Tryd.lays137_ren := {
  mixed := by kernel_rfl
  f137 := Tryd.func45.trans (congrArg some (by kernel_rfl))
  f217 := Tryd.func67.trans (congrArg some (by kernel_rfl))
  f266 := Tryd.func81.trans (congrArg some (by kernel_rfl))
  t3 := Tryd.underlying3
  a3 := Tryd.isAgg3
  z3 := Tryd.sizeOf3
  v3 := Tryd.zeroValue3
  t5 := Tryd.underlying5
  a5 := Tryd.isAgg5
  z5 := Tryd.sizeOf5
  v5 := Tryd.zeroValue5
  t9 := Tryd.underlying9
  a9 := Tryd.isAgg9
  z9 := Tryd.sizeOf9
  v9 := Tryd.zeroValue9 }
open Go.RowKit in
/-- strings.IndexByte: "IndexByte returns the index of the first instance of c in s, or -1 if c is not present in s.": IT RETURNS 'Lib.indexByte s c'; the world is as it was. (LAID: no walk: one application.) -/
theorem Tryd.strings_IndexByte (s : ByteArray) (c : Int) (w : World) :
    Calls Tryd.prog 45 #[.string s, .int .u8 c] w fun e w' => e = .returned (.int .i64 (Lib.indexByte s.data.toList c.toNat.toUInt8)) ∧ w' = w := Any.strings_IndexByte Tryd.lays137 s c w
def Tryd.lays99_ren : Go.Shelf.Ren := ⟨fun | 99 => 49 | 206 => 68 | n => n, fun | 9 => 9 | 4 => 4 | 3 => 3 | n => n, fun | n => n⟩
theorem Tryd.lays99 : Go.Proofs.Lays.n99 Tryd.prog Tryd.lays99_ren := {
  mixed := by kernel_rfl
  f99 := Tryd.func49.trans (congrArg some (by kernel_rfl))
  f206 := Tryd.func68.trans (congrArg some (by kernel_rfl))
  t3 := Tryd.underlying3
  a3 := Tryd.isAgg3
  z3 := Tryd.sizeOf3
  v3 := Tryd.zeroValue3
  t4 := Tryd.underlying4
  a4 := Tryd.isAgg4
  z4 := Tryd.sizeOf4
  v4 := Tryd.zeroValue4
  t9 := Tryd.underlying9
  a9 := Tryd.isAgg9
  z9 := Tryd.sizeOf9
  v9 := Tryd.zeroValue9 }
open Go.RowKit Go.Lib in
/-- strings.HasPrefix: "HasPrefix reports whether the string s begins with prefix.": IT RETURNS 'Lib.hasPrefix s prefix'; the world is as it was. (LAID: no walk: one application.) -/
theorem Tryd.strings_HasPrefix (s p : ByteArray) (w : World) :
    Calls Tryd.prog 49 #[.string s, .string p] w fun e w' => e = .returned (.bool (Lib.hasPrefix s.data.toList p.data.toList)) ∧ w' = w := Any.strings_HasPrefix Tryd.lays99 s p w
def Tryd.lays151_ren : Go.Shelf.Ren := ⟨fun | 151 => 98 | 152 => 102 | 137 => 45 | 119 => 104 | 224 => 105 | 225 => 106 | 217 => 67 | 266 => 81 | n => n, fun | 9 => 9 | 21 => 21 | 4 => 4 | 3 => 3 | 5 => 5 | 0 => 0 | 46 => 148 | n => n, fun | n => n⟩
theorem Tryd.lays151 : Go.Proofs.Lays.n151 Tryd.prog Tryd.lays151_ren := {
  mixed := by kernel_rfl
  f119 := Tryd.func104.trans (congrArg some (by kernel_rfl))
  f137 := Tryd.func45.trans (congrArg some (by kernel_rfl))
  f151 := Tryd.func98.trans (congrArg some (by kernel_rfl))
  f152 := Tryd.func102.trans (congrArg some (by kernel_rfl))
  f217 := Tryd.func67.trans (congrArg some (by kernel_rfl))
  f224 := Tryd.func105.trans (congrArg some (by kernel_rfl))
  f225 := Tryd.func106.trans (congrArg some (by kernel_rfl))
  f266 := Tryd.func81.trans (congrArg some (by kernel_rfl))
  t0 := Tryd.underlying0
  a0 := Tryd.isAgg0
  z0 := Tryd.sizeOf0
  v0 := Tryd.zeroValue0
  t3 := Tryd.underlying3
  a3 := Tryd.isAgg3
  z3 := Tryd.sizeOf3
  v3 := Tryd.zeroValue3
  t4 := Tryd.underlying4
  a4 := Tryd.isAgg4
  z4 := Tryd.sizeOf4
  v4 := Tryd.zeroValue4
  t5 := Tryd.underlying5
  a5 := Tryd.isAgg5
  z5 := Tryd.sizeOf5
  v5 := Tryd.zeroValue5
  t9 := Tryd.underlying9
  a9 := Tryd.isAgg9
  z9 := Tryd.sizeOf9
  v9 := Tryd.zeroValue9
  t21 := Tryd.underlying21
  a21 := Tryd.isAgg21
  z21 := Tryd.sizeOf21
  v21 := Tryd.zeroValue21
  t46 := Tryd.underlying148
  a46 := Tryd.isAgg148
  z46 := Tryd.sizeOf148
  v46 := Tryd.zeroValue148 }
open Go.RowKit Go.Lib in
theorem Tryd.strings_ContainsRune_ascii (s : ByteArray) (r : Int) (w : World) (h0 : 0 ≤ r) (h1 : r < 128) :
    Calls Tryd.prog 98 #[.string s, .int .i32 r] w fun e w' => e = .returned (.bool (decide (0 ≤ Lib.indexByte s.data.toList r.toNat.toUInt8))) ∧ w' = w := Any.strings_ContainsRune_ascii Tryd.lays151 s r w h0 h1
def Tryd.lays260_ren : Go.Shelf.Ren := ⟨fun | 260 => 79 | n => n, fun | 9 => 9 | 21 => 21 | 3 => 3 | 4 => 4 | 5 => 5 | 119 => 147 | 0 => 0 | 46 => 148 | 139 => 151 | 138 => 150 | n => n, fun | 3 => 0 | 4 => 1 | n => n⟩
theorem Tryd.lays260 : Go.Proofs.Lays.n260 Tryd.prog Tryd.lays260_ren := {
  mixed := by kernel_rfl
  f260 := Tryd.func79.trans (congrArg some (by kernel_rfl))
  t0 := Tryd.underlying0
  a0 := Tryd.isAgg0
  z0 := Tryd.sizeOf0
  v0 := Tryd.zeroValue0
  t3 := Tryd.underlying3
  a3 := Tryd.isAgg3
  z3 := Tryd.sizeOf3
  v3 := Tryd.zeroValue3
  t4 := Tryd.underlying4
  a4 := Tryd.isAgg4
  z4 := Tryd.sizeOf4
  v4 := Tryd.zeroValue4
  t5 := Tryd.underlying5
  a5 := Tryd.isAgg5
  z5 := Tryd.sizeOf5
  v5 := Tryd.zeroValue5
  t9 := Tryd.underlying9
  a9 := Tryd.isAgg9
  z9 := Tryd.sizeOf9
  v9 := Tryd.zeroValue9
  t21 := Tryd.underlying21
  a21 := Tryd.isAgg21
  z21 := Tryd.sizeOf21
  v21 := Tryd.zeroValue21
  t46 := Tryd.underlying148
  a46 := Tryd.isAgg148
  z46 := Tryd.sizeOf148
  v46 := Tryd.zeroValue148
  t119 := Tryd.underlying147
  a119 := Tryd.isAgg147
  z119 := Tryd.sizeOf147
  t138 := Tryd.underlying150
  a138 := Tryd.isAgg150
  z138 := Tryd.sizeOf150
  v138 := Tryd.zeroValue150
  t139 := Tryd.underlying151
  a139 := Tryd.isAgg151
  z139 := Tryd.sizeOf151
  v139 := Tryd.zeroValue151
  g3 := by kernel_rfl
  g4 := by kernel_rfl }
def Tryd.lays197_ren : Go.Shelf.Ren := ⟨fun | 197 => 62 | 260 => 79 | n => n, fun | 9 => 9 | 21 => 21 | 3 => 3 | 4 => 4 | 5 => 5 | 105 => 129 | 119 => 147 | 0 => 0 | 46 => 148 | 139 => 151 | 138 => 150 | n => n, fun | 3 => 0 | 4 => 1 | n => n⟩
theorem Tryd.lays197 : Go.Proofs.Lays.n197 Tryd.prog Tryd.lays197_ren := {
  mixed := by kernel_rfl
  f197 := Tryd.func62.trans (congrArg some (by kernel_rfl))
  f260 := Tryd.func79.trans (congrArg some (by kernel_rfl))
  t0 := Tryd.underlying0
  a0 := Tryd.isAgg0
  z0 := Tryd.sizeOf0
  v0 := Tryd.zeroValue0
  t3 := Tryd.underlying3
  a3 := Tryd.isAgg3
  z3 := Tryd.sizeOf3
  v3 := Tryd.zeroValue3
  t4 := Tryd.underlying4
  a4 := Tryd.isAgg4
  z4 := Tryd.sizeOf4
  v4 := Tryd.zeroValue4
  t5 := Tryd.underlying5
  a5 := Tryd.isAgg5
  z5 := Tryd.sizeOf5
  v5 := Tryd.zeroValue5
  t9 := Tryd.underlying9
  a9 := Tryd.isAgg9
  z9 := Tryd.sizeOf9
  v9 := Tryd.zeroValue9
  t21 := Tryd.underlying21
  a21 := Tryd.isAgg21
  z21 := Tryd.sizeOf21
  v21 := Tryd.zeroValue21
  t46 := Tryd.underlying148
  a46 := Tryd.isAgg148
  z46 := Tryd.sizeOf148
  v46 := Tryd.zeroValue148
  t105 := Tryd.underlying129
  a105 := Tryd.isAgg129
  z105 := Tryd.sizeOf129
  v105 := Tryd.zeroValue129
  t119 := Tryd.underlying147
  a119 := Tryd.isAgg147
  z119 := Tryd.sizeOf147
  t138 := Tryd.underlying150
  a138 := Tryd.isAgg150
  z138 := Tryd.sizeOf150
  v138 := Tryd.zeroValue150
  t139 := Tryd.underlying151
  a139 := Tryd.isAgg151
  z139 := Tryd.sizeOf151
  v139 := Tryd.zeroValue151
  g3 := by kernel_rfl
  g4 := by kernel_rfl }
open Go.RowKit Go.Lib in
/-- **unicode/utf8.DecodeRuneInString AT EVERY STRING.** (LAID: no walk: one application.) -/
theorem Tryd.utf8_DecodeRuneInString (s : ByteArray) (w : World) (hT : Lib.Utf8Tabs 0 1 w) :
    Calls Tryd.prog 62 #[.string s] w fun e w' => e = .returned (.tuple #[.int .i32 (Lib.decodeGo s).1, .int .i64 (Lib.decodeGo s).2]) ∧ Below w.heap.size w w' := Any.utf8_DecodeRuneInString Tryd.lays197 s w hT
end Go.Proofs
end
section
namespace Go.Vg
open Go.RowKit

theorem Bx.ci {w : World} {b i : Nat} {us : List Value} {u : Value} (h : Bx w b us) (hi : us[i]? = some u) : CellAt w (padd (ptr b) i) u := h.cells.cell hi
theorem CellsAt.c0 {w : World} {p : Value} {us : List Value} {u : Value} (h : CellsAt w p us) (hi : us[0]? = some u) : CellAt w p u := by
  obtain ⟨a, rfl, _, hc⟩ := h
  exact ⟨a, rfl, by have := hc 0 u hi; rwa [Addr.add_zero] at this⟩
theorem Bx.c0 {w : World} {b : Nat} {us : List Value} {u : Value} (h : Bx w b us) (hi : us[0]? = some u) : CellAt w (ptr b) u := h.cells.c0 hi

section
variable {X : Cx} {ops : Array Oper} {l : List Oper} {k : List Kt} {e : Env} {w : World} {d : Nat} {c : Option Bool} {ty : TypeId} {pos : String} {af : Array Edge} {g : Option (Nat × Bool)} {S : World → Prop} {N : Env → World → Prop} {lb : List (Oper × Bool)}

theorem sFa (T : Tb X.P) {x : Operand} {st : TypeId} {f : Nat} {td : TypeDesc} {p z : Value} {off ft s b : Nat} (h : GL X ops l k ((d, c, padd p off) :: e) w) (hg : guardE ops e ⟨some d, .fieldAddr st x f, ty, pos, af, g⟩ = some c := by exact rfl) (hx : Op1 e c x p := by exact Op1.of rfl (by first | exact fun _ => rfl | exact fun h => h | exact fun h => bL h | exact fun h => bL (bL h) | exact fun h => bL (bL (bL h)))) (ht : T.ty st = some td := by exact rfl) (ho : fieldOff td f = some (off, ft) := by exact rfl) (hi : T.inf ft = some (z, s, b) := by exact rfl) (hs : Nat.blt 0 s = true := by exact rfl) (hp : cv c = true → ∃ a : Addr, p = .pointer (some a) := by intro _; first | exact ⟨_, rfl⟩ | exact CellsAt.ptr (by assumption) | exact (Sli.elem (by assumption) (by assumption)).ptr | exact (Sli.elem (Owns.sli (by assumption)) (by assumption)).ptr) (hn : Nat.blt d X.n = true := by exact rfl) :
    GL X ops (⟨some d, .fieldAddr st x f, ty, pos, af, g⟩ :: l) k e w := GL.cons (Step.fieldAddr T hg hx ht ho hi hs hp hn h)
theorem dFa (T : Tb X.P) {x : Operand} {st : TypeId} {f : Nat} {td : TypeDesc} {p z : Value} {off ft s b : Nat} (h : GMN X ops S N lb ((d, c, padd p off) :: e) w) (hg : guardE ops e ⟨some d, .fieldAddr st x f, ty, pos, af, g⟩ = some c := by exact rfl) (hx : Op1 e c x p := by exact Op1.of rfl (by first | exact fun _ => rfl | exact fun h => h | exact fun h => bL h | exact fun h => bL (bL h) | exact fun h => bL (bL (bL h)))) (ht : T.ty st = some td := by exact rfl) (ho : fieldOff td f = some (off, ft) := by exact rfl) (hi : T.inf ft = some (z, s, b) := by exact rfl) (hs : Nat.blt 0 s = true := by exact rfl) (hp : cv c = true → ∃ a : Addr, p = .pointer (some a) := by intro _; first | exact ⟨_, rfl⟩ | exact CellsAt.ptr (by assumption) | exact (Sli.elem (by assumption) (by assumption)).ptr | exact (Sli.elem (Owns.sli (by assumption)) (by assumption)).ptr) (hn : Nat.blt d X.n = true := by exact rfl) :
    GMN X ops S N ((⟨some d, .fieldAddr st x f, ty, pos, af, g⟩, true) :: lb) e w := GM.read (fun _ _ => Step.fieldAddr T hg hx ht ho hi hs hp hn ⟨rfl, rfl⟩) rfl hn h
theorem sLd (T : Tb X.P) {x : Operand} {t : TypeId} {td : TypeDesc} {p u : Value} (h : GL X ops l k ((d, c, u) :: e) w) (hg : guardE ops e ⟨some d, .load t x, ty, pos, af, g⟩ = some c := by exact rfl) (hx : Op1 e c x p := by exact Op1.of rfl (by first | exact fun _ => rfl | exact fun h => h | exact fun h => bL h | exact fun h => bL (bL h) | exact fun h => bL (bL (bL h)))) (ht : T.ty t = some td := by exact rfl) (ha : aggT td = false := by exact rfl) (hc : cv c = true → CellAt w p u := by intro _; first | exact Bx.c0 (by assumption) (by exact rfl) | exact Bx.ci (by assumption) (by exact rfl) | exact (Sli.elem (by assumption) (by assumption)).c0 (by exact rfl) | exact (Sli.elem (by assumption) (by assumption)).cell (by exact rfl) | exact (Sli.elem (Owns.sli (by assumption)) (by assumption)).c0 (by exact rfl) | exact (Sli.elem (Owns.sli (by assumption)) (by assumption)).cell (by exact rfl) | exact CellsAt.c0 (by assumption) (by exact rfl) | exact CellsAt.cell (by assumption) (by exact rfl)) (hn : Nat.blt d X.n = true := by exact rfl) :
    GL X ops (⟨some d, .load t x, ty, pos, af, g⟩ :: l) k e w := GL.cons (Step.load1 T hg hx ht ha hc hn h)
theorem dLd (T : Tb X.P) {x : Operand} {t : TypeId} {td : TypeDesc} {p u : Value} (h : GMN X ops S N lb ((d, c, u) :: e) w) (hg : guardE ops e ⟨some d, .load t x, ty, pos, af, g⟩ = some c := by exact rfl) (hx : Op1 e c x p := by exact Op1.of rfl (by first | exact fun _ => rfl | exact fun h => h | exact fun h => bL h | exact fun h => bL (bL h) | exact fun h => bL (bL (bL h)))) (ht : T.ty t = some td := by exact rfl) (ha : aggT td = false := by exact rfl) (hc : ∀ w', S w' → cv c = true → CellAt w' p u := by intro w1 hS1 _; first | exact Bx.c0 (Bx.to (by assumption) hS1) (by exact rfl) | exact Bx.ci (Bx.to (by assumption) hS1) (by exact rfl) | exact (Sli.elem (Sli.to (by assumption) hS1) (by assumption)).c0 (by exact rfl) | exact (Sli.elem (Sli.to (by assumption) hS1) (by assumption)).cell (by exact rfl) | exact (Sli.elem (Owns.sli (Owns.to (by assumption) hS1)) (by assumption)).c0 (by exact rfl) | exact (Sli.elem (Owns.sli (Owns.to (by assumption) hS1)) (by assumption)).cell (by exact rfl)) (hn : Nat.blt d X.n = true := by exact rfl) :
    GMN X ops S N ((⟨some d, .load t x, ty, pos, af, g⟩, true) :: lb) e w := GM.read (fun w' hS => Step.load1 T hg hx ht ha (hc w' hS) hn ⟨rfl, rfl⟩) rfl hn h
theorem sLa (T : Tb X.P) {x : Operand} {t : TypeId} {td : TypeDesc} {p z : Value} {s b : Nat} {us : List Value} (h : GL X ops l k ((d, c, .agg ⟨us⟩) :: e) w) (hg : guardE ops e ⟨some d, .load t x, ty, pos, af, g⟩ = some c := by exact rfl) (hx : Op1 e c x p := by exact Op1.of rfl (by first | exact fun _ => rfl | exact fun h => h | exact fun h => bL h | exact fun h => bL (bL h) | exact fun h => bL (bL (bL h)))) (ht : T.ty t = some td := by exact rfl) (ha : aggT td = true := by exact rfl) (hi : T.inf t = some (z, s, b) := by exact rfl) (hc : cv c = true → CellsAt w p us := by intro _; first | exact Bx.cells (by assumption) | exact Sli.elem (by assumption) (by assumption) | exact Sli.elem (Owns.sli (by assumption)) (by assumption) | assumption) (hl : cv c = true → us.length = s := by exact fun _ => rfl) (hn : Nat.blt d X.n = true := by exact rfl) :
    GL X ops (⟨some d, .load t x, ty, pos, af, g⟩ :: l) k e w := GL.cons (Step.loadA T hg hx ht ha hi hc hl hn h)
theorem dLa (T : Tb X.P) {x : Operand} {t : TypeId} {td : TypeDesc} {p z : Value} {s b : Nat} {us : List Value} (h : GMN X ops S N lb ((d, c, .agg ⟨us⟩) :: e) w) (hg : guardE ops e ⟨some d, .load t x, ty, pos, af, g⟩ = some c := by exact rfl) (hx : Op1 e c x p := by exact Op1.of rfl (by first | exact fun _ => rfl | exact fun h => h | exact fun h => bL h | exact fun h => bL (bL h) | exact fun h => bL (bL (bL h)))) (ht : T.ty t = some td := by exact rfl) (ha : aggT td = true := by exact rfl) (hi : T.inf t = some (z, s, b) := by exact rfl) (hc : ∀ w', S w' → cv c = true → CellsAt w' p us := by intro w1 hS1 _; first | exact Bx.cells (Bx.to (by assumption) hS1) | exact Sli.elem (Sli.to (by assumption) hS1) (by assumption) | exact Sli.elem (Owns.sli (Owns.to (by assumption) hS1)) (by assumption)) (hl : cv c = true → us.length = s := by exact fun _ => rfl) (hn : Nat.blt d X.n = true := by exact rfl) :
    GMN X ops S N ((⟨some d, .load t x, ty, pos, af, g⟩, true) :: lb) e w := GM.read (fun w' hS => Step.loadA T hg hx ht ha hi (hc w' hS) hl hn ⟨rfl, rfl⟩) rfl hn h
theorem sLen (T : Tb X.P) {x : Operand} {at_ et : TypeId} {v : Value} {m : Nat} {xs : List (List Value)} (h : GL X ops l k ((d, c, .int .i64 xs.length) :: e) w) (hg : guardE ops e ⟨some d, .call { callee := .builtin .len, args := #[x], argTypes := #[at_] }, ty, pos, af, g⟩ = some c := by exact rfl) (hx : Op1 e c x v := by exact Op1.of rfl (by first | exact fun _ => rfl | exact fun h => h | exact fun h => bL h | exact fun h => bL (bL h) | exact fun h => bL (bL (bL h)))) (ht : T.ty at_ = some (.slice et) := by exact rfl) (hs : cv c = true → ∃ w, Sli w v m xs := by intro _; first | exact ⟨_, by assumption⟩ | exact ⟨_, Owns.sli (by assumption)⟩) (hn : Nat.blt d X.n = true := by exact rfl) :
    GL X ops (⟨some d, .call { callee := .builtin .len, args := #[x], argTypes := #[at_] }, ty, pos, af, g⟩ :: l) k e w := GL.cons (Step.lenV T hg hx ht hs hn h)
theorem dLen (T : Tb X.P) {x : Operand} {at_ et : TypeId} {v : Value} {m : Nat} {xs : List (List Value)} (h : GMN X ops S N lb ((d, c, .int .i64 xs.length) :: e) w) (hg : guardE ops e ⟨some d, .call { callee := .builtin .len, args := #[x], argTypes := #[at_] }, ty, pos, af, g⟩ = some c := by exact rfl) (hx : Op1 e c x v := by exact Op1.of rfl (by first | exact fun _ => rfl | exact fun h => h | exact fun h => bL h | exact fun h => bL (bL h) | exact fun h => bL (bL (bL h)))) (ht : T.ty at_ = some (.slice et) := by exact rfl) (hs : cv c = true → ∃ w, Sli w v m xs := by intro _; first | exact ⟨_, by assumption⟩ | exact ⟨_, Owns.sli (by assumption)⟩) (hn : Nat.blt d X.n = true := by exact rfl) :
    GMN X ops S N ((⟨some d, .call { callee := .builtin .len, args := #[x], argTypes := #[at_] }, ty, pos, af, g⟩, true) :: lb) e w := GM.read (fun _ _ => Step.lenV T hg hx ht hs hn ⟨rfl, rfl⟩) rfl hn h
theorem sIa (T : Tb X.P) (j : Nat) {x i : Operand} {st et : TypeId} {v z : Value} {q b : Nat} {m : Int} {xs : List (List Value)} (h : GL X ops l k ((d, c, padd v (j * q)) :: e) w) (hg : guardE ops e ⟨some d, .indexAddr st x i, ty, pos, af, g⟩ = some c := by exact rfl) (hx : Op1 e c x v := by exact Op1.of rfl (by first | exact fun _ => rfl | exact fun h => h | exact fun h => bL h | exact fun h => bL (bL h) | exact fun h => bL (bL (bL h)))) (hi : Op1 e c i (.int .i64 m) := by exact Op1.of rfl (by first | exact fun _ => rfl | exact fun h => h | exact fun h => bL h | exact fun h => bL (bL h) | exact fun h => bL (bL (bL h)))) (ht : T.ty st = some (.slice et) := by exact rfl) (hk : T.inf et = some (z, q, b) := by exact rfl) (hs : cv c = true → ∃ w, Sli w v q xs := by intro _; first | exact ⟨_, by assumption⟩ | exact ⟨_, Owns.sli (by assumption)⟩) (hj : cv c = true → m = j ∧ j < xs.length := by intro hc; first | exact ⟨by omega, by first | omega | (simp only [List.length_map]; omega)⟩ | (simp only [cv, Bool.and_eq_true, decide_eq_true_eq] at hc; exact ⟨by omega, by first | omega | (simp only [List.length_map]; omega)⟩)) (hn : Nat.blt d X.n = true := by exact rfl) :
    GL X ops (⟨some d, .indexAddr st x i, ty, pos, af, g⟩ :: l) k e w := GL.cons (Step.indexAddr T j hg hx hi ht hk hs hj hn h)
theorem dIa (T : Tb X.P) (j : Nat) {x i : Operand} {st et : TypeId} {v z : Value} {q b : Nat} {m : Int} {xs : List (List Value)} (h : GMN X ops S N lb ((d, c, padd v (j * q)) :: e) w) (hg : guardE ops e ⟨some d, .indexAddr st x i, ty, pos, af, g⟩ = some c := by exact rfl) (hx : Op1 e c x v := by exact Op1.of rfl (by first | exact fun _ => rfl | exact fun h => h | exact fun h => bL h | exact fun h => bL (bL h) | exact fun h => bL (bL (bL h)))) (hi : Op1 e c i (.int .i64 m) := by exact Op1.of rfl (by first | exact fun _ => rfl | exact fun h => h | exact fun h => bL h | exact fun h => bL (bL h) | exact fun h => bL (bL (bL h)))) (ht : T.ty st = some (.slice et) := by exact rfl) (hk : T.inf et = some (z, q, b) := by exact rfl) (hs : cv c = true → ∃ w, Sli w v q xs := by intro _; first | exact ⟨_, by assumption⟩ | exact ⟨_, Owns.sli (by assumption)⟩) (hj : cv c = true → m = j ∧ j < xs.length := by intro hc; first | exact ⟨by omega, by first | omega | (simp only [List.length_map]; omega)⟩ | (simp only [cv, Bool.and_eq_true, decide_eq_true_eq] at hc; exact ⟨by omega, by first | omega | (simp only [List.length_map]; omega)⟩)) (hn : Nat.blt d X.n = true := by exact rfl) :
    GMN X ops S N ((⟨some d, .indexAddr st x i, ty, pos, af, g⟩, true) :: lb) e w := GM.read (fun _ _ => Step.indexAddr T j hg hx hi ht hk hs hj hn ⟨rfl, rfl⟩) rfl hn h
theorem sBs (T : Tb X.P) (j : Nat) {x i : Operand} {st : TypeId} {s : List UInt8} {m : Int} (h : GL X ops l k ((d, c, U (s.getD j 0)) :: e) w) (hg : guardE ops e ⟨some d, .index st x i, ty, pos, af, g⟩ = some c := by exact rfl) (hx : Op1 e c x (Vg.S s) := by exact Op1.of rfl (by first | exact fun _ => rfl | exact fun h => h | exact fun h => bL h | exact fun h => bL (bL h) | exact fun h => bL (bL (bL h)))) (hi : Op1 e c i (.int .i64 m) := by exact Op1.of rfl (by first | exact fun _ => rfl | exact fun h => h | exact fun h => bL h | exact fun h => bL (bL h) | exact fun h => bL (bL (bL h)))) (ht : T.ty st = some .string := by exact rfl) (hj : cv c = true → m = j ∧ j < s.length := by intro hc; first | exact ⟨by omega, by first | omega | (simp only [List.length_map]; omega)⟩ | (simp only [cv, Bool.and_eq_true, decide_eq_true_eq] at hc; exact ⟨by omega, by first | omega | (simp only [List.length_map]; omega)⟩)) (hn : Nat.blt d X.n = true := by exact rfl) :
    GL X ops (⟨some d, .index st x i, ty, pos, af, g⟩ :: l) k e w := GL.cons (Step.indexS T j hg hx hi ht hj hn h)
theorem dBs (T : Tb X.P) (j : Nat) {x i : Operand} {st : TypeId} {s : List UInt8} {m : Int} (h : GMN X ops S N lb ((d, c, U (s.getD j 0)) :: e) w) (hg : guardE ops e ⟨some d, .index st x i, ty, pos, af, g⟩ = some c := by exact rfl) (hx : Op1 e c x (Vg.S s) := by exact Op1.of rfl (by first | exact fun _ => rfl | exact fun h => h | exact fun h => bL h | exact fun h => bL (bL h) | exact fun h => bL (bL (bL h)))) (hi : Op1 e c i (.int .i64 m) := by exact Op1.of rfl (by first | exact fun _ => rfl | exact fun h => h | exact fun h => bL h | exact fun h => bL (bL h) | exact fun h => bL (bL (bL h)))) (ht : T.ty st = some .string := by exact rfl) (hj : cv c = true → m = j ∧ j < s.length := by intro hc; first | exact ⟨by omega, by first | omega | (simp only [List.length_map]; omega)⟩ | (simp only [cv, Bool.and_eq_true, decide_eq_true_eq] at hc; exact ⟨by omega, by first | omega | (simp only [List.length_map]; omega)⟩)) (hn : Nat.blt d X.n = true := by exact rfl) :
    GMN X ops S N ((⟨some d, .index st x i, ty, pos, af, g⟩, true) :: lb) e w := GM.read (fun _ _ => Step.indexS T j hg hx hi ht hj hn ⟨rfl, rfl⟩) rfl hn h
theorem sFd (T : Tb X.P) {x : Operand} {st : TypeId} {f : Nat} {td ftd : TypeDesc} {us : List Value} {u : Value} {off ft : Nat} (h : GL X ops l k ((d, c, u) :: e) w) (hg : guardE ops e ⟨some d, .field st x f, ty, pos, af, g⟩ = some c := by exact rfl) (hx : Op1 e c x (.agg ⟨us⟩) := by exact Op1.of rfl (by first | exact fun _ => rfl | exact fun h => h | exact fun h => bL h | exact fun h => bL (bL h) | exact fun h => bL (bL (bL h)))) (ht : T.ty st = some td := by exact rfl) (ho : fieldOff td f = some (off, ft) := by exact rfl) (hft : T.ty ft = some ftd := by exact rfl) (ha : aggT ftd = false := by exact rfl) (hu : us[off]? = some u := by exact rfl) (hn : Nat.blt d X.n = true := by exact rfl) :
    GL X ops (⟨some d, .field st x f, ty, pos, af, g⟩ :: l) k e w := GL.cons (Step.field T hg hx ht ho hft ha hu hn h)
theorem dFd (T : Tb X.P) {x : Operand} {st : TypeId} {f : Nat} {td ftd : TypeDesc} {us : List Value} {u : Value} {off ft : Nat} (h : GMN X ops S N lb ((d, c, u) :: e) w) (hg : guardE ops e ⟨some d, .field st x f, ty, pos, af, g⟩ = some c := by exact rfl) (hx : Op1 e c x (.agg ⟨us⟩) := by exact Op1.of rfl (by first | exact fun _ => rfl | exact fun h => h | exact fun h => bL h | exact fun h => bL (bL h) | exact fun h => bL (bL (bL h)))) (ht : T.ty st = some td := by exact rfl) (ho : fieldOff td f = some (off, ft) := by exact rfl) (hft : T.ty ft = some ftd := by exact rfl) (ha : aggT ftd = false := by exact rfl) (hu : us[off]? = some u := by exact rfl) (hn : Nat.blt d X.n = true := by exact rfl) :
    GMN X ops S N ((⟨some d, .field st x f, ty, pos, af, g⟩, true) :: lb) e w := GM.read (fun _ _ => Step.field T hg hx ht ho hft ha hu hn ⟨rfl, rfl⟩) rfl hn h
theorem sAd (_ : Tb X.P) {op : BinOp} {xt yt : TypeId} {x y : Operand} {a b r : Int} (h : GL X ops l k ((d, c, .int .i64 r) :: e) w) (hg : guardE ops e ⟨some d, .binOp op xt x y yt, ty, pos, af, g⟩ = some c := by exact rfl) (hx : Op1 e c x (.int .i64 a) := by exact Op1.of rfl (by first | exact fun _ => rfl | exact fun h => h | exact fun h => bL h | exact fun h => bL (bL h) | exact fun h => bL (bL (bL h)))) (hy : Op1 e c y (.int .i64 b) := by exact Op1.of rfl (by first | exact fun _ => rfl | exact fun h => h | exact fun h => bL h | exact fun h => bL (bL h) | exact fun h => bL (bL (bL h)))) (hp : match op with | .add => IntKind.i64.wrap (a + b) = r | .sub => IntKind.i64.wrap (a - b) = r | .mul => IntKind.i64.wrap (a * b) = r | _ => False := by exact wrap_i64 (by omega) (by omega)) (hn : Nat.blt d X.n = true := by exact rfl) :
    GL X ops (⟨some d, .binOp op xt x y yt, ty, pos, af, g⟩ :: l) k e w := GL.cons (Step.arith hg hx hy hp hn h)
theorem dAd (_ : Tb X.P) {op : BinOp} {xt yt : TypeId} {x y : Operand} {a b r : Int} (h : GMN X ops S N lb ((d, c, .int .i64 r) :: e) w) (hg : guardE ops e ⟨some d, .binOp op xt x y yt, ty, pos, af, g⟩ = some c := by exact rfl) (hx : Op1 e c x (.int .i64 a) := by exact Op1.of rfl (by first | exact fun _ => rfl | exact fun h => h | exact fun h => bL h | exact fun h => bL (bL h) | exact fun h => bL (bL (bL h)))) (hy : Op1 e c y (.int .i64 b) := by exact Op1.of rfl (by first | exact fun _ => rfl | exact fun h => h | exact fun h => bL h | exact fun h => bL (bL h) | exact fun h => bL (bL (bL h)))) (hp : match op with | .add => IntKind.i64.wrap (a + b) = r | .sub => IntKind.i64.wrap (a - b) = r | .mul => IntKind.i64.wrap (a * b) = r | _ => False := by exact wrap_i64 (by omega) (by omega)) (hn : Nat.blt d X.n = true := by exact rfl) :
    GMN X ops S N ((⟨some d, .binOp op xt x y yt, ty, pos, af, g⟩, true) :: lb) e w := GM.read (fun _ _ => Step.arith hg hx hy hp hn ⟨rfl, rfl⟩) rfl hn h
theorem sCv (T : Tb X.P) {x : Operand} {src dst : TypeId} {q q' : IntKind} {m r : Int} {sd : TypeDesc} (h : GL X ops l k ((d, c, .int q' r) :: e) w) (hg : guardE ops e ⟨some d, .convert src dst x, ty, pos, af, g⟩ = some c := by exact rfl) (hx : Op1 e c x (.int q m) := by exact Op1.of rfl (by first | exact fun _ => rfl | exact fun h => h | exact fun h => bL h | exact fun h => bL (bL h) | exact fun h => bL (bL (bL h)))) (hs : T.ty src = some sd := by exact rfl) (ht : T.ty dst = some (.int q') := by exact rfl) (hr : q'.wrap m = r := by exact wrap_i64 (by omega) (by omega)) (hn : Nat.blt d X.n = true := by exact rfl) :
    GL X ops (⟨some d, .convert src dst x, ty, pos, af, g⟩ :: l) k e w := GL.cons (Step.convI T hg hx hs ht hr hn h)
theorem sBd (T : Tb X.P) {t m bytes : Nat} {z : Value} {zs us : List Value} {fs : Array Field} {parts : Array (Nat × Operand)} {lo : List (Nat × Operand)} {vs : List (Nat × Value)} {pl : List (Nat × Nat)} (h : GL X ops l k ((d, none, .agg ⟨us⟩) :: e) w) (hg : guardE ops e ⟨some d, .build t parts, ty, pos, af, g⟩ = some none := by exact rfl) (hp : parts = ⟨lo⟩ := by exact rfl) (hvs : evps e lo = some vs := by exact rfl) (ht : T.ty t = some (.struct fs) := by exact rfl) (hi : T.inf t = some (z, m, bytes) := by exact rfl) (hz : z.cells = ⟨zs⟩ := by exact rfl) (hpl : fs.toList.mapM (fun f => (T.inf f.type).map fun i => (f.offset, i.2.1)) = some pl := by exact rfl) (hf : Instr.fill (fun i => pl[i]?) ⟨zs⟩ vs = some ⟨us⟩ := by exact rfl) (hn : Nat.blt d X.n = true := by exact rfl) :
    GL X ops (⟨some d, .build t parts, ty, pos, af, g⟩ :: l) k e w := GL.cons (Step.build T hg hp hvs ht hi hz hpl hf hn h)
/-! Operations that make or turn memory, and calls. -/
theorem sBox {x : Operand} {t : TypeId} {v : Value} {us : List Value}
    (h : ∀ w', Bx w' w.heap.size us → w'.heap.size = w.heap.size + 1 → Ext w w' → GL X ops l k ((d, none, ptr w.heap.size) :: e) w') (hg : guardE ops e ⟨some d, .box t x, ty, pos, af, g⟩ = some none := by exact rfl)
    (hx : Op1 e none x v := by exact Op1.of rfl (by first | exact fun _ => rfl | exact fun h => h | exact fun h => bL h | exact fun h => bL (bL h) | exact fun h => bL (bL (bL h)))) (hv : v.cells = ⟨us⟩ := by first | exact Sli.cells (by assumption) | exact Owns.cells (by assumption) | exact rfl) (hn : Nat.blt d X.n = true := by exact rfl) :
    GL X ops (⟨some d, .box t x, ty, pos, af, g⟩ :: l) k e w := GL.cons (Step.box hg hx hv hn h)
theorem sAl (T : Tb X.P) {t : TypeId} {z : Value} {s b : Nat} {us : List Value}
    (h : ∀ w', Bx w' w.heap.size us → w'.heap.size = w.heap.size + 1 → Ext w w' → GL X ops l k ((d, none, ptr w.heap.size) :: e) w') (hg : guardE ops e ⟨some d, .alloc t, ty, pos, af, g⟩ = some none := by exact rfl)
    (hi : T.inf t = some (z, s, b) := by exact rfl) (hv : z.cells = ⟨us⟩ := by exact rfl) (hn : Nat.blt d X.n = true := by exact rfl) :
    GL X ops (⟨some d, .alloc t, ty, pos, af, g⟩ :: l) k e w := GL.cons (Step.alloc T hg hi hv hn h)
/-- a whole box is stored into -/
theorem sSt (T : Tb X.P) {x y : Operand} {t : TypeId} {v z : Value} {vs us : List Value} {s by_ b : Nat}
    (h : ∀ w', Bx w' b vs → Wr b w w' → GL X ops l k e w') (hg : guardE ops e ⟨none, .store t x y, ty, pos, af, g⟩ = some none := by exact rfl)
    (hx : Op1 e none x (ptr b) := by exact Op1.of rfl (by first | exact fun _ => rfl | exact fun h => h | exact fun h => bL h | exact fun h => bL (bL h) | exact fun h => bL (bL (bL h)))) (hy : Op1 e none y v := by exact Op1.of rfl (by first | exact fun _ => rfl | exact fun h => h | exact fun h => bL h | exact fun h => bL (bL h) | exact fun h => bL (bL (bL h)))) (hi : T.inf t = some (z, s, by_) := by exact rfl) (hv : v.cells = ⟨vs⟩ := by first | exact Sli.cells (by assumption) | exact Owns.cells (by assumption) | exact rfl) (hs : vs.length = s := by exact rfl) (h1 : ∀ v ∈ vs, v.oneCell' = true := by first | exact Sli.one (by assumption) | exact Sli.one (Owns.sli (by assumption)) | simp [Value.oneCell', S, U])
    (hb : Bx w b us := by assumption) (hl : us.length = s := by exact rfl) :
    GL X ops (⟨none, .store t x y, ty, pos, af, g⟩ :: l) k e w := GL.cons (Step.store0 T hg hx hy hi hv hs h1 hb hl h)
/-- a field of a box is stored into -/
theorem sSf (T : Tb X.P) {x y : Operand} {t : TypeId} {v z : Value} {vs us : List Value} {s by_ b off : Nat}
    (h : ∀ w', Bx w' b (us.take off ++ vs ++ us.drop (off + s)) → Wr b w w' → GL X ops l k e w') (hg : guardE ops e ⟨none, .store t x y, ty, pos, af, g⟩ = some none := by exact rfl)
    (hx : Op1 e none x (padd (ptr b) off) := by exact Op1.of rfl (by first | exact fun _ => rfl | exact fun h => h | exact fun h => bL h | exact fun h => bL (bL h) | exact fun h => bL (bL (bL h)))) (hy : Op1 e none y v := by exact Op1.of rfl (by first | exact fun _ => rfl | exact fun h => h | exact fun h => bL h | exact fun h => bL (bL h) | exact fun h => bL (bL (bL h)))) (hi : T.inf t = some (z, s, by_) := by exact rfl) (hv : v.cells = ⟨vs⟩ := by first | exact Sli.cells (by assumption) | exact Owns.cells (by assumption) | exact rfl) (hs : vs.length = s := by exact rfl) (h1 : ∀ v ∈ vs, v.oneCell' = true := by first | exact Sli.one (by assumption) | exact Sli.one (Owns.sli (by assumption)) | simp [Value.oneCell', S, U])
    (hb : Bx w b us := by assumption) (hl : off + s ≤ us.length := by exact of_decide_eq_true rfl) :
    GL X ops (⟨none, .store t x y, ty, pos, af, g⟩ :: l) k e w := GL.cons (Step.store T hg hx hy hi hv hs h1 hb hl h)
theorem sCall {f : FuncId} {args : Array Operand} {ats : Array TypeId} {lo : List Operand} {vs : List Value} {Q : Value → World → Prop} (hf : Callable X.P f) (hc : Ret X.P f ⟨vs⟩ w Q)
    (h : ∀ v w', Q v w' → GL X ops l k ((d, none, v) :: e) w') (hg : guardE ops e ⟨some d, .call { callee := .value (.func f), args := args, argTypes := ats }, ty, pos, af, g⟩ = some none := by exact rfl)
    (ha : args = ⟨lo⟩ := by exact rfl) (hvs : evs e lo = some vs := by exact rfl) (hn : Nat.blt d X.n = true := by exact rfl) :
    GL X ops (⟨some d, .call { callee := .value (.func f), args := args, argTypes := ats }, ty, pos, af, g⟩ :: l) k e w := GL.cons (Step.callF hg ha hvs hf hn hc h)
/-- a call, guarded or not, that hands back v and only adds memory -/
theorem sCallx {f : FuncId} {args : Array Operand} {ats : Array TypeId} {lo : List Operand} {vs : List Value} {v : Value} (hf : Callable X.P f) (hc : cv c = true → Ret X.P f ⟨vs⟩ w fun r w' => r = v ∧ Ext w w')
    (h : ∀ w', Ext w w' → GL X ops l k ((d, c, v) :: e) w') (hg : guardE ops e ⟨some d, .call { callee := .value (.func f), args := args, argTypes := ats }, ty, pos, af, g⟩ = some c := by exact rfl)
    (ha : args = ⟨lo⟩ := by exact rfl) (hvs : OpL e c lo vs := by repeat (first | exact OpL.nil | refine OpL.cons (Op1.of rfl (by first | exact fun _ => rfl | exact fun h => h | exact fun h => bL h | exact fun h => bL (bL h) | exact fun h => bL (bL (bL h)))) ?_)) (hn : Nat.blt d X.n = true := by exact rfl) :
    GL X ops (⟨some d, .call { callee := .value (.func f), args := args, argTypes := ats }, ty, pos, af, g⟩ :: l) k e w := GL.cons (Step.callX hg ha hvs hf hn hc h)
/-- append onto a row of one's own -/
theorem sApp (T : Tb X.P) {x y : Operand} {t et : TypeId} {v u z : Value} {q bytes B : Nat} {xs ys : List (List Value)} (hv : Owns w B v et q xs) (hu : Sli w u q ys)
    (h : ∀ v' w', Owns w' B v' et q (xs ++ ys) → Grew B v w w' → GL X ops l k ((d, none, v') :: e) w')
    (h1 : ∀ y ∈ ys, ∀ c ∈ y, c.oneCell' = true := by intro y hy c hc; simp only [List.mem_cons, List.not_mem_nil, or_false] at hy; subst hy; simp only [List.mem_cons, List.not_mem_nil, or_false] at hc; rcases hc with rfl <;> rfl)
    (hg : guardE ops e ⟨some d, .call { callee := .builtin .append, args := #[x, y], argTypes := #[t, t] }, ty, pos, af, g⟩ = some none := by exact rfl)
    (hx : Op1 e none x v := by exact Op1.of rfl (by first | exact fun _ => rfl | exact fun h => h | exact fun h => bL h | exact fun h => bL (bL h) | exact fun h => bL (bL (bL h)))) (hy : Op1 e none y u := by exact Op1.of rfl (by first | exact fun _ => rfl | exact fun h => h | exact fun h => bL h | exact fun h => bL (bL h) | exact fun h => bL (bL (bL h)))) (ht : T.ty t = some (.slice et) := by exact rfl) (hi : T.inf et = some (z, q, bytes) := by exact rfl) (hk : Nat.blt 0 q = true := by exact rfl) (hz : z.cells.size = q := by exact rfl) (hn : Nat.blt d X.n = true := by exact rfl)
    (hb : (xs.length + ys.length) * bytes ≤ 140737488355328 := by simp only [List.length_map, List.length_append, List.length_cons, List.length_nil, List.length_take, List.length_drop]; omega)
    (hl : xs.length + ys.length ≤ 140737488355328 := by simp only [List.length_map, List.length_append, List.length_cons, List.length_nil, List.length_take, List.length_drop]; omega)
    (hB : B ≤ w.heap.size := by omega) :
    GL X ops (⟨some d, .call { callee := .builtin .append, args := #[x, y], argTypes := #[t, t] }, ty, pos, af, g⟩ :: l) k e w := GL.cons (Step.append T hg hx hy ht hi hk hz hv hu h1 hb hl hB hn h)
theorem sBs' (T : Tb X.P) {t et : TypeId} {n q bytes : Nat} {z : Value} {zs : List Value} {parts : Array (Nat × Operand)} {lo : List (Nat × Operand)} {vs : List (Nat × Value)} (xs : List (List Value))
    (h : ∀ v w', Owns w' w.heap.size v et q xs → w'.heap.size = w.heap.size + 1 → Ext w w' → GL X ops l k ((d, none, v) :: e) w')
    (hg : guardE ops e ⟨some d, .buildSlice t n parts, ty, pos, af, g⟩ = some none := by exact rfl)
    (hp : parts = ⟨lo⟩ := by exact rfl) (hvs : evps e lo = some vs := by exact rfl) (ht : T.ty t = some (.slice et) := by exact rfl) (hi : T.inf et = some (z, q, bytes) := by exact rfl) (hz : z.cells = ⟨zs⟩ := by exact rfl) (hzl : zs.length = q := by exact rfl) (hk : Nat.blt 0 q = true := by exact rfl)
    (hfill : Instr.fill (fun i => some (i * q, q)) ⟨if n * q = 0 then [] else zeros zs (n * q)⟩ vs = some ⟨xs.flatten⟩ := by rfl) (hsm : Nat.ble (n * q) 1000 = true := by exact rfl)
    (hlen : xs.length = n := by rfl) (hkl : ∀ x ∈ xs, x.length = q := by simp) (hn : Nat.blt d X.n = true := by exact rfl) :
    GL X ops (⟨some d, .buildSlice t n parts, ty, pos, af, g⟩ :: l) k e w := GL.cons (Step.buildSlice T xs hg hp hvs ht hi hz hzl hk hfill hsm hlen hkl hn h)
end

/-! A drawn region in its order: simple operations by reckoning. -/
inductive ResM where
  | done (l : List (Oper × Bool)) (e : Env) (L : List Prop)
  | no
def goM {P : Program} (T : Tb P) (n : Nat) (ops : Array Oper) : List (Oper × Bool) → Env → List Prop → ResM
  | [], e, L => .done [] e L
  | (o, true) :: l, e, L => match simp1 T ops n o e with
    | some (d, c, v, M) => goM T n ops l ((d, c, v) :: e) (M ++ L)
    | none => .done ((o, true) :: l) e L
  | (o, false) :: l, e, L => .done ((o, false) :: l) e L
theorem goM_ok {X : Cx} (T : Tb X.P) {ops : Array Oper} {S : World → Prop} {N : Env → World → Prop} {w : World} : ∀ (l : List (Oper × Bool)) (e : Env) (L : List Prop) {l' : List (Oper × Bool)} {e' : Env} {L' : List Prop},
    goM T X.n ops l e L = .done l' e' L' → AllP L' → GMN X ops S N l' e' w → AllP L ∧ GMN X ops S N l e w
  | [], e, L, l', e', L', h, hL, hs => by simp only [goM] at h; cases h; exact ⟨hL, hs⟩
  | (o, false) :: l, e, L, l', e', L', h, hL, hs => by simp only [goM] at h; cases h; exact ⟨hL, hs⟩
  | (o, true) :: l, e, L, l', e', L', h, hL, hs => by
    simp only [goM] at h
    split at h
    · rename_i d c v M hm
      obtain ⟨h1, h2⟩ := goM_ok T _ _ _ h hL hs
      obtain ⟨h3, h4, h5⟩ := simp1_step T hm h1.app.1
      exact ⟨h1.app.2, GM.read (fun w' _ => h3 ⟨rfl, rfl⟩) h4 h5 h2⟩
    · cases h; exact ⟨hL, hs⟩
section
variable {X : Cx} {ops : Array Oper} {e e' : Env} {w : World} {S : World → Prop} {N : Env → World → Prop} {l l' : List (Oper × Bool)} {L : List Prop}
theorem mm (T : Tb X.P) (h : GMN X ops S N l' e' w) (hr : goM T X.n ops l e [] = .done l' e' L := by exact rfl)
    (hL : AllP L := by repeat (first | exact trivial | refine And.intro (by first | exact fun _ => rfl | exact fun h => h | exact fun h => bL h | exact fun h => bL (bL h) | exact fun h => bL (bL (bL h)) | exact fun _ _ => rfl | exact fun _ h => h | exact fun _ h => bNot h | exact fun h k => bAnd h k | exact fun h k => bAnd h (bNot k)) ?_)) : GMN X ops S N l e w := (goM_ok T l e [] hr hL h).2
end
end Go.Vg
namespace Go.Vg
/-- steps that need no word: what is left of them is asked -/
structure Held (Q : Prop) : Prop where
  of : Q
theorem rn {Q R : Prop} (h : R) (q : Held R → Q := by (intro hh; (try (first | refine gl tb ?_ | refine gg tb ?_ | refine ll tb ?_ | refine lg tb ?_); repeat ((first | refine G.condT rfl ?_ | refine G.condF rfl ?_ | refine sFa tb ?_ | refine sLd tb ?_ | refine sLa tb ?_ | refine sLen tb ?_ | refine sFd tb ?_ | refine sBd tb ?_ | refine sBa tb ?_); try (first | refine gl tb ?_ | refine gg tb ?_ | refine ll tb ?_ | refine lg tb ?_))); exact hh.of)) : Q := q ⟨h⟩
theorem rg {Q R : Prop} (h : R) (q : Held R → Q := by (intro hh; (try (first | refine gl tb ?_ | refine gg tb ?_ | refine ll tb ?_ | refine lg tb ?_); repeat ((first | refine G.condT rfl ?_ | refine G.condF rfl ?_); try (first | refine gl tb ?_ | refine gg tb ?_ | refine ll tb ?_ | refine lg tb ?_))); exact hh.of)) : Q := q ⟨h⟩
theorem rd {Q R : Prop} (h : R) (q : Held R → Q := by (intro hh; (try (refine mm tb ?_); repeat ((first | refine dFa tb ?_ | refine dLd tb ?_ | refine dLa tb ?_ | refine dLen tb ?_ | refine dFd tb ?_); try (refine mm tb ?_))); exact hh.of)) : Q := q ⟨h⟩
end Go.Vg
end
section
namespace Go.Vg
open Go.RowKit

/-- bytes as a row's elements -/
def bysC (l : List UInt8) : List (List Value) := l.map fun b => [U b]
theorem bysC_len (l : List UInt8) : (bysC l).length = l.length := by simp [bysC]
theorem bysC_get {l : List UInt8} {i : Nat} (h : i < l.length) : (bysC l)[i]? = some [U (l.getD i 0)] := by
  simp [bysC, List.getD, h]
theorem bysC_k (l : List UInt8) : ∀ x ∈ bysC l, x.length = 1 := by
  intro y hy
  obtain ⟨b, _, rfl⟩ := List.mem_map.1 hy
  rfl
/-- a row of bytes -/
abbrev By (w : World) (v : Value) (l : List UInt8) : Prop := Sli w v 1 (bysC l)

theorem wrap_u64 {n : Int} (h0 : 0 ≤ n) (h1 : n ≤ 18446744073709551615) : IntKind.u64.wrap n = n := by
  have hb : IntKind.u64.bits = 64 := rfl
  have hs : IntKind.u64.signed = false := rfl
  unfold IntKind.wrap
  simp only [hb, hs, Bool.false_and]
  have e1 : (2 : Int) ^ 64 = 18446744073709551616 := by decide
  rw [e1]
  simp only [Bool.false_eq_true, if_false]
  omega
theorem wrap_u8 (n : Int) : IntKind.u8.wrap n = n % 256 := by
  have hb : IntKind.u8.bits = 8 := rfl
  have hs : IntKind.u8.signed = false := rfl
  unfold IntKind.wrap
  simp only [hb, hs, Bool.false_and]
  have e1 : (2 : Int) ^ 8 = 256 := by decide
  rw [e1]
  simp
def bigK : IntKind → Bool
  | .i64 => true
  | .u64 => true
  | _ => false
section
variable {X : Cx} {ops : Array Oper} {l : List Oper} {k : List Kt} {e : Env} {w : World} {N : Env → World → Prop} {d : Nat} {c : Option Bool} {ty : TypeId} {pos : String} {af : Array Edge} {g : Option (Nat × Bool)}

/-- a byte to a greater kind -/
theorem Step.convU (T : Tb X.P) {x : Operand} {src dst : TypeId} {q : IntKind} {b : UInt8} {sd : TypeDesc}
    (hg : guardE ops e ⟨some d, .convert src dst x, ty, pos, af, g⟩ = some c) (hx : Op1 e c x (U b)) (hs : T.ty src = some sd) (ht : T.ty dst = some (.int q)) (hq : bigK q = true) (hn : Nat.blt d X.n = true)
    (h : N ((d, c, .int q (b.toNat : Int)) :: e) w) : Step X ops ⟨some d, .convert src dst x, ty, pos, af, g⟩ e w N := by
  have hb := b.toNat_lt
  refine Step.convI T hg hx hs ht ?_ hn h
  cases q <;> first | exact wrap_i64 (by omega) (by omega) | exact wrap_u64 (by omega) (by omega) | cases hq
/-- an array value -/
theorem Step.buildA (T : Tb X.P) {t k q by1 by2 m et : Nat} {z z2 : Value} {zs us : List Value} {parts : Array (Nat × Operand)} {lo : List (Nat × Operand)} {vs : List (Nat × Value)}
    (hg : guardE ops e ⟨some d, .build t parts, ty, pos, af, g⟩ = some none)
    (hp : parts = ⟨lo⟩) (hvs : evps e lo = some vs) (ht : T.ty t = some (.array m et)) (hi : T.inf t = some (z, k, by1)) (hi2 : T.inf et = some (z2, q, by2)) (hz : z.cells = ⟨zs⟩)
    (hfill : Instr.fill (fun i => some (i * q, q)) ⟨zs⟩ vs = some ⟨us⟩) (hn : Nat.blt d X.n = true)
    (h : N ((d, none, .agg ⟨us⟩) :: e) w) : Step X ops ⟨some d, .build t parts, ty, pos, af, g⟩ e w N := by
  obtain ⟨i, hi1, hi2', hi3, hi4⟩ := T.iok _ _ _ _ hi
  have hT := T.ok _ _ ht
  have hz' : (zeroValue t).run X.P w = .ok z w := by simp [zeroValue, typeInfo, hi1, hi2']
  refine Step.quiet rfl (by simpa [Nat.blt_eq] using hn) hg (fun _ hh => by cases hh) (fun t' hf _ => ?_) h
  have h1 := evps_map (ds := X.ds) hf hvs
  subst hp
  have h2 : (Array.mk lo).map (fun x : Nat × Operand => match x with | (i, x) => (i, (Act.mk t' X.ds).eval x)) = ⟨vs⟩ := by
    rw [show (fun x : Nat × Operand => match x with | (i, x) => (i, (Act.mk t' X.ds).eval x)) = (fun p => (p.1, (Act.mk t' X.ds).eval p.2)) from rfl]
    simp [h1]
  simp only [execOp, Instr.build, h2, Sem.run_bind, run_underlying hT, Result.andThen_ok, hz', hz, run_sizeOf hi2, hfill, Sem.run_pure]
theorem sBa (T : Tb X.P) {t k' q by1 by2 m et : Nat} {z z2 : Value} {zs us : List Value} {parts : Array (Nat × Operand)} {lo : List (Nat × Operand)} {vs : List (Nat × Value)}
    (h : GL X ops l k ((d, none, .agg ⟨us⟩) :: e) w) (hg : guardE ops e ⟨some d, .build t parts, ty, pos, af, g⟩ = some none := by exact rfl)
    (hp : parts = ⟨lo⟩ := by exact rfl) (hvs : evps e lo = some vs := by exact rfl) (ht : T.ty t = some (.array m et) := by exact rfl) (hi : T.inf t = some (z, k', by1) := by exact rfl) (hi2 : T.inf et = some (z2, q, by2) := by exact rfl) (hz : z.cells = ⟨zs⟩ := by exact rfl)
    (hfill : Instr.fill (fun i => some (i * q, q)) ⟨zs⟩ vs = some ⟨us⟩ := by exact rfl) (hn : Nat.blt d X.n = true := by exact rfl) :
    GL X ops (⟨some d, .build t parts, ty, pos, af, g⟩ :: l) k e w := GL.cons (Step.buildA T hg hp hvs ht hi hi2 hz hfill hn h)

/-- a call that computes and turns nothing -/
theorem Step.callQ {f : FuncId} {args : Array Operand} {ats : Array TypeId} {lo : List Operand} {vs : List Value} {v : Value}
    (hg : guardE ops e ⟨some d, .call { callee := .value (.func f), args := args, argTypes := ats }, ty, pos, af, g⟩ = some c)
    (ha : args = ⟨lo⟩) (hvs : OpL e c lo vs) (hf : Callable X.P f) (hn : Nat.blt d X.n = true) (hc : cv c = true → Ret X.P f ⟨vs⟩ w fun r w' => r = v ∧ w' = w)
    (h : N ((d, c, v) :: e) w) : Step X ops ⟨some d, .call { callee := .value (.func f), args := args, argTypes := ats }, ty, pos, af, g⟩ e w N := by
  intro t K Q hft hK
  rw [guardE_wanted hft hg]
  cases hcv : cv c with
  | false =>
    rw [if_neg (by simp)]
    have := hK _ _ _ h (hft.put (by simpa [Nat.blt_eq] using hn) c v)
    simp only [gval, hcv] at this
    exact this
  | true =>
    rw [if_pos rfl]
    refine ⟨fun _ _ => trivial, ?_⟩
    rw [Oper.semAt_eq _ _ _ (fun _ hh => by cases hh)]
    have h1 := hvs.map (ds := X.ds) hft hcv
    subst ha
    have h2 : (Array.mk lo).map (Act.mk t X.ds).eval = ⟨vs⟩ := by simp [h1]
    have hr : (execOp (Act.mk t X.ds).eval ⟨some d, .call { callee := .value (.func f), args := ⟨lo⟩, argTypes := ats }, ty, pos, af, g⟩).run X.P w = .ok (.enter f ⟨vs⟩) w := by
      simp only [execOp, resolve, h2, Act.eval, Deferred.ofValue, Sem.run_bind, Sem.run_pure, Result.andThen_ok, invoke, Array.empty_append, Array.append_empty, run_callFunc hf]
    show Oper.uponIn _ _ _ _ _ _ _ ((execOp (Act.mk t X.ds).eval _).run X.P w)
    rw [hr]
    refine ⟨fun h => by simp [Fence.wide] at h, callsW (Calls.mono (hc hcv) ?_)⟩
    rintro en w' ⟨r, rfl, rfl, rfl⟩
    show K (Act.put _ (some d) r) _
    have := hK _ _ _ h (hft.put (by simpa [Nat.blt_eq] using hn) c r)
    simp only [gval, hcv] at this
    exact this
theorem dCallq {S : World → Prop} {lb : List (Oper × Bool)} {f : FuncId} {args : Array Operand} {ats : Array TypeId} {lo : List Operand} {vs : List Value} {v : Value} (hf : Callable X.P f) (hc : ∀ w', S w' → cv c = true → Ret X.P f ⟨vs⟩ w' fun r w'' => r = v ∧ w'' = w')
    (h : GMN X ops S N lb ((d, c, v) :: e) w) (hg : guardE ops e ⟨some d, .call { callee := .value (.func f), args := args, argTypes := ats }, ty, pos, af, g⟩ = some c := by exact rfl)
    (ha : args = ⟨lo⟩ := by exact rfl) (hvs : OpL e c lo vs := by repeat (first | exact OpL.nil | refine OpL.cons (Op1.of rfl (by first | exact fun _ => rfl | exact fun h => h | exact fun h => bL h | exact fun h => bL (bL h))) ?_)) (hn : Nat.blt d X.n = true := by exact rfl) :
    GMN X ops S N ((⟨some d, .call { callee := .value (.func f), args := args, argTypes := ats }, ty, pos, af, g⟩, true) :: lb) e w := GM.read (fun w' hS => Step.callQ hg ha hvs hf hn (hc w' hS) ⟨rfl, rfl⟩) rfl hn h
/-- the other sign -/
theorem Step.neg {xt : TypeId} {x : Operand} {q : IntKind} {a r : Int} (hg : guardE ops e ⟨some d, .unOp .neg xt x, ty, pos, af, g⟩ = some c)
    (hx : Op1 e c x (.int q a)) (hr : q.wrap (0 - a) = r) (hn : Nat.blt d X.n = true)
    (h : N ((d, c, .int q r) :: e) w) : Step X ops ⟨some d, .unOp .neg xt x, ty, pos, af, g⟩ e w N :=
  Step.quiet rfl (by simpa [Nat.blt_eq] using hn) hg (fun _ hh => by cases hh) (fun t hf hc => by
    simp only [execOp, hx.val hf hc]
    simp [go_sem, Op.intArith, ← hr]) h
theorem sCu (T : Tb X.P) {x : Operand} {src dst : TypeId} {q : IntKind} {b : UInt8} {sd : TypeDesc} (h : GL X ops l k ((d, c, .int q (b.toNat : Int)) :: e) w)
    (hg : guardE ops e ⟨some d, .convert src dst x, ty, pos, af, g⟩ = some c := by exact rfl) (hx : Op1 e c x (U b) := by exact Op1.of rfl (by first | exact fun _ => rfl | exact fun h => h)) (hs : T.ty src = some sd := by exact rfl) (ht : T.ty dst = some (.int q) := by exact rfl) (hq : bigK q = true := by exact rfl) (hn : Nat.blt d X.n = true := by exact rfl) :
    GL X ops (⟨some d, .convert src dst x, ty, pos, af, g⟩ :: l) k e w := GL.cons (Step.convU T hg hx hs ht hq hn h)
end
end Go.Vg
end
section
namespace Go.Vg
open Go.RowKit

section steps
variable {X : Cx} {ops : Array Oper} {l : List Oper} {k : List Kt} {e : Env} {w : World} {N : Env → World → Prop} {d : Nat} {c : Option Bool} {ty : TypeId} {pos : String} {af : Array Edge} {g : Option (Nat × Bool)}
theorem Step.rem {xt yt : TypeId} {x y : Operand} {q : IntKind} {a b r : Int} (hg : guardE ops e ⟨some d, .binOp .rem xt x y yt, ty, pos, af, g⟩ = some c)
    (hx : Op1 e c x (.int q a)) (hy : Op1 e c y (.int q b)) (hb : cv c = true → b ≠ 0) (hr : a.tmod b = r) (hn : Nat.blt d X.n = true)
    (h : N ((d, c, .int q r) :: e) w) : Step X ops ⟨some d, .binOp .rem xt x y yt, ty, pos, af, g⟩ e w N :=
  Step.quiet rfl (by simpa [Nat.blt_eq] using hn) hg (fun _ hh => by cases hh) (fun t hf hc => by
    have h0 := hb hc
    simp only [execOp, hx.val hf hc, hy.val hf hc]
    simp [go_sem, Op.intDiv, h0, hr]) h
theorem sRem {xt yt : TypeId} {x y : Operand} {q : IntKind} {a b r : Int} (hr : a.tmod b = r) (h : GL X ops l k ((d, c, .int q r) :: e) w) (hg : guardE ops e ⟨some d, .binOp .rem xt x y yt, ty, pos, af, g⟩ = some c := by exact rfl)
    (hx : Op1 e c x (.int q a) := by exact Op1.of rfl (by first | exact fun _ => rfl | exact fun h => h | exact fun h => bL h)) (hy : Op1 e c y (.int q b) := by exact Op1.of rfl (by first | exact fun _ => rfl | exact fun h => h | exact fun h => bL h))
    (hb : cv c = true → b ≠ 0 := by intro _; omega) (hn : Nat.blt d X.n = true := by exact rfl) :
    GL X ops (⟨some d, .binOp .rem xt x y yt, ty, pos, af, g⟩ :: l) k e w := GL.cons (Step.rem hg hx hy hb hr hn h)
/-- a function that is there is not nil -/
theorem Step.eqNF (T : Tb X.P) {xt yt : TypeId} {x y : Operand} {fn : Fn} {fi ca : Array Value} {ps rs : Array TypeId} {vd : Bool} (hg : guardE ops e ⟨some d, .binOp .eql xt x y yt, ty, pos, af, g⟩ = some c)
    (hx : Op1 e c x (.func fn fi ca)) (hy : Op1 e c y .nilFunc) (ht : T.ty xt = some (.func ps rs vd)) (hn : Nat.blt d X.n = true)
    (h : N ((d, c, .bool false) :: e) w) : Step X ops ⟨some d, .binOp .eql xt x y yt, ty, pos, af, g⟩ e w N :=
  Step.quiet rfl (by simpa [Nat.blt_eq] using hn) hg (fun _ hh => by cases hh) (fun t hf hc => by
    have hT := T.ok _ _ ht
    have h1 : (eqGuard .eql xt x y (.func fn fi ca) .nilFunc).run X.P w = .ok () w := by simp [eqGuard]
    have he : ∀ (n : Nat) (w : World), (Op.equalIn (n + 1) xt (.func fn fi ca) .nilFunc).run X.P w = .ok false w := fun n w => by
      simp [Op.equalIn, run_underlying hT]
    have hm : Op.maxDepth = 9999 + 1 := rfl
    have h2 : (binOp .eql xt (.func fn fi ca) .nilFunc).run X.P w = .ok (.bool false) w := by
      simp only [binOp, Op.equal, hm, Sem.run_bind, he, Sem.run_map, Result.andThen_ok, Sem.run_pure]
    simp only [execOp, hx.val hf hc, hy.val hf hc, Sem.run_bind, h1, h2, Result.andThen_ok, Sem.run_pure]) h
theorem sEqnf (T : Tb X.P) {xt yt : TypeId} {x y : Operand} {fn : Fn} {fi ca : Array Value} {ps rs : Array TypeId} {vd : Bool} (h : GL X ops l k ((d, c, .bool false) :: e) w) (hg : guardE ops e ⟨some d, .binOp .eql xt x y yt, ty, pos, af, g⟩ = some c := by exact rfl)
    (hx : Op1 e c x (.func fn fi ca) := by exact Op1.of rfl (by first | exact fun _ => rfl | exact fun h => h)) (hy : Op1 e c y .nilFunc := by exact Op1.of rfl (by first | exact fun _ => rfl | exact fun h => h)) (ht : T.ty xt = some (.func ps rs vd) := by exact rfl) (hn : Nat.blt d X.n = true := by exact rfl) :
    GL X ops (⟨some d, .binOp .eql xt x y yt, ty, pos, af, g⟩ :: l) k e w := GL.cons (Step.eqNF T hg hx hy ht hn h)
end steps

theorem Df.lt {r : Nat} {w : World} (h : Df r w) : r < w.heap.size := (Array.getElem?_eq_some_iff.1 h).1
theorem Df.kept {l r : Nat} {w w' : World} (h : Df r w) (hk : Kept l w w') : Df r w' := hk.block h (fun _ hh => by cases hh)

/-- records of loops over functions -/
def col (r : Nat) : Deferred := ⟨.collected r, #[]⟩
def outs : List Nat → World → World
  | [], w => w
  | r :: rs, w => outs rs (outW r w)
theorem Df.outW {r r' : Nat} {w : World} (h : Df r w) (hne : r ≠ r') : Df r (outW r' w) := by
  unfold Df at *
  rw [World.putObj_heap_other hne]; exact h
theorem Bx.outs {b : Nat} {us : List Value} : ∀ {rs : List Nat} {w : World}, Bx w b us → (∀ r ∈ rs, Df r w) → rs.Nodup → Bx (outs rs w) b us
  | [], _, h, _, _ => h
  | r :: rs, w, h, hD, hn => by
    have hn' := List.nodup_cons.1 hn
    exact Bx.outs (rs := rs) (w := outW r w) (h.out (hD r (by simp))) (fun x hx => (hD x (by simp [hx])).outW (fun e => hn'.1 (by rw [← e]; exact hx))) hn'.2
theorem below_outs {B : Nat} {w0 : World} : ∀ {rs : List Nat} {w : World}, Below B w0 w → (∀ r ∈ rs, B ≤ r) → Below B w0 (outs rs w)
  | [], _, h, _ => h
  | r :: rs, w, h, hB => below_outs (rs := rs) (w := outW r w) (h.wr (outW_wr r w) (hB r (by simp))) (fun x hx => hB x (by simp [hx]))
theorem leaveN {P : Program} {fn : Func} {R : Value → World → Prop} {t : Array Value} : ∀ (rs : List Nat) (w : World), (∀ r ∈ rs, Df r w) → rs.Nodup →
    (∃ v, (results fn t).run P (outs rs w) = .ok v (outs rs w) ∧ R v (outs rs w)) →
    LeavesInM (FW none) 0 P fn t (fun en w' => ∃ v, en = .returned v ∧ R v w') (rs.map col) .returning w
  | [], _, _, _, h => leave0 h
  | r :: rs, w, hD, hn, h => by
    have hn' := List.nodup_cons.1 hn
    exact ⟨by simp, .inl ⟨r, _, rfl, run_takeDeferred (hD r (by simp)), leaveN rs _ (fun x hx => (hD x (by simp [hx])).outW (fun e => hn'.1 (by rw [← e]; exact hx))) hn'.2 h⟩⟩
theorem G.retN {X : Cx} {k : List Kt} {e : Env} {w : World} {P : Program} {fn : Func} {R : Value → World → Prop} (rs : List Nat) (hX : X.fin = retFinM P fn R) (hds : X.ds = rs.map col) (hd : ∀ r ∈ rs, Df r w) (hn : rs.Nodup)
    (h : ∀ t, Fits X.n e t → ∃ v, (results fn t).run P (outs rs w) = .ok v (outs rs w) ∧ R v (outs rs w)) : G X (.code .ret :: k) e w := by
  refine G.ret fun t ht => ?_
  rw [hX, hds]
  exact leaveN rs w hd hn (h t ht)

theorem post_out {ρ : Option Nat} {P : Program} {fin : Exit → Act → World → Prop} {id : Nat} {a : Act} {w : World} : ∀ {k : List Kt}, outK id k = none → fin (.exit id) a w → post ρ P fin k (.exit id) a w
  | [], _, h => h
  | .code _ :: k, hk, h => post_out (k := k) hk h
  | .lp _ :: k, hk, h => post_out (k := k) hk h
  | .blk id' :: k, hk, h => by
    simp only [outK] at hk
    simp only [post]
    cases hb : Nat.beq id id' with
    | true => rw [hb] at hk; cases hk
    | false =>
      rw [hb] at hk
      rw [if_neg (Nat.ne_of_beq_eq_false hb)]
      exact post_out hk h
/-- a jump that leads out of all that is left here -/
theorem G.exitOut {X : Cx} {k : List Kt} {e : Env} {w : World} {id : Nat} (hk : outK id k = none) (h : ∀ t, Fits X.n e t → X.fin (.exit id) ⟨t, X.ds⟩ w) : G X (.code (.exit id) :: k) e w :=
  fun t ht => wpIn_exit (post_out hk (h t ht))
/-- a loop whose rounds may leave records -/
def LoopJ {α : Type} (n : Nat) (E : α → Env) (D : α → List Deferred) (W : α → World → Prop) (x : α) (a : Act) (w : World) : Prop := a.defers = D x ∧ Fits n (E x) a.tmps ∧ W x w
open Classical in
noncomputable def leastν {α : Type} (n : Nat) (E : α → Env) (D : α → List Deferred) (W : α → World → Prop) (μ : α → Nat) (a : Act) (w : World) : Nat :=
  if h : ∃ m, ∃ x, LoopJ n E D W x a w ∧ μ x = m then Classical.choose (exists_least h) else 0
theorem G.loopD {X : Cx} {k : List Kt} {e : Env} {w : World} {c : Code} {α : Type} (E : α → Env) (D : α → List Deferred) (W : α → World → Prop) (μ : α → Nat) (x0 : α) (hd : X.ds = D x0) (hs : Sub (E x0) e) (hw : W x0 w)
    (round : ∀ x w, W x w → G ⟨X.ρ, X.P, X.fin, X.n, D x⟩ (.code c :: .lp (fun a' w' => ∃ x', LoopJ X.n E D W x' a' w' ∧ μ x' < μ x) :: k) (E x) w) :
    G X (.code (.loop c) :: k) e w := by
  intro t ht
  refine wpIn_loop (fun a w => ∃ x, LoopJ X.n E D W x a w) (leastν X.n E D W μ) ⟨x0, hd, ht.sub hs, hw⟩ ?_
  rintro a w ⟨x, hx⟩
  have hex : ∃ m, ∃ x, LoopJ X.n E D W x a w ∧ μ x = m := ⟨_, x, hx, rfl⟩
  have hm : leastν X.n E D W μ a w = Classical.choose (exists_least hex) := by unfold leastν; rw [dif_pos hex]
  obtain ⟨⟨y, hy, hμ⟩, _⟩ := Classical.choose_spec (exists_least hex)
  rw [← hm] at hμ
  obtain ⟨hd, hf, hW⟩ := hy
  have := round y w hW a.tmps hf
  rw [← hd] at this
  refine wpIn_mono this ?_
  intro ex a' w' hq
  cases ex <;> try exact hq
  obtain ⟨x', hx', hlt⟩ := hq
  refine ⟨⟨x', hx'⟩, ?_⟩
  have hex' : ∃ m, ∃ x, LoopJ X.n E D W x a' w' ∧ μ x = m := ⟨_, x', hx', rfl⟩
  have hm' : leastν X.n E D W μ a' w' = Classical.choose (exists_least hex') := by unfold leastν; rw [dif_pos hex']
  obtain ⟨_, hleast⟩ := Classical.choose_spec (exists_least hex')
  rw [← hm'] at hleast
  have := hleast (μ x')
  rw [← hμ]
  refine Nat.lt_of_le_of_lt (Nat.le_of_not_lt fun h => this h ⟨x', hx', rfl⟩) hlt
theorem G.lpD {X : Cx} {k : List Kt} {e : Env} {w : World} {α : Type} {n : Nat} {E : α → Env} {D : α → List Deferred} {W : α → World → Prop} {μ : α → Nat} {x : α} (x' : α) (hn : X.n = n) (hd : X.ds = D x') (hs : Sub (E x') e) (hw : W x' w) (hμ : μ x' < μ x) :
    G X (.lp (fun a' w' => ∃ x', LoopJ n E D W x' a' w' ∧ μ x' < μ x) :: k) e w :=
  fun _ ht => ⟨x', ⟨hd, hn ▸ ht.sub hs, hw⟩, hμ⟩
end Go.Vg
end
section
namespace Go.Vg
open Go.RowKit

theorem run_storeCells_t (P : Program) (t : TypeId) : ∀ (vs : List Value) (b o i : Nat) (us : List Value) (w : World), w.heap[b]? = some (.cells ⟨us⟩ t (0, 0)) → o + i + vs.length ≤ us.length → (∀ v ∈ vs, v.oneCell' = true) →
    ∃ w', (storeCells ⟨b, o, none⟩ vs i).run P w = .ok () w' ∧ Wr b w w' ∧ w'.heap[b]? = some (.cells ⟨us.take (o + i) ++ vs ++ us.drop (o + i + vs.length)⟩ t (0, 0))
  | [], b, o, i, us, w, h, _, _ => ⟨w, by simp [storeCells], Wr.refl b w, by simpa using h⟩
  | v :: r, b, o, i, us, w, hb, hl, h1 => by
    simp only [List.length_cons] at hl
    have hc : (w.cell? ⟨b, o + i, none⟩).isSome = true := by
      rw [cell_of_row w b (o + i) ⟨us⟩ t (0, 0) hb]; simp; omega
    obtain ⟨u0, hu0⟩ := Option.isSome_iff_exists.1 hc
    have hf : w.frozen? ⟨b, o + i, none⟩ = false := frozen_of_row w b (o + i) ⟨us⟩ t hb
    have hst := run_store P w ⟨b, o + i, none⟩ v .plain (h1 v (by simp))
    rw [hu0] at hst
    simp only [hf, Bool.false_eq_true, if_false] at hst
    have hb2 : (w.setCell ⟨b, o + i, none⟩ v).heap[b]? = some (.cells ⟨us.set (o + i) v⟩ t (0, 0)) := by
      have := heap_setCell_same w b (o + i) ⟨us⟩ t v hb
      simpa using this
    obtain ⟨w', hr, hw, hx⟩ := run_storeCells_t P t r b o (i + 1) _ _ hb2 (by simp; omega) (fun u hu => h1 u (by simp [hu]))
    refine ⟨w', ?_, (Wr.setCell w b (o + i) v).trans hw, ?_⟩
    · simp only [storeCells, Sem.run_bind, Addr.add_lit, hst, Result.andThen_ok, hr]
    · have e : (us.set (o + i) v).take (o + (i + 1)) ++ r ++ (us.set (o + i) v).drop (o + (i + 1) + r.length) = us.take (o + i) ++ (v :: r) ++ us.drop (o + i + (v :: r).length) := by
        have h3 : o + i < us.length := by omega
        rw [show o + (i + 1) = (o + i) + 1 by omega, List.take_set, List.drop_set_of_lt (by omega)]
        rw [List.take_succ_eq_append_getElem (by simpa using h3)]
        rw [List.set_append_right _ _ (by simp; omega)]
        simp [show min (o + i) us.length = o + i by omega]
        congr 1; omega
      rw [← e]; exact hx

theorem flatten_take {k : Nat} : ∀ (xs : List (List Value)) (j : Nat), (∀ x ∈ xs, x.length = k) → (xs.take j).flatten = xs.flatten.take (j * k)
  | [], j, _ => by simp
  | x :: xs, 0, _ => by simp
  | x :: xs, j + 1, h => by
    have hx := h x (by simp)
    rw [List.take_succ_cons, List.flatten_cons, List.flatten_cons, flatten_take xs j (fun y hy => h y (by simp [hy])), Nat.add_mul, Nat.one_mul, Nat.add_comm, List.take_append_of_le_length' hx]
  where
  List.take_append_of_le_length' {x : List Value} {l : List Value} {k m : Nat} (hx : x.length = k) : (x ++ l).take (k + m) = x ++ l.take m := by
    rw [List.take_append, List.take_of_length_le (by omega)]
    congr 2; omega
theorem flatten_drop {k : Nat} (xs : List (List Value)) (j : Nat) (h : ∀ x ∈ xs, x.length = k) : (xs.drop j).flatten = xs.flatten.drop (j * k) := by
  have h1 := flatten_take xs j h
  have h2 : xs.flatten = (xs.take j).flatten ++ (xs.drop j).flatten := by rw [← List.flatten_append, List.take_append_drop]
  by_cases hj : j ≤ xs.length
  · have hl : (xs.take j).flatten.length = j * k := by
      rw [flatten_length _ (fun x hx => h x (List.mem_of_mem_take hx)), List.length_take, Nat.min_eq_left hj]
    rw [h2, List.drop_append_of_le_length (by omega), List.drop_of_length_le (l := (xs.take j).flatten) (by omega), List.nil_append]
  · rw [List.drop_of_length_le (by omega), List.flatten_nil, List.drop_of_length_le]
    rw [flatten_length _ h]; exact Nat.mul_le_mul_right _ (by omega)
theorem flatten_set {k : Nat} (xs : List (List Value)) (j : Nat) (x : List Value) (h : ∀ x ∈ xs, x.length = k) (_ : x.length = k) (hj : j < xs.length) :
    (xs.set j x).flatten = xs.flatten.take (j * k) ++ x ++ xs.flatten.drop (j * k + k) := by
  have e : xs.set j x = xs.take j ++ x :: xs.drop (j + 1) := by
    rw [List.set_eq_take_append_cons_drop, if_pos hj]
  rw [e, List.flatten_append, List.flatten_cons, flatten_take xs j h, flatten_drop xs (j + 1) h, Nat.add_mul, Nat.one_mul, List.append_assoc]

theorem Grew.trans {B : Nat} {u : Value} {w w1 w2 : World} (h : Grew B u w w1) (k : Grew B u w1 w2) : Grew B u w w2 :=
  ⟨fun _ hb => k.below _ (h.below _ hb), Nat.le_trans h.size k.size, fun q hq hne => (k.block q (Nat.lt_of_lt_of_le hq h.size) hne).trans (h.block q hq hne)⟩
theorem Grew.refl (B : Nat) (u : Value) (w : World) : Grew B u w w := ⟨fun _ h => h, Nat.le_refl _, fun _ _ _ => rfl⟩

/-- the result lies in a box -/
theorem resA {P : Program} {fn : Func} {n : Nat} {e : Env} {t : Array Value} (T : Tb P) (hf : Fits n e t) {s ty sz b : Nat} {z p : Value} {us : List Value} {d : TypeDesc} (hr : fn.results = #[.cell s ty]) (hv : look e s = some (none, p))
    (ht : T.ty ty = some d) (ha : aggT d = true) (hi : T.inf ty = some (z, sz, b)) (hl : us.length = sz) {w : World} (hc : CellsAt w p us) : (results fn t).run P w = .ok (.agg ⟨us⟩) w := by
  obtain ⟨a, rfl, _, hc⟩ := hc
  subst hl
  have h1 : t.getD s undef = .pointer (some a) := (hf.get _ _ _ hv).2
  have h0 := run_loadCells_list (P := P) w a us hc
  have h2 : (loadVar ty a).run P w = .ok (.agg ⟨us⟩) w := by
    simp only [loadVar, Sem.run_bind, Sem.run_pure, Result.andThen_ok, run_isAgg (T.ok _ _ ht), ha, if_true, run_sizeOf hi, h0]
  simp only [results, hr, List.mapM_toArray, List.mapM_cons, List.mapM_nil, h1, asAddr, Sem.run_bind, Sem.run_map, Sem.run_pure, Result.andThen_ok, h2]
  rfl
theorem G.retA {X : Cx} {k : List Kt} {e : Env} {w : World} {P : Program} {fn : Func} {R : Value → World → Prop} (T : Tb P) (hX : X.fin = retFin P fn R) (hd : X.ds = []) {s ty sz b : Nat} {z p : Value} {us : List Value} {td : TypeDesc}
    (hc : CellsAt w p us) (h : R (.agg ⟨us⟩) w) (hr : fn.results = #[.cell s ty]) (hv : look e s = some (none, p)) (ht : T.ty ty = some td) (ha : aggT td = true) (hi : T.inf ty = some (z, sz, b)) (hl : us.length = sz) : G X (.code .ret :: k) e w := by
  refine G.ret fun t hf => ?_
  rw [hX, hd]
  exact ⟨rfl, _, resA T hf hr hv ht ha hi hl hc, _, rfl, h⟩

section
variable {X : Cx} {ops : Array Oper} {l : List Oper} {kk : List Kt} {e : Env} {w : World} {N : Env → World → Prop} {d : Nat} {c : Option Bool} {ty : TypeId} {pos : String} {af : Array Edge} {g : Option (Nat × Bool)}

/-- an element of a row of one's own is stored -/
theorem Step.storeRow (T : Tb X.P) {x y : Operand} {t : TypeId} {v u z : Value} {vs : List Value} {k by_ B et j : Nat} {xs : List (List Value)} (hg : guardE ops e ⟨none, .store t x y, ty, pos, af, g⟩ = some none)
    (hx : Op1 e none x (padd v (j * k))) (hy : Op1 e none y u) (hi : T.inf t = some (z, k, by_)) (hv : u.cells = ⟨vs⟩) (hs : vs.length = k) (h1 : ∀ v ∈ vs, v.oneCell' = true)
    (ho : Owns w B v et k xs) (hj : j < xs.length)
    (h : ∀ w', Owns w' B v et k (xs.set j vs) → Grew B v w w' → N e w') : Step X ops ⟨none, .store t x y, ty, pos, af, g⟩ e w N := by
  have ho' := ho
  obtain ⟨⟨hl, hr⟩, hk, hb⟩ := ho
  rcases hr with ⟨rfl, hn⟩ | ⟨gb, cap, ⟨us⟩, rfl, hB, hgb, hc, hm, hsz, htk⟩
  · omega
  · have hle : xs.length * k ≤ cap * k := Nat.mul_le_mul_right _ hc
    have hjk : (j + 1) * k ≤ xs.length * k := Nat.mul_le_mul_right _ hj
    rw [Nat.add_mul, Nat.one_mul] at hjk
    have hus : us.length = cap * k := hsz
    simp only at htk
    obtain ⟨w', hrun, hw, hx'⟩ := run_storeCells_t X.P et vs gb (j * k) 0 us w hgb (by omega) h1
    rw [Nat.add_zero, hs] at hx'
    refine Step.effNone rfl hg (fun _ hh => by cases hh) (w' := w') (fun t' hf => ?_) (h w' ?_ ?_)
    · have hp : padd (Value.slice (some ⟨gb, 0, none⟩) xs.length cap) (j * k) = .pointer (some ⟨gb, j * k, none⟩) := by simp [padd, Addr.add_lit]
      have hsz' : ¬ ((⟨vs⟩ : Array Value).size ≠ k) := by simp [hs]
      simp only [execOp, hx.val hf rfl, hy.val hf rfl, hp, Instr.storeAt, Instr.sureAddr, storeVar, Sem.run_bind, Sem.run_pure, Result.andThen_ok, run_sizeOf hi, hv, if_neg hsz', hrun]
    · have hfl := flatten_set xs j vs hk hs hj
      refine ⟨⟨?_, .inr ⟨gb, cap, _, by rw [List.length_set], hB, hx', by rw [List.length_set]; exact hc, hm, ?_, ?_⟩⟩, ?_, by rw [List.length_set]; exact hb⟩
      · rw [flatten_length _ (fun y hy => by
          rcases List.mem_or_eq_of_mem_set hy with hy | rfl
          · exact hk y hy
          · exact hs)]
      · simp only [List.size_toArray, List.length_append, List.length_take, List.length_drop]; omega
      · rw [List.length_set, hfl, ← htk]
        simp only [List.append_assoc]
        rw [List.take_append, List.length_take, Nat.min_eq_left (by omega), List.take_of_length_le (by rw [List.length_take]; omega), List.take_append, hs, List.take_of_length_le (l := vs) (by omega), List.take_take, Nat.min_eq_left (by omega)]
        congr 2
        rw [List.drop_take]
        congr 1; omega
      · intro y hy
        rcases List.mem_or_eq_of_mem_set hy with hy | rfl
        · exact hk y hy
        · exact hs
    · exact ⟨fun w0 hb0 => hb0.wr hw hB, by rw [hw.size]; exact Nat.le_refl _, fun q hq hne => hw.block q (fun e => hne (by rw [e]; rfl))⟩
theorem sStR (T : Tb X.P) {x y : Operand} {t : TypeId} {v u z : Value} {vs : List Value} {k by_ B et j : Nat} {xs : List (List Value)} (ho : Owns w B v et k xs) (hj : j < xs.length)
    (h : ∀ w', Owns w' B v et k (xs.set j vs) → Grew B v w w' → GL X ops l kk e w') (hg : guardE ops e ⟨none, .store t x y, ty, pos, af, g⟩ = some none := by exact rfl)
    (hx : Op1 e none x (padd v (j * k)) := by exact Op1.of rfl (fun _ => rfl)) (hy : Op1 e none y u := by exact Op1.of rfl (fun _ => rfl)) (hi : T.inf t = some (z, k, by_) := by exact rfl) (hv : u.cells = ⟨vs⟩ := by exact rfl) (hs : vs.length = k := by exact rfl) (h1 : ∀ v ∈ vs, v.oneCell' = true := by simp [Value.oneCell', S, U]) :
    GL X ops (⟨none, .store t x y, ty, pos, af, g⟩ :: l) kk e w := GL.cons (Step.storeRow T hg hx hy hi hv hs h1 ho hj h)

end
end Go.Vg
end
section
namespace Go.Vg
open Go.RowKit

theorem By.sub {w : World} {v : Value} {l : List UInt8} (h : By w v l) {a b : Nat} (ha : a ≤ b) (hb : b ≤ l.length) : By w (subS v 1 a b) ((l.drop a).take (b - a)) := by
  have := Sli.sub h ha (by rw [bysC_len]; exact hb)
  unfold By bysC at *
  rw [List.map_take, List.map_drop]; exact this
/-- stands for a block, where a row's effect is spoken of -/
def blk (b : Nat) : Value := .slice (some ⟨b, 0, none⟩) 0 0
section
variable {X : Cx} {ops : Array Oper} {l : List Oper} {k : List Kt} {e : Env} {w : World} {N : Env → World → Prop} {S : World → Prop} {lb : List (Oper × Bool)} {d : Nat} {c : Option Bool} {ty : TypeId} {pos : String} {af : Array Edge} {g : Option (Nat × Bool)}
theorem dCu (T : Tb X.P) {x : Operand} {src dst : TypeId} {q : IntKind} {b : UInt8} {sd : TypeDesc} (h : GMN X ops S N lb ((d, c, .int q (b.toNat : Int)) :: e) w)
    (hg : guardE ops e ⟨some d, .convert src dst x, ty, pos, af, g⟩ = some c := by exact rfl) (hx : Op1 e c x (U b) := by exact Op1.of rfl (by first | exact fun _ => rfl | exact fun h => h)) (hs : T.ty src = some sd := by exact rfl) (ht : T.ty dst = some (.int q) := by exact rfl) (hq : bigK q = true := by exact rfl) (hn : Nat.blt d X.n = true := by exact rfl) :
    GMN X ops S N ((⟨some d, .convert src dst x, ty, pos, af, g⟩, true) :: lb) e w := GM.read (fun _ _ => Step.convU T hg hx hs ht hq hn ⟨rfl, rfl⟩) rfl hn h
end
end Go.Vg
end
section
namespace Go.Vg
open Go.RowKit

/-- where a row lies behind an append: where it lay, or in new memory -/
def Own2 (w : World) (v v' : Value) : Prop := v'.ownBlock = v.ownBlock ∨ v'.ownBlock = some w.heap.size
theorem Own2.refl (w : World) (v : Value) : Own2 w v v := .inl rfl

section
variable {X : Cx} {ops : Array Oper} {l : List Oper} {kk : List Kt} {e : Env} {w : World} {N : Env → World → Prop} {d : Nat} {c : Option Bool} {ty : TypeId} {pos : String} {af : Array Edge} {g : Option (Nat × Bool)}

theorem Step.append2 (T : Tb X.P) {x y : Operand} {t et : TypeId} {v u z : Value} {k bytes B : Nat} {xs ys : List (List Value)}
    (hg : guardE ops e ⟨some d, .call { callee := .builtin .append, args := #[x, y], argTypes := #[t, t] }, ty, pos, af, g⟩ = some none)
    (hx : Op1 e none x v) (hy : Op1 e none y u) (ht : T.ty t = some (.slice et)) (hi : T.inf et = some (z, k, bytes)) (hk : Nat.blt 0 k = true) (hz : z.cells.size = k)
    (hv : Owns w B v et k xs) (hu : Sli w u k ys) (h1 : ∀ y ∈ ys, ∀ c ∈ y, c.oneCell' = true) (hb : (xs.length + ys.length) * bytes ≤ 140737488355328) (hl : xs.length + ys.length ≤ 140737488355328)
    (hB : B ≤ w.heap.size) (hn : Nat.blt d X.n = true)
    (h : ∀ v' w', Owns w' B v' et k (xs ++ ys) → Grew B v w w' → Own2 w v v' → N ((d, none, v') :: e) w') :
    Step X ops ⟨some d, .call { callee := .builtin .append, args := #[x, y], argTypes := #[t, t] }, ty, pos, af, g⟩ e w N := by
  obtain ⟨i, hi1, hi2, hi3, hi4⟩ := T.iok _ _ _ _ hi
  have hT := T.ok _ _ ht
  have hk' : 0 < k := by simpa [Nat.blt_eq] using hk
  rcases hu with ⟨rfl, rfl⟩ | ⟨a, cap, rfl, hs, hc, hyl, hcell, hyb⟩
  · have hr := run_append_owned_none (P := X.P) w B t ty et i k hT hi1 v xs.length xs.flatten hv.1
    refine Step.eff (v := v) (w' := w) rfl (by simpa [Nat.blt_eq] using hn) hg (fun _ hh => by cases hh) (fun t' hf => run_builtin2 (hx.val hf rfl) (hy.val hf rfl) fun cs => ?_) (h v w (by simpa using hv) ⟨fun _ h => h, Nat.le_refl _, fun _ _ _ => rfl⟩ (.inl rfl))
    simp only [builtin, Sem.run_bind, hr, Result.andThen_ok, Sem.run_pure]
  · have hfl := flatten_length ys hyl
    have hnews : ∀ j u, ys.flatten[j]? = some u → w.cell? (a.add j) = some u := fun j u hj => by
      have hj' : j < ys.length * k := by rw [← hfl]; exact (List.getElem?_eq_some_iff.1 hj).1
      have hq : j / k < ys.length := Nat.div_lt_of_lt_mul (by rw [Nat.mul_comm]; exact hj')
      have hyq : ys[j / k]? = some ys[j / k] := List.getElem?_eq_getElem hq
      have hlen : (ys[j / k]).length = k := hyl _ (List.getElem_mem hq)
      have hr' : j % k < (ys[j / k]).length := by rw [hlen]; exact Nat.mod_lt _ hk'
      have hu2 := List.getElem?_eq_getElem hr'
      have e1 : j / k * k + j % k = j := by rw [Nat.mul_comm]; exact Nat.div_add_mod j k
      have h5 := flatten_get ys hyl _ _ hyq _ _ hu2
      rw [e1, hj] at h5
      cases h5
      have := hcell _ _ hyq _ _ hu2
      rwa [e1] at this
    have hone : ∀ u ∈ ys.flatten, u.oneCell' = true := fun u hu => by obtain ⟨y, hy, hu'⟩ := List.mem_flatten.1 hu; exact h1 y hy u hu'
    obtain ⟨v', w', hr, h2, h3, _⟩ := run_append_own (P := X.P) w B t ty et i z k bytes hT hi1 hi2 hi3 hi4 hz hk' v xs.length xs.flatten hv.1 a ys.length cap ys.flatten hfl hnews hone (by unfold maxLen; omega) hb hB
    have hwhere : Own2 w v v' := by
      rcases hv.1.2 with ⟨rfl, hnil⟩ | ⟨gb, cp, cur, rfl, _, hgb, hcp, _, hsz, htk⟩
      · by_cases hm : ys.length = 0
        · have he : ys = [] := List.eq_nil_of_length_eq_zero hm
          subst he
          rcases h2.2 with ⟨rfl, _⟩ | ⟨g2, c2, cur2, rfl, _, hg2, _, _, _, _⟩
          · exact .inl rfl
          · by_cases hlt : g2 < w.heap.size
            · exfalso
              have hr0 : (Builtin.append_ #[t, t] ty #[.slice none 0 0, .slice (some a) 0 cap]).run X.P w = .ok (.slice none 0 0) w := by
                simp [Builtin.append_, run_underlying hT, sizeOf, typeInfo, hi1, Builtin.lenOf, Builtin.firstCells, loadCells, loadCellsFrom]
              rw [List.length_nil, hr0] at hr
              cases hr
            · have hr0 : (Builtin.append_ #[t, t] ty #[.slice none 0 0, .slice (some a) 0 cap]).run X.P w = .ok (.slice none 0 0) w := by
                simp [Builtin.append_, run_underlying hT, sizeOf, typeInfo, hi1, Builtin.lenOf, Builtin.firstCells, loadCells, loadCellsFrom]
              rw [List.length_nil, hr0] at hr
              cases hr
        · have h48 : ys.length * i.bytes ≤ 281474976710656 := by
            rw [hi4]
            have := Nat.mul_le_mul_right bytes (Nat.le_add_left ys.length xs.length)
            omega
          have hr2 := run_append_nil (P := X.P) w t ty et i z hT hi1 hi2 a ys.length cap ys.flatten (by rw [hi3]; exact hfl) hnews (by omega) (by omega) h48
          rw [hr2] at hr
          cases hr
          exact .inr rfl
      · by_cases hroom : xs.length + ys.length ≤ cp
        · have hr2 := run_append_room (P := X.P) w t ty et i hT hi1 gb xs.length cp cur hgb a ys.length cap ys.flatten (by rw [hi3]; exact hfl) hnews hone hroom (by rw [hi3, hfl, hsz, ← Nat.add_mul]; exact Nat.mul_le_mul_right _ hroom)
          rw [hr2] at hr
          cases hr
          exact .inl rfl
        · have holds : ∀ j u, xs.flatten[j]? = some u → w.cell? ((⟨gb, 0, none⟩ : Addr).add j) = some u := hv.1.cells (g := gb) rfl
          have hr2 := run_append_grow (P := X.P) w t ty et i z hT hi1 hi2 ⟨gb, 0, none⟩ xs.length cp xs.flatten (by rw [hi3]; exact hv.1.1) holds a ys.length cap ys.flatten (by rw [hi3]; exact hfl) hnews (by omega) (by omega) (growslice_fits (by omega) (by rw [hi4]; exact hb))
          rw [hr2] at hr
          cases hr
          exact .inr rfl
    have hown : Owns w' B v' et k (xs ++ ys) := by
      refine ⟨?_, ?_, by simpa using hl⟩
      · rw [List.length_append, List.flatten_append]; exact h2
      · intro x hx
        rcases List.mem_append.1 hx with hx | hx
        · exact hv.2.1 x hx
        · exact hyl x hx
    refine Step.eff (v := v') (w' := w') rfl (by simpa [Nat.blt_eq] using hn) hg (fun _ hh => by cases hh) (fun t' hf => run_builtin2 (hx.val hf rfl) (hy.val hf rfl) fun cs => ?_)
      (h v' w' hown ⟨fun w0 hb0 => hb0.grown h3 hB (fun k hk => by
        rcases hv.1.2 with ⟨rfl, _⟩ | ⟨g, cap, cur, rfl, hBg, _⟩
        · simp [Value.ownBlock] at hk
        · simp [Value.ownBlock] at hk; omega), h3.size, h3.block⟩ hwhere)
    simp only [builtin, Sem.run_bind, hr, Result.andThen_ok, Sem.run_pure]
theorem sApp2 (T : Tb X.P) {x y : Operand} {t et : TypeId} {v u z : Value} {q bytes B : Nat} {xs ys : List (List Value)} (hv : Owns w B v et q xs) (hu : Sli w u q ys)
    (h : ∀ v' w', Owns w' B v' et q (xs ++ ys) → Grew B v w w' → Own2 w v v' → GL X ops l kk ((d, none, v') :: e) w')
    (h1 : ∀ y ∈ ys, ∀ c ∈ y, c.oneCell' = true := by intro y hy c hc; simp only [List.mem_cons, List.not_mem_nil, or_false] at hy; subst hy; simp only [List.mem_cons, List.not_mem_nil, or_false] at hc; rcases hc with rfl <;> rfl)
    (hg : guardE ops e ⟨some d, .call { callee := .builtin .append, args := #[x, y], argTypes := #[t, t] }, ty, pos, af, g⟩ = some none := by exact rfl)
    (hx : Op1 e none x v := by exact Op1.of rfl (fun _ => rfl)) (hy : Op1 e none y u := by exact Op1.of rfl (fun _ => rfl)) (ht : T.ty t = some (.slice et) := by exact rfl) (hi : T.inf et = some (z, q, bytes) := by exact rfl) (hk : Nat.blt 0 q = true := by exact rfl) (hz : z.cells.size = q := by exact rfl) (hn : Nat.blt d X.n = true := by exact rfl)
    (hb : (xs.length + ys.length) * bytes ≤ 140737488355328 := by simp only [List.length_map, List.length_append, List.length_cons, List.length_nil, List.length_take, List.length_drop]; omega)
    (hl : xs.length + ys.length ≤ 140737488355328 := by simp only [List.length_map, List.length_append, List.length_cons, List.length_nil, List.length_take, List.length_drop]; omega)
    (hB : B ≤ w.heap.size := by omega) :
    GL X ops (⟨some d, .call { callee := .builtin .append, args := #[x, y], argTypes := #[t, t] }, ty, pos, af, g⟩ :: l) kk e w := GL.cons (Step.append2 T hg hx hy ht hi hk hz hv hu h1 hb hl hB hn h)
end

end Go.Vg
end
section
namespace Go.Vg
open Go.RowKit
section
variable {X : Cx} {ops : Array Oper} {l : List Oper} {k : List Kt} {e : Env} {w : World} {N : Env → World → Prop} {d : Nat} {c : Option Bool} {ty : TypeId} {pos : String} {af : Array Edge} {g : Option (Nat × Bool)}
theorem Step.indexAddrA (T : Tb X.P) {x i : Operand} {st et n q b : Nat} {z p : Value} {m : Int} (j : Nat)
    (hg : guardE ops e ⟨some d, .indexAddr st x i, ty, pos, af, g⟩ = some c)
    (hx : Op1 e c x p) (hi : Op1 e c i (.int .i64 m)) (ht : T.ty st = some (.array n et)) (hk : T.inf et = some (z, q, b)) (hp : cv c = true → ∃ a : Addr, p = .pointer (some a)) (hj : cv c = true → m = j ∧ j < n)
    (hn : Nat.blt d X.n = true) (h : N ((d, c, padd p (j * q)) :: e) w) : Step X ops ⟨some d, .indexAddr st x i, ty, pos, af, g⟩ e w N :=
  Step.quiet rfl (by simpa [Nat.blt_eq] using hn) hg (fun _ hh => by cases hh) (fun t' hf hc' => by
    obtain ⟨rfl, hlt⟩ := hj hc'
    obtain ⟨a, rfl⟩ := hp hc'
    have hT := T.ok _ _ ht
    have h1 : (0 : Int) ≤ j ∧ (j : Int) < n := by omega
    have hr : (Instr.indexAt st (.pointer (some a)) (.int .i64 j)).run X.P w = .ok (.pointer (some (a.add (j * q)))) w := by
      simp [Instr.indexAt, asIntOf, run_underlying hT, Instr.sureAddr, run_sizeOf hk, hlt]
    simp only [execOp, hx.val hf hc', hi.val hf hc', Sem.run_bind, hr, Result.andThen_ok, Sem.run_pure]
    rfl) h
/-- a call whose arguments may have been made under conditions -/
theorem Step.callO {f : FuncId} {args : Array Operand} {ats : Array TypeId} {lo : List Operand} {vs : List Value} {R : Value → World → Prop}
    (hg : guardE ops e ⟨some d, .call { callee := .value (.func f), args := args, argTypes := ats }, ty, pos, af, g⟩ = some none)
    (ha : args = ⟨lo⟩) (hvs : OpL e none lo vs) (hf : Callable X.P f)
    (hn : Nat.blt d X.n = true) (hc : Ret X.P f ⟨vs⟩ w R)
    (h : ∀ v w', R v w' → N ((d, none, v) :: e) w') : Step X ops ⟨some d, .call { callee := .value (.func f), args := args, argTypes := ats }, ty, pos, af, g⟩ e w N :=
  Step.call rfl (by simpa [Nat.blt_eq] using hn) hg (fun _ hh => by cases hh) (fun t hft => by
    have := hvs.map (ds := X.ds) hft rfl
    subst ha
    have h2 : (Array.mk lo).map (Act.mk t X.ds).eval = ⟨vs⟩ := by simp [this]
    simp only [execOp, resolve, h2, Act.eval, Deferred.ofValue, Sem.run_bind, Sem.run_pure, Result.andThen_ok, invoke, Array.empty_append, Array.append_empty, run_callFunc hf]) hc h
end
end Go.Vg
end
section
namespace Go.Vg
open Go.RowKit

theorem Owns.shape {w : World} {B : Nat} {v : Value} {et k : Nat} {xs : List (List Value)} (h : Owns w B v et k xs) (h0 : 0 < xs.length) :
    ∃ g cap cur, v = .slice (some ⟨g, 0, none⟩) xs.length cap ∧ B ≤ g ∧ w.heap[g]? = some (.cells cur et (0, 0)) ∧ xs.length ≤ cap ∧ cap ≤ maxLen ∧ cur.size = cap * k ∧ cur.toList.take (xs.length * k) = xs.flatten := by
  rcases h.1.2 with ⟨_, hn⟩ | h
  · omega
  · exact h
/-- one element more of the room behind a row -/
theorem Owns.up {w : World} {B g cap : Nat} {et k : Nat} {xs : List (List Value)} (h : Owns w B (.slice (some ⟨g, 0, none⟩) xs.length cap) et k xs) (hc : xs.length < cap) (hb : xs.length + 1 ≤ 140737488355328) :
    ∃ y, Owns w B (.slice (some ⟨g, 0, none⟩) (xs.length + 1) cap) et k (xs ++ [y]) := by
  obtain ⟨⟨hl, hr⟩, hk, _⟩ := h
  rcases hr with ⟨hv, _⟩ | ⟨g', cap', cur, hv, hB, hg, hc', hm, hs, ht⟩
  · cases hv
  · cases hv
    have hle : (xs.length + 1) * k ≤ cap * k := Nat.mul_le_mul_right _ hc
    rw [Nat.add_mul, Nat.one_mul] at hle
    have hsz : cur.toList.length = cap * k := by rw [Array.length_toList]; exact hs
    have hy : ((cur.toList.drop (xs.length * k)).take k).length = k := by rw [List.length_take, List.length_drop]; omega
    refine ⟨(cur.toList.drop (xs.length * k)).take k, ⟨?_, .inr ⟨g, cap, cur, by simp, hB, hg, by simp; omega, hm, hs, ?_⟩⟩, ?_, by simp; omega⟩
    · simp only [List.flatten_append, List.length_append, hl, List.flatten_cons, List.flatten_nil, List.append_nil, hy, List.length_cons, List.length_nil, Nat.add_mul, Nat.zero_add, Nat.one_mul]
    · simp only [List.flatten_append, List.length_append, List.flatten_cons, List.flatten_nil, List.append_nil, List.length_cons, List.length_nil, Nat.add_mul, Nat.zero_add, Nat.one_mul]
      rw [← ht, List.take_add]
    · intro x hx
      rcases List.mem_append.1 hx with hx | hx
      · exact hk x hx
      · simp only [List.mem_cons, List.not_mem_nil, or_false] at hx
        subst hx; exact hy

/-- a row with others laid over it from one place on -/
def lay {α : Type} (xs : List α) (o : Nat) (ys : List α) : List α := xs.take o ++ ys ++ xs.drop (o + ys.length)
theorem cellsOf {w : World} {a : Addr} {k : Nat} {ys : List (List Value)} {n cap : Nat} (hs : Sli w (.slice (some a) n cap) k ys) (hk : 0 < k) : ∀ j u, ys.flatten[j]? = some u → w.cell? (a.add j) = some u := by
  rcases hs with ⟨h, _⟩ | ⟨a', cap', hv, hsp, hc, hyl, hcell, hyb⟩
  · cases h
  · cases hv
    intro j u hj
    have hj' : j < ys.length * k := by rw [← flatten_length ys hyl]; exact (List.getElem?_eq_some_iff.1 hj).1
    have hq : j / k < ys.length := Nat.div_lt_of_lt_mul (by rw [Nat.mul_comm]; exact hj')
    have hyq : ys[j / k]? = some ys[j / k] := List.getElem?_eq_getElem hq
    have hlen : (ys[j / k]).length = k := hyl _ (List.getElem_mem hq)
    have hr' : j % k < (ys[j / k]).length := by rw [hlen]; exact Nat.mod_lt _ hk
    have hu2 := List.getElem?_eq_getElem hr'
    have e1 : j / k * k + j % k = j := by rw [Nat.mul_comm]; exact Nat.div_add_mod j k
    have h5 := flatten_get ys hyl _ _ hyq _ _ hu2
    rw [e1, hj] at h5
    cases h5
    have := hcell _ _ hyq _ _ hu2
    rwa [e1] at this

section
variable {X : Cx} {ops : Array Oper} {l : List Oper} {kk : List Kt} {e : Env} {w : World} {N : Env → World → Prop} {d : Nat} {c : Option Bool} {ty : TypeId} {pos : String} {af : Array Edge} {g : Option (Nat × Bool)}

end

section
variable {X : Cx} {ops : Array Oper} {e : Env} {w : World} {S : World → Prop} {N : Env → World → Prop} {lb : List (Oper × Bool)} {d : Nat} {c : Option Bool} {ty : TypeId} {pos : String} {af : Array Edge} {g : Option (Nat × Bool)}
end
end Go.Vg
end
section
namespace Go.Vg
open Go.RowKit

abbrev TT := List (List UInt8 × List UInt8)
def mpC (es : TT) : List (Value × Value) := es.map fun p => (S p.1, S p.2)
/-- block b is a map of texts by texts -/
def Mp (w : World) (b : Nat) (es : TT) : Prop := ∃ ms clock, w.heap[b]? = some (.map ⟨ms⟩ clock) ∧ ms.map (fun e => (e.key, e.val)) = mpC es
theorem Mp.lt {w : World} {b : Nat} {es : TT} (h : Mp w b es) : b < w.heap.size := by
  obtain ⟨ms, clock, h, _⟩ := h; exact (Array.getElem?_eq_some_iff.1 h).1
theorem Mp.to {w w' : World} {b : Nat} {es : TT} (h : Mp w b es) (hx : Ext w w') : Mp w' b es := by
  obtain ⟨ms, clock, h, h2⟩ := h
  exact ⟨ms, clock, by rw [hx.block b (Array.getElem?_eq_some_iff.1 h).1]; exact h, h2⟩
theorem Mp.wr {w w' : World} {b b' : Nat} {es : TT} (h : Mp w b es) (hw : Wr b' w w') (hne : b ≠ b') : Mp w' b es := by
  obtain ⟨ms, clock, h, h2⟩ := h
  exact ⟨ms, clock, by rw [hw.block b hne]; exact h, h2⟩

section
variable {X : Cx} {ops : Array Oper} {e : Env} {w : World} {N : Env → World → Prop} {d : Nat} {c : Option Bool} {ty : TypeId} {pos : String} {af : Array Edge} {g : Option (Nat × Bool)}
end
section
variable {X : Cx} {ops : Array Oper} {l : List Oper} {k : List Kt} {e : Env} {w : World} {d : Nat} {c : Option Bool} {ty : TypeId} {pos : String} {af : Array Edge} {g : Option (Nat × Bool)}
end
theorem post_goto {ρ : Option Nat} {P : Program} {fin : Exit → Act → World → Prop} {l : Nat} {a : Act} {w : World} : ∀ {k : List Kt}, post ρ P fin k (.goto l) a w → fin (.goto l) a w
  | [], h => h
  | .code _ :: k, h => post_goto (k := k) h
  | .lp _ :: k, h => post_goto (k := k) h
  | .blk _ :: k, h => post_goto (k := k) h
/-- a stretch with labels that nobody jumps to -/
theorem G.scope {X : Cx} {k : List Kt} {e : Env} {w : World} {c : Code} {P : Program} {fn : Func} {R : Value → World → Prop} (hX : X.fin = retFin P fn R) (hr : X.ρ = none) (h : G X (.code c :: k) e w) : G X (.code (.scope c) :: k) e w := by
  intro t ht
  have h1 := h t ht
  simp only [post] at h1 ⊢
  rw [hr] at h1 ⊢
  refine (wpIn_wide (n := 0)).2 (wp_scope_straight ((wpIn_wide (n := 0)).1 (wpIn_mono h1 ?_)))
  intro ex a w' hq
  cases ex with
  | goto l =>
    have := post_goto hq
    rw [hX] at this
    exact this.elim
  | _ => exact hq
theorem G.ret3 {X : Cx} {k : List Kt} {e : Env} {w : World} {P : Program} {fn : Func} {R : Value → World → Prop} (hX : X.fin = retFin P fn R) (hd : X.ds = []) {s s' s'' : Nat} {v v' v'' : Value}
    (hr : fn.results = #[.tmp s, .tmp s', .tmp s'']) (hv : look e s = some (none, v)) (hv' : look e s' = some (none, v')) (hv'' : look e s'' = some (none, v'')) (h : R (.tuple ⟨[v, v', v'']⟩) w) : G X (.code .ret :: k) e w := by
  refine G.ret fun t ht => ?_
  rw [hX, hd]
  refine ⟨rfl, _, ?_, _, rfl, h⟩
  rw [results_tmp3 hr, (ht.get _ _ _ hv).2, (ht.get _ _ _ hv').2, (ht.get _ _ _ hv'').2]
  rfl
/-- a result in a box, and one beside it -/
theorem G.retAT {X : Cx} {k : List Kt} {e : Env} {w : World} {P : Program} {fn : Func} {R : Value → World → Prop} (T : Tb P) (hX : X.fin = retFin P fn R) (hd : X.ds = []) {s ty sz b s' : Nat} {z p v : Value} {us : List Value} {td : TypeDesc}
    (hc : CellsAt w p us) (h : R (.tuple ⟨[.agg ⟨us⟩, v]⟩) w) (hr : fn.results = #[.cell s ty, .tmp s']) (hv : look e s = some (none, p)) (hv' : look e s' = some (none, v)) (ht : T.ty ty = some td) (ha : aggT td = true) (hi : T.inf ty = some (z, sz, b)) (hl : us.length = sz) : G X (.code .ret :: k) e w := by
  refine G.ret fun t hf => ?_
  rw [hX, hd]
  refine ⟨rfl, _, ?_, _, rfl, h⟩
  obtain ⟨a, rfl, _, hc⟩ := hc
  subst hl
  have h1 : t.getD s undef = .pointer (some a) := (hf.get _ _ _ hv).2
  have h1' : t.getD s' undef = v := (hf.get _ _ _ hv').2
  have h0 := run_loadCells_list (P := P) w a us hc
  have h2 : (loadVar ty a).run P w = .ok (.agg ⟨us⟩) w := by
    simp only [loadVar, Sem.run_bind, Sem.run_pure, Result.andThen_ok, run_isAgg (T.ok _ _ ht), ha, if_true, run_sizeOf hi, h0]
  simp only [results, hr, List.mapM_toArray, List.mapM_cons, List.mapM_nil, h1, h1', asAddr, Sem.run_bind, Sem.run_map, Sem.run_pure, Result.andThen_ok, h2]
  rfl
end Go.Vg
end
section
namespace Go.Vg
open Go.RowKit

/-- as Below, but that some block from B on may bear a mark -/
theorem Sli.same {w w' : World} {v : Value} {k : Nat} {xs : List (List Value)} (h : Sli w v k xs) (hc : ∀ a, w'.cell? a = w.cell? a) : Sli w' v k xs := by
  rcases h with h | ⟨a, cap, h1, h2, h3, h4, h5, h6⟩
  · exact .inl h
  · exact .inr ⟨a, cap, h1, h2, h3, h4, fun i x hx j u hu => by rw [hc]; exact h5 i x hx j u hu, h6⟩
section
variable {X : Cx} {ops : Array Oper} {l : List Oper} {k : List Kt} {e : Env} {w : World} {N : Env → World → Prop} {d : Nat} {c : Option Bool} {ty : TypeId} {pos : String} {af : Array Edge} {g : Option (Nat × Bool)}
end
end Go.Vg
end
section
namespace Go.Vg
open Go.RowKit

/-- a row whose first cells are bytes -/
theorem by_of {w : World} {b : Nat} {cs : List Value} {t cap : Nat} {fr : Nat × Nat} {l : List UInt8} (hb : w.heap[b]? = some (.cells ⟨cs⟩ t fr)) (h : cs.take l.length = l.map U) (hc : l.length ≤ cap) (hl : l.length ≤ 9223372036854775807) : By w (.slice (some ⟨b, 0, none⟩) l.length cap) l := by
  refine .inr ⟨⟨b, 0, none⟩, cap, by rw [bysC_len], rfl, by rw [bysC_len]; exact hc, bysC_k l, ?_, by rw [bysC_len]; exact hl⟩
  intro i x hx j u hu
  have hi : i < l.length := by
    have := (List.getElem?_eq_some_iff.1 hx).1
    rwa [bysC_len] at this
  rw [bysC_get hi] at hx
  cases hx
  have hj : j = 0 := by
    have := (List.getElem?_eq_some_iff.1 hu).1
    simp at this; exact this
  subst hj
  cases hu
  simp only [Addr.add_lit, Nat.zero_add, Nat.mul_one, Nat.add_zero]
  rw [Joins.cell_of_block hb i]
  have h2 : (cs.take l.length)[i]? = (l.map U)[i]? := by rw [h]
  rw [List.getElem?_take_of_lt hi, List.getElem?_map] at h2
  simpa [List.getD, hi] using h2
section
variable {X : Cx} {ops : Array Oper} {l : List Oper} {kk : List Kt} {e : Env} {w : World} {N : Env → World → Prop} {d : Nat} {c : Option Bool} {ty : TypeId} {pos : String} {af : Array Edge} {g : Option (Nat × Bool)}
end
end Go.Vg
end
section
namespace Go.Vg
open Go.RowKit

/-- a row made of a text: what lies behind the text's bytes may hold more -/
def Frz (w : World) (B : Nat) (v : Value) (et : Nat) (s : List UInt8) : Prop :=
  ∃ b G cs, v = .slice (some ⟨b, 0, none⟩) s.length G ∧ B ≤ b ∧ w.heap[b]? = some (.cells ⟨cs⟩ et (cs.length, cs.length + 1)) ∧ cs.take s.length = s.map U ∧ cs.length = G ∧ s.length ≤ G
/-- bytes of one's own -/
def Bwy (w : World) (B : Nat) (v : Value) (et : Nat) (s : List UInt8) : Prop := Frz w B v et s ∨ Owns w B v et 1 (bysC s)
theorem Frz.sli {w : World} {B et : Nat} {v : Value} {s : List UInt8} (h : Frz w B v et s) (hl : s.length ≤ 9223372036854775807) : By w v s := by
  obtain ⟨b, G, cs, rfl, _, hb, htk, _, hsG⟩ := h
  exact by_of hb htk hsG hl
theorem Bwy.sli {w : World} {B et : Nat} {v : Value} {s : List UInt8} (h : Bwy w B v et s) (hl : s.length ≤ 9223372036854775807) : By w v s := by
  rcases h with h | h
  · exact h.sli hl
  · exact h.sli
theorem Frz.to {w w' : World} {B et : Nat} {v : Value} {s : List UInt8} (h : Frz w B v et s) (hx : Ext w w') : Frz w' B v et s := by
  obtain ⟨b, G, cs, hv, hB, hb, hr⟩ := h
  exact ⟨b, G, cs, hv, hB, by rw [hx.block b (Array.getElem?_eq_some_iff.1 hb).1]; exact hb, hr⟩
theorem Bwy.to {w w' : World} {B et : Nat} {v : Value} {s : List UInt8} (h : Bwy w B v et s) (hx : Ext w w') : Bwy w' B v et s := by
  rcases h with h | h
  · exact .inl (h.to hx)
  · exact .inr (Owns.to h hx)
theorem Frz.mono {w : World} {B B' et : Nat} {v : Value} {s : List UInt8} (h : Frz w B v et s) (hB : B' ≤ B) : Frz w B' v et s := by
  obtain ⟨b, G, cs, hv, hb, hr⟩ := h
  exact ⟨b, G, cs, hv, Nat.le_trans hB hb, hr⟩
section
variable {X : Cx} {ops : Array Oper} {l : List Oper} {kk : List Kt} {e : Env} {w : World} {N : Env → World → Prop} {d : Nat} {c : Option Bool} {ty : TypeId} {pos : String} {af : Array Edge} {g : Option (Nat × Bool)}
end
end Go.Vg
end
section
namespace Go.Vg
open Go.RowKit

section
variable {X : Cx} {ops : Array Oper} {l : List Oper} {k : List Kt} {e : Env} {w : World} {N : Env → World → Prop} {d : Nat} {c : Option Bool} {ty : TypeId} {pos : String} {af : Array Edge} {g : Option (Nat × Bool)}
/-- a call that the model answers by itself -/
theorem Step.ext {f : FuncId} {args : Array Operand} {ats : Array TypeId} {lo : List Operand} {vs : List Value} {v : Value}
    (hg : guardE ops e ⟨some d, .call { callee := .value (.func f), args := args, argTypes := ats }, ty, pos, af, g⟩ = some c)
    (ha : args = ⟨lo⟩) (hvs : OpL e c lo vs) (hr : (callFunc f ⟨vs⟩).run X.P w = .ok (.value v) w) (hn : Nat.blt d X.n = true)
    (h : N ((d, c, v) :: e) w) : Step X ops ⟨some d, .call { callee := .value (.func f), args := args, argTypes := ats }, ty, pos, af, g⟩ e w N :=
  Step.quiet rfl (by simpa [Nat.blt_eq] using hn) hg (fun _ hh => by cases hh) (fun t hf hc => by
    have := hvs.map (ds := X.ds) hf hc
    subst ha
    have h2 : (Array.mk lo).map (Act.mk t X.ds).eval = ⟨vs⟩ := by simp [this]
    simp only [execOp, resolve, h2, Act.eval, Deferred.ofValue, Sem.run_bind, Sem.run_pure, Result.andThen_ok, invoke, Array.empty_append, Array.append_empty, hr]) h
end
end Go.Vg
end
section
namespace Go.Vg
open Go.RowKit

/-- it returns, and S holds; or it panics, and Z holds -/
def RetP (P : Program) (f : FuncId) (args : Array Value) (w : World) (S : Value → World → Prop) (Z : List PanicEntry → World → Prop) : Prop :=
  Calls P f args w fun en w' => (∃ v, en = .returned v ∧ S v w') ∨ (∃ ch, en = .panicked ch ∧ Z ch w')
theorem RetP.mono {P : Program} {f : FuncId} {args : Array Value} {w : World} {S S' : Value → World → Prop} {Z Z' : List PanicEntry → World → Prop} (h : RetP P f args w S Z) (hs : ∀ v w', S v w' → S' v w') (hz : ∀ c w', Z c w' → Z' c w') : RetP P f args w S' Z' :=
  Calls.mono h fun _ _ h => h.elim (fun ⟨v, he, hv⟩ => .inl ⟨v, he, hs _ _ hv⟩) (fun ⟨c, he, hv⟩ => .inr ⟨c, he, hz _ _ hv⟩)

def retFinP (P : Program) (fn : Func) (S : Value → World → Prop) (Z : List PanicEntry → World → Prop) : Exit → Act → World → Prop :=
  bodyPost P fn fun en w' => (∃ v, en = .returned v ∧ S v w') ∨ (∃ ch, en = .panicked ch ∧ Z ch w')

theorem fits_start {vs : List Value} {n m : Nat} (hn : m = n) (hsz : vs.length ≤ n) : Fits n (argEnv 0 vs) ((⟨vs⟩ : Array Value) ++ Array.replicate (m - (⟨vs⟩ : Array Value).size) undef) := by
  refine fits_args vs [] 0 rfl (by omega) _ (by simp [hn]; omega) (fun i hi => ?_)
  have hi' : i < vs.length := by omega
  simp [Array.getD_eq_getD_getElem?, List.getD, Array.getElem?_append, hi']
theorem ret_of_GP {P : Program} {f : FuncId} {fn : Func} {c : Code} {vs : List Value} {w : World} {S : Value → World → Prop} {Z : List PanicEntry → World → Prop} {n : Nat}
    (hf : P.funcs[f]? = some fn) (hb : fn.body = some c) (hn : fn.ntmps = n) (hl : Nat.ble vs.length n = true)
    (h : G ⟨none, P, retFinP P fn S Z, n, []⟩ [.code c] (argEnv 0 vs) w) : RetP P f ⟨vs⟩ w S Z := by
  refine calls_of_wp hf hb ?_
  have h1 := h _ (fits_start hn (by simpa using hl))
  refine wpIn_wide (n := 0) |>.1 ?_
  refine wpIn_mono h1 ?_
  intro ex a w' hq
  cases ex <;> exact hq
theorem px_P {X : Cx} {P : Program} {fn : Func} {S : Value → World → Prop} {Z : List PanicEntry → World → Prop} {ch : List PanicEntry} {w : World} (hX : X.fin = retFinP P fn S Z) (hd : X.ds = []) (h : Z ch w) : X.px ch w := by
  intro t
  rw [hX, hd]
  exact ⟨rfl, .inr ⟨ch, rfl, h⟩⟩

theorem res2 {P : Program} {fn : Func} {n : Nat} {e : Env} {t : Array Value} (hf : Fits n e t) {s s' : Nat} {v v' : Value} (hr : fn.results = #[.tmp s, .tmp s']) (hv : look e s = some (none, v)) (hv' : look e s' = some (none, v')) (w : World) :
    (results fn t).run P w = .ok (.tuple ⟨[v, v']⟩) w := by
  rw [results_tmp2 hr, (hf.get _ _ _ hv).2, (hf.get _ _ _ hv').2]; rfl
theorem G.retP {X : Cx} {k : List Kt} {e : Env} {w : World} {P : Program} {fn : Func} {S : Value → World → Prop} {Z : List PanicEntry → World → Prop} (hX : X.fin = retFinP P fn S Z) (hd : X.ds = [])
    (v : Value) (hr : ∀ t, Fits X.n e t → (results fn t).run P w = .ok v w) (h : S v w) : G X (.code .ret :: k) e w := by
  refine G.ret fun t ht => ?_
  rw [hX, hd]
  exact ⟨rfl, v, hr t ht, .inl ⟨v, rfl, h⟩⟩
theorem G.retP1 {X : Cx} {k : List Kt} {e : Env} {w : World} {P : Program} {fn : Func} {S : Value → World → Prop} {Z : List PanicEntry → World → Prop} (hX : X.fin = retFinP P fn S Z) (hd : X.ds = []) {s : Nat} {v : Value}
    (hr : fn.results = #[.tmp s]) (hv : look e s = some (none, v)) (h : S v w) : G X (.code .ret :: k) e w := G.retP hX hd v (fun _ ht => res1 ht hr hv w) h
theorem G.retP2 {X : Cx} {k : List Kt} {e : Env} {w : World} {P : Program} {fn : Func} {S : Value → World → Prop} {Z : List PanicEntry → World → Prop} (hX : X.fin = retFinP P fn S Z) (hd : X.ds = []) {s s' : Nat} {v v' : Value}
    (hr : fn.results = #[.tmp s, .tmp s']) (hv : look e s = some (none, v)) (hv' : look e s' = some (none, v')) (h : S (.tuple ⟨[v, v']⟩) w) : G X (.code .ret :: k) e w := G.retP hX hd _ (fun _ ht => res2 ht hr hv hv' w) h
section steps
variable {X : Cx} {ops : Array Oper} {e : Env} {w : World} {N : Env → World → Prop} {d : Nat} {c : Option Bool} {ty : TypeId} {pos : String} {af : Array Edge} {g : Option (Nat × Bool)} {l : List Oper} {k : List Kt} {lb : List (Oper × Bool)} {W : World → Prop}

theorem GL.consP {o : Oper} (h : StepP X ops o e w (fun e' w' => GL X ops l k e' w')) : GL X ops (o :: l) k e w := by
  intro t hf
  exact h t _ _ hf (fun e' w' t' hN hf' => hN t' hf') (fun ch t' w' hp => post_panic (hp t'))

theorem StepP.callF {f : FuncId} {args : Array Operand} {ats : Array TypeId} {lo : List Operand} {vs : List Value} {S : Value → World → Prop} {Z : List PanicEntry → World → Prop}
    (hg : guardE ops e ⟨some d, .call { callee := .value (.func f), args := args, argTypes := ats }, ty, pos, af, g⟩ = some none)
    (ha : args = ⟨lo⟩) (hvs : evs e lo = some vs) (hf : Callable X.P f)
    (hn : Nat.blt d X.n = true) (hc : RetP X.P f ⟨vs⟩ w S Z) (hz : ∀ ch w', Z ch w' → X.px ch w')
    (h : ∀ v w', S v w' → N ((d, none, v) :: e) w') : StepP X ops ⟨some d, .call { callee := .value (.func f), args := args, argTypes := ats }, ty, pos, af, g⟩ e w N := by
  intro t K Q hft hK hP
  rw [guardE_wanted hft hg, if_pos (by rfl)]
  refine ⟨fun _ _ => trivial, ?_⟩
  rw [Oper.semAt_eq _ _ _ (fun _ hh => by cases hh)]
  have := evs_map (ds := X.ds) hft hvs
  subst ha
  have h2 : (Array.mk lo).map (Act.mk t X.ds).eval = ⟨vs⟩ := by simp [this]
  have hrun : (execOp (Act.mk t X.ds).eval ⟨some d, .call { callee := .value (.func f), args := ⟨lo⟩, argTypes := ats }, ty, pos, af, g⟩).run X.P w = .ok (.enter f ⟨vs⟩) w := by
    simp only [execOp, resolve, h2, Act.eval, Deferred.ofValue, Sem.run_bind, Sem.run_pure, Result.andThen_ok, invoke, Array.empty_append, Array.append_empty, run_callFunc hf]
  show Oper.uponIn _ _ _ _ _ _ _ ((execOp (Act.mk t X.ds).eval _).run X.P w)
  rw [hrun]
  refine ⟨fun h => by simp [Fence.wide] at h, callsW (Calls.mono hc ?_)⟩
  rintro en w' (⟨v, rfl, hS⟩ | ⟨ch, rfl, hZ⟩)
  · show K (Act.put _ (some d) v) w'
    exact hK _ _ _ (h v w' hS) (hft.put (by simpa [Nat.blt_eq] using hn) none v)
  · exact hP ch t w' (hz ch w' hZ)
def ifaceT : TypeDesc → Bool
  | .interface _ => true
  | _ => false
theorem Step.mkIface (T : Tb X.P) {x : Operand} {t : TypeId} {td : TypeDesc} {v : Value} (hg : guardE ops e ⟨some d, .makeInterface t x, ty, pos, af, g⟩ = some c) (hx : Op1 e c x v) (ht : T.ty t = some td) (hi : ifaceT td = false)
    (hn : Nat.blt d X.n = true) (h : N ((d, c, .iface t v) :: e) w) : Step X ops ⟨some d, .makeInterface t x, ty, pos, af, g⟩ e w N :=
  Step.quiet rfl (by simpa [Nat.blt_eq] using hn) hg (fun _ hh => by cases hh) (fun t' hf hc => by
    have hT := T.ok _ _ ht
    simp only [execOp, hx.val hf hc, Instr.makeInterface, Sem.run_bind, run_underlying hT, Result.andThen_ok]
    cases td <;> first | (cases hi; done) | rfl) h
theorem StepP.panic {x : Operand} {t : TypeId} {v : Value} (hg : guardE ops e ⟨none, .panic x, ty, pos, af, g⟩ = some none) (hx : Op1 e none x (.iface t v))
    (hz : X.px [{ v := .iface t v, recovered := false }] w) : StepP X ops ⟨none, .panic x, ty, pos, af, g⟩ e w N := by
  intro t' K Q hft hK hP
  rw [guardE_wanted hft hg, if_pos (by rfl)]
  refine ⟨fun _ _ => trivial, ?_⟩
  rw [Oper.semAt_eq _ _ _ (fun _ hh => by cases hh)]
  have hrun : (execOp (Act.mk t' X.ds).eval ⟨none, .panic x, ty, pos, af, g⟩).run X.P w = .halt (.panic (.iface t v)) w := by
    simp only [execOp, hx.val hft rfl, Instr.panic]
    rfl
  show Oper.uponIn _ _ _ _ _ _ _ ((execOp (Act.mk t' X.ds).eval _).run X.P w)
  rw [hrun]
  exact hP _ t' w hz
theorem sIf (T : Tb X.P) {x : Operand} {t : TypeId} {td : TypeDesc} {v : Value} (h : GL X ops l k ((d, c, .iface t v) :: e) w) (hg : guardE ops e ⟨some d, .makeInterface t x, ty, pos, af, g⟩ = some c := by exact rfl)
    (hx : Op1 e c x v := by exact Op1.of rfl (fun _ => rfl)) (ht : T.ty t = some td := by exact rfl) (hi : ifaceT td = false := by exact rfl) (hn : Nat.blt d X.n = true := by exact rfl) :
    GL X ops (⟨some d, .makeInterface t x, ty, pos, af, g⟩ :: l) k e w := GL.cons (Step.mkIface T hg hx ht hi hn h)
theorem sPanic {x : Operand} {t : TypeId} {v : Value} (hz : X.px [{ v := .iface t v, recovered := false }] w) (hg : guardE ops e ⟨none, .panic x, ty, pos, af, g⟩ = some none := by exact rfl) (hx : Op1 e none x (.iface t v) := by exact Op1.of rfl (fun _ => rfl)) :
    GL X ops (⟨none, .panic x, ty, pos, af, g⟩ :: l) k e w := GL.consP (StepP.panic hg hx hz)

/-- a guarded call that may panic -/
theorem StepP.on {o : Oper} {c : Bool} (hg : guardE ops e o = some (some c)) (hc : c = true) (h : StepP X ops { o with guard := none } e w N) : StepP X ops o e w N := by
  intro t K Q hf hK hP
  have := h t K Q hf hK hP
  rw [guardE_wanted hf hg]
  subst hc
  rw [if_pos (by rfl)] at this ⊢
  exact this

theorem sCallP {f : FuncId} {args : Array Operand} {ats : Array TypeId} {lo : List Operand} {vs : List Value} {S : Value → World → Prop} {Z : List PanicEntry → World → Prop} (hf : Callable X.P f) (hc : RetP X.P f ⟨vs⟩ w S Z)
    (hz : ∀ ch w', Z ch w' → X.px ch w') (h : ∀ v w', S v w' → GL X ops l k ((d, none, v) :: e) w')
    (hg : guardE ops e ⟨some d, .call { callee := .value (.func f), args := args, argTypes := ats }, ty, pos, af, g⟩ = some none := by exact rfl)
    (ha : args = ⟨lo⟩ := by exact rfl) (hvs : evs e lo = some vs := by exact rfl) (hn : Nat.blt d X.n = true := by exact rfl) :
    GL X ops (⟨some d, .call { callee := .value (.func f), args := args, argTypes := ats }, ty, pos, af, g⟩ :: l) k e w := GL.consP (StepP.callF hg ha hvs hf hn hc hz h)
theorem dCallP {f : FuncId} {args : Array Operand} {ats : Array TypeId} {lo : List Operand} {vs : List Value} {S : Value → World → Prop} {Z : List PanicEntry → World → Prop} (hf : Callable X.P f) (hc : RetP X.P f ⟨vs⟩ w S Z)
    (hz : ∀ ch w', Z ch w' → X.px ch w') (h : ∀ v w', S v w' → W w' ∧ GMN X ops W N lb ((d, none, v) :: e) w')
    (hg : guardE ops e ⟨some d, .call { callee := .value (.func f), args := args, argTypes := ats }, ty, pos, af, g⟩ = some none := by exact rfl)
    (ha : args = ⟨lo⟩ := by exact rfl) (hvs : evs e lo = some vs := by exact rfl) (hn : Nat.blt d X.n = true := by exact rfl) :
    GMN X ops W N ((⟨some d, .call { callee := .value (.func f), args := args, argTypes := ats }, ty, pos, af, g⟩, false) :: lb) e w := GM.effP (StepP.callF hg ha hvs hf hn hc hz h)
end steps

/-! ### A world changed at one block, with more behind it -/
structure Kp (b : Nat) (w w' : World) : Prop where
  os : w'.os = w.os
  tape : w'.tape = w.tape
  output : w'.output = w.output
  size : w.heap.size ≤ w'.heap.size
  block : ∀ k, k < w.heap.size → k ≠ b → w'.heap[k]? = w.heap[k]?
theorem Kp.refl (b : Nat) (w : World) : Kp b w w := ⟨rfl, rfl, rfl, Nat.le_refl _, fun _ _ _ => rfl⟩
theorem Kp.trans {b : Nat} {w w1 w2 : World} (h : Kp b w w1) (k : Kp b w1 w2) : Kp b w w2 :=
  ⟨k.os.trans h.os, k.tape.trans h.tape, k.output.trans h.output, Nat.le_trans h.size k.size, fun i hi hne => (k.block i (Nat.lt_of_lt_of_le hi h.size) hne).trans (h.block i hi hne)⟩
theorem Ext.kp {b : Nat} {w w' : World} (h : Ext w w') : Kp b w w' := ⟨h.os, h.tape, h.output, h.size, fun i hi _ => h.block i hi⟩
theorem Wr.kp {b : Nat} {w w' : World} (h : Wr b w w') : Kp b w w' := ⟨h.os, h.tape, h.output, by rw [h.size]; exact Nat.le_refl _, fun i _ hne => h.block i hne⟩
/-- a change of a block that was not there before -/
theorem Kp.new {b c : Nat} {w w1 w2 : World} (h : Kp b w w1) (k : Kp c w1 w2) (hc : w.heap.size ≤ c) : Kp b w w2 :=
  ⟨k.os.trans h.os, k.tape.trans h.tape, k.output.trans h.output, Nat.le_trans h.size k.size, fun i hi hne => (k.block i (Nat.lt_of_lt_of_le hi h.size) (by omega)).trans (h.block i hi hne)⟩
theorem Ext.ofKp {c : Nat} {w w1 w2 : World} (h : Ext w w1) (k : Kp c w1 w2) (hc : w.heap.size ≤ c) : Ext w w2 :=
  ⟨k.os.trans h.os, k.tape.trans h.tape, k.output.trans h.output, Nat.le_trans h.size k.size, fun i hi => (k.block i (Nat.lt_of_lt_of_le hi h.size) (by omega)).trans (h.block i hi)⟩
theorem Bx.kp {b c : Nat} {w w' : World} {us : List Value} (h : Bx w c us) (k : Kp b w w') (hne : c ≠ b) : Bx w' c us := by
  obtain ⟨t, h⟩ := h
  exact ⟨t, by rw [k.block c (Array.getElem?_eq_some_iff.1 h).1 hne]; exact h⟩
theorem Owns.kp {b B : Nat} {w w' : World} {v : Value} {et k : Nat} {xs : List (List Value)} (h : Owns w B v et k xs) (hk : Kp b w w') (hb : b < B) : Owns w' B v et k xs := by
  obtain ⟨⟨hl, h⟩, h0⟩ := h
  refine ⟨⟨hl, ?_⟩, h0⟩
  rcases h with h | ⟨g, cap, cur, h1, h2, h3, h4⟩
  · exact .inl h
  · exact .inr ⟨g, cap, cur, h1, h2, by rw [hk.block g (Array.getElem?_eq_some_iff.1 h3).1 (by omega)]; exact h3, h4⟩
theorem CellAt.kp {b : Nat} {w w' : World} {p u : Value} (h : CellAt w p u) (k : Kp b w w') (hne : ∀ a, p = .pointer (some a) → a.block ≠ b) : CellAt w' p u := by
  obtain ⟨a, rfl, hc⟩ := h
  refine ⟨a, rfl, ?_⟩
  have hlt := World.block_lt_of_cell? w a hc
  have := k.block a.block hlt (hne a rfl)
  unfold World.cell? at hc ⊢
  rw [this]; exact hc
end Go.Vg
end
section
namespace Go.Vg
open Go.RowKit
section
variable {X : Cx} {ops : Array Oper} {l : List Oper} {k : List Kt} {e : Env} {w : World} {N : Env → World → Prop} {d : Nat} {c : Option Bool} {ty : TypeId} {pos : String} {af : Array Edge} {g : Option (Nat × Bool)}
theorem Step.min2 {x y : Operand} {t1 t2 : TypeId} {q : IntKind} {a b : Int} (hg : guardE ops e ⟨some d, .call { callee := .builtin .min, args := #[x, y], argTypes := #[t1, t2] }, ty, pos, af, g⟩ = some none)
    (hx : Op1 e none x (.int q a)) (hy : Op1 e none y (.int q b)) (hn : Nat.blt d X.n = true)
    (h : N ((d, none, .int q (if b < a then b else a)) :: e) w) : Step X ops ⟨some d, .call { callee := .builtin .min, args := #[x, y], argTypes := #[t1, t2] }, ty, pos, af, g⟩ e w N :=
  Step.eff rfl (by simpa [Nat.blt_eq] using hn) hg (fun _ hh => by cases hh) (fun t' hf => run_builtin2 (hx.val hf rfl) (hy.val hf rfl) fun cs => by
    simp [builtin, Builtin.min_, Builtin.min2]) h
end
end Go.Vg
end
section
namespace Go.Vg
open Go.RowKit Go.Proofs Go.Lib

/-- an iterator over a text -/
def Its (w : World) (b : Nat) (s : List UInt8) (i : Nat) : Prop := w.heap[b]? = some (.stringIter ⟨⟨s⟩⟩ i)
section
variable {X : Cx} {ops : Array Oper} {l : List Oper} {kk : List Kt} {e : Env} {w : World} {N : Env → World → Prop} {d : Nat} {c : Option Bool} {ty : TypeId} {pos : String} {af : Array Edge} {g : Option (Nat × Bool)}

theorem Step.rangeS (T : Tb X.P) {x : Operand} {t : TypeId} {s : List UInt8} (hg : guardE ops e ⟨some d, .range t x, ty, pos, af, g⟩ = some none)
    (hx : Op1 e none x (S s)) (ht : T.ty t = some .string) (hn : Nat.blt d X.n = true)
    (h : ∀ w', Its w' w.heap.size s 0 → Ext w w' → N ((d, none, ptr w.heap.size) :: e) w') : Step X ops ⟨some d, .range t x, ty, pos, af, g⟩ e w N :=
  Step.eff (v := ptr w.heap.size) (w' := w.iter ⟨⟨s⟩⟩ 0) rfl (by simpa [Nat.blt_eq] using hn) hg (fun _ hh => by cases hh) (fun t' hf => by
    simp only [execOp, hx.val hf rfl, S, Sem.run_bind, run_range_string w t ⟨⟨s⟩⟩ (T.ok _ _ ht), Result.andThen_ok, Sem.run_pure]
    rfl) (h _ (World.iter_heap _ _ _) (Ext.alloc _ _))
theorem wr_iterAt (w : World) (b : Nat) (s : ByteArray) (i : Nat) : Wr b w (w.iterAt b s i) := ⟨rfl, rfl, rfl, iterAt_size _ _ _ _, fun _ hk => iterAt_other _ _ _ _ _ hk⟩
theorem Step.nextS {x : Operand} {s : List UInt8} {b i : Nat} (hg : guardE ops e ⟨some d, .next x true, ty, pos, af, g⟩ = some none) (hi : Its w b s i)
    (hx : Op1 e none x (ptr b)) (hlt : i < s.length) (hn : Nat.blt d X.n = true)
    (h : ∀ w', Its w' b s (i + (Utf8.decode ⟨⟨s⟩⟩ i).2) → Wr b w w' → N ((d, none, .tuple ⟨[.bool true, .int .i64 i, .int .i32 (Utf8.decode ⟨⟨s⟩⟩ i).1]⟩) :: e) w') : Step X ops ⟨some d, .next x true, ty, pos, af, g⟩ e w N :=
  Step.eff (v := .tuple ⟨[.bool true, .int .i64 i, .int .i32 (Utf8.decode ⟨⟨s⟩⟩ i).1]⟩) (w' := w.iterAt b ⟨⟨s⟩⟩ (i + (Utf8.decode ⟨⟨s⟩⟩ i).2)) rfl (by simpa [Nat.blt_eq] using hn) hg (fun _ hh => by cases hh) (fun t' hf => by
    simp only [execOp, hx.val hf rfl, ptr, Sem.run_bind, run_next_any_at w b ⟨⟨s⟩⟩ i ty hi hlt, Result.andThen_ok, Sem.run_pure]) (h _ (iterAt_heap _ _ _ _ _ hi) (wr_iterAt _ _ _ _))
theorem Step.nextE {x : Operand} {s : List UInt8} {b i : Nat} (hg : guardE ops e ⟨some d, .next x true, ty, pos, af, g⟩ = some none) (hi : Its w b s i)
    (hx : Op1 e none x (ptr b)) (hlt : ¬ i < s.length) (hn : Nat.blt d X.n = true)
    (h : N ((d, none, .tuple ⟨[.bool false]⟩) :: e) w) : Step X ops ⟨some d, .next x true, ty, pos, af, g⟩ e w N :=
  Step.eff (v := .tuple ⟨[.bool false]⟩) (w' := w) rfl (by simpa [Nat.blt_eq] using hn) hg (fun _ hh => by cases hh) (fun t' hf => by
    simp only [execOp, hx.val hf rfl, ptr, Sem.run_bind, run_next_end_at w b ⟨⟨s⟩⟩ i ty hi hlt, Result.andThen_ok, Sem.run_pure]) h
theorem decode_asc (s : List UInt8) (i : Nat) (h : i < s.length) (ha : (s.getD i 0).toNat < 128) : Utf8.decode ⟨⟨s⟩⟩ i = ((s.getD i 0).toNat, 1) := by
  have e : ((ByteArray.mk ⟨s⟩)[i]'h) = s.getD i 0 := by
    rw [List.getD_eq_getElem?_getD, List.getElem?_eq_getElem h]
    rfl
  rw [decode_ascii _ _ h (by rw [e]; exact ha), e]
/-- a character's bytes -/
def encL (n : Int) : List UInt8 := (Utf8.encode n).data.toList
theorem encL_high (n : Int) (hv : Utf8.valid n = true) (h : 128 ≤ n) : 2 ≤ (encL n).length ∧ (encL n).length ≤ 4 ∧ 128 ≤ ((encL n).getD ((encL n).length - 1) 0).toNat := by
  obtain ⟨h1, h2, h3⟩ := encode_facts n hv h
  have h4 : (Utf8.encode n).size - 1 < (Utf8.encode n).size := by omega
  refine ⟨h1, h2, ?_⟩
  have h5 := h3 h4
  have h6 : (encL n).length - 1 < (encL n).length := h4
  rw [List.getD_eq_getElem?_getD, List.getElem?_eq_getElem h6]
  exact h5
theorem Step.runeS (T : Tb X.P) {x : Operand} {src dst : TypeId} {q : IntKind} {n : Int} {sd : TypeDesc} (hg : guardE ops e ⟨some d, .convert src dst x, ty, pos, af, g⟩ = some c) (hx : Op1 e c x (.int q n)) (hs : T.ty src = some sd) (ht : T.ty dst = some .string)
    (hn : Nat.blt d X.n = true) (h : N ((d, c, S (encL n)) :: e) w) : Step X ops ⟨some d, .convert src dst x, ty, pos, af, g⟩ e w N :=
  Step.quiet rfl (by simpa [Nat.blt_eq] using hn) hg (fun _ hh => by cases hh) (fun t hf hc => by
    have := run_convert_int_string (P := X.P) w src dst q n (by simp [T.ok _ _ hs]) (T.ok _ _ ht)
    simp only [execOp, hx.val hf hc, Sem.run_bind, this, Result.andThen_ok, Sem.run_pure]
    rfl) h
theorem sRs (T : Tb X.P) {x : Operand} {src dst : TypeId} {q : IntKind} {n : Int} {sd : TypeDesc} (h : GL X ops l kk ((d, c, S (encL n)) :: e) w) (hg : guardE ops e ⟨some d, .convert src dst x, ty, pos, af, g⟩ = some c := by exact rfl)
    (hx : Op1 e c x (.int q n) := by exact Op1.of rfl (fun _ => rfl)) (hs : T.ty src = some sd := by exact rfl) (ht : T.ty dst = some .string := by exact rfl) (hn : Nat.blt d X.n = true := by exact rfl) :
    GL X ops (⟨some d, .convert src dst x, ty, pos, af, g⟩ :: l) kk e w := GL.cons (Step.runeS T hg hx hs ht hn h)
theorem Step.max2 {x y : Operand} {t1 t2 : TypeId} {q : IntKind} {a b : Int} (hg : guardE ops e ⟨some d, .call { callee := .builtin .max, args := #[x, y], argTypes := #[t1, t2] }, ty, pos, af, g⟩ = some none)
    (hx : Op1 e none x (.int q a)) (hy : Op1 e none y (.int q b)) (hn : Nat.blt d X.n = true)
    (h : N ((d, none, .int q (if a < b then b else a)) :: e) w) : Step X ops ⟨some d, .call { callee := .builtin .max, args := #[x, y], argTypes := #[t1, t2] }, ty, pos, af, g⟩ e w N :=
  Step.eff rfl (by simpa [Nat.blt_eq] using hn) hg (fun _ hh => by cases hh) (fun t' hf => run_builtin2 (hx.val hf rfl) (hy.val hf rfl) fun cs => by
    simp [builtin, Builtin.max_, Builtin.max2]) h
theorem sRg (T : Tb X.P) {x : Operand} {t : TypeId} {s : List UInt8}
    (h : ∀ w', Its w' w.heap.size s 0 → Ext w w' → GL X ops l kk ((d, none, ptr w.heap.size) :: e) w') (hg : guardE ops e ⟨some d, .range t x, ty, pos, af, g⟩ = some none := by exact rfl)
    (hx : Op1 e none x (S s) := by exact Op1.of rfl (fun _ => rfl)) (ht : T.ty t = some .string := by exact rfl) (hn : Nat.blt d X.n = true := by exact rfl) :
    GL X ops (⟨some d, .range t x, ty, pos, af, g⟩ :: l) kk e w := GL.cons (Step.rangeS T hg hx ht hn h)
theorem sNx {x : Operand} {s : List UInt8} {b i : Nat} (hi : Its w b s i) (hlt : i < s.length)
    (h : ∀ w', Its w' b s (i + (Utf8.decode ⟨⟨s⟩⟩ i).2) → Wr b w w' → GL X ops l kk ((d, none, .tuple ⟨[.bool true, .int .i64 i, .int .i32 (Utf8.decode ⟨⟨s⟩⟩ i).1]⟩) :: e) w')
    (hg : guardE ops e ⟨some d, .next x true, ty, pos, af, g⟩ = some none := by exact rfl) (hx : Op1 e none x (ptr b) := by exact Op1.of rfl (fun _ => rfl)) (hn : Nat.blt d X.n = true := by exact rfl) :
    GL X ops (⟨some d, .next x true, ty, pos, af, g⟩ :: l) kk e w := GL.cons (Step.nextS hg hi hx hlt hn h)
theorem sNe {x : Operand} {s : List UInt8} {b i : Nat} (hi : Its w b s i) (hlt : ¬ i < s.length)
    (h : GL X ops l kk ((d, none, .tuple ⟨[.bool false]⟩) :: e) w)
    (hg : guardE ops e ⟨some d, .next x true, ty, pos, af, g⟩ = some none := by exact rfl) (hx : Op1 e none x (ptr b) := by exact Op1.of rfl (fun _ => rfl)) (hn : Nat.blt d X.n = true := by exact rfl) :
    GL X ops (⟨some d, .next x true, ty, pos, af, g⟩ :: l) kk e w := GL.cons (Step.nextE hg hi hx hlt hn h)
end
end Go.Vg
end
