/- Part of the proof of a statement about the given program. -/
import Derived.Test.YtmkckngecjpklaaDoorP01
import Derived.Test.YtmkckngecjpklaaDoorProg
import Derived.KernelRfl
import Derived.Shelf.Strings.Builder1
import Derived.Shelf.Strings.Builder2
import Derived.Shelf.Strings.OnBuilder
import Derived.Shelf.Small.Utf8
import Derived.Shelf.Small.Strs
import Derived.Shelf.Strings.BuilderF
import Derived.Shelf.Strings.Search1
import Derived.Shelf.Strings.Prefix
import Derived.Shelf.Unicode.Decode
import Derived.Shelf.Strings.Runes
import Derived.Shelf.Unicode.DecodeSlow
import Derived.Shelf.Unicode.DecodeAny
import Derived.Shelf.Unicode.ValidAny
import Derived.Lib.AppendStr
import Derived.Laws.BytesArg
import Derived.Laws.IdiomStrings
import Derived.Lib.Overlaps
import Derived.Lib.AppendZerosOnto
import Derived.Lib.SlBytesConst
import Derived.MapKept
import Derived.Scope
import Derived.OwnWalk
import Derived.Lib.SmallJoins
import Derived.WalkLawsBesides
import Derived.Recover
import Derived.Lib.OthersKept
import Derived.Laws.RangeString
import Derived.Laws.Runes
section
namespace Go.Proofs.YtmkckngecjpklaaDoor
open Go Go.Vg
def tyL : List (Nat × TypeDesc) := [(0, (TypeDesc.tuple #[])),
  (1, (TypeDesc.func #[] #[] false)),
  (2, (TypeDesc.int IntKind.i64)),
  (3, (TypeDesc.int IntKind.i64)),
  (4, TypeDesc.bool),
  (5, (TypeDesc.int IntKind.u8)),
  (6, (TypeDesc.int IntKind.u8)),
  (7, (TypeDesc.struct #[{ name := "x", type := 2, offset := 0, embedded := false, tag := "", pkgPath := "runtime", byteOffset := 0 }, { name := "y", type := 3, offset := 1, embedded := false, tag := "", pkgPath := "runtime", byteOffset := 8 }, { name := "signed", type := 4, offset := 2, embedded := false, tag := "", pkgPath := "runtime", byteOffset := 16 }, { name := "code", type := 6, offset := 3, embedded := false, tag := "", pkgPath := "runtime", byteOffset := 17 }])),
  (8, (TypeDesc.struct #[{ name := "x", type := 2, offset := 0, embedded := false, tag := "", pkgPath := "runtime", byteOffset := 0 }, { name := "y", type := 3, offset := 1, embedded := false, tag := "", pkgPath := "runtime", byteOffset := 8 }, { name := "signed", type := 4, offset := 2, embedded := false, tag := "", pkgPath := "runtime", byteOffset := 16 }, { name := "code", type := 6, offset := 3, embedded := false, tag := "", pkgPath := "runtime", byteOffset := 17 }])),
  (9, TypeDesc.string),
  (10, TypeDesc.string),
  (11, TypeDesc.string),
  (12, (TypeDesc.int IntKind.u64)),
  (13, (TypeDesc.struct #[{ name := "msg", type := 9, offset := 0, embedded := false, tag := "", pkgPath := "runtime", byteOffset := 0 }, { name := "addr", type := 12, offset := 1, embedded := false, tag := "", pkgPath := "runtime", byteOffset := 16 }])),
  (14, (TypeDesc.struct #[{ name := "msg", type := 9, offset := 0, embedded := false, tag := "", pkgPath := "runtime", byteOffset := 0 }, { name := "addr", type := 12, offset := 1, embedded := false, tag := "", pkgPath := "runtime", byteOffset := 16 }])),
  (15, (TypeDesc.pointer 168)),
  (16, (TypeDesc.pointer 171)),
  (17, (TypeDesc.pointer 179)),
  (18, (TypeDesc.struct #[{ name := "typ", type := 17, offset := 0, embedded := false, tag := "", pkgPath := "internal/runtime/maps", byteOffset := 0 }])),
  (19, (TypeDesc.struct #[{ name := "typ", type := 17, offset := 0, embedded := false, tag := "", pkgPath := "internal/runtime/maps", byteOffset := 0 }])),
  (20, (TypeDesc.interface #[])),
  (21, (TypeDesc.int IntKind.i32)),
  (22, (TypeDesc.struct #[{ name := "Offset", type := 3, offset := 0, embedded := false, tag := "", pkgPath := "", byteOffset := 0 }, { name := "Interval", type := 3, offset := 1, embedded := false, tag := "", pkgPath := "", byteOffset := 8 }, { name := "From", type := 3, offset := 2, embedded := false, tag := "", pkgPath := "", byteOffset := 16 }, { name := "To", type := 3, offset := 3, embedded := false, tag := "", pkgPath := "", byteOffset := 24 }])),
  (23, (TypeDesc.struct #[{ name := "Offset", type := 3, offset := 0, embedded := false, tag := "", pkgPath := "", byteOffset := 0 }, { name := "Interval", type := 3, offset := 1, embedded := false, tag := "", pkgPath := "", byteOffset := 8 }, { name := "From", type := 3, offset := 2, embedded := false, tag := "", pkgPath := "", byteOffset := 16 }, { name := "To", type := 3, offset := 3, embedded := false, tag := "", pkgPath := "", byteOffset := 24 }])),
  (24, (TypeDesc.slice 42)),
  (25, (TypeDesc.struct #[{ name := "Job", type := 9, offset := 0, embedded := false, tag := "", pkgPath := "", byteOffset := 0 }, { name := "Labels", type := 24, offset := 1, embedded := false, tag := "", pkgPath := "", byteOffset := 16 }, { name := "URL", type := 9, offset := 2, embedded := false, tag := "", pkgPath := "", byteOffset := 40 }, { name := "Offset", type := 3, offset := 3, embedded := false, tag := "", pkgPath := "", byteOffset := 56 }])),
  (26, (TypeDesc.struct #[{ name := "Job", type := 9, offset := 0, embedded := false, tag := "", pkgPath := "", byteOffset := 0 }, { name := "Labels", type := 24, offset := 1, embedded := false, tag := "", pkgPath := "", byteOffset := 16 }, { name := "URL", type := 9, offset := 2, embedded := false, tag := "", pkgPath := "", byteOffset := 40 }, { name := "Offset", type := 3, offset := 3, embedded := false, tag := "", pkgPath := "", byteOffset := 56 }])),
  (27, (TypeDesc.tuple #[3, 4])),
  (28, (TypeDesc.func #[26, 3, 3, 3] #[3, 4] false)),
  (29, (TypeDesc.func #[] #[4] false)),
  (30, (TypeDesc.func #[23] #[4] false)),
  (31, (TypeDesc.slice 9)),
  (32, (TypeDesc.struct #[{ name := "Action", type := 3, offset := 0, embedded := false, tag := "", pkgPath := "", byteOffset := 0 }, { name := "Sources", type := 31, offset := 1, embedded := false, tag := "", pkgPath := "", byteOffset := 8 }, { name := "Separator", type := 9, offset := 2, embedded := false, tag := "", pkgPath := "", byteOffset := 32 }, { name := "Regex", type := 9, offset := 3, embedded := false, tag := "", pkgPath := "", byteOffset := 48 }, { name := "Modulus", type := 3, offset := 4, embedded := false, tag := "", pkgPath := "", byteOffset := 64 }, { name := "Target", type := 9, offset := 5, embedded := false, tag := "", pkgPath := "", byteOffset := 72 }, { name := "Replacement", type := 9, offset := 6, embedded := false, tag := "", pkgPath := "", byteOffset := 88 }])),
  (33, (TypeDesc.struct #[{ name := "Action", type := 3, offset := 0, embedded := false, tag := "", pkgPath := "", byteOffset := 0 }, { name := "Sources", type := 31, offset := 1, embedded := false, tag := "", pkgPath := "", byteOffset := 8 }, { name := "Separator", type := 9, offset := 2, embedded := false, tag := "", pkgPath := "", byteOffset := 32 }, { name := "Regex", type := 9, offset := 3, embedded := false, tag := "", pkgPath := "", byteOffset := 48 }, { name := "Modulus", type := 3, offset := 4, embedded := false, tag := "", pkgPath := "", byteOffset := 64 }, { name := "Target", type := 9, offset := 5, embedded := false, tag := "", pkgPath := "", byteOffset := 72 }, { name := "Replacement", type := 9, offset := 6, embedded := false, tag := "", pkgPath := "", byteOffset := 88 }])),
  (34, (TypeDesc.func #[24] #[24] false)),
  (35, (TypeDesc.func #[33] #[33] false)),
  (36, (TypeDesc.func #[33] #[4] false)),
  (37, (TypeDesc.tuple #[24, 4])),
  (38, (TypeDesc.func #[24, 39] #[24, 4] false)),
  (39, (TypeDesc.slice 33)),
  (40, (TypeDesc.func #[24, 24] #[4] false)),
  (41, (TypeDesc.struct #[{ name := "Name", type := 9, offset := 0, embedded := false, tag := "", pkgPath := "", byteOffset := 0 }, { name := "Value", type := 9, offset := 1, embedded := false, tag := "", pkgPath := "", byteOffset := 16 }])),
  (42, (TypeDesc.struct #[{ name := "Name", type := 9, offset := 0, embedded := false, tag := "", pkgPath := "", byteOffset := 0 }, { name := "Value", type := 9, offset := 1, embedded := false, tag := "", pkgPath := "", byteOffset := 16 }])),
  (43, (TypeDesc.func #[24, 33] #[4] false)),
  (44, (TypeDesc.slice 48)),
  (45, (TypeDesc.func #[46] #[4] false)),
  (46, (TypeDesc.float FloatKind.f64)),
  (47, (TypeDesc.func #[48] #[46] false)),
  (48, (TypeDesc.int IntKind.u64)),
  (49, (TypeDesc.func #[] #[46] false)),
  (50, (TypeDesc.func #[46] #[48] false)),
  (51, (TypeDesc.func #[44] #[4] false)),
  (52, (TypeDesc.struct #[{ name := "Offset", type := 3, offset := 0, embedded := false, tag := "", pkgPath := "", byteOffset := 0 }, { name := "Interval", type := 3, offset := 1, embedded := false, tag := "", pkgPath := "", byteOffset := 8 }, { name := "From", type := 3, offset := 2, embedded := false, tag := "", pkgPath := "", byteOffset := 16 }, { name := "Many", type := 3, offset := 3, embedded := false, tag := "", pkgPath := "", byteOffset := 24 }, { name := "Stop", type := 3, offset := 4, embedded := false, tag := "", pkgPath := "", byteOffset := 32 }])),
  (53, (TypeDesc.struct #[{ name := "Offset", type := 3, offset := 0, embedded := false, tag := "", pkgPath := "", byteOffset := 0 }, { name := "Interval", type := 3, offset := 1, embedded := false, tag := "", pkgPath := "", byteOffset := 8 }, { name := "From", type := 3, offset := 2, embedded := false, tag := "", pkgPath := "", byteOffset := 16 }, { name := "Many", type := 3, offset := 3, embedded := false, tag := "", pkgPath := "", byteOffset := 24 }, { name := "Stop", type := 3, offset := 4, embedded := false, tag := "", pkgPath := "", byteOffset := 32 }])),
  (54, (TypeDesc.func #[69] #[] false)),
  (55, (TypeDesc.func #[69] #[] false)),
  (56, (TypeDesc.func #[26, 3, 3, 3] #[55] false)),
  (57, (TypeDesc.func #[3, 3] #[3] false)),
  (58, (TypeDesc.func #[53] #[4] false)),
  (59, (TypeDesc.func #[3, 3, 3] #[3] false)),
  (60, (TypeDesc.func #[3, 3, 3, 3] #[3, 4] false)),
  (61, (TypeDesc.int IntKind.i64)),
  (62, (TypeDesc.tuple #[24, 61])),
  (63, (TypeDesc.func #[24] #[24, 61] false)),
  (64, (TypeDesc.pointer 85)),
  (65, (TypeDesc.tuple #[64, 3, 61])),
  (66, (TypeDesc.func #[9] #[64, 3, 61] false)),
  (67, (TypeDesc.func #[9] #[4] false)),
  (68, (TypeDesc.func #[24, 33] #[24, 4] false)),
  (69, (TypeDesc.func #[3] #[4] false)),
  (70, (TypeDesc.func #[42] #[4] false)),
  (71, (TypeDesc.func #[24, 9] #[4] false)),
  (72, (TypeDesc.func #[24, 42] #[24] false)),
  (73, (TypeDesc.pointer 110)),
  (74, (TypeDesc.tuple #[73, 3, 3, 4])),
  (75, (TypeDesc.func #[9] #[73, 3, 3, 4] false)),
  (76, (TypeDesc.pointer 79)),
  (77, (TypeDesc.slice 83)),
  (78, (TypeDesc.struct #[{ name := "steps", type := 77, offset := 0, embedded := false, tag := "", pkgPath := "vigil/regex", byteOffset := 0 }, { name := "full", type := 4, offset := 1, embedded := false, tag := "", pkgPath := "vigil/regex", byteOffset := 24 }])),
  (79, (TypeDesc.struct #[{ name := "steps", type := 77, offset := 0, embedded := false, tag := "", pkgPath := "vigil/regex", byteOffset := 0 }, { name := "full", type := 4, offset := 1, embedded := false, tag := "", pkgPath := "vigil/regex", byteOffset := 24 }])),
  (80, (TypeDesc.func #[73] #[] false)),
  (81, (TypeDesc.func #[83] #[3] false)),
  (82, (TypeDesc.struct #[{ name := "kind", type := 3, offset := 0, embedded := false, tag := "", pkgPath := "vigil/regex", byteOffset := 0 }, { name := "set", type := 73, offset := 1, embedded := false, tag := "", pkgPath := "vigil/regex", byteOffset := 8 }, { name := "slot", type := 3, offset := 2, embedded := false, tag := "", pkgPath := "vigil/regex", byteOffset := 16 }, { name := "a", type := 3, offset := 3, embedded := false, tag := "", pkgPath := "vigil/regex", byteOffset := 24 }, { name := "b", type := 3, offset := 4, embedded := false, tag := "", pkgPath := "vigil/regex", byteOffset := 32 }])),
  (83, (TypeDesc.struct #[{ name := "kind", type := 3, offset := 0, embedded := false, tag := "", pkgPath := "vigil/regex", byteOffset := 0 }, { name := "set", type := 73, offset := 1, embedded := false, tag := "", pkgPath := "vigil/regex", byteOffset := 8 }, { name := "slot", type := 3, offset := 2, embedded := false, tag := "", pkgPath := "vigil/regex", byteOffset := 16 }, { name := "a", type := 3, offset := 3, embedded := false, tag := "", pkgPath := "vigil/regex", byteOffset := 24 }, { name := "b", type := 3, offset := 4, embedded := false, tag := "", pkgPath := "vigil/regex", byteOffset := 32 }])),
  (84, (TypeDesc.struct #[{ name := "steps", type := 77, offset := 0, embedded := false, tag := "", pkgPath := "vigil/regex", byteOffset := 0 }, { name := "groups", type := 3, offset := 1, embedded := false, tag := "", pkgPath := "vigil/regex", byteOffset := 24 }])),
  (85, (TypeDesc.struct #[{ name := "steps", type := 77, offset := 0, embedded := false, tag := "", pkgPath := "vigil/regex", byteOffset := 0 }, { name := "groups", type := 3, offset := 1, embedded := false, tag := "", pkgPath := "vigil/regex", byteOffset := 24 }])),
  (86, (TypeDesc.func #[9, 4] #[4] false)),
  (87, (TypeDesc.func #[24, 33] #[9] false)),
  (88, (TypeDesc.slice 3)),
  (89, (TypeDesc.tuple #[88, 4])),
  (90, (TypeDesc.func #[9] #[88, 4] false)),
  (91, (TypeDesc.func #[24, 9, 9] #[24] false)),
  (92, (TypeDesc.func #[9, 9, 88] #[9] false)),
  (93, (TypeDesc.func #[3] #[9] false)),
  (94, (TypeDesc.func #[95] #[48] false)),
  (95, (TypeDesc.slice 5)),
  (96, (TypeDesc.func #[120] #[] false)),
  (97, (TypeDesc.func #[120] #[] false)),
  (98, (TypeDesc.func #[24] #[97] false)),
  (99, (TypeDesc.func #[9, 5, 3] #[9] false)),
  (100, (TypeDesc.pointer 102)),
  (101, (TypeDesc.struct #[{ name := "s", type := 9, offset := 0, embedded := false, tag := "", pkgPath := "vigil/regex", byteOffset := 0 }, { name := "at", type := 3, offset := 1, embedded := false, tag := "", pkgPath := "vigil/regex", byteOffset := 16 }, { name := "groups", type := 3, offset := 2, embedded := false, tag := "", pkgPath := "vigil/regex", byteOffset := 24 }])),
  (102, (TypeDesc.struct #[{ name := "s", type := 9, offset := 0, embedded := false, tag := "", pkgPath := "vigil/regex", byteOffset := 0 }, { name := "at", type := 3, offset := 1, embedded := false, tag := "", pkgPath := "vigil/regex", byteOffset := 16 }, { name := "groups", type := 3, offset := 2, embedded := false, tag := "", pkgPath := "vigil/regex", byteOffset := 24 }])),
  (103, (TypeDesc.struct #[{ name := "at", type := 3, offset := 0, embedded := false, tag := "", pkgPath := "vigil/regex", byteOffset := 0 }])),
  (104, (TypeDesc.struct #[{ name := "at", type := 3, offset := 0, embedded := false, tag := "", pkgPath := "vigil/regex", byteOffset := 0 }])),
  (105, (TypeDesc.func #[] #[73] false)),
  (106, (TypeDesc.func #[3] #[] false)),
  (107, (TypeDesc.slice 150)),
  (108, (TypeDesc.slice 73)),
  (109, (TypeDesc.struct #[{ name := "kind", type := 3, offset := 0, embedded := false, tag := "", pkgPath := "vigil/regex", byteOffset := 0 }, { name := "spans", type := 107, offset := 1, embedded := false, tag := "", pkgPath := "vigil/regex", byteOffset := 8 }, { name := "not", type := 4, offset := 2, embedded := false, tag := "", pkgPath := "vigil/regex", byteOffset := 32 }, { name := "number", type := 3, offset := 3, embedded := false, tag := "", pkgPath := "vigil/regex", byteOffset := 40 }, { name := "min", type := 3, offset := 4, embedded := false, tag := "", pkgPath := "vigil/regex", byteOffset := 48 }, { name := "max", type := 3, offset := 5, embedded := false, tag := "", pkgPath := "vigil/regex", byteOffset := 56 }, { name := "few", type := 4, offset := 6, embedded := false, tag := "", pkgPath := "vigil/regex", byteOffset := 64 }, { name := "plus", type := 4, offset := 7, embedded := false, tag := "", pkgPath := "vigil/regex", byteOffset := 65 }, { name := "kids", type := 108, offset := 8, embedded := false, tag := "", pkgPath := "vigil/regex", byteOffset := 72 }])),
  (110, (TypeDesc.struct #[{ name := "kind", type := 3, offset := 0, embedded := false, tag := "", pkgPath := "vigil/regex", byteOffset := 0 }, { name := "spans", type := 107, offset := 1, embedded := false, tag := "", pkgPath := "vigil/regex", byteOffset := 8 }, { name := "not", type := 4, offset := 2, embedded := false, tag := "", pkgPath := "vigil/regex", byteOffset := 32 }, { name := "number", type := 3, offset := 3, embedded := false, tag := "", pkgPath := "vigil/regex", byteOffset := 40 }, { name := "min", type := 3, offset := 4, embedded := false, tag := "", pkgPath := "vigil/regex", byteOffset := 48 }, { name := "max", type := 3, offset := 5, embedded := false, tag := "", pkgPath := "vigil/regex", byteOffset := 56 }, { name := "few", type := 4, offset := 6, embedded := false, tag := "", pkgPath := "vigil/regex", byteOffset := 64 }, { name := "plus", type := 4, offset := 7, embedded := false, tag := "", pkgPath := "vigil/regex", byteOffset := 65 }, { name := "kids", type := 108, offset := 8, embedded := false, tag := "", pkgPath := "vigil/regex", byteOffset := 72 }])),
  (111, (TypeDesc.func #[3, 3, 3, 4] #[] false)),
  (112, (TypeDesc.func #[24, 9] #[9] false)),
  (113, (TypeDesc.func #[31, 9] #[9] false)),
  (114, (TypeDesc.pointer 116)),
  (115, (TypeDesc.struct #[{ name := "addr", type := 114, offset := 0, embedded := false, tag := "", pkgPath := "strings", byteOffset := 0 }, { name := "buf", type := 95, offset := 1, embedded := false, tag := "", pkgPath := "strings", byteOffset := 8 }])),
  (116, (TypeDesc.struct #[{ name := "addr", type := 114, offset := 0, embedded := false, tag := "", pkgPath := "strings", byteOffset := 0 }, { name := "buf", type := 95, offset := 1, embedded := false, tag := "", pkgPath := "strings", byteOffset := 8 }])),
  (117, (TypeDesc.interface #[("Error", 125)])),
  (118, (TypeDesc.interface #[("Error", 125)])),
  (119, (TypeDesc.func #[5] #[118] false)),
  (120, (TypeDesc.func #[9, 9] #[4] false)),
  (121, (TypeDesc.tuple #[3, 3])),
  (122, (TypeDesc.func #[9] #[3, 3] false)),
  (123, (TypeDesc.tuple #[3, 118])),
  (124, (TypeDesc.func #[9] #[3, 118] false)),
  (125, (TypeDesc.func #[] #[9] false)),
  (126, (TypeDesc.array 20 5)),
  (127, (TypeDesc.func #[5] #[4] false)),
  (128, (TypeDesc.slice 4)),
  (129, (TypeDesc.struct #[{ name := "fork", type := 4, offset := 0, embedded := false, tag := "", pkgPath := "vigil/regex", byteOffset := 0 }, { name := "step", type := 3, offset := 1, embedded := false, tag := "", pkgPath := "vigil/regex", byteOffset := 8 }, { name := "at", type := 3, offset := 2, embedded := false, tag := "", pkgPath := "vigil/regex", byteOffset := 16 }, { name := "slot", type := 3, offset := 3, embedded := false, tag := "", pkgPath := "vigil/regex", byteOffset := 24 }, { name := "was", type := 3, offset := 4, embedded := false, tag := "", pkgPath := "vigil/regex", byteOffset := 32 }, { name := "seq", type := 3, offset := 5, embedded := false, tag := "", pkgPath := "vigil/regex", byteOffset := 40 }])),
  (130, (TypeDesc.struct #[{ name := "fork", type := 4, offset := 0, embedded := false, tag := "", pkgPath := "vigil/regex", byteOffset := 0 }, { name := "step", type := 3, offset := 1, embedded := false, tag := "", pkgPath := "vigil/regex", byteOffset := 8 }, { name := "at", type := 3, offset := 2, embedded := false, tag := "", pkgPath := "vigil/regex", byteOffset := 16 }, { name := "slot", type := 3, offset := 3, embedded := false, tag := "", pkgPath := "vigil/regex", byteOffset := 24 }, { name := "was", type := 3, offset := 4, embedded := false, tag := "", pkgPath := "vigil/regex", byteOffset := 32 }, { name := "seq", type := 3, offset := 5, embedded := false, tag := "", pkgPath := "vigil/regex", byteOffset := 40 }])),
  (131, (TypeDesc.slice 130)),
  (132, (TypeDesc.pointer 83)),
  (133, (TypeDesc.tuple #[21, 3])),
  (134, (TypeDesc.func #[9] #[21, 3] false)),
  (135, (TypeDesc.func #[21] #[4] false)),
  (136, (TypeDesc.func #[9] #[12] false)),
  (137, (TypeDesc.array 256 5)),
  (138, (TypeDesc.struct #[{ name := "lo", type := 5, offset := 0, embedded := false, tag := "", pkgPath := "unicode/utf8", byteOffset := 0 }, { name := "hi", type := 5, offset := 1, embedded := false, tag := "", pkgPath := "unicode/utf8", byteOffset := 1 }])),
  (139, (TypeDesc.struct #[{ name := "lo", type := 5, offset := 0, embedded := false, tag := "", pkgPath := "unicode/utf8", byteOffset := 0 }, { name := "hi", type := 5, offset := 1, embedded := false, tag := "", pkgPath := "unicode/utf8", byteOffset := 1 }])),
  (140, (TypeDesc.array 16 139)),
  (141, (TypeDesc.int IntKind.u64)),
  (142, (TypeDesc.func #[24, 9, 144] #[3, 4] false)),
  (143, (TypeDesc.func #[9, 9] #[3] false)),
  (144, (TypeDesc.func #[42, 9] #[3] false)),
  (145, (TypeDesc.func #[24, 3, 24] #[24] true)),
  (146, (TypeDesc.func #[9] #[3] false)),
  (147, (TypeDesc.pointer 5)),
  (148, (TypeDesc.func #[9, 3] #[3] false)),
  (149, (TypeDesc.struct #[{ name := "from", type := 21, offset := 0, embedded := false, tag := "", pkgPath := "vigil/regex", byteOffset := 0 }, { name := "to", type := 21, offset := 1, embedded := false, tag := "", pkgPath := "vigil/regex", byteOffset := 4 }])),
  (150, (TypeDesc.struct #[{ name := "from", type := 21, offset := 0, embedded := false, tag := "", pkgPath := "vigil/regex", byteOffset := 0 }, { name := "to", type := 21, offset := 1, embedded := false, tag := "", pkgPath := "vigil/regex", byteOffset := 4 }])),
  (151, (TypeDesc.func #[24, 3] #[] false)),
  (152, TypeDesc.unsafePointer),
  (153, (TypeDesc.func #[152] #[152] false)),
  (154, (TypeDesc.func #[] #[3, 3] false)),
  (155, (TypeDesc.func #[3] #[95] false)),
  (156, (TypeDesc.func #[] #[21] false)),
  (157, (TypeDesc.tuple #[107, 4])),
  (158, (TypeDesc.func #[] #[107, 4] false)),
  (159, (TypeDesc.func #[9, 21] #[4] false)),
  (160, (TypeDesc.func #[] #[3] false)),
  (161, (TypeDesc.func #[24] #[] false)),
  (162, (TypeDesc.func #[21] #[21] false)),
  (163, (TypeDesc.func #[9, 21] #[3] false)),
  (164, (TypeDesc.func #[107] #[107] false)),
  (165, (TypeDesc.func #[9, 5] #[3] false)),
  (166, (TypeDesc.func #[3] #[3] false)),
  (167, (TypeDesc.struct #[{ name := "_interface", type := 17, offset := 0, embedded := false, tag := "", pkgPath := "runtime", byteOffset := 0 }, { name := "concrete", type := 17, offset := 1, embedded := false, tag := "", pkgPath := "runtime", byteOffset := 8 }, { name := "asserted", type := 17, offset := 2, embedded := false, tag := "", pkgPath := "runtime", byteOffset := 16 }, { name := "missingMethod", type := 9, offset := 3, embedded := false, tag := "", pkgPath := "runtime", byteOffset := 24 }])),
  (168, (TypeDesc.struct #[{ name := "_interface", type := 17, offset := 0, embedded := false, tag := "", pkgPath := "runtime", byteOffset := 0 }, { name := "concrete", type := 17, offset := 1, embedded := false, tag := "", pkgPath := "runtime", byteOffset := 8 }, { name := "asserted", type := 17, offset := 2, embedded := false, tag := "", pkgPath := "runtime", byteOffset := 16 }, { name := "missingMethod", type := 9, offset := 3, embedded := false, tag := "", pkgPath := "runtime", byteOffset := 24 }])),
  (169, (TypeDesc.array 0 16)),
  (170, (TypeDesc.struct #[{ name := "_", type := 169, offset := 0, embedded := false, tag := "", pkgPath := "runtime", byteOffset := 0 }])),
  (171, (TypeDesc.struct #[{ name := "_", type := 169, offset := 0, embedded := false, tag := "", pkgPath := "runtime", byteOffset := 0 }])),
  (172, (TypeDesc.int IntKind.u32)),
  (173, (TypeDesc.int IntKind.u8)),
  (174, (TypeDesc.int IntKind.u8)),
  (175, (TypeDesc.func #[152, 152] #[4] false)),
  (176, (TypeDesc.int IntKind.i32)),
  (177, (TypeDesc.int IntKind.i32)),
  (178, (TypeDesc.struct #[{ name := "Size_", type := 12, offset := 0, embedded := false, tag := "", pkgPath := "", byteOffset := 0 }, { name := "PtrBytes", type := 12, offset := 1, embedded := false, tag := "", pkgPath := "", byteOffset := 8 }, { name := "Hash", type := 172, offset := 2, embedded := false, tag := "", pkgPath := "", byteOffset := 16 }, { name := "TFlag", type := 173, offset := 3, embedded := false, tag := "", pkgPath := "", byteOffset := 20 }, { name := "Align_", type := 5, offset := 4, embedded := false, tag := "", pkgPath := "", byteOffset := 21 }, { name := "FieldAlign_", type := 5, offset := 5, embedded := false, tag := "", pkgPath := "", byteOffset := 22 }, { name := "Kind_", type := 174, offset := 6, embedded := false, tag := "", pkgPath := "", byteOffset := 23 }, { name := "Equal", type := 175, offset := 7, embedded := false, tag := "", pkgPath := "", byteOffset := 24 }, { name := "GCData", type := 147, offset := 8, embedded := false, tag := "", pkgPath := "", byteOffset := 32 }, { name := "Str", type := 176, offset := 9, embedded := false, tag := "", pkgPath := "", byteOffset := 40 }, { name := "PtrToThis", type := 177, offset := 10, embedded := false, tag := "", pkgPath := "", byteOffset := 44 }])),
  (179, (TypeDesc.struct #[{ name := "Size_", type := 12, offset := 0, embedded := false, tag := "", pkgPath := "", byteOffset := 0 }, { name := "PtrBytes", type := 12, offset := 1, embedded := false, tag := "", pkgPath := "", byteOffset := 8 }, { name := "Hash", type := 172, offset := 2, embedded := false, tag := "", pkgPath := "", byteOffset := 16 }, { name := "TFlag", type := 173, offset := 3, embedded := false, tag := "", pkgPath := "", byteOffset := 20 }, { name := "Align_", type := 5, offset := 4, embedded := false, tag := "", pkgPath := "", byteOffset := 21 }, { name := "FieldAlign_", type := 5, offset := 5, embedded := false, tag := "", pkgPath := "", byteOffset := 22 }, { name := "Kind_", type := 174, offset := 6, embedded := false, tag := "", pkgPath := "", byteOffset := 23 }, { name := "Equal", type := 175, offset := 7, embedded := false, tag := "", pkgPath := "", byteOffset := 24 }, { name := "GCData", type := 147, offset := 8, embedded := false, tag := "", pkgPath := "", byteOffset := 32 }, { name := "Str", type := 176, offset := 9, embedded := false, tag := "", pkgPath := "", byteOffset := 40 }, { name := "PtrToThis", type := 177, offset := 10, embedded := false, tag := "", pkgPath := "", byteOffset := 44 }]))]
theorem tyL_ok : AllT Tryd.prog tyL := ⟨Tryd.underlying0, Tryd.underlying1, Tryd.underlying2, Tryd.underlying3, Tryd.underlying4, Tryd.underlying5, Tryd.underlying6, Tryd.underlying7, Tryd.underlying8, Tryd.underlying9, Tryd.underlying10, Tryd.underlying11, Tryd.underlying12, Tryd.underlying13, Tryd.underlying14, Tryd.underlying15, Tryd.underlying16, Tryd.underlying17, Tryd.underlying18, Tryd.underlying19, Tryd.underlying20, Tryd.underlying21, Tryd.underlying22, Tryd.underlying23, Tryd.underlying24, Tryd.underlying25, Tryd.underlying26, Tryd.underlying27, Tryd.underlying28, Tryd.underlying29, Tryd.underlying30, Tryd.underlying31, Tryd.underlying32, Tryd.underlying33, Tryd.underlying34, Tryd.underlying35, Tryd.underlying36, Tryd.underlying37, Tryd.underlying38, Tryd.underlying39, Tryd.underlying40, Tryd.underlying41, Tryd.underlying42, Tryd.underlying43, Tryd.underlying44, Tryd.underlying45, Tryd.underlying46, Tryd.underlying47, Tryd.underlying48, Tryd.underlying49, Tryd.underlying50, Tryd.underlying51, Tryd.underlying52, Tryd.underlying53, Tryd.underlying54, Tryd.underlying55, Tryd.underlying56, Tryd.underlying57, Tryd.underlying58, Tryd.underlying59, Tryd.underlying60, Tryd.underlying61, Tryd.underlying62, Tryd.underlying63, Tryd.underlying64, Tryd.underlying65, Tryd.underlying66, Tryd.underlying67, Tryd.underlying68, Tryd.underlying69, Tryd.underlying70, Tryd.underlying71, Tryd.underlying72, Tryd.underlying73, Tryd.underlying74, Tryd.underlying75, Tryd.underlying76, Tryd.underlying77, Tryd.underlying78, Tryd.underlying79, Tryd.underlying80, Tryd.underlying81, Tryd.underlying82, Tryd.underlying83, Tryd.underlying84, Tryd.underlying85, Tryd.underlying86, Tryd.underlying87, Tryd.underlying88, Tryd.underlying89, Tryd.underlying90, Tryd.underlying91, Tryd.underlying92, Tryd.underlying93, Tryd.underlying94, Tryd.underlying95, Tryd.underlying96, Tryd.underlying97, Tryd.underlying98, Tryd.underlying99, Tryd.underlying100, Tryd.underlying101, Tryd.underlying102, Tryd.underlying103, Tryd.underlying104, Tryd.underlying105, Tryd.underlying106, Tryd.underlying107, Tryd.underlying108, Tryd.underlying109, Tryd.underlying110, Tryd.underlying111, Tryd.underlying112, Tryd.underlying113, Tryd.underlying114, Tryd.underlying115, Tryd.underlying116, Tryd.underlying117, Tryd.underlying118, Tryd.underlying119, Tryd.underlying120, Tryd.underlying121, Tryd.underlying122, Tryd.underlying123, Tryd.underlying124, Tryd.underlying125, Tryd.underlying126, Tryd.underlying127, Tryd.underlying128, Tryd.underlying129, Tryd.underlying130, Tryd.underlying131, Tryd.underlying132, Tryd.underlying133, Tryd.underlying134, Tryd.underlying135, Tryd.underlying136, Tryd.underlying137, Tryd.underlying138, Tryd.underlying139, Tryd.underlying140, Tryd.underlying141, Tryd.underlying142, Tryd.underlying143, Tryd.underlying144, Tryd.underlying145, Tryd.underlying146, Tryd.underlying147, Tryd.underlying148, Tryd.underlying149, Tryd.underlying150, Tryd.underlying151, Tryd.underlying152, Tryd.underlying153, Tryd.underlying154, Tryd.underlying155, Tryd.underlying156, Tryd.underlying157, Tryd.underlying158, Tryd.underlying159, Tryd.underlying160, Tryd.underlying161, Tryd.underlying162, Tryd.underlying163, Tryd.underlying164, Tryd.underlying165, Tryd.underlying166, Tryd.underlying167, Tryd.underlying168, Tryd.underlying169, Tryd.underlying170, Tryd.underlying171, Tryd.underlying172, Tryd.underlying173, Tryd.underlying174, Tryd.underlying175, Tryd.underlying176, Tryd.underlying177, Tryd.underlying178, Tryd.underlying179, trivial⟩
def infL : List (Nat × Value × Nat × Nat) := [(1, .nilFunc, 1, 8),
  (2, (.int .i64 0), 1, 8),
  (3, (.int .i64 0), 1, 8),
  (4, (.bool false), 1, 1),
  (5, (.int .u8 0), 1, 1),
  (6, (.int .u8 0), 1, 1),
  (7, (.agg ⟨[(.int .i64 0), (.int .i64 0), (.bool false), (.int .u8 0)]⟩), 4, 24),
  (8, (.agg ⟨[(.int .i64 0), (.int .i64 0), (.bool false), (.int .u8 0)]⟩), 4, 24),
  (9, (S []), 1, 16),
  (10, (S []), 1, 16),
  (11, (S []), 1, 16),
  (12, (.int .u64 0), 1, 8),
  (13, (.agg ⟨[(S []), (.int .u64 0)]⟩), 2, 24),
  (14, (.agg ⟨[(S []), (.int .u64 0)]⟩), 2, 24),
  (15, (.pointer none), 1, 8),
  (16, (.pointer none), 1, 8),
  (17, (.pointer none), 1, 8),
  (18, (.agg ⟨[(.pointer none)]⟩), 1, 8),
  (19, (.agg ⟨[(.pointer none)]⟩), 1, 8),
  (20, .nilIface, 1, 16),
  (21, (.int .i32 0), 1, 4),
  (22, (.agg ⟨[(.int .i64 0), (.int .i64 0), (.int .i64 0), (.int .i64 0)]⟩), 4, 32),
  (23, (.agg ⟨[(.int .i64 0), (.int .i64 0), (.int .i64 0), (.int .i64 0)]⟩), 4, 32),
  (24, (.slice none 0 0), 1, 24),
  (25, (.agg ⟨[(S []), (.slice none 0 0), (S []), (.int .i64 0)]⟩), 4, 64),
  (26, (.agg ⟨[(S []), (.slice none 0 0), (S []), (.int .i64 0)]⟩), 4, 64),
  (28, .nilFunc, 1, 8),
  (29, .nilFunc, 1, 8),
  (30, .nilFunc, 1, 8),
  (31, (.slice none 0 0), 1, 24),
  (32, (.agg ⟨[(.int .i64 0), (.slice none 0 0), (S []), (S []), (.int .i64 0), (S []), (S [])]⟩), 7, 104),
  (33, (.agg ⟨[(.int .i64 0), (.slice none 0 0), (S []), (S []), (.int .i64 0), (S []), (S [])]⟩), 7, 104),
  (34, .nilFunc, 1, 8),
  (35, .nilFunc, 1, 8),
  (36, .nilFunc, 1, 8),
  (38, .nilFunc, 1, 8),
  (39, (.slice none 0 0), 1, 24),
  (40, .nilFunc, 1, 8),
  (41, (.agg ⟨[(S []), (S [])]⟩), 2, 32),
  (42, (.agg ⟨[(S []), (S [])]⟩), 2, 32),
  (43, .nilFunc, 1, 8),
  (44, (.slice none 0 0), 1, 24),
  (45, .nilFunc, 1, 8),
  (46, (.float .f64 0), 1, 8),
  (47, .nilFunc, 1, 8),
  (48, (.int .u64 0), 1, 8),
  (49, .nilFunc, 1, 8),
  (50, .nilFunc, 1, 8),
  (51, .nilFunc, 1, 8),
  (52, (.agg ⟨[(.int .i64 0), (.int .i64 0), (.int .i64 0), (.int .i64 0), (.int .i64 0)]⟩), 5, 40),
  (53, (.agg ⟨[(.int .i64 0), (.int .i64 0), (.int .i64 0), (.int .i64 0), (.int .i64 0)]⟩), 5, 40),
  (54, .nilFunc, 1, 8),
  (55, .nilFunc, 1, 8),
  (56, .nilFunc, 1, 8),
  (57, .nilFunc, 1, 8),
  (58, .nilFunc, 1, 8),
  (59, .nilFunc, 1, 8),
  (60, .nilFunc, 1, 8),
  (61, (.int .i64 0), 1, 8),
  (63, .nilFunc, 1, 8),
  (64, (.pointer none), 1, 8),
  (66, .nilFunc, 1, 8),
  (67, .nilFunc, 1, 8),
  (68, .nilFunc, 1, 8),
  (69, .nilFunc, 1, 8),
  (70, .nilFunc, 1, 8),
  (71, .nilFunc, 1, 8),
  (72, .nilFunc, 1, 8),
  (73, (.pointer none), 1, 8),
  (75, .nilFunc, 1, 8),
  (76, (.pointer none), 1, 8),
  (77, (.slice none 0 0), 1, 24),
  (78, (.agg ⟨[(.slice none 0 0), (.bool false)]⟩), 2, 32),
  (79, (.agg ⟨[(.slice none 0 0), (.bool false)]⟩), 2, 32),
  (80, .nilFunc, 1, 8),
  (81, .nilFunc, 1, 8),
  (82, (.agg ⟨[(.int .i64 0), (.pointer none), (.int .i64 0), (.int .i64 0), (.int .i64 0)]⟩), 5, 40),
  (83, (.agg ⟨[(.int .i64 0), (.pointer none), (.int .i64 0), (.int .i64 0), (.int .i64 0)]⟩), 5, 40),
  (84, (.agg ⟨[(.slice none 0 0), (.int .i64 0)]⟩), 2, 32),
  (85, (.agg ⟨[(.slice none 0 0), (.int .i64 0)]⟩), 2, 32),
  (86, .nilFunc, 1, 8),
  (87, .nilFunc, 1, 8),
  (88, (.slice none 0 0), 1, 24),
  (90, .nilFunc, 1, 8),
  (91, .nilFunc, 1, 8),
  (92, .nilFunc, 1, 8),
  (93, .nilFunc, 1, 8),
  (94, .nilFunc, 1, 8),
  (95, (.slice none 0 0), 1, 24),
  (96, .nilFunc, 1, 8),
  (97, .nilFunc, 1, 8),
  (98, .nilFunc, 1, 8),
  (99, .nilFunc, 1, 8),
  (100, (.pointer none), 1, 8),
  (101, (.agg ⟨[(S []), (.int .i64 0), (.int .i64 0)]⟩), 3, 32),
  (102, (.agg ⟨[(S []), (.int .i64 0), (.int .i64 0)]⟩), 3, 32),
  (103, (.agg ⟨[(.int .i64 0)]⟩), 1, 8),
  (104, (.agg ⟨[(.int .i64 0)]⟩), 1, 8),
  (105, .nilFunc, 1, 8),
  (106, .nilFunc, 1, 8),
  (107, (.slice none 0 0), 1, 24),
  (108, (.slice none 0 0), 1, 24),
  (109, (.agg ⟨[(.int .i64 0), (.slice none 0 0), (.bool false), (.int .i64 0), (.int .i64 0), (.int .i64 0), (.bool false), (.bool false), (.slice none 0 0)]⟩), 9, 96),
  (110, (.agg ⟨[(.int .i64 0), (.slice none 0 0), (.bool false), (.int .i64 0), (.int .i64 0), (.int .i64 0), (.bool false), (.bool false), (.slice none 0 0)]⟩), 9, 96),
  (111, .nilFunc, 1, 8),
  (112, .nilFunc, 1, 8),
  (113, .nilFunc, 1, 8),
  (114, (.pointer none), 1, 8),
  (115, (.agg ⟨[(.pointer none), (.slice none 0 0)]⟩), 2, 32),
  (116, (.agg ⟨[(.pointer none), (.slice none 0 0)]⟩), 2, 32),
  (117, .nilIface, 1, 16),
  (118, .nilIface, 1, 16),
  (119, .nilFunc, 1, 8),
  (120, .nilFunc, 1, 8),
  (122, .nilFunc, 1, 8),
  (124, .nilFunc, 1, 8),
  (125, .nilFunc, 1, 8),
  (126, (.agg ⟨[(.int .u8 0), (.int .u8 0), (.int .u8 0), (.int .u8 0), (.int .u8 0), (.int .u8 0), (.int .u8 0), (.int .u8 0), (.int .u8 0), (.int .u8 0), (.int .u8 0), (.int .u8 0), (.int .u8 0), (.int .u8 0), (.int .u8 0), (.int .u8 0), (.int .u8 0), (.int .u8 0), (.int .u8 0), (.int .u8 0)]⟩), 20, 20),
  (127, .nilFunc, 1, 8),
  (128, (.slice none 0 0), 1, 24),
  (129, (.agg ⟨[(.bool false), (.int .i64 0), (.int .i64 0), (.int .i64 0), (.int .i64 0), (.int .i64 0)]⟩), 6, 48),
  (130, (.agg ⟨[(.bool false), (.int .i64 0), (.int .i64 0), (.int .i64 0), (.int .i64 0), (.int .i64 0)]⟩), 6, 48),
  (131, (.slice none 0 0), 1, 24),
  (132, (.pointer none), 1, 8),
  (134, .nilFunc, 1, 8),
  (135, .nilFunc, 1, 8),
  (136, .nilFunc, 1, 8),
  (137, (.agg ⟨[(.int .u8 0), (.int .u8 0), (.int .u8 0), (.int .u8 0), (.int .u8 0), (.int .u8 0), (.int .u8 0), (.int .u8 0), (.int .u8 0), (.int .u8 0), (.int .u8 0), (.int .u8 0), (.int .u8 0), (.int .u8 0), (.int .u8 0), (.int .u8 0), (.int .u8 0), (.int .u8 0), (.int .u8 0), (.int .u8 0), (.int .u8 0), (.int .u8 0), (.int .u8 0), (.int .u8 0), (.int .u8 0), (.int .u8 0), (.int .u8 0), (.int .u8 0), (.int .u8 0), (.int .u8 0), (.int .u8 0), (.int .u8 0), (.int .u8 0), (.int .u8 0), (.int .u8 0), (.int .u8 0), (.int .u8 0), (.int .u8 0), (.int .u8 0), (.int .u8 0), (.int .u8 0), (.int .u8 0), (.int .u8 0), (.int .u8 0), (.int .u8 0), (.int .u8 0), (.int .u8 0), (.int .u8 0), (.int .u8 0), (.int .u8 0), (.int .u8 0), (.int .u8 0), (.int .u8 0), (.int .u8 0), (.int .u8 0), (.int .u8 0), (.int .u8 0), (.int .u8 0), (.int .u8 0), (.int .u8 0), (.int .u8 0), (.int .u8 0), (.int .u8 0), (.int .u8 0), (.int .u8 0), (.int .u8 0), (.int .u8 0), (.int .u8 0), (.int .u8 0), (.int .u8 0), (.int .u8 0), (.int .u8 0), (.int .u8 0), (.int .u8 0), (.int .u8 0), (.int .u8 0), (.int .u8 0), (.int .u8 0), (.int .u8 0), (.int .u8 0), (.int .u8 0), (.int .u8 0), (.int .u8 0), (.int .u8 0), (.int .u8 0), (.int .u8 0), (.int .u8 0), (.int .u8 0), (.int .u8 0), (.int .u8 0), (.int .u8 0), (.int .u8 0), (.int .u8 0), (.int .u8 0), (.int .u8 0), (.int .u8 0), (.int .u8 0), (.int .u8 0), (.int .u8 0), (.int .u8 0), (.int .u8 0), (.int .u8 0), (.int .u8 0), (.int .u8 0), (.int .u8 0), (.int .u8 0), (.int .u8 0), (.int .u8 0), (.int .u8 0), (.int .u8 0), (.int .u8 0), (.int .u8 0), (.int .u8 0), (.int .u8 0), (.int .u8 0), (.int .u8 0), (.int .u8 0), (.int .u8 0), (.int .u8 0), (.int .u8 0), (.int .u8 0), (.int .u8 0), (.int .u8 0), (.int .u8 0), (.int .u8 0), (.int .u8 0), (.int .u8 0), (.int .u8 0), (.int .u8 0), (.int .u8 0), (.int .u8 0), (.int .u8 0), (.int .u8 0), (.int .u8 0), (.int .u8 0), (.int .u8 0), (.int .u8 0), (.int .u8 0), (.int .u8 0), (.int .u8 0), (.int .u8 0), (.int .u8 0), (.int .u8 0), (.int .u8 0), (.int .u8 0), (.int .u8 0), (.int .u8 0), (.int .u8 0), (.int .u8 0), (.int .u8 0), (.int .u8 0), (.int .u8 0), (.int .u8 0), (.int .u8 0), (.int .u8 0), (.int .u8 0), (.int .u8 0), (.int .u8 0), (.int .u8 0), (.int .u8 0), (.int .u8 0), (.int .u8 0), (.int .u8 0), (.int .u8 0), (.int .u8 0), (.int .u8 0), (.int .u8 0), (.int .u8 0), (.int .u8 0), (.int .u8 0), (.int .u8 0), (.int .u8 0), (.int .u8 0), (.int .u8 0), (.int .u8 0), (.int .u8 0), (.int .u8 0), (.int .u8 0), (.int .u8 0), (.int .u8 0), (.int .u8 0), (.int .u8 0), (.int .u8 0), (.int .u8 0), (.int .u8 0), (.int .u8 0), (.int .u8 0), (.int .u8 0), (.int .u8 0), (.int .u8 0), (.int .u8 0), (.int .u8 0), (.int .u8 0), (.int .u8 0), (.int .u8 0), (.int .u8 0), (.int .u8 0), (.int .u8 0), (.int .u8 0), (.int .u8 0), (.int .u8 0), (.int .u8 0), (.int .u8 0), (.int .u8 0), (.int .u8 0), (.int .u8 0), (.int .u8 0), (.int .u8 0), (.int .u8 0), (.int .u8 0), (.int .u8 0), (.int .u8 0), (.int .u8 0), (.int .u8 0), (.int .u8 0), (.int .u8 0), (.int .u8 0), (.int .u8 0), (.int .u8 0), (.int .u8 0), (.int .u8 0), (.int .u8 0), (.int .u8 0), (.int .u8 0), (.int .u8 0), (.int .u8 0), (.int .u8 0), (.int .u8 0), (.int .u8 0), (.int .u8 0), (.int .u8 0), (.int .u8 0), (.int .u8 0), (.int .u8 0), (.int .u8 0), (.int .u8 0), (.int .u8 0), (.int .u8 0), (.int .u8 0), (.int .u8 0), (.int .u8 0), (.int .u8 0), (.int .u8 0), (.int .u8 0), (.int .u8 0), (.int .u8 0), (.int .u8 0), (.int .u8 0), (.int .u8 0), (.int .u8 0), (.int .u8 0), (.int .u8 0), (.int .u8 0), (.int .u8 0), (.int .u8 0), (.int .u8 0)]⟩), 256, 256),
  (138, (.agg ⟨[(.int .u8 0), (.int .u8 0)]⟩), 2, 2),
  (139, (.agg ⟨[(.int .u8 0), (.int .u8 0)]⟩), 2, 2),
  (140, (.agg ⟨[(.int .u8 0), (.int .u8 0), (.int .u8 0), (.int .u8 0), (.int .u8 0), (.int .u8 0), (.int .u8 0), (.int .u8 0), (.int .u8 0), (.int .u8 0), (.int .u8 0), (.int .u8 0), (.int .u8 0), (.int .u8 0), (.int .u8 0), (.int .u8 0), (.int .u8 0), (.int .u8 0), (.int .u8 0), (.int .u8 0), (.int .u8 0), (.int .u8 0), (.int .u8 0), (.int .u8 0), (.int .u8 0), (.int .u8 0), (.int .u8 0), (.int .u8 0), (.int .u8 0), (.int .u8 0), (.int .u8 0), (.int .u8 0)]⟩), 32, 32),
  (141, (.int .u64 0), 1, 8),
  (142, .nilFunc, 1, 8),
  (143, .nilFunc, 1, 8),
  (144, .nilFunc, 1, 8),
  (145, .nilFunc, 1, 8),
  (146, .nilFunc, 1, 8),
  (147, (.pointer none), 1, 8),
  (148, .nilFunc, 1, 8),
  (149, (.agg ⟨[(.int .i32 0), (.int .i32 0)]⟩), 2, 8),
  (150, (.agg ⟨[(.int .i32 0), (.int .i32 0)]⟩), 2, 8),
  (151, .nilFunc, 1, 8),
  (152, (.pointer none), 1, 8),
  (153, .nilFunc, 1, 8),
  (154, .nilFunc, 1, 8),
  (155, .nilFunc, 1, 8),
  (156, .nilFunc, 1, 8),
  (158, .nilFunc, 1, 8),
  (159, .nilFunc, 1, 8),
  (160, .nilFunc, 1, 8),
  (161, .nilFunc, 1, 8),
  (162, .nilFunc, 1, 8),
  (163, .nilFunc, 1, 8),
  (164, .nilFunc, 1, 8),
  (165, .nilFunc, 1, 8),
  (166, .nilFunc, 1, 8),
  (167, (.agg ⟨[(.pointer none), (.pointer none), (.pointer none), (S [])]⟩), 4, 40),
  (168, (.agg ⟨[(.pointer none), (.pointer none), (.pointer none), (S [])]⟩), 4, 40),
  (169, (.agg ⟨[]⟩), 0, 0),
  (170, (.agg ⟨[]⟩), 0, 0),
  (171, (.agg ⟨[]⟩), 0, 0),
  (172, (.int .u32 0), 1, 4),
  (173, (.int .u8 0), 1, 1),
  (174, (.int .u8 0), 1, 1),
  (175, .nilFunc, 1, 8),
  (176, (.int .i32 0), 1, 4),
  (177, (.int .i32 0), 1, 4),
  (178, (.agg ⟨[(.int .u64 0), (.int .u64 0), (.int .u32 0), (.int .u8 0), (.int .u8 0), (.int .u8 0), (.int .u8 0), .nilFunc, (.pointer none), (.int .i32 0), (.int .i32 0)]⟩), 11, 48),
  (179, (.agg ⟨[(.int .u64 0), (.int .u64 0), (.int .u32 0), (.int .u8 0), (.int .u8 0), (.int .u8 0), (.int .u8 0), .nilFunc, (.pointer none), (.int .i32 0), (.int .i32 0)]⟩), 11, 48)]
theorem infL_ok : AllI Tryd.prog infL := by
  refine ⟨?_, ?_, ?_, ?_, ?_, ?_, ?_, ?_, ?_, ?_, ?_, ?_, ?_, ?_, ?_, ?_, ?_, ?_, ?_, ?_, ?_, ?_, ?_, ?_, ?_, ?_, ?_, ?_, ?_, ?_, ?_, ?_, ?_, ?_, ?_, ?_, ?_, ?_, ?_, ?_, ?_, ?_, ?_, ?_, ?_, ?_, ?_, ?_, ?_, ?_, ?_, ?_, ?_, ?_, ?_, ?_, ?_, ?_, ?_, ?_, ?_, ?_, ?_, ?_, ?_, ?_, ?_, ?_, ?_, ?_, ?_, ?_, ?_, ?_, ?_, ?_, ?_, ?_, ?_, ?_, ?_, ?_, ?_, ?_, ?_, ?_, ?_, ?_, ?_, ?_, ?_, ?_, ?_, ?_, ?_, ?_, ?_, ?_, ?_, ?_, ?_, ?_, ?_, ?_, ?_, ?_, ?_, ?_, ?_, ?_, ?_, ?_, ?_, ?_, ?_, ?_, ?_, ?_, ?_, ?_, ?_, ?_, ?_, ?_, ?_, ?_, ?_, ?_, ?_, ?_, ?_, ?_, ?_, ?_, ?_, ?_, ?_, ?_, ?_, ?_, ?_, ?_, ?_, ?_, ?_, ?_, ?_, ?_, ?_, ?_, ?_, ?_, ?_, ?_, ?_, ?_, ?_, ?_, ?_, ?_, ?_, ?_, ?_, ?_, ?_, ?_, ?_, ?_, ?_, trivial⟩ <;> kernel_rfl
def tb : Tb Tryd.prog := Tb.mk' tyL infL tyL_ok infL_ok
theorem c2 : Callable Tryd.prog 2 := ⟨_, Tryd.func2, rfl, rfl⟩
theorem c3 : Callable Tryd.prog 3 := ⟨_, Tryd.func3, rfl, rfl⟩
theorem c4 : Callable Tryd.prog 4 := ⟨_, Tryd.func4, rfl, rfl⟩
theorem c5 : Callable Tryd.prog 5 := ⟨_, Tryd.func5, rfl, rfl⟩
theorem c6 : Callable Tryd.prog 6 := ⟨_, Tryd.func6, rfl, rfl⟩
theorem c7 : Callable Tryd.prog 7 := ⟨_, Tryd.func7, rfl, rfl⟩
theorem c9 : Callable Tryd.prog 9 := ⟨_, Tryd.func9, rfl, rfl⟩
theorem c10 : Callable Tryd.prog 10 := ⟨_, Tryd.func10, rfl, rfl⟩
theorem c11 : Callable Tryd.prog 11 := ⟨_, Tryd.func11, rfl, rfl⟩
theorem c12 : Callable Tryd.prog 12 := ⟨_, Tryd.func12, rfl, rfl⟩
theorem c13 : Callable Tryd.prog 13 := ⟨_, Tryd.func13, rfl, rfl⟩
theorem c14 : Callable Tryd.prog 14 := ⟨_, Tryd.func14, rfl, rfl⟩
theorem c21 : Callable Tryd.prog 21 := ⟨_, Tryd.func21, rfl, rfl⟩
theorem c23 : Callable Tryd.prog 23 := ⟨_, Tryd.func23, rfl, rfl⟩
theorem c24 : Callable Tryd.prog 24 := ⟨_, Tryd.func24, rfl, rfl⟩
theorem c25 : Callable Tryd.prog 25 := ⟨_, Tryd.func25, rfl, rfl⟩
theorem c26 : Callable Tryd.prog 26 := ⟨_, Tryd.func26, rfl, rfl⟩
theorem c28 : Callable Tryd.prog 28 := ⟨_, Tryd.func28, rfl, rfl⟩
theorem c29 : Callable Tryd.prog 29 := ⟨_, Tryd.func29, rfl, rfl⟩
theorem c30 : Callable Tryd.prog 30 := ⟨_, Tryd.func30, rfl, rfl⟩
theorem c31 : Callable Tryd.prog 31 := ⟨_, Tryd.func31, rfl, rfl⟩
theorem c32 : Callable Tryd.prog 32 := ⟨_, Tryd.func32, rfl, rfl⟩
theorem c33 : Callable Tryd.prog 33 := ⟨_, Tryd.func33, rfl, rfl⟩
theorem c34 : Callable Tryd.prog 34 := ⟨_, Tryd.func34, rfl, rfl⟩
theorem c35 : Callable Tryd.prog 35 := ⟨_, Tryd.func35, rfl, rfl⟩
theorem c36 : Callable Tryd.prog 36 := ⟨_, Tryd.func36, rfl, rfl⟩
theorem c37 : Callable Tryd.prog 37 := ⟨_, Tryd.func37, rfl, rfl⟩
theorem c38 : Callable Tryd.prog 38 := ⟨_, Tryd.func38, rfl, rfl⟩
theorem c39 : Callable Tryd.prog 39 := ⟨_, Tryd.func39, rfl, rfl⟩
theorem c42 : Callable Tryd.prog 42 := ⟨_, Tryd.func42, rfl, rfl⟩
theorem c44 : Callable Tryd.prog 44 := ⟨_, Tryd.func44, rfl, rfl⟩
theorem c45 : Callable Tryd.prog 45 := ⟨_, Tryd.func45, rfl, rfl⟩
theorem c46 : Callable Tryd.prog 46 := ⟨_, Tryd.func46, rfl, rfl⟩
theorem c47 : Callable Tryd.prog 47 := ⟨_, Tryd.func47, rfl, rfl⟩
theorem c48 : Callable Tryd.prog 48 := ⟨_, Tryd.func48, rfl, rfl⟩
theorem c49 : Callable Tryd.prog 49 := ⟨_, Tryd.func49, rfl, rfl⟩
theorem c50 : Callable Tryd.prog 50 := ⟨_, Tryd.func50, rfl, rfl⟩
theorem c51 : Callable Tryd.prog 51 := ⟨_, Tryd.func51, rfl, rfl⟩
theorem c52 : Callable Tryd.prog 52 := ⟨_, Tryd.func52, rfl, rfl⟩
theorem c53 : Callable Tryd.prog 53 := ⟨_, Tryd.func53, rfl, rfl⟩
theorem c54 : Callable Tryd.prog 54 := ⟨_, Tryd.func54, rfl, rfl⟩
theorem c55 : Callable Tryd.prog 55 := ⟨_, Tryd.func55, rfl, rfl⟩
theorem c56 : Callable Tryd.prog 56 := ⟨_, Tryd.func56, rfl, rfl⟩
theorem c57 : Callable Tryd.prog 57 := ⟨_, Tryd.func57, rfl, rfl⟩
theorem c58 : Callable Tryd.prog 58 := ⟨_, Tryd.func58, rfl, rfl⟩
theorem c59 : Callable Tryd.prog 59 := ⟨_, Tryd.func59, rfl, rfl⟩
theorem c60 : Callable Tryd.prog 60 := ⟨_, Tryd.func60, rfl, rfl⟩
theorem c61 : Callable Tryd.prog 61 := ⟨_, Tryd.func61, rfl, rfl⟩
theorem c62 : Callable Tryd.prog 62 := ⟨_, Tryd.func62, rfl, rfl⟩
theorem c63 : Callable Tryd.prog 63 := ⟨_, Tryd.func63, rfl, rfl⟩
theorem c64 : Callable Tryd.prog 64 := ⟨_, Tryd.func64, rfl, rfl⟩
theorem c65 : Callable Tryd.prog 65 := ⟨_, Tryd.func65, rfl, rfl⟩
theorem c66 : Callable Tryd.prog 66 := ⟨_, Tryd.func66, rfl, rfl⟩
theorem c67 : Callable Tryd.prog 67 := ⟨_, Tryd.func67, rfl, rfl⟩
theorem c68 : Callable Tryd.prog 68 := ⟨_, Tryd.func68, rfl, rfl⟩
theorem c70 : Callable Tryd.prog 70 := ⟨_, Tryd.func70, rfl, rfl⟩
theorem c71 : Callable Tryd.prog 71 := ⟨_, Tryd.func71, rfl, rfl⟩
theorem c73 : Callable Tryd.prog 73 := ⟨_, Tryd.func73, rfl, rfl⟩
theorem c74 : Callable Tryd.prog 74 := ⟨_, Tryd.func74, rfl, rfl⟩
theorem c75 : Callable Tryd.prog 75 := ⟨_, Tryd.func75, rfl, rfl⟩
theorem c76 : Callable Tryd.prog 76 := ⟨_, Tryd.func76, rfl, rfl⟩
theorem c79 : Callable Tryd.prog 79 := ⟨_, Tryd.func79, rfl, rfl⟩
theorem c80 : Callable Tryd.prog 80 := ⟨_, Tryd.func80, rfl, rfl⟩
theorem c81 : Callable Tryd.prog 81 := ⟨_, Tryd.func81, rfl, rfl⟩
theorem c82 : Callable Tryd.prog 82 := ⟨_, Tryd.func82, rfl, rfl⟩
theorem c85 : Callable Tryd.prog 85 := ⟨_, Tryd.func85, rfl, rfl⟩
theorem c89 : Callable Tryd.prog 89 := ⟨_, Tryd.func89, rfl, rfl⟩
theorem c90 : Callable Tryd.prog 90 := ⟨_, Tryd.func90, rfl, rfl⟩
theorem c93 : Callable Tryd.prog 93 := ⟨_, Tryd.func93, rfl, rfl⟩
theorem c94 : Callable Tryd.prog 94 := ⟨_, Tryd.func94, rfl, rfl⟩
theorem c95 : Callable Tryd.prog 95 := ⟨_, Tryd.func95, rfl, rfl⟩
theorem c96 : Callable Tryd.prog 96 := ⟨_, Tryd.func96, rfl, rfl⟩
theorem c97 : Callable Tryd.prog 97 := ⟨_, Tryd.func97, rfl, rfl⟩
theorem c98 : Callable Tryd.prog 98 := ⟨_, Tryd.func98, rfl, rfl⟩
theorem c100 : Callable Tryd.prog 100 := ⟨_, Tryd.func100, rfl, rfl⟩
theorem c101 : Callable Tryd.prog 101 := ⟨_, Tryd.func101, rfl, rfl⟩
theorem c102 : Callable Tryd.prog 102 := ⟨_, Tryd.func102, rfl, rfl⟩
theorem c103 : Callable Tryd.prog 103 := ⟨_, Tryd.func103, rfl, rfl⟩
theorem c104 : Callable Tryd.prog 104 := ⟨_, Tryd.func104, rfl, rfl⟩
theorem c105 : Callable Tryd.prog 105 := ⟨_, Tryd.func105, rfl, rfl⟩
theorem mixed : Tryd.prog.follows .mixedOrders = true := by kernel_rfl
end Go.Proofs.YtmkckngecjpklaaDoor
end
section
namespace Go.Proofs
open Go.Shelf
def Tryd.lays169_ren : Go.Shelf.Ren := ⟨fun | 169 => 63 | n => n, fun | 70 => 114 | 9 => 9 | 0 => 0 | 72 => 116 | 37 => 95 | 127 => 147 | 3 => 3 | 5 => 5 | n => n, fun | n => n⟩
theorem Tryd.lays169 : Go.Proofs.Lays.n169 Tryd.prog Tryd.lays169_ren := {
  mixed := by kernel_rfl
  f169 := Tryd.func63.trans (congrArg some (by kernel_rfl))
  t0 := Tryd.underlying0
  a0 := Tryd.isAgg0
  z0 := Tryd.sizeOf0
  v0 := Tryd.zeroValue0
  t3 := Tryd.underlying3
  a3 := Tryd.isAgg3
  z3 := Tryd.sizeOf3
  v3 := Tryd.zeroValue3
  t9 := Tryd.underlying9
  a9 := Tryd.isAgg9
  z9 := Tryd.sizeOf9
  v9 := Tryd.zeroValue9
  t37 := Tryd.underlying95
  a37 := Tryd.isAgg95
  z37 := Tryd.sizeOf95
  v37 := Tryd.zeroValue95
  t70 := Tryd.underlying114
  a70 := Tryd.isAgg114
  z70 := Tryd.sizeOf114
  v70 := Tryd.zeroValue114
  t72 := Tryd.underlying116
  a72 := Tryd.isAgg116
  z72 := Tryd.sizeOf116
  v72 := Tryd.zeroValue116
  t127 := Tryd.underlying147
  a127 := Tryd.isAgg147
  z127 := Tryd.sizeOf147
  v127 := Tryd.zeroValue147 }
theorem Tryd.Builder_Extra_169 : Builder.Extra Tryd.prog Tryd.lays169_ren := {
  sizeBuilder := by kernel_rfl
  liesBuilder := by kernel_rfl
  t5 := Tryd.underlying5
  a5 := Tryd.isAgg5
  z5 := Tryd.sizeOf5
  v5 := Tryd.zeroValue5
  infoByte := by kernel_rfl
  cellsByte := by kernel_rfl
  sizeByte := by kernel_rfl
  neB5 := by decide }
open Go.RowKit in
/-- (*strings.Builder).String: "String returns the accumulated string.": WHATEVER THE BUILDER HOLDS. (LAID: no walk: one application.) -/
theorem Tryd.Builder_String_any (B b : Nat) (l : List UInt8) (w : World) (h : Lib.IsBuilder 116 5 B b (Lib.byteCells l) w) (hBw : B ≤ w.heap.size) :
    Calls Tryd.prog 63 #[.pointer (some ⟨b, 0, none⟩)] w fun e w' => e = .returned (.string ⟨l.toArray⟩) ∧ Below B w w' := Any.Builder_String_any Tryd.lays169 Tryd.Builder_Extra_169 B b l w h hBw
def Tryd.lays156_ren : Go.Shelf.Ren := ⟨fun | 156 => 54 | 165 => 69 | 166 => 62 | 169 => 63 | 240 => 77 | 241 => 83 | 276 => 88 | 277 => 91 | n => n, fun | 31 => 31 | 9 => 9 | 3 => 3 | 4 => 4 | 0 => 0 | 20 => 20 | 72 => 116 | 76 => 123 | 70 => 114 | 37 => 95 | 75 => 118 | 127 => 147 | 164 => 152 | 5 => 5 | 80 => 125 | n => n, fun | n => n⟩
theorem Tryd.lays156 : Go.Proofs.Lays.n156 Tryd.prog Tryd.lays156_ren := {
  mixed := by kernel_rfl
  f156 := Tryd.func54.trans (congrArg some (by kernel_rfl))
  f165 := Tryd.func69.trans (congrArg some (by kernel_rfl))
  f166 := Tryd.func62.trans (congrArg some (by kernel_rfl))
  f169 := Tryd.func63.trans (congrArg some (by kernel_rfl))
  f240 := Tryd.func77.trans (congrArg some (by kernel_rfl))
  f241 := Tryd.func83.trans (congrArg some (by kernel_rfl))
  f276 := Tryd.func88.trans (congrArg some (by kernel_rfl))
  f277 := Tryd.func91.trans (congrArg some (by kernel_rfl))
  t0 := Tryd.underlying0
  a0 := Tryd.isAgg0
  z0 := Tryd.sizeOf0
  v0 := Tryd.zeroValue0
  t3 := Tryd.underlying3
  a3 := Tryd.isAgg3
  z3 := Tryd.sizeOf3
  v3 := Tryd.zeroValue3
  t4 := Tryd.underlying4
  a4 := Tryd.isAgg4
  z4 := Tryd.sizeOf4
  v4 := Tryd.zeroValue4
  t9 := Tryd.underlying9
  a9 := Tryd.isAgg9
  z9 := Tryd.sizeOf9
  v9 := Tryd.zeroValue9
  t20 := Tryd.underlying20
  a20 := Tryd.isAgg20
  z20 := Tryd.sizeOf20
  v20 := Tryd.zeroValue20
  t31 := Tryd.underlying31
  a31 := Tryd.isAgg31
  z31 := Tryd.sizeOf31
  v31 := Tryd.zeroValue31
  t37 := Tryd.underlying95
  a37 := Tryd.isAgg95
  z37 := Tryd.sizeOf95
  v37 := Tryd.zeroValue95
  t70 := Tryd.underlying114
  a70 := Tryd.isAgg114
  z70 := Tryd.sizeOf114
  v70 := Tryd.zeroValue114
  t72 := Tryd.underlying116
  a72 := Tryd.isAgg116
  z72 := Tryd.sizeOf116
  v72 := Tryd.zeroValue116
  t75 := Tryd.underlying118
  a75 := Tryd.isAgg118
  z75 := Tryd.sizeOf118
  v75 := Tryd.zeroValue118
  t76 := Tryd.underlying123
  a76 := Tryd.isAgg123
  z76 := Tryd.sizeOf123
  v76 := Tryd.zeroValue123
  t127 := Tryd.underlying147
  a127 := Tryd.isAgg147
  z127 := Tryd.sizeOf147
  v127 := Tryd.zeroValue147
  t164 := Tryd.underlying152
  a164 := Tryd.isAgg152
  z164 := Tryd.sizeOf152
  v164 := Tryd.zeroValue152 }
theorem Tryd.Builder_Extra_156 : Builder.Extra Tryd.prog Tryd.lays156_ren := {
  sizeBuilder := by kernel_rfl
  liesBuilder := by kernel_rfl
  t5 := Tryd.underlying5
  a5 := Tryd.isAgg5
  z5 := Tryd.sizeOf5
  v5 := Tryd.zeroValue5
  infoByte := by kernel_rfl
  cellsByte := by kernel_rfl
  sizeByte := by kernel_rfl
  neB5 := by decide }
open Go.RowKit in
/-- No element: the empty string; the world is as it was. (Whatever the slice's address and capacity: a nil slice too.) (LAID: no walk: one application.) -/
theorem Tryd.strings_Join_none (a : Option Addr) (c : Nat) (sep : ByteArray) (w : World) :
    Calls Tryd.prog 54 #[.slice a 0 c, .string sep] w fun e w' => e = .returned (.string ⟨#[]⟩) ∧ w' = w := Any.strings_Join_none Tryd.lays156 Tryd.Builder_Extra_156 a c sep w
open Go.RowKit in
/-- strings.Join: "Join concatenates the elements of its first argument to create a single string. The separator string sep is placed between elements in the resulting string.": HOWEVER MANY ELEMENTS. Below the heap's end the world is as it was. (LAID: no walk: one application.) -/
theorem Tryd.strings_Join (bk o c : Nat) (xs : List ByteArray) (sep : ByteArray) (w : World) (hcells : ∀ (j : Nat) x, xs[j]? = some x → w.cell? ⟨bk, o + j, none⟩ = some (.string x)) (hbk : bk < w.heap.size) (hN : xs.length ≤ 140737488355328) (hcap : xs.length ≤ c) (hlen : (Lib.join (xs.map (·.data.toList)) sep.data.toList).length ≤ 140737488355328) :
    Calls Tryd.prog 54 #[.slice (some ⟨bk, o, none⟩) xs.length c, .string sep] w fun e w' => e = .returned (.string ⟨(Lib.join (xs.map (·.data.toList)) sep.data.toList).toArray⟩) ∧ Below w.heap.size w w' := Any.strings_Join Tryd.lays156 Tryd.Builder_Extra_156 bk o c xs sep w hcells hbk hN hcap hlen
def Tryd.lays119_ren : Go.Shelf.Ren := ⟨fun | 119 => 105 | n => n, fun | 21 => 21 | 4 => 4 | n => n, fun | n => n⟩
theorem Tryd.lays119 : Go.Proofs.Lays.n119 Tryd.prog Tryd.lays119_ren := {
  mixed := by kernel_rfl
  f119 := Tryd.func105.trans (congrArg some (by kernel_rfl))
  t4 := Tryd.underlying4
  a4 := Tryd.isAgg4
  z4 := Tryd.sizeOf4
  v4 := Tryd.zeroValue4
  t21 := Tryd.underlying21
  a21 := Tryd.isAgg21
  z21 := Tryd.sizeOf21
  v21 := Tryd.zeroValue21 }
/-- utf8.ValidRune: "ValidRune reports whether r can be legally encoded as UTF-8. Code points that are out of range or a surrogate half are illegal.": IT RETURNS 'Lib.validRune r'; the world is as it was. (LAID: no walk: one application.) -/
theorem Tryd.utf8_ValidRune (r : Int) (w : World) :
    Calls Tryd.prog 105 #[.int .i32 r] w fun e w' => e = .returned (.bool (Lib.validRune r)) ∧ w' = w := Any.utf8_ValidRune Tryd.lays119 r w
def Tryd.lays137_ren : Go.Shelf.Ren := ⟨fun | 137 => 104 | 217 => 108 | 266 => 109 | n => n, fun | 9 => 9 | 5 => 5 | 3 => 3 | n => n, fun | n => n⟩
theorem Tryd.lays137 : Go.Proofs.Lays.n137 Tryd.prog Tryd.lays137_ren := {
  mixed := by kernel_rfl
  f137 := Tryd.func104.trans (congrArg some (by kernel_rfl))
  f217 := Tryd.func108.trans (congrArg some (by kernel_rfl))
  f266 := Tryd.func109.trans (congrArg some (by kernel_rfl))
  t3 := Tryd.underlying3
  a3 := Tryd.isAgg3
  z3 := Tryd.sizeOf3
  v3 := Tryd.zeroValue3
  t5 := Tryd.underlying5
  a5 := Tryd.isAgg5
  z5 := Tryd.sizeOf5
  v5 := Tryd.zeroValue5
  t9 := Tryd.underlying9
  a9 := Tryd.isAgg9
  z9 := Tryd.sizeOf9
  v9 := Tryd.zeroValue9 }
open Go.RowKit in
/-- strings.IndexByte: "IndexByte returns the index of the first instance of c in s, or -1 if c is not present in s.": IT RETURNS 'Lib.indexByte s c'; the world is as it was. (LAID: no walk: one application.) -/
theorem Tryd.strings_IndexByte (s : ByteArray) (c : Int) (w : World) :
    Calls Tryd.prog 104 #[.string s, .int .u8 c] w fun e w' => e = .returned (.int .i64 (Lib.indexByte s.data.toList c.toNat.toUInt8)) ∧ w' = w := Any.strings_IndexByte Tryd.lays137 s c w
def Tryd.lays99_ren : Go.Shelf.Ren := ⟨fun | 99 => 60 | 206 => 78 | n => n, fun | 9 => 9 | 4 => 4 | 3 => 3 | n => n, fun | n => n⟩
theorem Tryd.lays99 : Go.Proofs.Lays.n99 Tryd.prog Tryd.lays99_ren := {
  mixed := by kernel_rfl
  f99 := Tryd.func60.trans (congrArg some (by kernel_rfl))
  f206 := Tryd.func78.trans (congrArg some (by kernel_rfl))
  t3 := Tryd.underlying3
  a3 := Tryd.isAgg3
  z3 := Tryd.sizeOf3
  v3 := Tryd.zeroValue3
  t4 := Tryd.underlying4
  a4 := Tryd.isAgg4
  z4 := Tryd.sizeOf4
  v4 := Tryd.zeroValue4
  t9 := Tryd.underlying9
  a9 := Tryd.isAgg9
  z9 := Tryd.sizeOf9
  v9 := Tryd.zeroValue9 }
open Go.RowKit Go.Lib in
/-- strings.HasPrefix: "HasPrefix reports whether the string s begins with prefix.": IT RETURNS 'Lib.hasPrefix s prefix'; the world is as it was. (LAID: no walk: one application.) -/
theorem Tryd.strings_HasPrefix (s p : ByteArray) (w : World) :
    Calls Tryd.prog 60 #[.string s, .string p] w fun e w' => e = .returned (.bool (Lib.hasPrefix s.data.toList p.data.toList)) ∧ w' = w := Any.strings_HasPrefix Tryd.lays99 s p w
def Tryd.lays197_ren : Go.Shelf.Ren := ⟨fun | 197 => 70 | 260 => 84 | n => n, fun | 9 => 9 | 21 => 21 | 3 => 3 | 4 => 4 | 5 => 5 | 105 => 133 | 119 => 137 | 0 => 0 | 46 => 141 | 139 => 140 | 138 => 139 | n => n, fun | 3 => 1 | 4 => 2 | n => n⟩
theorem Tryd.lays197 : Go.Proofs.Lays.n197 Tryd.prog Tryd.lays197_ren := {
  mixed := by kernel_rfl
  f197 := Tryd.func70.trans (congrArg some (by kernel_rfl))
  f260 := Tryd.func84.trans (congrArg some (by kernel_rfl))
  t0 := Tryd.underlying0
  a0 := Tryd.isAgg0
  z0 := Tryd.sizeOf0
  v0 := Tryd.zeroValue0
  t3 := Tryd.underlying3
  a3 := Tryd.isAgg3
  z3 := Tryd.sizeOf3
  v3 := Tryd.zeroValue3
  t4 := Tryd.underlying4
  a4 := Tryd.isAgg4
  z4 := Tryd.sizeOf4
  v4 := Tryd.zeroValue4
  t5 := Tryd.underlying5
  a5 := Tryd.isAgg5
  z5 := Tryd.sizeOf5
  v5 := Tryd.zeroValue5
  t9 := Tryd.underlying9
  a9 := Tryd.isAgg9
  z9 := Tryd.sizeOf9
  v9 := Tryd.zeroValue9
  t21 := Tryd.underlying21
  a21 := Tryd.isAgg21
  z21 := Tryd.sizeOf21
  v21 := Tryd.zeroValue21
  t46 := Tryd.underlying141
  a46 := Tryd.isAgg141
  z46 := Tryd.sizeOf141
  v46 := Tryd.zeroValue141
  t105 := Tryd.underlying133
  a105 := Tryd.isAgg133
  z105 := Tryd.sizeOf133
  v105 := Tryd.zeroValue133
  t119 := Tryd.underlying137
  a119 := Tryd.isAgg137
  z119 := Tryd.sizeOf137
  t138 := Tryd.underlying139
  a138 := Tryd.isAgg139
  z138 := Tryd.sizeOf139
  v138 := Tryd.zeroValue139
  t139 := Tryd.underlying140
  a139 := Tryd.isAgg140
  z139 := Tryd.sizeOf140
  v139 := Tryd.zeroValue140
  g3 := by kernel_rfl
  g4 := by kernel_rfl }
def Tryd.lays151_ren : Go.Shelf.Ren := ⟨fun | 151 => 97 | 152 => 102 | 137 => 104 | 119 => 105 | 224 => 106 | 225 => 107 | 217 => 108 | 266 => 109 | n => n, fun | 9 => 9 | 21 => 21 | 4 => 4 | 3 => 3 | 5 => 5 | 0 => 0 | 46 => 141 | n => n, fun | n => n⟩
theorem Tryd.lays151 : Go.Proofs.Lays.n151 Tryd.prog Tryd.lays151_ren := {
  mixed := by kernel_rfl
  f119 := Tryd.func105.trans (congrArg some (by kernel_rfl))
  f137 := Tryd.func104.trans (congrArg some (by kernel_rfl))
  f151 := Tryd.func97.trans (congrArg some (by kernel_rfl))
  f152 := Tryd.func102.trans (congrArg some (by kernel_rfl))
  f217 := Tryd.func108.trans (congrArg some (by kernel_rfl))
  f224 := Tryd.func106.trans (congrArg some (by kernel_rfl))
  f225 := Tryd.func107.trans (congrArg some (by kernel_rfl))
  f266 := Tryd.func109.trans (congrArg some (by kernel_rfl))
  t0 := Tryd.underlying0
  a0 := Tryd.isAgg0
  z0 := Tryd.sizeOf0
  v0 := Tryd.zeroValue0
  t3 := Tryd.underlying3
  a3 := Tryd.isAgg3
  z3 := Tryd.sizeOf3
  v3 := Tryd.zeroValue3
  t4 := Tryd.underlying4
  a4 := Tryd.isAgg4
  z4 := Tryd.sizeOf4
  v4 := Tryd.zeroValue4
  t5 := Tryd.underlying5
  a5 := Tryd.isAgg5
  z5 := Tryd.sizeOf5
  v5 := Tryd.zeroValue5
  t9 := Tryd.underlying9
  a9 := Tryd.isAgg9
  z9 := Tryd.sizeOf9
  v9 := Tryd.zeroValue9
  t21 := Tryd.underlying21
  a21 := Tryd.isAgg21
  z21 := Tryd.sizeOf21
  v21 := Tryd.zeroValue21
  t46 := Tryd.underlying141
  a46 := Tryd.isAgg141
  z46 := Tryd.sizeOf141
  v46 := Tryd.zeroValue141 }
open Go.RowKit Go.Lib in
theorem Tryd.strings_ContainsRune_ascii (s : ByteArray) (r : Int) (w : World) (h0 : 0 ≤ r) (h1 : r < 128) :
    Calls Tryd.prog 97 #[.string s, .int .i32 r] w fun e w' => e = .returned (.bool (decide (0 ≤ Lib.indexByte s.data.toList r.toNat.toUInt8))) ∧ w' = w := Any.strings_ContainsRune_ascii Tryd.lays151 s r w h0 h1
def Tryd.lays260_ren : Go.Shelf.Ren := ⟨fun | 260 => 84 | n => n, fun | 9 => 9 | 21 => 21 | 3 => 3 | 4 => 4 | 5 => 5 | 119 => 137 | 0 => 0 | 46 => 141 | 139 => 140 | 138 => 139 | n => n, fun | 3 => 1 | 4 => 2 | n => n⟩
theorem Tryd.lays260 : Go.Proofs.Lays.n260 Tryd.prog Tryd.lays260_ren := {
  mixed := by kernel_rfl
  f260 := Tryd.func84.trans (congrArg some (by kernel_rfl))
  t0 := Tryd.underlying0
  a0 := Tryd.isAgg0
  z0 := Tryd.sizeOf0
  v0 := Tryd.zeroValue0
  t3 := Tryd.underlying3
  a3 := Tryd.isAgg3
  z3 := Tryd.sizeOf3
  v3 := Tryd.zeroValue3
  t4 := Tryd.underlying4
  a4 := Tryd.isAgg4
  z4 := Tryd.sizeOf4
  v4 := Tryd.zeroValue4
  t5 := Tryd.underlying5
  a5 := Tryd.isAgg5
  z5 := Tryd.sizeOf5
  v5 := Tryd.zeroValue5
  t9 := Tryd.underlying9
  a9 := Tryd.isAgg9
  z9 := Tryd.sizeOf9
  v9 := Tryd.zeroValue9
  t21 := Tryd.underlying21
  a21 := Tryd.isAgg21
  z21 := Tryd.sizeOf21
  v21 := Tryd.zeroValue21
  t46 := Tryd.underlying141
  a46 := Tryd.isAgg141
  z46 := Tryd.sizeOf141
  v46 := Tryd.zeroValue141
  t119 := Tryd.underlying137
  a119 := Tryd.isAgg137
  z119 := Tryd.sizeOf137
  t138 := Tryd.underlying139
  a138 := Tryd.isAgg139
  z138 := Tryd.sizeOf139
  v138 := Tryd.zeroValue139
  t139 := Tryd.underlying140
  a139 := Tryd.isAgg140
  z139 := Tryd.sizeOf140
  v139 := Tryd.zeroValue140
  g3 := by kernel_rfl
  g4 := by kernel_rfl }
open Go.RowKit Go.Lib in
/-- **unicode/utf8.DecodeRuneInString AT EVERY STRING.** (LAID: no walk: one application.) -/
theorem Tryd.utf8_DecodeRuneInString (s : ByteArray) (w : World) (hT : Lib.Utf8Tabs 1 2 w) :
    Calls Tryd.prog 70 #[.string s] w fun e w' => e = .returned (.tuple #[.int .i32 (Lib.decodeGo s).1, .int .i64 (Lib.decodeGo s).2]) ∧ Below w.heap.size w w' := Any.utf8_DecodeRuneInString Tryd.lays197 s w hT
theorem Tryd.lays166 : Go.Proofs.Lays.n166 Tryd.prog Tryd.lays156_ren := { Tryd.lays156 with }
def Tryd.lays167_ren : Go.Shelf.Ren := ⟨fun | 167 => 59 | 156 => 54 | 165 => 69 | 166 => 62 | 169 => 63 | 240 => 77 | 241 => 83 | 276 => 88 | 277 => 91 | n => n, fun | 31 => 31 | 9 => 9 | 3 => 3 | 4 => 4 | 0 => 0 | 20 => 20 | 72 => 116 | 76 => 123 | 70 => 114 | 37 => 95 | 75 => 118 | 127 => 147 | 164 => 152 | 5 => 5 | 80 => 125 | n => n, fun | n => n⟩
theorem Tryd.lays167 : Go.Proofs.Lays.n167 Tryd.prog Tryd.lays167_ren := {
  mixed := by kernel_rfl
  f167 := Tryd.func59.trans (congrArg some (by kernel_rfl))
  f240 := Tryd.func77.trans (congrArg some (by kernel_rfl))
  f276 := Tryd.func88.trans (congrArg some (by kernel_rfl))
  t0 := Tryd.underlying0
  a0 := Tryd.isAgg0
  z0 := Tryd.sizeOf0
  v0 := Tryd.zeroValue0
  t4 := Tryd.underlying4
  a4 := Tryd.isAgg4
  z4 := Tryd.sizeOf4
  v4 := Tryd.zeroValue4
  t5 := Tryd.underlying5
  a5 := Tryd.isAgg5
  z5 := Tryd.sizeOf5
  v5 := Tryd.zeroValue5
  t9 := Tryd.underlying9
  a9 := Tryd.isAgg9
  z9 := Tryd.sizeOf9
  v9 := Tryd.zeroValue9
  t20 := Tryd.underlying20
  a20 := Tryd.isAgg20
  z20 := Tryd.sizeOf20
  v20 := Tryd.zeroValue20
  t37 := Tryd.underlying95
  a37 := Tryd.isAgg95
  z37 := Tryd.sizeOf95
  v37 := Tryd.zeroValue95
  t70 := Tryd.underlying114
  a70 := Tryd.isAgg114
  z70 := Tryd.sizeOf114
  v70 := Tryd.zeroValue114
  t72 := Tryd.underlying116
  a72 := Tryd.isAgg116
  z72 := Tryd.sizeOf116
  v72 := Tryd.zeroValue116
  t75 := Tryd.underlying118
  a75 := Tryd.isAgg118
  z75 := Tryd.sizeOf118
  v75 := Tryd.zeroValue118
  t164 := Tryd.underlying152
  a164 := Tryd.isAgg152
  z164 := Tryd.sizeOf152
  v164 := Tryd.zeroValue152 }
theorem Tryd.Builder_Extra_167 : Builder.Extra Tryd.prog Tryd.lays167_ren := {
  sizeBuilder := by kernel_rfl
  liesBuilder := by kernel_rfl
  t5 := Tryd.underlying5
  a5 := Tryd.isAgg5
  z5 := Tryd.sizeOf5
  v5 := Tryd.zeroValue5
  infoByte := by kernel_rfl
  cellsByte := by kernel_rfl
  sizeByte := by kernel_rfl
  neB5 := by decide }
def Tryd.laysValid_ren : Go.Shelf.Ren := ⟨fun | 196 => 56 | 259 => 72 | n => n, fun | 9 => 9 | 4 => 4 | 3 => 3 | 5 => 5 | 12 => 12 | 119 => 137 | 0 => 0 | 46 => 141 | 139 => 140 | 138 => 139 | 53 => 48 | n => n, fun | 3 => 1 | 4 => 2 | n => n⟩
theorem Tryd.laysValid : Go.Proofs.Lays.n196 Tryd.prog Tryd.laysValid_ren := {
  mixed := by kernel_rfl
  f196 := Tryd.func56.trans (congrArg some (by kernel_rfl))
  f259 := Tryd.func72.trans (congrArg some (by kernel_rfl))
  t0 := Tryd.underlying0
  a0 := Tryd.isAgg0
  z0 := Tryd.sizeOf0
  v0 := Tryd.zeroValue0
  t3 := Tryd.underlying3
  a3 := Tryd.isAgg3
  z3 := Tryd.sizeOf3
  v3 := Tryd.zeroValue3
  t4 := Tryd.underlying4
  a4 := Tryd.isAgg4
  z4 := Tryd.sizeOf4
  v4 := Tryd.zeroValue4
  t5 := Tryd.underlying5
  a5 := Tryd.isAgg5
  z5 := Tryd.sizeOf5
  v5 := Tryd.zeroValue5
  t9 := Tryd.underlying9
  a9 := Tryd.isAgg9
  z9 := Tryd.sizeOf9
  v9 := Tryd.zeroValue9
  t12 := Tryd.underlying12
  a12 := Tryd.isAgg12
  z12 := Tryd.sizeOf12
  v12 := Tryd.zeroValue12
  t46 := Tryd.underlying141
  a46 := Tryd.isAgg141
  z46 := Tryd.sizeOf141
  v46 := Tryd.zeroValue141
  t53 := Tryd.underlying48
  a53 := Tryd.isAgg48
  z53 := Tryd.sizeOf48
  v53 := Tryd.zeroValue48
  t119 := Tryd.underlying137
  a119 := Tryd.isAgg137
  z119 := Tryd.sizeOf137
  t138 := Tryd.underlying139
  a138 := Tryd.isAgg139
  z138 := Tryd.sizeOf139
  v138 := Tryd.zeroValue139
  t139 := Tryd.underlying140
  a139 := Tryd.isAgg140
  z139 := Tryd.sizeOf140
  v139 := Tryd.zeroValue140
  g3 := by kernel_rfl
  g4 := by kernel_rfl }
end Go.Proofs
end
section
namespace Go.Vg
open Go.RowKit

theorem Bx.ci {w : World} {b i : Nat} {us : List Value} {u : Value} (h : Bx w b us) (hi : us[i]? = some u) : CellAt w (padd (ptr b) i) u := h.cells.cell hi
theorem CellsAt.c0 {w : World} {p : Value} {us : List Value} {u : Value} (h : CellsAt w p us) (hi : us[0]? = some u) : CellAt w p u := by
  obtain ⟨a, rfl, _, hc⟩ := h
  exact ⟨a, rfl, by have := hc 0 u hi; rwa [Addr.add_zero] at this⟩
theorem Bx.c0 {w : World} {b : Nat} {us : List Value} {u : Value} (h : Bx w b us) (hi : us[0]? = some u) : CellAt w (ptr b) u := h.cells.c0 hi

section
variable {X : Cx} {ops : Array Oper} {l : List Oper} {k : List Kt} {e : Env} {w : World} {d : Nat} {c : Option Bool} {ty : TypeId} {pos : String} {af : Array Edge} {g : Option (Nat × Bool)} {S : World → Prop} {N : Env → World → Prop} {lb : List (Oper × Bool)}

theorem sFa (T : Tb X.P) {x : Operand} {st : TypeId} {f : Nat} {td : TypeDesc} {p z : Value} {off ft s b : Nat} (h : GL X ops l k ((d, c, padd p off) :: e) w) (hg : guardE ops e ⟨some d, .fieldAddr st x f, ty, pos, af, g⟩ = some c := by exact rfl) (hx : Op1 e c x p := by exact Op1.of rfl (by first | exact fun _ => rfl | exact fun h => h | exact fun h => bL h | exact fun h => bL (bL h) | exact fun h => bL (bL (bL h)))) (ht : T.ty st = some td := by exact rfl) (ho : fieldOff td f = some (off, ft) := by exact rfl) (hi : T.inf ft = some (z, s, b) := by exact rfl) (hs : Nat.blt 0 s = true := by exact rfl) (hp : cv c = true → ∃ a : Addr, p = .pointer (some a) := by intro _; first | exact ⟨_, rfl⟩ | exact CellsAt.ptr (by assumption) | exact (Sli.elem (by assumption) (by assumption)).ptr | exact (Sli.elem (Owns.sli (by assumption)) (by assumption)).ptr) (hn : Nat.blt d X.n = true := by exact rfl) :
    GL X ops (⟨some d, .fieldAddr st x f, ty, pos, af, g⟩ :: l) k e w := GL.cons (Step.fieldAddr T hg hx ht ho hi hs hp hn h)
theorem dFa (T : Tb X.P) {x : Operand} {st : TypeId} {f : Nat} {td : TypeDesc} {p z : Value} {off ft s b : Nat} (h : GMN X ops S N lb ((d, c, padd p off) :: e) w) (hg : guardE ops e ⟨some d, .fieldAddr st x f, ty, pos, af, g⟩ = some c := by exact rfl) (hx : Op1 e c x p := by exact Op1.of rfl (by first | exact fun _ => rfl | exact fun h => h | exact fun h => bL h | exact fun h => bL (bL h) | exact fun h => bL (bL (bL h)))) (ht : T.ty st = some td := by exact rfl) (ho : fieldOff td f = some (off, ft) := by exact rfl) (hi : T.inf ft = some (z, s, b) := by exact rfl) (hs : Nat.blt 0 s = true := by exact rfl) (hp : cv c = true → ∃ a : Addr, p = .pointer (some a) := by intro _; first | exact ⟨_, rfl⟩ | exact CellsAt.ptr (by assumption) | exact (Sli.elem (by assumption) (by assumption)).ptr | exact (Sli.elem (Owns.sli (by assumption)) (by assumption)).ptr) (hn : Nat.blt d X.n = true := by exact rfl) :
    GMN X ops S N ((⟨some d, .fieldAddr st x f, ty, pos, af, g⟩, true) :: lb) e w := GM.read (fun _ _ => Step.fieldAddr T hg hx ht ho hi hs hp hn ⟨rfl, rfl⟩) rfl hn h
theorem sLd (T : Tb X.P) {x : Operand} {t : TypeId} {td : TypeDesc} {p u : Value} (h : GL X ops l k ((d, c, u) :: e) w) (hg : guardE ops e ⟨some d, .load t x, ty, pos, af, g⟩ = some c := by exact rfl) (hx : Op1 e c x p := by exact Op1.of rfl (by first | exact fun _ => rfl | exact fun h => h | exact fun h => bL h | exact fun h => bL (bL h) | exact fun h => bL (bL (bL h)))) (ht : T.ty t = some td := by exact rfl) (ha : aggT td = false := by exact rfl) (hc : cv c = true → CellAt w p u := by intro _; first | exact Bx.c0 (by assumption) (by exact rfl) | exact Bx.ci (by assumption) (by exact rfl) | exact (Sli.elem (by assumption) (by assumption)).c0 (by exact rfl) | exact (Sli.elem (by assumption) (by assumption)).cell (by exact rfl) | exact (Sli.elem (Owns.sli (by assumption)) (by assumption)).c0 (by exact rfl) | exact (Sli.elem (Owns.sli (by assumption)) (by assumption)).cell (by exact rfl) | exact CellsAt.c0 (by assumption) (by exact rfl) | exact CellsAt.cell (by assumption) (by exact rfl)) (hn : Nat.blt d X.n = true := by exact rfl) :
    GL X ops (⟨some d, .load t x, ty, pos, af, g⟩ :: l) k e w := GL.cons (Step.load1 T hg hx ht ha hc hn h)
theorem dLd (T : Tb X.P) {x : Operand} {t : TypeId} {td : TypeDesc} {p u : Value} (h : GMN X ops S N lb ((d, c, u) :: e) w) (hg : guardE ops e ⟨some d, .load t x, ty, pos, af, g⟩ = some c := by exact rfl) (hx : Op1 e c x p := by exact Op1.of rfl (by first | exact fun _ => rfl | exact fun h => h | exact fun h => bL h | exact fun h => bL (bL h) | exact fun h => bL (bL (bL h)))) (ht : T.ty t = some td := by exact rfl) (ha : aggT td = false := by exact rfl) (hc : ∀ w', S w' → cv c = true → CellAt w' p u := by intro w1 hS1 _; first | exact Bx.c0 (Bx.to (by assumption) hS1) (by exact rfl) | exact Bx.ci (Bx.to (by assumption) hS1) (by exact rfl) | exact (Sli.elem (Sli.to (by assumption) hS1) (by assumption)).c0 (by exact rfl) | exact (Sli.elem (Sli.to (by assumption) hS1) (by assumption)).cell (by exact rfl) | exact (Sli.elem (Owns.sli (Owns.to (by assumption) hS1)) (by assumption)).c0 (by exact rfl) | exact (Sli.elem (Owns.sli (Owns.to (by assumption) hS1)) (by assumption)).cell (by exact rfl)) (hn : Nat.blt d X.n = true := by exact rfl) :
    GMN X ops S N ((⟨some d, .load t x, ty, pos, af, g⟩, true) :: lb) e w := GM.read (fun w' hS => Step.load1 T hg hx ht ha (hc w' hS) hn ⟨rfl, rfl⟩) rfl hn h
theorem sLa (T : Tb X.P) {x : Operand} {t : TypeId} {td : TypeDesc} {p z : Value} {s b : Nat} {us : List Value} (h : GL X ops l k ((d, c, .agg ⟨us⟩) :: e) w) (hg : guardE ops e ⟨some d, .load t x, ty, pos, af, g⟩ = some c := by exact rfl) (hx : Op1 e c x p := by exact Op1.of rfl (by first | exact fun _ => rfl | exact fun h => h | exact fun h => bL h | exact fun h => bL (bL h) | exact fun h => bL (bL (bL h)))) (ht : T.ty t = some td := by exact rfl) (ha : aggT td = true := by exact rfl) (hi : T.inf t = some (z, s, b) := by exact rfl) (hc : cv c = true → CellsAt w p us := by intro _; first | exact Bx.cells (by assumption) | exact Sli.elem (by assumption) (by assumption) | exact Sli.elem (Owns.sli (by assumption)) (by assumption) | assumption) (hl : cv c = true → us.length = s := by exact fun _ => rfl) (hn : Nat.blt d X.n = true := by exact rfl) :
    GL X ops (⟨some d, .load t x, ty, pos, af, g⟩ :: l) k e w := GL.cons (Step.loadA T hg hx ht ha hi hc hl hn h)
theorem dLa (T : Tb X.P) {x : Operand} {t : TypeId} {td : TypeDesc} {p z : Value} {s b : Nat} {us : List Value} (h : GMN X ops S N lb ((d, c, .agg ⟨us⟩) :: e) w) (hg : guardE ops e ⟨some d, .load t x, ty, pos, af, g⟩ = some c := by exact rfl) (hx : Op1 e c x p := by exact Op1.of rfl (by first | exact fun _ => rfl | exact fun h => h | exact fun h => bL h | exact fun h => bL (bL h) | exact fun h => bL (bL (bL h)))) (ht : T.ty t = some td := by exact rfl) (ha : aggT td = true := by exact rfl) (hi : T.inf t = some (z, s, b) := by exact rfl) (hc : ∀ w', S w' → cv c = true → CellsAt w' p us := by intro w1 hS1 _; first | exact Bx.cells (Bx.to (by assumption) hS1) | exact Sli.elem (Sli.to (by assumption) hS1) (by assumption) | exact Sli.elem (Owns.sli (Owns.to (by assumption) hS1)) (by assumption)) (hl : cv c = true → us.length = s := by exact fun _ => rfl) (hn : Nat.blt d X.n = true := by exact rfl) :
    GMN X ops S N ((⟨some d, .load t x, ty, pos, af, g⟩, true) :: lb) e w := GM.read (fun w' hS => Step.loadA T hg hx ht ha hi (hc w' hS) hl hn ⟨rfl, rfl⟩) rfl hn h
theorem sLen (T : Tb X.P) {x : Operand} {at_ et : TypeId} {v : Value} {m : Nat} {xs : List (List Value)} (h : GL X ops l k ((d, c, .int .i64 xs.length) :: e) w) (hg : guardE ops e ⟨some d, .call { callee := .builtin .len, args := #[x], argTypes := #[at_] }, ty, pos, af, g⟩ = some c := by exact rfl) (hx : Op1 e c x v := by exact Op1.of rfl (by first | exact fun _ => rfl | exact fun h => h | exact fun h => bL h | exact fun h => bL (bL h) | exact fun h => bL (bL (bL h)))) (ht : T.ty at_ = some (.slice et) := by exact rfl) (hs : cv c = true → ∃ w, Sli w v m xs := by intro _; first | exact ⟨_, by assumption⟩ | exact ⟨_, Owns.sli (by assumption)⟩) (hn : Nat.blt d X.n = true := by exact rfl) :
    GL X ops (⟨some d, .call { callee := .builtin .len, args := #[x], argTypes := #[at_] }, ty, pos, af, g⟩ :: l) k e w := GL.cons (Step.lenV T hg hx ht hs hn h)
theorem dLen (T : Tb X.P) {x : Operand} {at_ et : TypeId} {v : Value} {m : Nat} {xs : List (List Value)} (h : GMN X ops S N lb ((d, c, .int .i64 xs.length) :: e) w) (hg : guardE ops e ⟨some d, .call { callee := .builtin .len, args := #[x], argTypes := #[at_] }, ty, pos, af, g⟩ = some c := by exact rfl) (hx : Op1 e c x v := by exact Op1.of rfl (by first | exact fun _ => rfl | exact fun h => h | exact fun h => bL h | exact fun h => bL (bL h) | exact fun h => bL (bL (bL h)))) (ht : T.ty at_ = some (.slice et) := by exact rfl) (hs : cv c = true → ∃ w, Sli w v m xs := by intro _; first | exact ⟨_, by assumption⟩ | exact ⟨_, Owns.sli (by assumption)⟩) (hn : Nat.blt d X.n = true := by exact rfl) :
    GMN X ops S N ((⟨some d, .call { callee := .builtin .len, args := #[x], argTypes := #[at_] }, ty, pos, af, g⟩, true) :: lb) e w := GM.read (fun _ _ => Step.lenV T hg hx ht hs hn ⟨rfl, rfl⟩) rfl hn h
theorem sIa (T : Tb X.P) (j : Nat) {x i : Operand} {st et : TypeId} {v z : Value} {q b : Nat} {m : Int} {xs : List (List Value)} (h : GL X ops l k ((d, c, padd v (j * q)) :: e) w) (hg : guardE ops e ⟨some d, .indexAddr st x i, ty, pos, af, g⟩ = some c := by exact rfl) (hx : Op1 e c x v := by exact Op1.of rfl (by first | exact fun _ => rfl | exact fun h => h | exact fun h => bL h | exact fun h => bL (bL h) | exact fun h => bL (bL (bL h)))) (hi : Op1 e c i (.int .i64 m) := by exact Op1.of rfl (by first | exact fun _ => rfl | exact fun h => h | exact fun h => bL h | exact fun h => bL (bL h) | exact fun h => bL (bL (bL h)))) (ht : T.ty st = some (.slice et) := by exact rfl) (hk : T.inf et = some (z, q, b) := by exact rfl) (hs : cv c = true → ∃ w, Sli w v q xs := by intro _; first | exact ⟨_, by assumption⟩ | exact ⟨_, Owns.sli (by assumption)⟩) (hj : cv c = true → m = j ∧ j < xs.length := by intro hc; first | exact ⟨by omega, by first | omega | (simp only [List.length_map]; omega)⟩ | (simp only [cv, Bool.and_eq_true, decide_eq_true_eq] at hc; exact ⟨by omega, by first | omega | (simp only [List.length_map]; omega)⟩)) (hn : Nat.blt d X.n = true := by exact rfl) :
    GL X ops (⟨some d, .indexAddr st x i, ty, pos, af, g⟩ :: l) k e w := GL.cons (Step.indexAddr T j hg hx hi ht hk hs hj hn h)
theorem dIa (T : Tb X.P) (j : Nat) {x i : Operand} {st et : TypeId} {v z : Value} {q b : Nat} {m : Int} {xs : List (List Value)} (h : GMN X ops S N lb ((d, c, padd v (j * q)) :: e) w) (hg : guardE ops e ⟨some d, .indexAddr st x i, ty, pos, af, g⟩ = some c := by exact rfl) (hx : Op1 e c x v := by exact Op1.of rfl (by first | exact fun _ => rfl | exact fun h => h | exact fun h => bL h | exact fun h => bL (bL h) | exact fun h => bL (bL (bL h)))) (hi : Op1 e c i (.int .i64 m) := by exact Op1.of rfl (by first | exact fun _ => rfl | exact fun h => h | exact fun h => bL h | exact fun h => bL (bL h) | exact fun h => bL (bL (bL h)))) (ht : T.ty st = some (.slice et) := by exact rfl) (hk : T.inf et = some (z, q, b) := by exact rfl) (hs : cv c = true → ∃ w, Sli w v q xs := by intro _; first | exact ⟨_, by assumption⟩ | exact ⟨_, Owns.sli (by assumption)⟩) (hj : cv c = true → m = j ∧ j < xs.length := by intro hc; first | exact ⟨by omega, by first | omega | (simp only [List.length_map]; omega)⟩ | (simp only [cv, Bool.and_eq_true, decide_eq_true_eq] at hc; exact ⟨by omega, by first | omega | (simp only [List.length_map]; omega)⟩)) (hn : Nat.blt d X.n = true := by exact rfl) :
    GMN X ops S N ((⟨some d, .indexAddr st x i, ty, pos, af, g⟩, true) :: lb) e w := GM.read (fun _ _ => Step.indexAddr T j hg hx hi ht hk hs hj hn ⟨rfl, rfl⟩) rfl hn h
theorem sBs (T : Tb X.P) (j : Nat) {x i : Operand} {st : TypeId} {s : List UInt8} {m : Int} (h : GL X ops l k ((d, c, U (s.getD j 0)) :: e) w) (hg : guardE ops e ⟨some d, .index st x i, ty, pos, af, g⟩ = some c := by exact rfl) (hx : Op1 e c x (Vg.S s) := by exact Op1.of rfl (by first | exact fun _ => rfl | exact fun h => h | exact fun h => bL h | exact fun h => bL (bL h) | exact fun h => bL (bL (bL h)))) (hi : Op1 e c i (.int .i64 m) := by exact Op1.of rfl (by first | exact fun _ => rfl | exact fun h => h | exact fun h => bL h | exact fun h => bL (bL h) | exact fun h => bL (bL (bL h)))) (ht : T.ty st = some .string := by exact rfl) (hj : cv c = true → m = j ∧ j < s.length := by intro hc; first | exact ⟨by omega, by first | omega | (simp only [List.length_map]; omega)⟩ | (simp only [cv, Bool.and_eq_true, decide_eq_true_eq] at hc; exact ⟨by omega, by first | omega | (simp only [List.length_map]; omega)⟩)) (hn : Nat.blt d X.n = true := by exact rfl) :
    GL X ops (⟨some d, .index st x i, ty, pos, af, g⟩ :: l) k e w := GL.cons (Step.indexS T j hg hx hi ht hj hn h)
theorem dBs (T : Tb X.P) (j : Nat) {x i : Operand} {st : TypeId} {s : List UInt8} {m : Int} (h : GMN X ops S N lb ((d, c, U (s.getD j 0)) :: e) w) (hg : guardE ops e ⟨some d, .index st x i, ty, pos, af, g⟩ = some c := by exact rfl) (hx : Op1 e c x (Vg.S s) := by exact Op1.of rfl (by first | exact fun _ => rfl | exact fun h => h | exact fun h => bL h | exact fun h => bL (bL h) | exact fun h => bL (bL (bL h)))) (hi : Op1 e c i (.int .i64 m) := by exact Op1.of rfl (by first | exact fun _ => rfl | exact fun h => h | exact fun h => bL h | exact fun h => bL (bL h) | exact fun h => bL (bL (bL h)))) (ht : T.ty st = some .string := by exact rfl) (hj : cv c = true → m = j ∧ j < s.length := by intro hc; first | exact ⟨by omega, by first | omega | (simp only [List.length_map]; omega)⟩ | (simp only [cv, Bool.and_eq_true, decide_eq_true_eq] at hc; exact ⟨by omega, by first | omega | (simp only [List.length_map]; omega)⟩)) (hn : Nat.blt d X.n = true := by exact rfl) :
    GMN X ops S N ((⟨some d, .index st x i, ty, pos, af, g⟩, true) :: lb) e w := GM.read (fun _ _ => Step.indexS T j hg hx hi ht hj hn ⟨rfl, rfl⟩) rfl hn h
theorem sFd (T : Tb X.P) {x : Operand} {st : TypeId} {f : Nat} {td ftd : TypeDesc} {us : List Value} {u : Value} {off ft : Nat} (h : GL X ops l k ((d, c, u) :: e) w) (hg : guardE ops e ⟨some d, .field st x f, ty, pos, af, g⟩ = some c := by exact rfl) (hx : Op1 e c x (.agg ⟨us⟩) := by exact Op1.of rfl (by first | exact fun _ => rfl | exact fun h => h | exact fun h => bL h | exact fun h => bL (bL h) | exact fun h => bL (bL (bL h)))) (ht : T.ty st = some td := by exact rfl) (ho : fieldOff td f = some (off, ft) := by exact rfl) (hft : T.ty ft = some ftd := by exact rfl) (ha : aggT ftd = false := by exact rfl) (hu : us[off]? = some u := by exact rfl) (hn : Nat.blt d X.n = true := by exact rfl) :
    GL X ops (⟨some d, .field st x f, ty, pos, af, g⟩ :: l) k e w := GL.cons (Step.field T hg hx ht ho hft ha hu hn h)
theorem dFd (T : Tb X.P) {x : Operand} {st : TypeId} {f : Nat} {td ftd : TypeDesc} {us : List Value} {u : Value} {off ft : Nat} (h : GMN X ops S N lb ((d, c, u) :: e) w) (hg : guardE ops e ⟨some d, .field st x f, ty, pos, af, g⟩ = some c := by exact rfl) (hx : Op1 e c x (.agg ⟨us⟩) := by exact Op1.of rfl (by first | exact fun _ => rfl | exact fun h => h | exact fun h => bL h | exact fun h => bL (bL h) | exact fun h => bL (bL (bL h)))) (ht : T.ty st = some td := by exact rfl) (ho : fieldOff td f = some (off, ft) := by exact rfl) (hft : T.ty ft = some ftd := by exact rfl) (ha : aggT ftd = false := by exact rfl) (hu : us[off]? = some u := by exact rfl) (hn : Nat.blt d X.n = true := by exact rfl) :
    GMN X ops S N ((⟨some d, .field st x f, ty, pos, af, g⟩, true) :: lb) e w := GM.read (fun _ _ => Step.field T hg hx ht ho hft ha hu hn ⟨rfl, rfl⟩) rfl hn h
theorem sAd (_ : Tb X.P) {op : BinOp} {xt yt : TypeId} {x y : Operand} {a b r : Int} (h : GL X ops l k ((d, c, .int .i64 r) :: e) w) (hg : guardE ops e ⟨some d, .binOp op xt x y yt, ty, pos, af, g⟩ = some c := by exact rfl) (hx : Op1 e c x (.int .i64 a) := by exact Op1.of rfl (by first | exact fun _ => rfl | exact fun h => h | exact fun h => bL h | exact fun h => bL (bL h) | exact fun h => bL (bL (bL h)))) (hy : Op1 e c y (.int .i64 b) := by exact Op1.of rfl (by first | exact fun _ => rfl | exact fun h => h | exact fun h => bL h | exact fun h => bL (bL h) | exact fun h => bL (bL (bL h)))) (hp : match op with | .add => IntKind.i64.wrap (a + b) = r | .sub => IntKind.i64.wrap (a - b) = r | .mul => IntKind.i64.wrap (a * b) = r | _ => False := by exact wrap_i64 (by omega) (by omega)) (hn : Nat.blt d X.n = true := by exact rfl) :
    GL X ops (⟨some d, .binOp op xt x y yt, ty, pos, af, g⟩ :: l) k e w := GL.cons (Step.arith hg hx hy hp hn h)
theorem dAd (_ : Tb X.P) {op : BinOp} {xt yt : TypeId} {x y : Operand} {a b r : Int} (h : GMN X ops S N lb ((d, c, .int .i64 r) :: e) w) (hg : guardE ops e ⟨some d, .binOp op xt x y yt, ty, pos, af, g⟩ = some c := by exact rfl) (hx : Op1 e c x (.int .i64 a) := by exact Op1.of rfl (by first | exact fun _ => rfl | exact fun h => h | exact fun h => bL h | exact fun h => bL (bL h) | exact fun h => bL (bL (bL h)))) (hy : Op1 e c y (.int .i64 b) := by exact Op1.of rfl (by first | exact fun _ => rfl | exact fun h => h | exact fun h => bL h | exact fun h => bL (bL h) | exact fun h => bL (bL (bL h)))) (hp : match op with | .add => IntKind.i64.wrap (a + b) = r | .sub => IntKind.i64.wrap (a - b) = r | .mul => IntKind.i64.wrap (a * b) = r | _ => False := by exact wrap_i64 (by omega) (by omega)) (hn : Nat.blt d X.n = true := by exact rfl) :
    GMN X ops S N ((⟨some d, .binOp op xt x y yt, ty, pos, af, g⟩, true) :: lb) e w := GM.read (fun _ _ => Step.arith hg hx hy hp hn ⟨rfl, rfl⟩) rfl hn h
theorem sCv (T : Tb X.P) {x : Operand} {src dst : TypeId} {q q' : IntKind} {m r : Int} {sd : TypeDesc} (h : GL X ops l k ((d, c, .int q' r) :: e) w) (hg : guardE ops e ⟨some d, .convert src dst x, ty, pos, af, g⟩ = some c := by exact rfl) (hx : Op1 e c x (.int q m) := by exact Op1.of rfl (by first | exact fun _ => rfl | exact fun h => h | exact fun h => bL h | exact fun h => bL (bL h) | exact fun h => bL (bL (bL h)))) (hs : T.ty src = some sd := by exact rfl) (ht : T.ty dst = some (.int q') := by exact rfl) (hr : q'.wrap m = r := by exact wrap_i64 (by omega) (by omega)) (hn : Nat.blt d X.n = true := by exact rfl) :
    GL X ops (⟨some d, .convert src dst x, ty, pos, af, g⟩ :: l) k e w := GL.cons (Step.convI T hg hx hs ht hr hn h)
theorem sBd (T : Tb X.P) {t m bytes : Nat} {z : Value} {zs us : List Value} {fs : Array Field} {parts : Array (Nat × Operand)} {lo : List (Nat × Operand)} {vs : List (Nat × Value)} {pl : List (Nat × Nat)} (h : GL X ops l k ((d, none, .agg ⟨us⟩) :: e) w) (hg : guardE ops e ⟨some d, .build t parts, ty, pos, af, g⟩ = some none := by exact rfl) (hp : parts = ⟨lo⟩ := by exact rfl) (hvs : evps e lo = some vs := by exact rfl) (ht : T.ty t = some (.struct fs) := by exact rfl) (hi : T.inf t = some (z, m, bytes) := by exact rfl) (hz : z.cells = ⟨zs⟩ := by exact rfl) (hpl : fs.toList.mapM (fun f => (T.inf f.type).map fun i => (f.offset, i.2.1)) = some pl := by exact rfl) (hf : Instr.fill (fun i => pl[i]?) ⟨zs⟩ vs = some ⟨us⟩ := by exact rfl) (hn : Nat.blt d X.n = true := by exact rfl) :
    GL X ops (⟨some d, .build t parts, ty, pos, af, g⟩ :: l) k e w := GL.cons (Step.build T hg hp hvs ht hi hz hpl hf hn h)
/-! Operations that make or turn memory, and calls. -/
theorem sBox {x : Operand} {t : TypeId} {v : Value} {us : List Value}
    (h : ∀ w', Bx w' w.heap.size us → w'.heap.size = w.heap.size + 1 → Ext w w' → GL X ops l k ((d, none, ptr w.heap.size) :: e) w') (hg : guardE ops e ⟨some d, .box t x, ty, pos, af, g⟩ = some none := by exact rfl)
    (hx : Op1 e none x v := by exact Op1.of rfl (by first | exact fun _ => rfl | exact fun h => h | exact fun h => bL h | exact fun h => bL (bL h) | exact fun h => bL (bL (bL h)))) (hv : v.cells = ⟨us⟩ := by first | exact Sli.cells (by assumption) | exact Owns.cells (by assumption) | exact rfl) (hn : Nat.blt d X.n = true := by exact rfl) :
    GL X ops (⟨some d, .box t x, ty, pos, af, g⟩ :: l) k e w := GL.cons (Step.box hg hx hv hn h)
theorem sAl (T : Tb X.P) {t : TypeId} {z : Value} {s b : Nat} {us : List Value}
    (h : ∀ w', Bx w' w.heap.size us → w'.heap.size = w.heap.size + 1 → Ext w w' → GL X ops l k ((d, none, ptr w.heap.size) :: e) w') (hg : guardE ops e ⟨some d, .alloc t, ty, pos, af, g⟩ = some none := by exact rfl)
    (hi : T.inf t = some (z, s, b) := by exact rfl) (hv : z.cells = ⟨us⟩ := by exact rfl) (hn : Nat.blt d X.n = true := by exact rfl) :
    GL X ops (⟨some d, .alloc t, ty, pos, af, g⟩ :: l) k e w := GL.cons (Step.alloc T hg hi hv hn h)
/-- a whole box is stored into -/
theorem sSt (T : Tb X.P) {x y : Operand} {t : TypeId} {v z : Value} {vs us : List Value} {s by_ b : Nat}
    (h : ∀ w', Bx w' b vs → Wr b w w' → GL X ops l k e w') (hg : guardE ops e ⟨none, .store t x y, ty, pos, af, g⟩ = some none := by exact rfl)
    (hx : Op1 e none x (ptr b) := by exact Op1.of rfl (by first | exact fun _ => rfl | exact fun h => h | exact fun h => bL h | exact fun h => bL (bL h) | exact fun h => bL (bL (bL h)))) (hy : Op1 e none y v := by exact Op1.of rfl (by first | exact fun _ => rfl | exact fun h => h | exact fun h => bL h | exact fun h => bL (bL h) | exact fun h => bL (bL (bL h)))) (hi : T.inf t = some (z, s, by_) := by exact rfl) (hv : v.cells = ⟨vs⟩ := by first | exact Sli.cells (by assumption) | exact Owns.cells (by assumption) | exact rfl) (hs : vs.length = s := by exact rfl) (h1 : ∀ v ∈ vs, v.oneCell' = true := by first | exact Sli.one (by assumption) | exact Sli.one (Owns.sli (by assumption)) | simp [Value.oneCell', S, U])
    (hb : Bx w b us := by assumption) (hl : us.length = s := by exact rfl) :
    GL X ops (⟨none, .store t x y, ty, pos, af, g⟩ :: l) k e w := GL.cons (Step.store0 T hg hx hy hi hv hs h1 hb hl h)
/-- a field of a box is stored into -/
theorem sSf (T : Tb X.P) {x y : Operand} {t : TypeId} {v z : Value} {vs us : List Value} {s by_ b off : Nat}
    (h : ∀ w', Bx w' b (us.take off ++ vs ++ us.drop (off + s)) → Wr b w w' → GL X ops l k e w') (hg : guardE ops e ⟨none, .store t x y, ty, pos, af, g⟩ = some none := by exact rfl)
    (hx : Op1 e none x (padd (ptr b) off) := by exact Op1.of rfl (by first | exact fun _ => rfl | exact fun h => h | exact fun h => bL h | exact fun h => bL (bL h) | exact fun h => bL (bL (bL h)))) (hy : Op1 e none y v := by exact Op1.of rfl (by first | exact fun _ => rfl | exact fun h => h | exact fun h => bL h | exact fun h => bL (bL h) | exact fun h => bL (bL (bL h)))) (hi : T.inf t = some (z, s, by_) := by exact rfl) (hv : v.cells = ⟨vs⟩ := by first | exact Sli.cells (by assumption) | exact Owns.cells (by assumption) | exact rfl) (hs : vs.length = s := by exact rfl) (h1 : ∀ v ∈ vs, v.oneCell' = true := by first | exact Sli.one (by assumption) | exact Sli.one (Owns.sli (by assumption)) | simp [Value.oneCell', S, U])
    (hb : Bx w b us := by assumption) (hl : off + s ≤ us.length := by exact of_decide_eq_true rfl) :
    GL X ops (⟨none, .store t x y, ty, pos, af, g⟩ :: l) k e w := GL.cons (Step.store T hg hx hy hi hv hs h1 hb hl h)
theorem sCall {f : FuncId} {args : Array Operand} {ats : Array TypeId} {lo : List Operand} {vs : List Value} {Q : Value → World → Prop} (hf : Callable X.P f) (hc : Ret X.P f ⟨vs⟩ w Q)
    (h : ∀ v w', Q v w' → GL X ops l k ((d, none, v) :: e) w') (hg : guardE ops e ⟨some d, .call { callee := .value (.func f), args := args, argTypes := ats }, ty, pos, af, g⟩ = some none := by exact rfl)
    (ha : args = ⟨lo⟩ := by exact rfl) (hvs : evs e lo = some vs := by exact rfl) (hn : Nat.blt d X.n = true := by exact rfl) :
    GL X ops (⟨some d, .call { callee := .value (.func f), args := args, argTypes := ats }, ty, pos, af, g⟩ :: l) k e w := GL.cons (Step.callF hg ha hvs hf hn hc h)
/-- a call, guarded or not, that hands back v and only adds memory -/
theorem sCallx {f : FuncId} {args : Array Operand} {ats : Array TypeId} {lo : List Operand} {vs : List Value} {v : Value} (hf : Callable X.P f) (hc : cv c = true → Ret X.P f ⟨vs⟩ w fun r w' => r = v ∧ Ext w w')
    (h : ∀ w', Ext w w' → GL X ops l k ((d, c, v) :: e) w') (hg : guardE ops e ⟨some d, .call { callee := .value (.func f), args := args, argTypes := ats }, ty, pos, af, g⟩ = some c := by exact rfl)
    (ha : args = ⟨lo⟩ := by exact rfl) (hvs : OpL e c lo vs := by repeat (first | exact OpL.nil | refine OpL.cons (Op1.of rfl (by first | exact fun _ => rfl | exact fun h => h | exact fun h => bL h | exact fun h => bL (bL h) | exact fun h => bL (bL (bL h)))) ?_)) (hn : Nat.blt d X.n = true := by exact rfl) :
    GL X ops (⟨some d, .call { callee := .value (.func f), args := args, argTypes := ats }, ty, pos, af, g⟩ :: l) k e w := GL.cons (Step.callX hg ha hvs hf hn hc h)
/-- append onto a row of one's own -/
theorem sApp (T : Tb X.P) {x y : Operand} {t et : TypeId} {v u z : Value} {q bytes B : Nat} {xs ys : List (List Value)} (hv : Owns w B v et q xs) (hu : Sli w u q ys)
    (h : ∀ v' w', Owns w' B v' et q (xs ++ ys) → Grew B v w w' → GL X ops l k ((d, none, v') :: e) w')
    (h1 : ∀ y ∈ ys, ∀ c ∈ y, c.oneCell' = true := by intro y hy c hc; simp only [List.mem_cons, List.not_mem_nil, or_false] at hy; subst hy; simp only [List.mem_cons, List.not_mem_nil, or_false] at hc; rcases hc with rfl <;> rfl)
    (hg : guardE ops e ⟨some d, .call { callee := .builtin .append, args := #[x, y], argTypes := #[t, t] }, ty, pos, af, g⟩ = some none := by exact rfl)
    (hx : Op1 e none x v := by exact Op1.of rfl (by first | exact fun _ => rfl | exact fun h => h | exact fun h => bL h | exact fun h => bL (bL h) | exact fun h => bL (bL (bL h)))) (hy : Op1 e none y u := by exact Op1.of rfl (by first | exact fun _ => rfl | exact fun h => h | exact fun h => bL h | exact fun h => bL (bL h) | exact fun h => bL (bL (bL h)))) (ht : T.ty t = some (.slice et) := by exact rfl) (hi : T.inf et = some (z, q, bytes) := by exact rfl) (hk : Nat.blt 0 q = true := by exact rfl) (hz : z.cells.size = q := by exact rfl) (hn : Nat.blt d X.n = true := by exact rfl)
    (hb : (xs.length + ys.length) * bytes ≤ 140737488355328 := by simp only [List.length_map, List.length_append, List.length_cons, List.length_nil, List.length_take, List.length_drop]; omega)
    (hl : xs.length + ys.length ≤ 140737488355328 := by simp only [List.length_map, List.length_append, List.length_cons, List.length_nil, List.length_take, List.length_drop]; omega)
    (hB : B ≤ w.heap.size := by omega) :
    GL X ops (⟨some d, .call { callee := .builtin .append, args := #[x, y], argTypes := #[t, t] }, ty, pos, af, g⟩ :: l) k e w := GL.cons (Step.append T hg hx hy ht hi hk hz hv hu h1 hb hl hB hn h)
theorem sBs' (T : Tb X.P) {t et : TypeId} {n q bytes : Nat} {z : Value} {zs : List Value} {parts : Array (Nat × Operand)} {lo : List (Nat × Operand)} {vs : List (Nat × Value)} (xs : List (List Value))
    (h : ∀ v w', Owns w' w.heap.size v et q xs → w'.heap.size = w.heap.size + 1 → Ext w w' → GL X ops l k ((d, none, v) :: e) w')
    (hg : guardE ops e ⟨some d, .buildSlice t n parts, ty, pos, af, g⟩ = some none := by exact rfl)
    (hp : parts = ⟨lo⟩ := by exact rfl) (hvs : evps e lo = some vs := by exact rfl) (ht : T.ty t = some (.slice et) := by exact rfl) (hi : T.inf et = some (z, q, bytes) := by exact rfl) (hz : z.cells = ⟨zs⟩ := by exact rfl) (hzl : zs.length = q := by exact rfl) (hk : Nat.blt 0 q = true := by exact rfl)
    (hfill : Instr.fill (fun i => some (i * q, q)) ⟨if n * q = 0 then [] else zeros zs (n * q)⟩ vs = some ⟨xs.flatten⟩ := by rfl) (hsm : Nat.ble (n * q) 1000 = true := by exact rfl)
    (hlen : xs.length = n := by rfl) (hkl : ∀ x ∈ xs, x.length = q := by simp) (hn : Nat.blt d X.n = true := by exact rfl) :
    GL X ops (⟨some d, .buildSlice t n parts, ty, pos, af, g⟩ :: l) k e w := GL.cons (Step.buildSlice T xs hg hp hvs ht hi hz hzl hk hfill hsm hlen hkl hn h)
end

/-! A drawn region in its order: simple operations by reckoning. -/
inductive ResM where
  | done (l : List (Oper × Bool)) (e : Env) (L : List Prop)
  | no
def goM {P : Program} (T : Tb P) (n : Nat) (ops : Array Oper) : List (Oper × Bool) → Env → List Prop → ResM
  | [], e, L => .done [] e L
  | (o, true) :: l, e, L => match simp1 T ops n o e with
    | some (d, c, v, M) => goM T n ops l ((d, c, v) :: e) (M ++ L)
    | none => .done ((o, true) :: l) e L
  | (o, false) :: l, e, L => .done ((o, false) :: l) e L
theorem goM_ok {X : Cx} (T : Tb X.P) {ops : Array Oper} {S : World → Prop} {N : Env → World → Prop} {w : World} : ∀ (l : List (Oper × Bool)) (e : Env) (L : List Prop) {l' : List (Oper × Bool)} {e' : Env} {L' : List Prop},
    goM T X.n ops l e L = .done l' e' L' → AllP L' → GMN X ops S N l' e' w → AllP L ∧ GMN X ops S N l e w
  | [], e, L, l', e', L', h, hL, hs => by simp only [goM] at h; cases h; exact ⟨hL, hs⟩
  | (o, false) :: l, e, L, l', e', L', h, hL, hs => by simp only [goM] at h; cases h; exact ⟨hL, hs⟩
  | (o, true) :: l, e, L, l', e', L', h, hL, hs => by
    simp only [goM] at h
    split at h
    · rename_i d c v M hm
      obtain ⟨h1, h2⟩ := goM_ok T _ _ _ h hL hs
      obtain ⟨h3, h4, h5⟩ := simp1_step T hm h1.app.1
      exact ⟨h1.app.2, GM.read (fun w' _ => h3 ⟨rfl, rfl⟩) h4 h5 h2⟩
    · cases h; exact ⟨hL, hs⟩
section
variable {X : Cx} {ops : Array Oper} {e e' : Env} {w : World} {S : World → Prop} {N : Env → World → Prop} {l l' : List (Oper × Bool)} {L : List Prop}
theorem mm (T : Tb X.P) (h : GMN X ops S N l' e' w) (hr : goM T X.n ops l e [] = .done l' e' L := by exact rfl)
    (hL : AllP L := by repeat (first | exact trivial | refine And.intro (by first | exact fun _ => rfl | exact fun h => h | exact fun h => bL h | exact fun h => bL (bL h) | exact fun h => bL (bL (bL h)) | exact fun _ _ => rfl | exact fun _ h => h | exact fun _ h => bNot h | exact fun h k => bAnd h k | exact fun h k => bAnd h (bNot k)) ?_)) : GMN X ops S N l e w := (goM_ok T l e [] hr hL h).2
end
end Go.Vg
end
section
namespace Go.Vg
open Go.RowKit

/-- bytes as a row's elements -/
def bysC (l : List UInt8) : List (List Value) := l.map fun b => [U b]
theorem bysC_len (l : List UInt8) : (bysC l).length = l.length := by simp [bysC]
theorem bysC_get {l : List UInt8} {i : Nat} (h : i < l.length) : (bysC l)[i]? = some [U (l.getD i 0)] := by
  simp [bysC, List.getD, h]
theorem bysC_k (l : List UInt8) : ∀ x ∈ bysC l, x.length = 1 := by
  intro y hy
  obtain ⟨b, _, rfl⟩ := List.mem_map.1 hy
  rfl
/-- a row of bytes -/
abbrev By (w : World) (v : Value) (l : List UInt8) : Prop := Sli w v 1 (bysC l)

theorem Owns.wr2 {w w' : World} {b B : Nat} {v : Value} {et k : Nat} {xs : List (List Value)} (h : Owns w B v et k xs) (hx : Wr b w w') (hb : some b ≠ v.ownBlock) : Owns w' B v et k xs := by
  obtain ⟨⟨hl, h⟩, hk⟩ := h
  refine ⟨⟨hl, ?_⟩, hk⟩
  rcases h with h | ⟨g, cap, cur, h1, h2, h3, h4⟩
  · exact .inl h
  · refine .inr ⟨g, cap, cur, h1, h2, ?_, h4⟩
    rw [hx.block g (fun e => hb (by rw [h1, e]; rfl))]; exact h3
theorem wrap_u64 {n : Int} (h0 : 0 ≤ n) (h1 : n ≤ 18446744073709551615) : IntKind.u64.wrap n = n := by
  have hb : IntKind.u64.bits = 64 := rfl
  have hs : IntKind.u64.signed = false := rfl
  unfold IntKind.wrap
  simp only [hb, hs, Bool.false_and]
  have e1 : (2 : Int) ^ 64 = 18446744073709551616 := by decide
  rw [e1]
  simp only [Bool.false_eq_true, if_false]
  omega
theorem wrap_u8 (n : Int) : IntKind.u8.wrap n = n % 256 := by
  have hb : IntKind.u8.bits = 8 := rfl
  have hs : IntKind.u8.signed = false := rfl
  unfold IntKind.wrap
  simp only [hb, hs, Bool.false_and]
  have e1 : (2 : Int) ^ 8 = 256 := by decide
  rw [e1]
  simp
section
variable {X : Cx} {ops : Array Oper} {l : List Oper} {k : List Kt} {e : Env} {w : World} {N : Env → World → Prop} {d : Nat} {c : Option Bool} {ty : TypeId} {pos : String} {af : Array Edge} {g : Option (Nat × Bool)}

/-- shifted to the right by a fixed number -/
theorem Step.shr {xt yt : TypeId} {x y : Operand} {q qy : IntKind} {a r : Int} {n : Nat} (hg : guardE ops e ⟨some d, .binOp .shr xt x y yt, ty, pos, af, g⟩ = some c)
    (hx : Op1 e c x (.int q a)) (hy : Op1 e c y (.int qy n)) (hr : a / 2 ^ n = r) (hb : n ≤ q.bits) (hn : Nat.blt d X.n = true)
    (h : N ((d, c, .int q r) :: e) w) : Step X ops ⟨some d, .binOp .shr xt x y yt, ty, pos, af, g⟩ e w N :=
  Step.quiet rfl (by simpa [Nat.blt_eq] using hn) hg (fun _ hh => by cases hh) (fun t hf hc => by
    have h1 := shift_shr q qy a n (by omega) (by omega)
    simp only [Int.toNat_natCast, hr] at h1
    simp only [execOp, hx.val hf hc, hy.val hf hc]
    simp [go_sem, h1]) h
/-- an array value -/
theorem Step.buildA (T : Tb X.P) {t k q by1 by2 m et : Nat} {z z2 : Value} {zs us : List Value} {parts : Array (Nat × Operand)} {lo : List (Nat × Operand)} {vs : List (Nat × Value)}
    (hg : guardE ops e ⟨some d, .build t parts, ty, pos, af, g⟩ = some none)
    (hp : parts = ⟨lo⟩) (hvs : evps e lo = some vs) (ht : T.ty t = some (.array m et)) (hi : T.inf t = some (z, k, by1)) (hi2 : T.inf et = some (z2, q, by2)) (hz : z.cells = ⟨zs⟩)
    (hfill : Instr.fill (fun i => some (i * q, q)) ⟨zs⟩ vs = some ⟨us⟩) (hn : Nat.blt d X.n = true)
    (h : N ((d, none, .agg ⟨us⟩) :: e) w) : Step X ops ⟨some d, .build t parts, ty, pos, af, g⟩ e w N := by
  obtain ⟨i, hi1, hi2', hi3, hi4⟩ := T.iok _ _ _ _ hi
  have hT := T.ok _ _ ht
  have hz' : (zeroValue t).run X.P w = .ok z w := by simp [zeroValue, typeInfo, hi1, hi2']
  refine Step.quiet rfl (by simpa [Nat.blt_eq] using hn) hg (fun _ hh => by cases hh) (fun t' hf _ => ?_) h
  have h1 := evps_map (ds := X.ds) hf hvs
  subst hp
  have h2 : (Array.mk lo).map (fun x : Nat × Operand => match x with | (i, x) => (i, (Act.mk t' X.ds).eval x)) = ⟨vs⟩ := by
    rw [show (fun x : Nat × Operand => match x with | (i, x) => (i, (Act.mk t' X.ds).eval x)) = (fun p => (p.1, (Act.mk t' X.ds).eval p.2)) from rfl]
    simp [h1]
  simp only [execOp, Instr.build, h2, Sem.run_bind, run_underlying hT, Result.andThen_ok, hz', hz, run_sizeOf hi2, hfill, Sem.run_pure]
theorem sBa (T : Tb X.P) {t k' q by1 by2 m et : Nat} {z z2 : Value} {zs us : List Value} {parts : Array (Nat × Operand)} {lo : List (Nat × Operand)} {vs : List (Nat × Value)}
    (h : GL X ops l k ((d, none, .agg ⟨us⟩) :: e) w) (hg : guardE ops e ⟨some d, .build t parts, ty, pos, af, g⟩ = some none := by exact rfl)
    (hp : parts = ⟨lo⟩ := by exact rfl) (hvs : evps e lo = some vs := by exact rfl) (ht : T.ty t = some (.array m et) := by exact rfl) (hi : T.inf t = some (z, k', by1) := by exact rfl) (hi2 : T.inf et = some (z2, q, by2) := by exact rfl) (hz : z.cells = ⟨zs⟩ := by exact rfl)
    (hfill : Instr.fill (fun i => some (i * q, q)) ⟨zs⟩ vs = some ⟨us⟩ := by exact rfl) (hn : Nat.blt d X.n = true := by exact rfl) :
    GL X ops (⟨some d, .build t parts, ty, pos, af, g⟩ :: l) k e w := GL.cons (Step.buildA T hg hp hvs ht hi hi2 hz hfill hn h)

/-- sums of any kind, as they are wrapped -/
theorem sAr {op : BinOp} {xt yt : TypeId} {x y : Operand} {q : IntKind} {a b r : Int} (h : GL X ops l k ((d, c, .int q r) :: e) w)
    (hg : guardE ops e ⟨some d, .binOp op xt x y yt, ty, pos, af, g⟩ = some c := by exact rfl) (hx : Op1 e c x (.int q a) := by exact Op1.of rfl (by first | exact fun _ => rfl | exact fun h => h)) (hy : Op1 e c y (.int q b) := by exact Op1.of rfl (by first | exact fun _ => rfl | exact fun h => h))
    (hp : match op with | .add => q.wrap (a + b) = r | .sub => q.wrap (a - b) = r | .mul => q.wrap (a * b) = r | _ => False := by exact rfl) (hn : Nat.blt d X.n = true := by exact rfl) :
    GL X ops (⟨some d, .binOp op xt x y yt, ty, pos, af, g⟩ :: l) k e w := GL.cons (Step.arith hg hx hy hp hn h)
/-- the other sign -/
theorem Step.neg {xt : TypeId} {x : Operand} {q : IntKind} {a r : Int} (hg : guardE ops e ⟨some d, .unOp .neg xt x, ty, pos, af, g⟩ = some c)
    (hx : Op1 e c x (.int q a)) (hr : q.wrap (0 - a) = r) (hn : Nat.blt d X.n = true)
    (h : N ((d, c, .int q r) :: e) w) : Step X ops ⟨some d, .unOp .neg xt x, ty, pos, af, g⟩ e w N :=
  Step.quiet rfl (by simpa [Nat.blt_eq] using hn) hg (fun _ hh => by cases hh) (fun t hf hc => by
    simp only [execOp, hx.val hf hc]
    simp [go_sem, Op.intArith, ← hr]) h
/-- structs of texts and whole numbers held against each other -/
theorem Step.eqSt (T : Tb X.P) {op : BinOp} {xt yt : TypeId} {x y : Operand} {a b : List Value} {r : Bool} {fs : Array Field} (hg : guardE ops e ⟨some d, .binOp op xt x y yt, ty, pos, af, g⟩ = some c)
    (hx : Op1 e c x (.agg ⟨a⟩)) (hy : Op1 e c y (.agg ⟨b⟩)) (ht : T.ty xt = some (.struct fs)) (hp : X.P.stoodInHeld xt = false) (hm : X.P.eqGuardType X.P.depth xt = false)
    (hq : ∀ w, (Op.eqFields 9999 ⟨a⟩ ⟨b⟩ fs.toList).run X.P w = .ok r w) (hn : Nat.blt d X.n = true)
    (ho : op = .eql ∨ op = .neq) (h : N ((d, c, .bool (match op with | .eql => r | _ => !r)) :: e) w) : Step X ops ⟨some d, .binOp op xt x y yt, ty, pos, af, g⟩ e w N := by
  have hT := T.ok _ _ ht
  have hfs : X.P.fieldsOf xt = fs := by simp [Program.fieldsOf, hT]
  have he : ∀ w, (Op.equalIn 10000 xt (.agg ⟨a⟩) (.agg ⟨b⟩)).run X.P w = .ok r w := fun w => by
    rw [show (10000 : Nat) = 9999 + 1 from rfl, run_equalIn_struct w 9999 xt _ _ (by rw [hfs]; exact hT) hp, hfs]; exact hq w
  refine Step.eqA hg hx hy (fun w => ?_) hn h
  rcases ho with rfl | rfl
  · simp only [Sem.run_bind, run_eqGuard_agg w _ _ _ _ _ _ hm, Result.andThen_ok, run_eql_struct, he]
  · simp only [Sem.run_bind, run_eqGuard_agg w _ _ _ _ _ _ hm, Result.andThen_ok, run_neq_struct, he]
theorem sShr {xt yt : TypeId} {x y : Operand} {q qy : IntKind} {a r : Int} {n : Nat} (hr : a / 2 ^ n = r) (h : GL X ops l k ((d, c, .int q r) :: e) w)
    (hg : guardE ops e ⟨some d, .binOp .shr xt x y yt, ty, pos, af, g⟩ = some c := by exact rfl) (hx : Op1 e c x (.int q a) := by exact Op1.of rfl (by first | exact fun _ => rfl | exact fun h => h)) (hy : Op1 e c y (.int qy n) := by exact Op1.of rfl (by first | exact fun _ => rfl | exact fun h => h)) (hb : n ≤ q.bits := by exact of_decide_eq_true rfl) (hn : Nat.blt d X.n = true := by exact rfl) :
    GL X ops (⟨some d, .binOp .shr xt x y yt, ty, pos, af, g⟩ :: l) k e w := GL.cons (Step.shr hg hx hy hr hb hn h)
end
end Go.Vg
end
section
namespace Go.Vg
open Go.RowKit

section steps
variable {X : Cx} {ops : Array Oper} {l : List Oper} {k : List Kt} {e : Env} {w : World} {N : Env → World → Prop} {d : Nat} {c : Option Bool} {ty : TypeId} {pos : String} {af : Array Edge} {g : Option (Nat × Bool)}
theorem Step.rem {xt yt : TypeId} {x y : Operand} {q : IntKind} {a b r : Int} (hg : guardE ops e ⟨some d, .binOp .rem xt x y yt, ty, pos, af, g⟩ = some c)
    (hx : Op1 e c x (.int q a)) (hy : Op1 e c y (.int q b)) (hb : cv c = true → b ≠ 0) (hr : a.tmod b = r) (hn : Nat.blt d X.n = true)
    (h : N ((d, c, .int q r) :: e) w) : Step X ops ⟨some d, .binOp .rem xt x y yt, ty, pos, af, g⟩ e w N :=
  Step.quiet rfl (by simpa [Nat.blt_eq] using hn) hg (fun _ hh => by cases hh) (fun t hf hc => by
    have h0 := hb hc
    simp only [execOp, hx.val hf hc, hy.val hf hc]
    simp [go_sem, Op.intDiv, h0, hr]) h
theorem sRem {xt yt : TypeId} {x y : Operand} {q : IntKind} {a b r : Int} (hr : a.tmod b = r) (h : GL X ops l k ((d, c, .int q r) :: e) w) (hg : guardE ops e ⟨some d, .binOp .rem xt x y yt, ty, pos, af, g⟩ = some c := by exact rfl)
    (hx : Op1 e c x (.int q a) := by exact Op1.of rfl (by first | exact fun _ => rfl | exact fun h => h | exact fun h => bL h)) (hy : Op1 e c y (.int q b) := by exact Op1.of rfl (by first | exact fun _ => rfl | exact fun h => h | exact fun h => bL h))
    (hb : cv c = true → b ≠ 0 := by intro _; omega) (hn : Nat.blt d X.n = true := by exact rfl) :
    GL X ops (⟨some d, .binOp .rem xt x y yt, ty, pos, af, g⟩ :: l) k e w := GL.cons (Step.rem hg hx hy hb hr hn h)
end steps

theorem Df.lt {r : Nat} {w : World} (h : Df r w) : r < w.heap.size := (Array.getElem?_eq_some_iff.1 h).1
theorem Df.kept {l r : Nat} {w w' : World} (h : Df r w) (hk : Kept l w w') : Df r w' := hk.block h (fun _ hh => by cases hh)

theorem Df.outW {r r' : Nat} {w : World} (h : Df r w) (hne : r ≠ r') : Df r (outW r' w) := by
  unfold Df at *
  rw [World.putObj_heap_other hne]; exact h
end Go.Vg
end
section
namespace Go.Vg
open Go.RowKit

theorem run_storeCells_t (P : Program) (t : TypeId) : ∀ (vs : List Value) (b o i : Nat) (us : List Value) (w : World), w.heap[b]? = some (.cells ⟨us⟩ t (0, 0)) → o + i + vs.length ≤ us.length → (∀ v ∈ vs, v.oneCell' = true) →
    ∃ w', (storeCells ⟨b, o, none⟩ vs i).run P w = .ok () w' ∧ Wr b w w' ∧ w'.heap[b]? = some (.cells ⟨us.take (o + i) ++ vs ++ us.drop (o + i + vs.length)⟩ t (0, 0))
  | [], b, o, i, us, w, h, _, _ => ⟨w, by simp [storeCells], Wr.refl b w, by simpa using h⟩
  | v :: r, b, o, i, us, w, hb, hl, h1 => by
    simp only [List.length_cons] at hl
    have hc : (w.cell? ⟨b, o + i, none⟩).isSome = true := by
      rw [cell_of_row w b (o + i) ⟨us⟩ t (0, 0) hb]; simp; omega
    obtain ⟨u0, hu0⟩ := Option.isSome_iff_exists.1 hc
    have hf : w.frozen? ⟨b, o + i, none⟩ = false := frozen_of_row w b (o + i) ⟨us⟩ t hb
    have hst := run_store P w ⟨b, o + i, none⟩ v .plain (h1 v (by simp))
    rw [hu0] at hst
    simp only [hf, Bool.false_eq_true, if_false] at hst
    have hb2 : (w.setCell ⟨b, o + i, none⟩ v).heap[b]? = some (.cells ⟨us.set (o + i) v⟩ t (0, 0)) := by
      have := heap_setCell_same w b (o + i) ⟨us⟩ t v hb
      simpa using this
    obtain ⟨w', hr, hw, hx⟩ := run_storeCells_t P t r b o (i + 1) _ _ hb2 (by simp; omega) (fun u hu => h1 u (by simp [hu]))
    refine ⟨w', ?_, (Wr.setCell w b (o + i) v).trans hw, ?_⟩
    · simp only [storeCells, Sem.run_bind, Addr.add_lit, hst, Result.andThen_ok, hr]
    · have e : (us.set (o + i) v).take (o + (i + 1)) ++ r ++ (us.set (o + i) v).drop (o + (i + 1) + r.length) = us.take (o + i) ++ (v :: r) ++ us.drop (o + i + (v :: r).length) := by
        have h3 : o + i < us.length := by omega
        rw [show o + (i + 1) = (o + i) + 1 by omega, List.take_set, List.drop_set_of_lt (by omega)]
        rw [List.take_succ_eq_append_getElem (by simpa using h3)]
        rw [List.set_append_right _ _ (by simp; omega)]
        simp [show min (o + i) us.length = o + i by omega]
        congr 1; omega
      rw [← e]; exact hx

theorem flatten_take {k : Nat} : ∀ (xs : List (List Value)) (j : Nat), (∀ x ∈ xs, x.length = k) → (xs.take j).flatten = xs.flatten.take (j * k)
  | [], j, _ => by simp
  | x :: xs, 0, _ => by simp
  | x :: xs, j + 1, h => by
    have hx := h x (by simp)
    rw [List.take_succ_cons, List.flatten_cons, List.flatten_cons, flatten_take xs j (fun y hy => h y (by simp [hy])), Nat.add_mul, Nat.one_mul, Nat.add_comm, List.take_append_of_le_length' hx]
  where
  List.take_append_of_le_length' {x : List Value} {l : List Value} {k m : Nat} (hx : x.length = k) : (x ++ l).take (k + m) = x ++ l.take m := by
    rw [List.take_append, List.take_of_length_le (by omega)]
    congr 2; omega
theorem flatten_drop {k : Nat} (xs : List (List Value)) (j : Nat) (h : ∀ x ∈ xs, x.length = k) : (xs.drop j).flatten = xs.flatten.drop (j * k) := by
  have h1 := flatten_take xs j h
  have h2 : xs.flatten = (xs.take j).flatten ++ (xs.drop j).flatten := by rw [← List.flatten_append, List.take_append_drop]
  by_cases hj : j ≤ xs.length
  · have hl : (xs.take j).flatten.length = j * k := by
      rw [flatten_length _ (fun x hx => h x (List.mem_of_mem_take hx)), List.length_take, Nat.min_eq_left hj]
    rw [h2, List.drop_append_of_le_length (by omega), List.drop_of_length_le (l := (xs.take j).flatten) (by omega), List.nil_append]
  · rw [List.drop_of_length_le (by omega), List.flatten_nil, List.drop_of_length_le]
    rw [flatten_length _ h]; exact Nat.mul_le_mul_right _ (by omega)
theorem flatten_set {k : Nat} (xs : List (List Value)) (j : Nat) (x : List Value) (h : ∀ x ∈ xs, x.length = k) (_ : x.length = k) (hj : j < xs.length) :
    (xs.set j x).flatten = xs.flatten.take (j * k) ++ x ++ xs.flatten.drop (j * k + k) := by
  have e : xs.set j x = xs.take j ++ x :: xs.drop (j + 1) := by
    rw [List.set_eq_take_append_cons_drop, if_pos hj]
  rw [e, List.flatten_append, List.flatten_cons, flatten_take xs j h, flatten_drop xs (j + 1) h, Nat.add_mul, Nat.one_mul, List.append_assoc]

theorem Grew.trans {B : Nat} {u : Value} {w w1 w2 : World} (h : Grew B u w w1) (k : Grew B u w1 w2) : Grew B u w w2 :=
  ⟨fun _ hb => k.below _ (h.below _ hb), Nat.le_trans h.size k.size, fun q hq hne => (k.block q (Nat.lt_of_lt_of_le hq h.size) hne).trans (h.block q hq hne)⟩
theorem Grew.ofExt {B : Nat} {u : Value} {w w1 : World} (h : Ext w w1) (hB : B ≤ w.heap.size) : Grew B u w w1 :=
  ⟨fun _ hb => Below.ext hb h hB, h.size, fun q hq _ => h.block q hq⟩
theorem Grew.refl (B : Nat) (u : Value) (w : World) : Grew B u w w := ⟨fun _ h => h, Nat.le_refl _, fun _ _ _ => rfl⟩

/-- the result lies in a box -/
theorem resA {P : Program} {fn : Func} {n : Nat} {e : Env} {t : Array Value} (T : Tb P) (hf : Fits n e t) {s ty sz b : Nat} {z p : Value} {us : List Value} {d : TypeDesc} (hr : fn.results = #[.cell s ty]) (hv : look e s = some (none, p))
    (ht : T.ty ty = some d) (ha : aggT d = true) (hi : T.inf ty = some (z, sz, b)) (hl : us.length = sz) {w : World} (hc : CellsAt w p us) : (results fn t).run P w = .ok (.agg ⟨us⟩) w := by
  obtain ⟨a, rfl, _, hc⟩ := hc
  subst hl
  have h1 : t.getD s undef = .pointer (some a) := (hf.get _ _ _ hv).2
  have h0 := run_loadCells_list (P := P) w a us hc
  have h2 : (loadVar ty a).run P w = .ok (.agg ⟨us⟩) w := by
    simp only [loadVar, Sem.run_bind, Sem.run_pure, Result.andThen_ok, run_isAgg (T.ok _ _ ht), ha, if_true, run_sizeOf hi, h0]
  simp only [results, hr, List.mapM_toArray, List.mapM_cons, List.mapM_nil, h1, asAddr, Sem.run_bind, Sem.run_map, Sem.run_pure, Result.andThen_ok, h2]
  rfl
theorem G.retA {X : Cx} {k : List Kt} {e : Env} {w : World} {P : Program} {fn : Func} {R : Value → World → Prop} (T : Tb P) (hX : X.fin = retFin P fn R) (hd : X.ds = []) {s ty sz b : Nat} {z p : Value} {us : List Value} {td : TypeDesc}
    (hc : CellsAt w p us) (h : R (.agg ⟨us⟩) w) (hr : fn.results = #[.cell s ty]) (hv : look e s = some (none, p)) (ht : T.ty ty = some td) (ha : aggT td = true) (hi : T.inf ty = some (z, sz, b)) (hl : us.length = sz) : G X (.code .ret :: k) e w := by
  refine G.ret fun t hf => ?_
  rw [hX, hd]
  exact ⟨rfl, _, resA T hf hr hv ht ha hi hl hc, _, rfl, h⟩

section
variable {X : Cx} {ops : Array Oper} {l : List Oper} {kk : List Kt} {e : Env} {w : World} {N : Env → World → Prop} {d : Nat} {c : Option Bool} {ty : TypeId} {pos : String} {af : Array Edge} {g : Option (Nat × Bool)}

/-- an element of a row of one's own is stored -/
theorem Step.storeRow (T : Tb X.P) {x y : Operand} {t : TypeId} {v u z : Value} {vs : List Value} {k by_ B et j : Nat} {xs : List (List Value)} (hg : guardE ops e ⟨none, .store t x y, ty, pos, af, g⟩ = some none)
    (hx : Op1 e none x (padd v (j * k))) (hy : Op1 e none y u) (hi : T.inf t = some (z, k, by_)) (hv : u.cells = ⟨vs⟩) (hs : vs.length = k) (h1 : ∀ v ∈ vs, v.oneCell' = true)
    (ho : Owns w B v et k xs) (hj : j < xs.length)
    (h : ∀ w', Owns w' B v et k (xs.set j vs) → Grew B v w w' → N e w') : Step X ops ⟨none, .store t x y, ty, pos, af, g⟩ e w N := by
  have ho' := ho
  obtain ⟨⟨hl, hr⟩, hk, hb⟩ := ho
  rcases hr with ⟨rfl, hn⟩ | ⟨gb, cap, ⟨us⟩, rfl, hB, hgb, hc, hm, hsz, htk⟩
  · omega
  · have hle : xs.length * k ≤ cap * k := Nat.mul_le_mul_right _ hc
    have hjk : (j + 1) * k ≤ xs.length * k := Nat.mul_le_mul_right _ hj
    rw [Nat.add_mul, Nat.one_mul] at hjk
    have hus : us.length = cap * k := hsz
    simp only at htk
    obtain ⟨w', hrun, hw, hx'⟩ := run_storeCells_t X.P et vs gb (j * k) 0 us w hgb (by omega) h1
    rw [Nat.add_zero, hs] at hx'
    refine Step.effNone rfl hg (fun _ hh => by cases hh) (w' := w') (fun t' hf => ?_) (h w' ?_ ?_)
    · have hp : padd (Value.slice (some ⟨gb, 0, none⟩) xs.length cap) (j * k) = .pointer (some ⟨gb, j * k, none⟩) := by simp [padd, Addr.add_lit]
      have hsz' : ¬ ((⟨vs⟩ : Array Value).size ≠ k) := by simp [hs]
      simp only [execOp, hx.val hf rfl, hy.val hf rfl, hp, Instr.storeAt, Instr.sureAddr, storeVar, Sem.run_bind, Sem.run_pure, Result.andThen_ok, run_sizeOf hi, hv, if_neg hsz', hrun]
    · have hfl := flatten_set xs j vs hk hs hj
      refine ⟨⟨?_, .inr ⟨gb, cap, _, by rw [List.length_set], hB, hx', by rw [List.length_set]; exact hc, hm, ?_, ?_⟩⟩, ?_, by rw [List.length_set]; exact hb⟩
      · rw [flatten_length _ (fun y hy => by
          rcases List.mem_or_eq_of_mem_set hy with hy | rfl
          · exact hk y hy
          · exact hs)]
      · simp only [List.size_toArray, List.length_append, List.length_take, List.length_drop]; omega
      · rw [List.length_set, hfl, ← htk]
        simp only [List.append_assoc]
        rw [List.take_append, List.length_take, Nat.min_eq_left (by omega), List.take_of_length_le (by rw [List.length_take]; omega), List.take_append, hs, List.take_of_length_le (l := vs) (by omega), List.take_take, Nat.min_eq_left (by omega)]
        congr 2
        rw [List.drop_take]
        congr 1; omega
      · intro y hy
        rcases List.mem_or_eq_of_mem_set hy with hy | rfl
        · exact hk y hy
        · exact hs
    · exact ⟨fun w0 hb0 => hb0.wr hw hB, by rw [hw.size]; exact Nat.le_refl _, fun q hq hne => hw.block q (fun e => hne (by rw [e]; rfl))⟩
theorem sStR (T : Tb X.P) {x y : Operand} {t : TypeId} {v u z : Value} {vs : List Value} {k by_ B et j : Nat} {xs : List (List Value)} (ho : Owns w B v et k xs) (hj : j < xs.length)
    (h : ∀ w', Owns w' B v et k (xs.set j vs) → Grew B v w w' → GL X ops l kk e w') (hg : guardE ops e ⟨none, .store t x y, ty, pos, af, g⟩ = some none := by exact rfl)
    (hx : Op1 e none x (padd v (j * k)) := by exact Op1.of rfl (fun _ => rfl)) (hy : Op1 e none y u := by exact Op1.of rfl (fun _ => rfl)) (hi : T.inf t = some (z, k, by_) := by exact rfl) (hv : u.cells = ⟨vs⟩ := by exact rfl) (hs : vs.length = k := by exact rfl) (h1 : ∀ v ∈ vs, v.oneCell' = true := by simp [Value.oneCell', S, U]) :
    GL X ops (⟨none, .store t x y, ty, pos, af, g⟩ :: l) kk e w := GL.cons (Step.storeRow T hg hx hy hi hv hs h1 ho hj h)

end
end Go.Vg
end
section
namespace Go.Vg
open Go.RowKit

theorem By.sub {w : World} {v : Value} {l : List UInt8} (h : By w v l) {a b : Nat} (ha : a ≤ b) (hb : b ≤ l.length) : By w (subS v 1 a b) ((l.drop a).take (b - a)) := by
  have := Sli.sub h ha (by rw [bysC_len]; exact hb)
  unfold By bysC at *
  rw [List.map_take, List.map_drop]; exact this
/-- stands for a block, where a row's effect is spoken of -/
def blk (b : Nat) : Value := .slice (some ⟨b, 0, none⟩) 0 0
section
variable {X : Cx} {ops : Array Oper} {l : List Oper} {k : List Kt} {e : Env} {w : World} {N : Env → World → Prop} {S : World → Prop} {lb : List (Oper × Bool)} {d : Nat} {c : Option Bool} {ty : TypeId} {pos : String} {af : Array Edge} {g : Option (Nat × Bool)}
end
end Go.Vg
end
section
namespace Go.Vg
open Go.RowKit

/-- where a row lies behind an append: where it lay, or in new memory -/
def Own2 (w : World) (v v' : Value) : Prop := v'.ownBlock = v.ownBlock ∨ v'.ownBlock = some w.heap.size
theorem Own2.refl (w : World) (v : Value) : Own2 w v v := .inl rfl

section
variable {X : Cx} {ops : Array Oper} {l : List Oper} {kk : List Kt} {e : Env} {w : World} {N : Env → World → Prop} {d : Nat} {c : Option Bool} {ty : TypeId} {pos : String} {af : Array Edge} {g : Option (Nat × Bool)}

theorem Step.append2 (T : Tb X.P) {x y : Operand} {t et : TypeId} {v u z : Value} {k bytes B : Nat} {xs ys : List (List Value)}
    (hg : guardE ops e ⟨some d, .call { callee := .builtin .append, args := #[x, y], argTypes := #[t, t] }, ty, pos, af, g⟩ = some none)
    (hx : Op1 e none x v) (hy : Op1 e none y u) (ht : T.ty t = some (.slice et)) (hi : T.inf et = some (z, k, bytes)) (hk : Nat.blt 0 k = true) (hz : z.cells.size = k)
    (hv : Owns w B v et k xs) (hu : Sli w u k ys) (h1 : ∀ y ∈ ys, ∀ c ∈ y, c.oneCell' = true) (hb : (xs.length + ys.length) * bytes ≤ 140737488355328) (hl : xs.length + ys.length ≤ 140737488355328)
    (hB : B ≤ w.heap.size) (hn : Nat.blt d X.n = true)
    (h : ∀ v' w', Owns w' B v' et k (xs ++ ys) → Grew B v w w' → Own2 w v v' → N ((d, none, v') :: e) w') :
    Step X ops ⟨some d, .call { callee := .builtin .append, args := #[x, y], argTypes := #[t, t] }, ty, pos, af, g⟩ e w N := by
  obtain ⟨i, hi1, hi2, hi3, hi4⟩ := T.iok _ _ _ _ hi
  have hT := T.ok _ _ ht
  have hk' : 0 < k := by simpa [Nat.blt_eq] using hk
  rcases hu with ⟨rfl, rfl⟩ | ⟨a, cap, rfl, hs, hc, hyl, hcell, hyb⟩
  · have hr := run_append_owned_none (P := X.P) w B t ty et i k hT hi1 v xs.length xs.flatten hv.1
    refine Step.eff (v := v) (w' := w) rfl (by simpa [Nat.blt_eq] using hn) hg (fun _ hh => by cases hh) (fun t' hf => run_builtin2 (hx.val hf rfl) (hy.val hf rfl) fun cs => ?_) (h v w (by simpa using hv) ⟨fun _ h => h, Nat.le_refl _, fun _ _ _ => rfl⟩ (.inl rfl))
    simp only [builtin, Sem.run_bind, hr, Result.andThen_ok, Sem.run_pure]
  · have hfl := flatten_length ys hyl
    have hnews : ∀ j u, ys.flatten[j]? = some u → w.cell? (a.add j) = some u := fun j u hj => by
      have hj' : j < ys.length * k := by rw [← hfl]; exact (List.getElem?_eq_some_iff.1 hj).1
      have hq : j / k < ys.length := Nat.div_lt_of_lt_mul (by rw [Nat.mul_comm]; exact hj')
      have hyq : ys[j / k]? = some ys[j / k] := List.getElem?_eq_getElem hq
      have hlen : (ys[j / k]).length = k := hyl _ (List.getElem_mem hq)
      have hr' : j % k < (ys[j / k]).length := by rw [hlen]; exact Nat.mod_lt _ hk'
      have hu2 := List.getElem?_eq_getElem hr'
      have e1 : j / k * k + j % k = j := by rw [Nat.mul_comm]; exact Nat.div_add_mod j k
      have h5 := flatten_get ys hyl _ _ hyq _ _ hu2
      rw [e1, hj] at h5
      cases h5
      have := hcell _ _ hyq _ _ hu2
      rwa [e1] at this
    have hone : ∀ u ∈ ys.flatten, u.oneCell' = true := fun u hu => by obtain ⟨y, hy, hu'⟩ := List.mem_flatten.1 hu; exact h1 y hy u hu'
    obtain ⟨v', w', hr, h2, h3, _⟩ := run_append_own (P := X.P) w B t ty et i z k bytes hT hi1 hi2 hi3 hi4 hz hk' v xs.length xs.flatten hv.1 a ys.length cap ys.flatten hfl hnews hone (by unfold maxLen; omega) hb hB
    have hwhere : Own2 w v v' := by
      rcases hv.1.2 with ⟨rfl, hnil⟩ | ⟨gb, cp, cur, rfl, _, hgb, hcp, _, hsz, htk⟩
      · by_cases hm : ys.length = 0
        · have he : ys = [] := List.eq_nil_of_length_eq_zero hm
          subst he
          rcases h2.2 with ⟨rfl, _⟩ | ⟨g2, c2, cur2, rfl, _, hg2, _, _, _, _⟩
          · exact .inl rfl
          · by_cases hlt : g2 < w.heap.size
            · exfalso
              have hr0 : (Builtin.append_ #[t, t] ty #[.slice none 0 0, .slice (some a) 0 cap]).run X.P w = .ok (.slice none 0 0) w := by
                simp [Builtin.append_, run_underlying hT, sizeOf, typeInfo, hi1, Builtin.lenOf, Builtin.firstCells, loadCells, loadCellsFrom]
              rw [List.length_nil, hr0] at hr
              cases hr
            · have hr0 : (Builtin.append_ #[t, t] ty #[.slice none 0 0, .slice (some a) 0 cap]).run X.P w = .ok (.slice none 0 0) w := by
                simp [Builtin.append_, run_underlying hT, sizeOf, typeInfo, hi1, Builtin.lenOf, Builtin.firstCells, loadCells, loadCellsFrom]
              rw [List.length_nil, hr0] at hr
              cases hr
        · have h48 : ys.length * i.bytes ≤ 281474976710656 := by
            rw [hi4]
            have := Nat.mul_le_mul_right bytes (Nat.le_add_left ys.length xs.length)
            omega
          have hr2 := run_append_nil (P := X.P) w t ty et i z hT hi1 hi2 a ys.length cap ys.flatten (by rw [hi3]; exact hfl) hnews (by omega) (by omega) h48
          rw [hr2] at hr
          cases hr
          exact .inr rfl
      · by_cases hroom : xs.length + ys.length ≤ cp
        · have hr2 := run_append_room (P := X.P) w t ty et i hT hi1 gb xs.length cp cur hgb a ys.length cap ys.flatten (by rw [hi3]; exact hfl) hnews hone hroom (by rw [hi3, hfl, hsz, ← Nat.add_mul]; exact Nat.mul_le_mul_right _ hroom)
          rw [hr2] at hr
          cases hr
          exact .inl rfl
        · have holds : ∀ j u, xs.flatten[j]? = some u → w.cell? ((⟨gb, 0, none⟩ : Addr).add j) = some u := hv.1.cells (g := gb) rfl
          have hr2 := run_append_grow (P := X.P) w t ty et i z hT hi1 hi2 ⟨gb, 0, none⟩ xs.length cp xs.flatten (by rw [hi3]; exact hv.1.1) holds a ys.length cap ys.flatten (by rw [hi3]; exact hfl) hnews (by omega) (by omega) (growslice_fits (by omega) (by rw [hi4]; exact hb))
          rw [hr2] at hr
          cases hr
          exact .inr rfl
    have hown : Owns w' B v' et k (xs ++ ys) := by
      refine ⟨?_, ?_, by simpa using hl⟩
      · rw [List.length_append, List.flatten_append]; exact h2
      · intro x hx
        rcases List.mem_append.1 hx with hx | hx
        · exact hv.2.1 x hx
        · exact hyl x hx
    refine Step.eff (v := v') (w' := w') rfl (by simpa [Nat.blt_eq] using hn) hg (fun _ hh => by cases hh) (fun t' hf => run_builtin2 (hx.val hf rfl) (hy.val hf rfl) fun cs => ?_)
      (h v' w' hown ⟨fun w0 hb0 => hb0.grown h3 hB (fun k hk => by
        rcases hv.1.2 with ⟨rfl, _⟩ | ⟨g, cap, cur, rfl, hBg, _⟩
        · simp [Value.ownBlock] at hk
        · simp [Value.ownBlock] at hk; omega), h3.size, h3.block⟩ hwhere)
    simp only [builtin, Sem.run_bind, hr, Result.andThen_ok, Sem.run_pure]
theorem sApp2 (T : Tb X.P) {x y : Operand} {t et : TypeId} {v u z : Value} {q bytes B : Nat} {xs ys : List (List Value)} (hv : Owns w B v et q xs) (hu : Sli w u q ys)
    (h : ∀ v' w', Owns w' B v' et q (xs ++ ys) → Grew B v w w' → Own2 w v v' → GL X ops l kk ((d, none, v') :: e) w')
    (h1 : ∀ y ∈ ys, ∀ c ∈ y, c.oneCell' = true := by intro y hy c hc; simp only [List.mem_cons, List.not_mem_nil, or_false] at hy; subst hy; simp only [List.mem_cons, List.not_mem_nil, or_false] at hc; rcases hc with rfl <;> rfl)
    (hg : guardE ops e ⟨some d, .call { callee := .builtin .append, args := #[x, y], argTypes := #[t, t] }, ty, pos, af, g⟩ = some none := by exact rfl)
    (hx : Op1 e none x v := by exact Op1.of rfl (fun _ => rfl)) (hy : Op1 e none y u := by exact Op1.of rfl (fun _ => rfl)) (ht : T.ty t = some (.slice et) := by exact rfl) (hi : T.inf et = some (z, q, bytes) := by exact rfl) (hk : Nat.blt 0 q = true := by exact rfl) (hz : z.cells.size = q := by exact rfl) (hn : Nat.blt d X.n = true := by exact rfl)
    (hb : (xs.length + ys.length) * bytes ≤ 140737488355328 := by simp only [List.length_map, List.length_append, List.length_cons, List.length_nil, List.length_take, List.length_drop]; omega)
    (hl : xs.length + ys.length ≤ 140737488355328 := by simp only [List.length_map, List.length_append, List.length_cons, List.length_nil, List.length_take, List.length_drop]; omega)
    (hB : B ≤ w.heap.size := by omega) :
    GL X ops (⟨some d, .call { callee := .builtin .append, args := #[x, y], argTypes := #[t, t] }, ty, pos, af, g⟩ :: l) kk e w := GL.cons (Step.append2 T hg hx hy ht hi hk hz hv hu h1 hb hl hB hn h)
end

end Go.Vg
end
section
namespace Go.Vg
open Go.RowKit
section
variable {X : Cx} {ops : Array Oper} {l : List Oper} {k : List Kt} {e : Env} {w : World} {N : Env → World → Prop} {d : Nat} {c : Option Bool} {ty : TypeId} {pos : String} {af : Array Edge} {g : Option (Nat × Bool)}
/-- a call whose arguments may have been made under conditions -/
theorem Step.callO {f : FuncId} {args : Array Operand} {ats : Array TypeId} {lo : List Operand} {vs : List Value} {R : Value → World → Prop}
    (hg : guardE ops e ⟨some d, .call { callee := .value (.func f), args := args, argTypes := ats }, ty, pos, af, g⟩ = some none)
    (ha : args = ⟨lo⟩) (hvs : OpL e none lo vs) (hf : Callable X.P f)
    (hn : Nat.blt d X.n = true) (hc : Ret X.P f ⟨vs⟩ w R)
    (h : ∀ v w', R v w' → N ((d, none, v) :: e) w') : Step X ops ⟨some d, .call { callee := .value (.func f), args := args, argTypes := ats }, ty, pos, af, g⟩ e w N :=
  Step.call rfl (by simpa [Nat.blt_eq] using hn) hg (fun _ hh => by cases hh) (fun t hft => by
    have := hvs.map (ds := X.ds) hft rfl
    subst ha
    have h2 : (Array.mk lo).map (Act.mk t X.ds).eval = ⟨vs⟩ := by simp [this]
    simp only [execOp, resolve, h2, Act.eval, Deferred.ofValue, Sem.run_bind, Sem.run_pure, Result.andThen_ok, invoke, Array.empty_append, Array.append_empty, run_callFunc hf]) hc h
end
end Go.Vg
end
section
namespace Go.Vg
open Go.RowKit

theorem Owns.shape {w : World} {B : Nat} {v : Value} {et k : Nat} {xs : List (List Value)} (h : Owns w B v et k xs) (h0 : 0 < xs.length) :
    ∃ g cap cur, v = .slice (some ⟨g, 0, none⟩) xs.length cap ∧ B ≤ g ∧ w.heap[g]? = some (.cells cur et (0, 0)) ∧ xs.length ≤ cap ∧ cap ≤ maxLen ∧ cur.size = cap * k ∧ cur.toList.take (xs.length * k) = xs.flatten := by
  rcases h.1.2 with ⟨_, hn⟩ | h
  · omega
  · exact h
/-- one element more of the room behind a row -/
theorem Owns.up {w : World} {B g cap : Nat} {et k : Nat} {xs : List (List Value)} (h : Owns w B (.slice (some ⟨g, 0, none⟩) xs.length cap) et k xs) (hc : xs.length < cap) (hb : xs.length + 1 ≤ 140737488355328) :
    ∃ y, Owns w B (.slice (some ⟨g, 0, none⟩) (xs.length + 1) cap) et k (xs ++ [y]) := by
  obtain ⟨⟨hl, hr⟩, hk, _⟩ := h
  rcases hr with ⟨hv, _⟩ | ⟨g', cap', cur, hv, hB, hg, hc', hm, hs, ht⟩
  · cases hv
  · cases hv
    have hle : (xs.length + 1) * k ≤ cap * k := Nat.mul_le_mul_right _ hc
    rw [Nat.add_mul, Nat.one_mul] at hle
    have hsz : cur.toList.length = cap * k := by rw [Array.length_toList]; exact hs
    have hy : ((cur.toList.drop (xs.length * k)).take k).length = k := by rw [List.length_take, List.length_drop]; omega
    refine ⟨(cur.toList.drop (xs.length * k)).take k, ⟨?_, .inr ⟨g, cap, cur, by simp, hB, hg, by simp; omega, hm, hs, ?_⟩⟩, ?_, by simp; omega⟩
    · simp only [List.flatten_append, List.length_append, hl, List.flatten_cons, List.flatten_nil, List.append_nil, hy, List.length_cons, List.length_nil, Nat.add_mul, Nat.zero_add, Nat.one_mul]
    · simp only [List.flatten_append, List.length_append, List.flatten_cons, List.flatten_nil, List.append_nil, List.length_cons, List.length_nil, Nat.add_mul, Nat.zero_add, Nat.one_mul]
      rw [← ht, List.take_add]
    · intro x hx
      rcases List.mem_append.1 hx with hx | hx
      · exact hk x hx
      · simp only [List.mem_cons, List.not_mem_nil, or_false] at hx
        subst hx; exact hy

/-- a row with others laid over it from one place on -/
def lay {α : Type} (xs : List α) (o : Nat) (ys : List α) : List α := xs.take o ++ ys ++ xs.drop (o + ys.length)
theorem lay_len {α : Type} {xs ys : List α} {o : Nat} (h : o + ys.length ≤ xs.length) : (lay xs o ys).length = xs.length := by simp [lay]; omega

theorem cellsOf {w : World} {a : Addr} {k : Nat} {ys : List (List Value)} {n cap : Nat} (hs : Sli w (.slice (some a) n cap) k ys) (hk : 0 < k) : ∀ j u, ys.flatten[j]? = some u → w.cell? (a.add j) = some u := by
  rcases hs with ⟨h, _⟩ | ⟨a', cap', hv, hsp, hc, hyl, hcell, hyb⟩
  · cases h
  · cases hv
    intro j u hj
    have hj' : j < ys.length * k := by rw [← flatten_length ys hyl]; exact (List.getElem?_eq_some_iff.1 hj).1
    have hq : j / k < ys.length := Nat.div_lt_of_lt_mul (by rw [Nat.mul_comm]; exact hj')
    have hyq : ys[j / k]? = some ys[j / k] := List.getElem?_eq_getElem hq
    have hlen : (ys[j / k]).length = k := hyl _ (List.getElem_mem hq)
    have hr' : j % k < (ys[j / k]).length := by rw [hlen]; exact Nat.mod_lt _ hk
    have hu2 := List.getElem?_eq_getElem hr'
    have e1 : j / k * k + j % k = j := by rw [Nat.mul_comm]; exact Nat.div_add_mod j k
    have h5 := flatten_get ys hyl _ _ hyq _ _ hu2
    rw [e1, hj] at h5
    cases h5
    have := hcell _ _ hyq _ _ hu2
    rwa [e1] at this

section
variable {X : Cx} {ops : Array Oper} {l : List Oper} {kk : List Kt} {e : Env} {w : World} {N : Env → World → Prop} {d : Nat} {c : Option Bool} {ty : TypeId} {pos : String} {af : Array Edge} {g : Option (Nat × Bool)}

/-- copy, into a row of one's own -/
theorem Step.copyO (T : Tb X.P) {x y : Operand} {t et : TypeId} {v u z : Value} {k bytes B o m : Nat} {xs ys : List (List Value)}
    (hg : guardE ops e ⟨some d, .call { callee := .builtin .copy, args := #[x, y], argTypes := #[t, t] }, ty, pos, af, g⟩ = some none)
    (hx : Op1 e none x (subS v k o xs.length)) (hy : Op1 e none y u) (ht : T.ty t = some (.slice et)) (hi : T.inf et = some (z, k, bytes)) (hk : Nat.blt 0 k = true)
    (hv : Owns w B v et k xs) (hu : Sli w u k ys) (h1 : ∀ y ∈ ys.take m, ∀ c ∈ y, c.oneCell' = true) (ho : o < xs.length) (hm : m = min ys.length (xs.length - o)) (hm0 : 0 < ys.length) (hn : Nat.blt d X.n = true)
    (h : ∀ w', Owns w' B v et k (lay xs o (ys.take m)) → Grew B v w w' → N ((d, none, .int .i64 m) :: e) w') :
    Step X ops ⟨some d, .call { callee := .builtin .copy, args := #[x, y], argTypes := #[t, t] }, ty, pos, af, g⟩ e w N := by
  obtain ⟨i, hi1, hi2, hi3, hi4⟩ := T.iok _ _ _ _ hi
  have hT := T.ok _ _ ht
  have hk' : 0 < k := by simpa [Nat.blt_eq] using hk
  obtain ⟨⟨hl, -⟩, hxk, hxb⟩ := id hv
  obtain ⟨gb, cap, ⟨us⟩, rfl, hB, hgb, hc, hcm, hsz, htk⟩ := hv.shape (by omega)
  rcases hu with ⟨rfl, rfl⟩ | ⟨a, cap2, rfl, hs, hc2, hyl, hcell, hyb⟩
  · simp at hm0
  · have hcs := cellsOf (.inr ⟨a, cap2, rfl, hs, hc2, hyl, hcell, hyb⟩) hk'
    have hus : us.length = cap * k := hsz
    simp only at htk
    have hmk : (ys.take m).flatten.length = m * k := by
      rw [flatten_length _ (fun x hx => hyl x (List.mem_of_mem_take hx)), List.length_take]; congr 1; omega
    have hft : (ys.take m).flatten = ys.flatten.take (m * k) := flatten_take ys m hyl
    have hle : (o + m) * k ≤ cap * k := Nat.mul_le_mul_right _ (by omega)
    rw [Nat.add_mul] at hle
    have h1m : ∀ u ∈ (ys.take m).flatten, u.oneCell' = true := fun u hu => by
      obtain ⟨y, hy, hu'⟩ := List.mem_flatten.1 hu
      exact h1 y hy u hu'
    obtain ⟨w', hrun, hw, hx'⟩ := run_storeCells_t X.P et (ys.take m).flatten gb (o * k) 0 us w hgb (by omega) h1m
    rw [Nat.add_zero, hmk] at hx'
    have hload := run_loadCells_list (P := X.P) w a (ys.take m).flatten (fun j u hj => by
      rw [hft, List.getElem?_take] at hj
      split at hj
      · exact hcs j u hj
      · cases hj)
    have hp : subS (Value.slice (some ⟨gb, 0, none⟩) xs.length cap) k o xs.length = .slice (some ⟨gb, o * k, none⟩) (xs.length - o) (cap - o) := by
      simp only [subS, if_neg (show ¬ cap = o by omega), Option.map_some, Addr.add_lit, Nat.zero_add]
    rw [hp] at hx
    have hmn : Nat.min ys.length (xs.length - o) = m := hm.symm
    refine Step.eff (v := .int .i64 m) (w' := w') rfl (by simpa [Nat.blt_eq] using hn) hg (fun _ hh => by cases hh) (fun t' hf => run_builtin2 (hx.val hf rfl) (hy.val hf rfl) fun cs => ?_) (h w' ?_ ?_)
    · have hr : (Builtin.copy_ #[t, t] ty #[.slice (some ⟨gb, o * k, none⟩) (xs.length - o) (cap - o), .slice (some a) ys.length cap2]).run X.P w = .ok (.int .i64 m) w' := by
        rw [hmk] at hload
        simp only [Builtin.copy_, Sem.run_bind, run_underlying hT, Builtin.lenOf, Builtin.firstCells, Result.andThen_ok, Sem.run_pure, hmn, run_sizeOf hi, hload, hrun, goInt, List.getElem?_toArray, List.getElem?_cons_zero, List.getElem?_cons_succ]
      simp only [builtin, Sem.run_bind, hr, Result.andThen_ok, Sem.run_pure]
    · have hlay : (lay xs o (ys.take m)).length = xs.length := lay_len (by rw [List.length_take]; omega)
      have hlk : ∀ x ∈ lay xs o (ys.take m), x.length = k := by
        intro x hx
        simp only [lay, List.mem_append] at hx
        rcases hx with (hx | hx) | hx
        · exact hxk x (List.mem_of_mem_take hx)
        · exact hyl x (List.mem_of_mem_take hx)
        · exact hxk x (List.mem_of_mem_drop hx)
      refine ⟨⟨?_, .inr ⟨gb, cap, _, by rw [hlay], hB, hx', by rw [hlay]; exact hc, hcm, ?_, ?_⟩⟩, hlk, by rw [hlay]; exact hxb⟩
      · rw [flatten_length _ hlk]
      · simp only [List.size_toArray, List.length_append, List.length_take, List.length_drop, hmk]; omega
      · have hlm : (ys.take m).length = m := by rw [List.length_take]; omega
        have hle2 : (o + m) * k ≤ xs.length * k := Nat.mul_le_mul_right _ (by omega)
        rw [Nat.add_mul] at hle2
        have hle3 : xs.length * k ≤ cap * k := Nat.mul_le_mul_right _ hc
        rw [hlay]
        simp only [lay, List.flatten_append, hlm, flatten_take xs o hxk, flatten_drop xs (o + m) hxk, ← htk, Nat.add_mul]
        rw [List.append_assoc, List.take_append, List.length_take, Nat.min_eq_left (by omega), List.take_of_length_le (by rw [List.length_take]; omega), List.take_append, hmk, List.take_of_length_le (l := (ys.take m).flatten) (by omega), List.take_take, Nat.min_eq_left (by omega), List.append_assoc]
        congr 2
        rw [List.drop_take]
        congr 1; omega
    · exact ⟨fun w0 hb0 => hb0.wr hw hB, by rw [hw.size]; exact Nat.le_refl _, fun q hq hne => hw.block q (fun e => hne (by rw [e]; rfl))⟩

/-- how much a row's memory holds -/
theorem Step.capV (T : Tb X.P) {x : Operand} {at_ et : TypeId} {a : Option Addr} {n cap : Nat}
    (hg : guardE ops e ⟨some d, .call { callee := .builtin .cap, args := #[x], argTypes := #[at_] }, ty, pos, af, g⟩ = some c)
    (hx : Op1 e c x (.slice a n cap)) (ht : T.ty at_ = some (.slice et)) (hn : Nat.blt d X.n = true) (h : N ((d, c, .int .i64 cap) :: e) w) :
    Step X ops ⟨some d, .call { callee := .builtin .cap, args := #[x], argTypes := #[at_] }, ty, pos, af, g⟩ e w N :=
  Step.quiet rfl (by simpa [Nat.blt_eq] using hn) hg (fun _ hh => by cases hh) (fun t hf hc => by
    have hv := hx.val (ds := X.ds) hf hc
    have hr : (Builtin.cap_ #[at_] ty #[.slice a n cap]).run X.P w = .ok (.int .i64 cap) w := by
      simp [Builtin.cap_, run_underlying (T.ok _ _ ht), goInt]
    simp only [execOp, resolve, invoke, builtin, Sem.run_bind, Sem.run_pure, Result.andThen_ok, List.map_toArray, List.map_cons, List.map_nil, hv, hr]) h

/-- a row cut at its front, opened up to what its memory holds -/
theorem Step.sliceCap (T : Tb X.P) {x j : Operand} {st et : TypeId} {z : Value} {k by_ n cap b gb : Nat}
    (hg : guardE ops e ⟨some d, .slice st x none (some j) none, ty, pos, af, g⟩ = some c)
    (hx : Op1 e c x (.slice (some ⟨gb, 0, none⟩) n cap)) {m : Int} (hhi : Op1 e c j (.int .i64 m)) (ht : T.ty st = some (.slice et)) (hz : T.inf et = some (z, k, by_))
    (hb : cv c = true → m = b ∧ b ≤ cap) (hn : Nat.blt d X.n = true)
    (h : N ((d, c, .slice (some ⟨gb, 0, none⟩) b cap) :: e) w) : Step X ops ⟨some d, .slice st x none (some j) none, ty, pos, af, g⟩ e w N :=
  Step.quiet rfl (by simpa [Nat.blt_eq] using hn) hg (fun _ hh => by cases hh) (fun t hf hc => by
    obtain ⟨rfl, hb⟩ := hb hc
    have hT := T.ok _ _ ht
    have hb1 : ∀ code, (Instr.sliceBound (.int .i64 b) cap code).run X.P w = .ok b w := fun code => by
      have := run_sliceBound (P := X.P) w .i64 (b : Int) cap code (by omega) (by omega)
      simpa using this
    have h3 : (Instr.sliceAt st (.slice (some ⟨gb, 0, none⟩) n cap) none (some (.int .i64 b)) none).run X.P w = .ok (.slice (some ⟨gb, 0, none⟩) b cap) w := by
      simp only [Instr.sliceAt, Sem.run_bind, run_underlying hT, Result.andThen_ok, Instr.slice, Instr.sliceBounds, Sem.run_pure]
      simp [hb1, run_sizeOf hz, Addr.add_lit]
    simp only [execOp, hx.val hf hc, hhi.val hf hc, Option.map_some, Option.map_none, Sem.run_bind, h3, Result.andThen_ok, Sem.run_pure]) h

/-- append(s[:i], make(.., n)...) where there is no room -/
theorem Step.appendZ (T : Tb X.P) {x y : Operand} {t tn et : TypeId} {z : Value} {kn : IntKind} {k bytes i n cap gb B : Nat} {xs : List (List Value)}
    (hg : guardE ops e ⟨some d, .call { callee := .builtin .append, args := #[x, y], argTypes := #[t, tn] }, ty, pos, af, g⟩ = some none)
    (hx : Op1 e none x (subS (.slice (some ⟨gb, 0, none⟩) xs.length cap) k 0 i)) (hy : Op1 e none y (.int .i64 n)) (ht : T.ty t = some (.slice et)) (htn : T.ty tn = some (.int kn)) (hi : T.inf et = some (z, k, bytes)) (hk : Nat.blt 0 k = true) (hz : z.cells.size = k)
    (hv : Owns w B (.slice (some ⟨gb, 0, none⟩) xs.length cap) et k xs) (hin : i ≤ xs.length) (h0 : 0 < n) (hroom : cap < i + n) (hb : (i + n) * bytes ≤ 140737488355328) (hl : i + n ≤ 140737488355328) (hn : Nat.blt d X.n = true)
    (h : ∀ v' w' zs, zs.length = n → Owns w' w.heap.size v' et k (xs.take i ++ zs) → Ext w w' → N ((d, none, v') :: e) w') :
    Step X ops ⟨some d, .call { callee := .builtin .append, args := #[x, y], argTypes := #[t, tn] }, ty, pos, af, g⟩ e w N := by
  obtain ⟨ii, hi1, hi2, hi3, hi4⟩ := T.iok _ _ _ _ hi
  have hT := T.ok _ _ ht
  have hTn := T.ok _ _ htn
  have hk' : 0 < k := by simpa [Nat.blt_eq] using hk
  have hs := hv.sli
  have hxk := hv.2.1
  have hnc : xs.length ≤ cap := by
    obtain ⟨a, c', he, h'⟩ := hs.len
    cases he; exact h'
  have hp : subS (Value.slice (some ⟨gb, 0, none⟩) xs.length cap) k 0 i = .slice (some ⟨gb, 0, none⟩) i cap := by
    simp only [subS, Nat.zero_mul, Nat.sub_zero]
    split <;> simp [Addr.add_lit]
  rw [hp] at hx
  have hfl : (xs.take i).flatten.length = i * k := by
    rw [flatten_length _ (fun x hx => hxk x (List.mem_of_mem_take hx)), List.length_take]; congr 1; omega
  have hcs := cellsOf hs hk'
  have hold : (Builtin.firstCells ii.size i (.slice (some ⟨gb, 0, none⟩) i cap)).run X.P w.drew = .ok (xs.take i).flatten.toArray w.drew := by
    refine run_firstCells_some w.drew ii.size i ⟨gb, 0, none⟩ i cap _ (by rw [hi3]; exact hfl) (fun j u hj => ?_)
    rw [flatten_take xs i hxk, List.getElem?_take] at hj
    split at hj
    · exact hcs j u hj
    · cases hj
  have hr := Lib.run_append_grow_zeros w t tn ty et ii z .i64 kn hT hTn hi1 hi2 (some ⟨gb, 0, none⟩) i cap (xs.take i).flatten hold n h0 (by omega) hroom (by omega)
    (by rw [hi4]; have : n * bytes ≤ (i + n) * bytes := Nat.mul_le_mul_right _ (by omega)
        omega) (by rw [hi4]; exact growslice_fits hroom hb)
  obtain ⟨G, hG⟩ : ∃ G, G = grownCap w (i + n) cap et := ⟨_, rfl⟩
  have hGe := grownCap_ge w (i + n) cap et
  have hGm := grownCap_le_maxLen w (i + n) cap et (by unfold maxLen; omega)
  rw [← hG] at hr hGe hGm
  have hzs : z.cells.size = k := hz
  have hzc : ∀ n, (Builtin.zeroCells z.cells n).size = n * k := fun n => by simp [Builtin.zeroCells, hzs]
  obtain ⟨Z, hZ⟩ : ∃ Z : List Value, Z = (Builtin.zeroCells z.cells n).toList := ⟨_, rfl⟩
  have hZl : Z.length = n * k := by rw [hZ, Array.length_toList]; exact hzc n
  -- the zero elements, one by one
  have hsplit : ∀ (m : Nat) (L : List Value), L.length = m * k → ∃ zs : List (List Value), zs.length = m ∧ (∀ x ∈ zs, x.length = k) ∧ zs.flatten = L := by
    intro m
    induction m with
    | zero => intro L hL; exact ⟨[], rfl, by simp, by simp at hL; simp [hL]⟩
    | succ m ih =>
      intro L hL
      rw [Nat.add_mul, Nat.one_mul] at hL
      obtain ⟨zs, h1, h2, h3⟩ := ih (L.drop k) (by rw [List.length_drop]; omega)
      refine ⟨L.take k :: zs, by simp [h1], ?_, by rw [List.flatten_cons, h3, List.take_append_drop]⟩
      intro x hx
      rcases List.mem_cons.1 hx with rfl | hx
      · rw [List.length_take]; omega
      · exact h2 x hx
  obtain ⟨zs, hzl, hzk, hzf⟩ := hsplit n Z hZl
  have hxl : (xs.take i).length = i := by rw [List.length_take]; omega
  have hlen : (xs.take i ++ zs).length = i + n := by rw [List.length_append, hxl, hzl]
  obtain ⟨W, hW⟩ : ∃ W, W = w.drew.alloc (.cells ((xs.take i).flatten.toArray ++ Builtin.zeroCells z.cells n ++ Builtin.zeroCells z.cells (G - (i + n))) et) := ⟨_, rfl⟩
  rw [← hW] at hr
  refine Step.eff (v := .slice (some ⟨w.heap.size, 0, none⟩) (i + n) G) (w' := W) rfl (by simpa [Nat.blt_eq] using hn) hg (fun _ hh => by cases hh) (fun t' hf => run_builtin2 (hx.val hf rfl) (hy.val hf rfl) fun cs => ?_) (h _ W zs hzl ?_ ?_)
  · simp only [builtin, Sem.run_bind, hr, Result.andThen_ok, Sem.run_pure]
  · subst hW
    refine ⟨⟨?_, .inr ⟨w.heap.size, G, _, by rw [hlen], Nat.le_refl _, heap_alloc_new w.drew _, by rw [hlen]; exact hGe, hGm, ?_, ?_⟩⟩, ?_, by rw [hlen]; exact hl⟩
    · rw [List.flatten_append, List.length_append, hfl, hzf, hZl, hlen, Nat.add_mul]
    · simp only [Array.size_append, List.size_toArray, hfl, hzc, ← Nat.add_mul]
      congr 1; omega
    · rw [hlen, List.flatten_append, hzf, hZ]
      simp only [Array.toList_append, List.append_assoc]
      rw [← List.append_assoc]
      refine List.take_left' ?_
      rw [List.length_append, ← hZ, hZl, hfl, Nat.add_mul]
    · intro x hx
      rcases List.mem_append.1 hx with hx | hx
      · exact hxk x (List.mem_of_mem_take hx)
      · exact hzk x hx
  · subst hW; exact (Ext.drew w).trans (Ext.alloc _ _)

/-- a call of a function without a body, whose answer is known -/
theorem Step.callV {f : FuncId} {args : Array Operand} {ats : Array TypeId} {l : List Operand} {vs : List Value} {r : Value}
    (hg : guardE ops e ⟨some d, .call { callee := .value (.func f), args := args, argTypes := ats }, ty, pos, af, g⟩ = some none)
    (ha : args = ⟨l⟩) (hvs : evs e l = some vs) (hn : Nat.blt d X.n = true) (hr : (callFunc f ⟨vs⟩).run X.P w = .ok (.value r) w)
    (h : N ((d, none, r) :: e) w) : Step X ops ⟨some d, .call { callee := .value (.func f), args := args, argTypes := ats }, ty, pos, af, g⟩ e w N :=
  Step.eff rfl (by simpa [Nat.blt_eq] using hn) hg (fun _ hh => by cases hh) (fun t hft => by
    have := evs_map (ds := X.ds) hft hvs
    subst ha
    have h2 : (Array.mk l).map (Act.mk t X.ds).eval = ⟨vs⟩ := by simp [this]
    simp only [execOp, resolve, h2, Act.eval, Deferred.ofValue, Sem.run_bind, Sem.run_pure, Result.andThen_ok, invoke, Array.empty_append, Array.append_empty, hr]) h
/-- likewise, of a function held as a value -/
theorem Step.callXC {f : FuncId} {x : Operand} {cap : List Value} {args : Array Operand} {ats : Array TypeId} {l : List Operand} {vs : List Value} {v : Value}
    (hg : guardE ops e ⟨some d, .call { callee := .value x, args := args, argTypes := ats }, ty, pos, af, g⟩ = some c)
    (hx : Op1 e c x (.func (.func f) #[] ⟨cap⟩)) (ha : args = ⟨l⟩) (hvs : OpL e c l vs) (hf : Callable X.P f) (hn : Nat.blt d X.n = true) (hc : cv c = true → Ret X.P f ⟨vs ++ cap⟩ w fun r w' => r = v ∧ Ext w w')
    (h : ∀ w', Ext w w' → N ((d, c, v) :: e) w') : Step X ops ⟨some d, .call { callee := .value x, args := args, argTypes := ats }, ty, pos, af, g⟩ e w N := by
  intro t K Q hft hK
  rw [guardE_wanted hft hg]
  cases hcv : cv c with
  | false =>
    rw [if_neg (by simp)]
    have := hK _ _ _ (h w (Ext.refl w)) (hft.put (by simpa [Nat.blt_eq] using hn) c v)
    simp only [gval, hcv] at this
    exact this
  | true =>
    rw [if_pos rfl]
    refine ⟨fun _ _ => trivial, ?_⟩
    rw [Oper.semAt_eq _ _ _ (fun _ hh => by cases hh)]
    have h1 := hvs.map (ds := X.ds) hft hcv
    subst ha
    have h2 : (Array.mk l).map (Act.mk t X.ds).eval = ⟨vs⟩ := by simp [h1]
    have h3 : (Act.mk t X.ds).eval x = .func (.func f) #[] ⟨cap⟩ := hx.val hft hcv
    have h4 : (⟨vs⟩ : Array Value) ++ ⟨cap⟩ = ⟨vs ++ cap⟩ := by simp
    have hr : (execOp (Act.mk t X.ds).eval ⟨some d, .call { callee := .value x, args := ⟨l⟩, argTypes := ats }, ty, pos, af, g⟩).run X.P w = .ok (.enter f ⟨vs ++ cap⟩) w := by
      simp only [execOp, resolve, h2, h3, Deferred.ofValue, Sem.run_bind, Sem.run_pure, Result.andThen_ok, invoke, Array.empty_append, h4, run_callFunc hf]
    show Oper.uponIn _ _ _ _ _ _ _ ((execOp (Act.mk t X.ds).eval _).run X.P w)
    rw [hr]
    refine ⟨fun h => by simp [Fence.wide] at h, callsW (Calls.mono (hc hcv) ?_)⟩
    rintro en w' ⟨r, rfl, rfl, hx⟩
    show K (Act.put _ (some d) r) w'
    have := hK _ _ _ (h w' hx) (hft.put (by simpa [Nat.blt_eq] using hn) c r)
    simp only [gval, hcv] at this
    exact this
end

/-- two rows in two blocks do not overlap -/
theorem overlaps_no {P : Program} (T : Tb P) {w : World} {tS tR et : TypeId} {z : Value} {k bytes B B' : Nat} {u v : Value} {xs ys : List (List Value)} (ht : T.ty tS = some (.slice et)) (hi : T.inf et = some (z, k, bytes)) (hk : 0 < k)
    (hu : Owns w B u et k ys) (hv : Owns w B' v et k xs) (hy : 0 < ys.length) (hne : ∀ b, some b = u.ownBlock → some b ≠ v.ownBlock) {o : Nat} (ho : o < xs.length) :
    (Extern.SlicesOverlaps.overlaps #[tS, tS] #[tR] #[u, subS v k o xs.length]).run P w = .ok (.bool false) w := by
  obtain ⟨g1, cap1, cur1, rfl, _, hg1, hc1, _, hs1, _⟩ := hu.shape hy
  obtain ⟨g2, cap2, cur2, rfl, _, hg2, hc2, _, hs2, _⟩ := hv.shape (by omega)
  have hgg : g1 ≠ g2 := fun h => hne g1 rfl (by rw [h]; rfl)
  have hp : subS (Value.slice (some ⟨g2, 0, none⟩) xs.length cap2) k o xs.length = .slice (some ⟨g2, o * k, none⟩) (xs.length - o) (cap2 - o) := by
    simp only [subS, if_neg (show ¬ cap2 = o by omega), Option.map_some, Addr.add_lit, Nat.zero_add]
  rw [hp]
  have h2 : 0 < cap2 * k := Nat.mul_pos (by omega) hk
  refine Lib.run_overlaps_apart w tS tR et (T.ok _ _ ht) k (fun w => run_sizeOf hi w) ⟨g1, 0, none⟩ ⟨g2, o * k, none⟩ _ _ _ _ hgg et et cur1.size cur2.size ?_ ?_ (by omega) ?_ ?_
  · simp [World.shape?, hg1]
  · simp [World.shape?, hg2]
  · exact frozen_of_row w g1 0 cur1 et hg1
  · exact frozen_of_row w g1 _ cur1 et hg1
section
variable {X : Cx} {ops : Array Oper} {e : Env} {w : World} {S : World → Prop} {N : Env → World → Prop} {lb : List (Oper × Bool)} {d : Nat} {c : Option Bool} {ty : TypeId} {pos : String} {af : Array Edge} {g : Option (Nat × Bool)}
end
end Go.Vg
end
section
namespace Go.Vg
open Go.RowKit

abbrev TT := List (List UInt8 × List UInt8)
def mpC (es : TT) : List (Value × Value) := es.map fun p => (S p.1, S p.2)
/-- block b is a map of texts by texts -/
def Mp (w : World) (b : Nat) (es : TT) : Prop := ∃ ms clock, w.heap[b]? = some (.map ⟨ms⟩ clock) ∧ ms.map (fun e => (e.key, e.val)) = mpC es
theorem Mp.lt {w : World} {b : Nat} {es : TT} (h : Mp w b es) : b < w.heap.size := by
  obtain ⟨ms, clock, h, _⟩ := h; exact (Array.getElem?_eq_some_iff.1 h).1
theorem Mp.to {w w' : World} {b : Nat} {es : TT} (h : Mp w b es) (hx : Ext w w') : Mp w' b es := by
  obtain ⟨ms, clock, h, h2⟩ := h
  exact ⟨ms, clock, by rw [hx.block b (Array.getElem?_eq_some_iff.1 h).1]; exact h, h2⟩
theorem Mp.wr {w w' : World} {b b' : Nat} {es : TT} (h : Mp w b es) (hw : Wr b' w w') (hne : b ≠ b') : Mp w' b es := by
  obtain ⟨ms, clock, h, h2⟩ := h
  exact ⟨ms, clock, by rw [hw.block b hne]; exact h, h2⟩

section
variable {X : Cx} {ops : Array Oper} {e : Env} {w : World} {N : Env → World → Prop} {d : Nat} {c : Option Bool} {ty : TypeId} {pos : String} {af : Array Edge} {g : Option (Nat × Bool)}
end
section
variable {X : Cx} {ops : Array Oper} {l : List Oper} {k : List Kt} {e : Env} {w : World} {d : Nat} {c : Option Bool} {ty : TypeId} {pos : String} {af : Array Edge} {g : Option (Nat × Bool)}
end
theorem post_goto {ρ : Option Nat} {P : Program} {fin : Exit → Act → World → Prop} {l : Nat} {a : Act} {w : World} : ∀ {k : List Kt}, post ρ P fin k (.goto l) a w → fin (.goto l) a w
  | [], h => h
  | .code _ :: k, h => post_goto (k := k) h
  | .lp _ :: k, h => post_goto (k := k) h
  | .blk _ :: k, h => post_goto (k := k) h
/-- a stretch with labels that nobody jumps to -/
theorem G.scope {X : Cx} {k : List Kt} {e : Env} {w : World} {c : Code} {P : Program} {fn : Func} {R : Value → World → Prop} (hX : X.fin = retFin P fn R) (hr : X.ρ = none) (h : G X (.code c :: k) e w) : G X (.code (.scope c) :: k) e w := by
  intro t ht
  have h1 := h t ht
  simp only [post] at h1 ⊢
  rw [hr] at h1 ⊢
  refine (wpIn_wide (n := 0)).2 (wp_scope_straight ((wpIn_wide (n := 0)).1 (wpIn_mono h1 ?_)))
  intro ex a w' hq
  cases ex with
  | goto l =>
    have := post_goto hq
    rw [hX] at this
    exact this.elim
  | _ => exact hq
theorem G.ret3 {X : Cx} {k : List Kt} {e : Env} {w : World} {P : Program} {fn : Func} {R : Value → World → Prop} (hX : X.fin = retFin P fn R) (hd : X.ds = []) {s s' s'' : Nat} {v v' v'' : Value}
    (hr : fn.results = #[.tmp s, .tmp s', .tmp s'']) (hv : look e s = some (none, v)) (hv' : look e s' = some (none, v')) (hv'' : look e s'' = some (none, v'')) (h : R (.tuple ⟨[v, v', v'']⟩) w) : G X (.code .ret :: k) e w := by
  refine G.ret fun t ht => ?_
  rw [hX, hd]
  refine ⟨rfl, _, ?_, _, rfl, h⟩
  rw [results_tmp3 hr, (ht.get _ _ _ hv).2, (ht.get _ _ _ hv').2, (ht.get _ _ _ hv'').2]
  rfl
end Go.Vg
end
section
namespace Go.Vg
open Go.RowKit

/-- as Below, but that some block from B on may bear a mark -/
theorem Sli.same {w w' : World} {v : Value} {k : Nat} {xs : List (List Value)} (h : Sli w v k xs) (hc : ∀ a, w'.cell? a = w.cell? a) : Sli w' v k xs := by
  rcases h with h | ⟨a, cap, h1, h2, h3, h4, h5, h6⟩
  · exact .inl h
  · exact .inr ⟨a, cap, h1, h2, h3, h4, fun i x hx j u hu => by rw [hc]; exact h5 i x hx j u hu, h6⟩
section
variable {X : Cx} {ops : Array Oper} {l : List Oper} {k : List Kt} {e : Env} {w : World} {N : Env → World → Prop} {d : Nat} {c : Option Bool} {ty : TypeId} {pos : String} {af : Array Edge} {g : Option (Nat × Bool)}
end
end Go.Vg
end
section
namespace Go.Vg
open Go.RowKit

/-- a row whose first cells are bytes -/
theorem by_of {w : World} {b : Nat} {cs : List Value} {t cap : Nat} {fr : Nat × Nat} {l : List UInt8} (hb : w.heap[b]? = some (.cells ⟨cs⟩ t fr)) (h : cs.take l.length = l.map U) (hc : l.length ≤ cap) (hl : l.length ≤ 9223372036854775807) : By w (.slice (some ⟨b, 0, none⟩) l.length cap) l := by
  refine .inr ⟨⟨b, 0, none⟩, cap, by rw [bysC_len], rfl, by rw [bysC_len]; exact hc, bysC_k l, ?_, by rw [bysC_len]; exact hl⟩
  intro i x hx j u hu
  have hi : i < l.length := by
    have := (List.getElem?_eq_some_iff.1 hx).1
    rwa [bysC_len] at this
  rw [bysC_get hi] at hx
  cases hx
  have hj : j = 0 := by
    have := (List.getElem?_eq_some_iff.1 hu).1
    simp at this; exact this
  subst hj
  cases hu
  simp only [Addr.add_lit, Nat.zero_add, Nat.mul_one, Nat.add_zero]
  rw [Joins.cell_of_block hb i]
  have h2 : (cs.take l.length)[i]? = (l.map U)[i]? := by rw [h]
  rw [List.getElem?_take_of_lt hi, List.getElem?_map] at h2
  simpa [List.getD, hi] using h2
section
variable {X : Cx} {ops : Array Oper} {l : List Oper} {kk : List Kt} {e : Env} {w : World} {N : Env → World → Prop} {d : Nat} {c : Option Bool} {ty : TypeId} {pos : String} {af : Array Edge} {g : Option (Nat × Bool)}
end
end Go.Vg
end
section
namespace Go.Vg
open Go.RowKit

/-- a row made of a text: what lies behind the text's bytes may hold more -/
def Frz (w : World) (B : Nat) (v : Value) (et : Nat) (s : List UInt8) : Prop :=
  ∃ b G cs, v = .slice (some ⟨b, 0, none⟩) s.length G ∧ B ≤ b ∧ w.heap[b]? = some (.cells ⟨cs⟩ et (cs.length, cs.length + 1)) ∧ cs.take s.length = s.map U ∧ cs.length = G ∧ s.length ≤ G
/-- bytes of one's own -/
def Bwy (w : World) (B : Nat) (v : Value) (et : Nat) (s : List UInt8) : Prop := Frz w B v et s ∨ Owns w B v et 1 (bysC s)
theorem Frz.sli {w : World} {B et : Nat} {v : Value} {s : List UInt8} (h : Frz w B v et s) (hl : s.length ≤ 9223372036854775807) : By w v s := by
  obtain ⟨b, G, cs, rfl, _, hb, htk, _, hsG⟩ := h
  exact by_of hb htk hsG hl
theorem Bwy.sli {w : World} {B et : Nat} {v : Value} {s : List UInt8} (h : Bwy w B v et s) (hl : s.length ≤ 9223372036854775807) : By w v s := by
  rcases h with h | h
  · exact h.sli hl
  · exact h.sli
theorem Frz.to {w w' : World} {B et : Nat} {v : Value} {s : List UInt8} (h : Frz w B v et s) (hx : Ext w w') : Frz w' B v et s := by
  obtain ⟨b, G, cs, hv, hB, hb, hr⟩ := h
  exact ⟨b, G, cs, hv, hB, by rw [hx.block b (Array.getElem?_eq_some_iff.1 hb).1]; exact hb, hr⟩
theorem Bwy.to {w w' : World} {B et : Nat} {v : Value} {s : List UInt8} (h : Bwy w B v et s) (hx : Ext w w') : Bwy w' B v et s := by
  rcases h with h | h
  · exact .inl (h.to hx)
  · exact .inr (Owns.to h hx)
theorem Frz.mono {w : World} {B B' et : Nat} {v : Value} {s : List UInt8} (h : Frz w B v et s) (hB : B' ≤ B) : Frz w B' v et s := by
  obtain ⟨b, G, cs, hv, hb, hr⟩ := h
  exact ⟨b, G, cs, hv, Nat.le_trans hB hb, hr⟩
section
variable {X : Cx} {ops : Array Oper} {l : List Oper} {kk : List Kt} {e : Env} {w : World} {N : Env → World → Prop} {d : Nat} {c : Option Bool} {ty : TypeId} {pos : String} {af : Array Edge} {g : Option (Nat × Bool)}
end
end Go.Vg
end
section
namespace Go.Vg
open Go.RowKit

section
variable {X : Cx} {ops : Array Oper} {l : List Oper} {k : List Kt} {e : Env} {w : World} {N : Env → World → Prop} {d : Nat} {c : Option Bool} {ty : TypeId} {pos : String} {af : Array Edge} {g : Option (Nat × Bool)}
/-- a call that the model answers by itself -/
theorem Step.ext {f : FuncId} {args : Array Operand} {ats : Array TypeId} {lo : List Operand} {vs : List Value} {v : Value}
    (hg : guardE ops e ⟨some d, .call { callee := .value (.func f), args := args, argTypes := ats }, ty, pos, af, g⟩ = some c)
    (ha : args = ⟨lo⟩) (hvs : OpL e c lo vs) (hr : (callFunc f ⟨vs⟩).run X.P w = .ok (.value v) w) (hn : Nat.blt d X.n = true)
    (h : N ((d, c, v) :: e) w) : Step X ops ⟨some d, .call { callee := .value (.func f), args := args, argTypes := ats }, ty, pos, af, g⟩ e w N :=
  Step.quiet rfl (by simpa [Nat.blt_eq] using hn) hg (fun _ hh => by cases hh) (fun t hf hc => by
    have := hvs.map (ds := X.ds) hf hc
    subst ha
    have h2 : (Array.mk lo).map (Act.mk t X.ds).eval = ⟨vs⟩ := by simp [this]
    simp only [execOp, resolve, h2, Act.eval, Deferred.ofValue, Sem.run_bind, Sem.run_pure, Result.andThen_ok, invoke, Array.empty_append, Array.append_empty, hr]) h
end
end Go.Vg
end
section
namespace Go.Vg
open Go.RowKit

/-- it returns, and S holds; or it panics, and Z holds -/
def RetP (P : Program) (f : FuncId) (args : Array Value) (w : World) (S : Value → World → Prop) (Z : List PanicEntry → World → Prop) : Prop :=
  Calls P f args w fun en w' => (∃ v, en = .returned v ∧ S v w') ∨ (∃ ch, en = .panicked ch ∧ Z ch w')
theorem RetP.mono {P : Program} {f : FuncId} {args : Array Value} {w : World} {S S' : Value → World → Prop} {Z Z' : List PanicEntry → World → Prop} (h : RetP P f args w S Z) (hs : ∀ v w', S v w' → S' v w') (hz : ∀ c w', Z c w' → Z' c w') : RetP P f args w S' Z' :=
  Calls.mono h fun _ _ h => h.elim (fun ⟨v, he, hv⟩ => .inl ⟨v, he, hs _ _ hv⟩) (fun ⟨c, he, hv⟩ => .inr ⟨c, he, hz _ _ hv⟩)

def retFinP (P : Program) (fn : Func) (S : Value → World → Prop) (Z : List PanicEntry → World → Prop) : Exit → Act → World → Prop :=
  bodyPost P fn fun en w' => (∃ v, en = .returned v ∧ S v w') ∨ (∃ ch, en = .panicked ch ∧ Z ch w')

theorem fits_start {vs : List Value} {n m : Nat} (hn : m = n) (hsz : vs.length ≤ n) : Fits n (argEnv 0 vs) ((⟨vs⟩ : Array Value) ++ Array.replicate (m - (⟨vs⟩ : Array Value).size) undef) := by
  refine fits_args vs [] 0 rfl (by omega) _ (by simp [hn]; omega) (fun i hi => ?_)
  have hi' : i < vs.length := by omega
  simp [Array.getD_eq_getD_getElem?, List.getD, Array.getElem?_append, hi']
theorem ret_of_GP {P : Program} {f : FuncId} {fn : Func} {c : Code} {vs : List Value} {w : World} {S : Value → World → Prop} {Z : List PanicEntry → World → Prop} {n : Nat}
    (hf : P.funcs[f]? = some fn) (hb : fn.body = some c) (hn : fn.ntmps = n) (hl : Nat.ble vs.length n = true)
    (h : G ⟨none, P, retFinP P fn S Z, n, []⟩ [.code c] (argEnv 0 vs) w) : RetP P f ⟨vs⟩ w S Z := by
  refine calls_of_wp hf hb ?_
  have h1 := h _ (fits_start hn (by simpa using hl))
  refine wpIn_wide (n := 0) |>.1 ?_
  refine wpIn_mono h1 ?_
  intro ex a w' hq
  cases ex <;> exact hq
theorem px_P {X : Cx} {P : Program} {fn : Func} {S : Value → World → Prop} {Z : List PanicEntry → World → Prop} {ch : List PanicEntry} {w : World} (hX : X.fin = retFinP P fn S Z) (hd : X.ds = []) (h : Z ch w) : X.px ch w := by
  intro t
  rw [hX, hd]
  exact ⟨rfl, .inr ⟨ch, rfl, h⟩⟩

theorem res2 {P : Program} {fn : Func} {n : Nat} {e : Env} {t : Array Value} (hf : Fits n e t) {s s' : Nat} {v v' : Value} (hr : fn.results = #[.tmp s, .tmp s']) (hv : look e s = some (none, v)) (hv' : look e s' = some (none, v')) (w : World) :
    (results fn t).run P w = .ok (.tuple ⟨[v, v']⟩) w := by
  rw [results_tmp2 hr, (hf.get _ _ _ hv).2, (hf.get _ _ _ hv').2]; rfl
theorem G.retP {X : Cx} {k : List Kt} {e : Env} {w : World} {P : Program} {fn : Func} {S : Value → World → Prop} {Z : List PanicEntry → World → Prop} (hX : X.fin = retFinP P fn S Z) (hd : X.ds = [])
    (v : Value) (hr : ∀ t, Fits X.n e t → (results fn t).run P w = .ok v w) (h : S v w) : G X (.code .ret :: k) e w := by
  refine G.ret fun t ht => ?_
  rw [hX, hd]
  exact ⟨rfl, v, hr t ht, .inl ⟨v, rfl, h⟩⟩
theorem G.retP1 {X : Cx} {k : List Kt} {e : Env} {w : World} {P : Program} {fn : Func} {S : Value → World → Prop} {Z : List PanicEntry → World → Prop} (hX : X.fin = retFinP P fn S Z) (hd : X.ds = []) {s : Nat} {v : Value}
    (hr : fn.results = #[.tmp s]) (hv : look e s = some (none, v)) (h : S v w) : G X (.code .ret :: k) e w := G.retP hX hd v (fun _ ht => res1 ht hr hv w) h
theorem G.retP2 {X : Cx} {k : List Kt} {e : Env} {w : World} {P : Program} {fn : Func} {S : Value → World → Prop} {Z : List PanicEntry → World → Prop} (hX : X.fin = retFinP P fn S Z) (hd : X.ds = []) {s s' : Nat} {v v' : Value}
    (hr : fn.results = #[.tmp s, .tmp s']) (hv : look e s = some (none, v)) (hv' : look e s' = some (none, v')) (h : S (.tuple ⟨[v, v']⟩) w) : G X (.code .ret :: k) e w := G.retP hX hd _ (fun _ ht => res2 ht hr hv hv' w) h
section steps
variable {X : Cx} {ops : Array Oper} {e : Env} {w : World} {N : Env → World → Prop} {d : Nat} {c : Option Bool} {ty : TypeId} {pos : String} {af : Array Edge} {g : Option (Nat × Bool)} {l : List Oper} {k : List Kt} {lb : List (Oper × Bool)} {W : World → Prop}

theorem GL.consP {o : Oper} (h : StepP X ops o e w (fun e' w' => GL X ops l k e' w')) : GL X ops (o :: l) k e w := by
  intro t hf
  exact h t _ _ hf (fun e' w' t' hN hf' => hN t' hf') (fun ch t' w' hp => post_panic (hp t'))

theorem StepP.callF {f : FuncId} {args : Array Operand} {ats : Array TypeId} {lo : List Operand} {vs : List Value} {S : Value → World → Prop} {Z : List PanicEntry → World → Prop}
    (hg : guardE ops e ⟨some d, .call { callee := .value (.func f), args := args, argTypes := ats }, ty, pos, af, g⟩ = some none)
    (ha : args = ⟨lo⟩) (hvs : evs e lo = some vs) (hf : Callable X.P f)
    (hn : Nat.blt d X.n = true) (hc : RetP X.P f ⟨vs⟩ w S Z) (hz : ∀ ch w', Z ch w' → X.px ch w')
    (h : ∀ v w', S v w' → N ((d, none, v) :: e) w') : StepP X ops ⟨some d, .call { callee := .value (.func f), args := args, argTypes := ats }, ty, pos, af, g⟩ e w N := by
  intro t K Q hft hK hP
  rw [guardE_wanted hft hg, if_pos (by rfl)]
  refine ⟨fun _ _ => trivial, ?_⟩
  rw [Oper.semAt_eq _ _ _ (fun _ hh => by cases hh)]
  have := evs_map (ds := X.ds) hft hvs
  subst ha
  have h2 : (Array.mk lo).map (Act.mk t X.ds).eval = ⟨vs⟩ := by simp [this]
  have hrun : (execOp (Act.mk t X.ds).eval ⟨some d, .call { callee := .value (.func f), args := ⟨lo⟩, argTypes := ats }, ty, pos, af, g⟩).run X.P w = .ok (.enter f ⟨vs⟩) w := by
    simp only [execOp, resolve, h2, Act.eval, Deferred.ofValue, Sem.run_bind, Sem.run_pure, Result.andThen_ok, invoke, Array.empty_append, Array.append_empty, run_callFunc hf]
  show Oper.uponIn _ _ _ _ _ _ _ ((execOp (Act.mk t X.ds).eval _).run X.P w)
  rw [hrun]
  refine ⟨fun h => by simp [Fence.wide] at h, callsW (Calls.mono hc ?_)⟩
  rintro en w' (⟨v, rfl, hS⟩ | ⟨ch, rfl, hZ⟩)
  · show K (Act.put _ (some d) v) w'
    exact hK _ _ _ (h v w' hS) (hft.put (by simpa [Nat.blt_eq] using hn) none v)
  · exact hP ch t w' (hz ch w' hZ)
def ifaceT : TypeDesc → Bool
  | .interface _ => true
  | _ => false
theorem Step.mkIface (T : Tb X.P) {x : Operand} {t : TypeId} {td : TypeDesc} {v : Value} (hg : guardE ops e ⟨some d, .makeInterface t x, ty, pos, af, g⟩ = some c) (hx : Op1 e c x v) (ht : T.ty t = some td) (hi : ifaceT td = false)
    (hn : Nat.blt d X.n = true) (h : N ((d, c, .iface t v) :: e) w) : Step X ops ⟨some d, .makeInterface t x, ty, pos, af, g⟩ e w N :=
  Step.quiet rfl (by simpa [Nat.blt_eq] using hn) hg (fun _ hh => by cases hh) (fun t' hf hc => by
    have hT := T.ok _ _ ht
    simp only [execOp, hx.val hf hc, Instr.makeInterface, Sem.run_bind, run_underlying hT, Result.andThen_ok]
    cases td <;> first | (cases hi; done) | rfl) h
theorem StepP.panic {x : Operand} {t : TypeId} {v : Value} (hg : guardE ops e ⟨none, .panic x, ty, pos, af, g⟩ = some none) (hx : Op1 e none x (.iface t v))
    (hz : X.px [{ v := .iface t v, recovered := false }] w) : StepP X ops ⟨none, .panic x, ty, pos, af, g⟩ e w N := by
  intro t' K Q hft hK hP
  rw [guardE_wanted hft hg, if_pos (by rfl)]
  refine ⟨fun _ _ => trivial, ?_⟩
  rw [Oper.semAt_eq _ _ _ (fun _ hh => by cases hh)]
  have hrun : (execOp (Act.mk t' X.ds).eval ⟨none, .panic x, ty, pos, af, g⟩).run X.P w = .halt (.panic (.iface t v)) w := by
    simp only [execOp, hx.val hft rfl, Instr.panic]
    rfl
  show Oper.uponIn _ _ _ _ _ _ _ ((execOp (Act.mk t' X.ds).eval _).run X.P w)
  rw [hrun]
  exact hP _ t' w hz
theorem sIf (T : Tb X.P) {x : Operand} {t : TypeId} {td : TypeDesc} {v : Value} (h : GL X ops l k ((d, c, .iface t v) :: e) w) (hg : guardE ops e ⟨some d, .makeInterface t x, ty, pos, af, g⟩ = some c := by exact rfl)
    (hx : Op1 e c x v := by exact Op1.of rfl (fun _ => rfl)) (ht : T.ty t = some td := by exact rfl) (hi : ifaceT td = false := by exact rfl) (hn : Nat.blt d X.n = true := by exact rfl) :
    GL X ops (⟨some d, .makeInterface t x, ty, pos, af, g⟩ :: l) k e w := GL.cons (Step.mkIface T hg hx ht hi hn h)
theorem sPanic {x : Operand} {t : TypeId} {v : Value} (hz : X.px [{ v := .iface t v, recovered := false }] w) (hg : guardE ops e ⟨none, .panic x, ty, pos, af, g⟩ = some none := by exact rfl) (hx : Op1 e none x (.iface t v) := by exact Op1.of rfl (fun _ => rfl)) :
    GL X ops (⟨none, .panic x, ty, pos, af, g⟩ :: l) k e w := GL.consP (StepP.panic hg hx hz)

/-- a guarded call that may panic -/
theorem StepP.on {o : Oper} {c : Bool} (hg : guardE ops e o = some (some c)) (hc : c = true) (h : StepP X ops { o with guard := none } e w N) : StepP X ops o e w N := by
  intro t K Q hf hK hP
  have := h t K Q hf hK hP
  rw [guardE_wanted hf hg]
  subst hc
  rw [if_pos (by rfl)] at this ⊢
  exact this

theorem sCallP {f : FuncId} {args : Array Operand} {ats : Array TypeId} {lo : List Operand} {vs : List Value} {S : Value → World → Prop} {Z : List PanicEntry → World → Prop} (hf : Callable X.P f) (hc : RetP X.P f ⟨vs⟩ w S Z)
    (hz : ∀ ch w', Z ch w' → X.px ch w') (h : ∀ v w', S v w' → GL X ops l k ((d, none, v) :: e) w')
    (hg : guardE ops e ⟨some d, .call { callee := .value (.func f), args := args, argTypes := ats }, ty, pos, af, g⟩ = some none := by exact rfl)
    (ha : args = ⟨lo⟩ := by exact rfl) (hvs : evs e lo = some vs := by exact rfl) (hn : Nat.blt d X.n = true := by exact rfl) :
    GL X ops (⟨some d, .call { callee := .value (.func f), args := args, argTypes := ats }, ty, pos, af, g⟩ :: l) k e w := GL.consP (StepP.callF hg ha hvs hf hn hc hz h)
theorem dCallP {f : FuncId} {args : Array Operand} {ats : Array TypeId} {lo : List Operand} {vs : List Value} {S : Value → World → Prop} {Z : List PanicEntry → World → Prop} (hf : Callable X.P f) (hc : RetP X.P f ⟨vs⟩ w S Z)
    (hz : ∀ ch w', Z ch w' → X.px ch w') (h : ∀ v w', S v w' → W w' ∧ GMN X ops W N lb ((d, none, v) :: e) w')
    (hg : guardE ops e ⟨some d, .call { callee := .value (.func f), args := args, argTypes := ats }, ty, pos, af, g⟩ = some none := by exact rfl)
    (ha : args = ⟨lo⟩ := by exact rfl) (hvs : evs e lo = some vs := by exact rfl) (hn : Nat.blt d X.n = true := by exact rfl) :
    GMN X ops W N ((⟨some d, .call { callee := .value (.func f), args := args, argTypes := ats }, ty, pos, af, g⟩, false) :: lb) e w := GM.effP (StepP.callF hg ha hvs hf hn hc hz h)
end steps

/-! ### A world changed at one block, with more behind it -/
structure Kp (b : Nat) (w w' : World) : Prop where
  os : w'.os = w.os
  tape : w'.tape = w.tape
  output : w'.output = w.output
  size : w.heap.size ≤ w'.heap.size
  block : ∀ k, k < w.heap.size → k ≠ b → w'.heap[k]? = w.heap[k]?
theorem Kp.refl (b : Nat) (w : World) : Kp b w w := ⟨rfl, rfl, rfl, Nat.le_refl _, fun _ _ _ => rfl⟩
theorem Kp.trans {b : Nat} {w w1 w2 : World} (h : Kp b w w1) (k : Kp b w1 w2) : Kp b w w2 :=
  ⟨k.os.trans h.os, k.tape.trans h.tape, k.output.trans h.output, Nat.le_trans h.size k.size, fun i hi hne => (k.block i (Nat.lt_of_lt_of_le hi h.size) hne).trans (h.block i hi hne)⟩
theorem Ext.kp {b : Nat} {w w' : World} (h : Ext w w') : Kp b w w' := ⟨h.os, h.tape, h.output, h.size, fun i hi _ => h.block i hi⟩
theorem Wr.kp {b : Nat} {w w' : World} (h : Wr b w w') : Kp b w w' := ⟨h.os, h.tape, h.output, by rw [h.size]; exact Nat.le_refl _, fun i _ hne => h.block i hne⟩
/-- a change of a block that was not there before -/
theorem Kp.new {b c : Nat} {w w1 w2 : World} (h : Kp b w w1) (k : Kp c w1 w2) (hc : w.heap.size ≤ c) : Kp b w w2 :=
  ⟨k.os.trans h.os, k.tape.trans h.tape, k.output.trans h.output, Nat.le_trans h.size k.size, fun i hi hne => (k.block i (Nat.lt_of_lt_of_le hi h.size) (by omega)).trans (h.block i hi hne)⟩
theorem Ext.ofKp {c : Nat} {w w1 w2 : World} (h : Ext w w1) (k : Kp c w1 w2) (hc : w.heap.size ≤ c) : Ext w w2 :=
  ⟨k.os.trans h.os, k.tape.trans h.tape, k.output.trans h.output, Nat.le_trans h.size k.size, fun i hi => (k.block i (Nat.lt_of_lt_of_le hi h.size) (by omega)).trans (h.block i hi)⟩
theorem Bx.kp {b c : Nat} {w w' : World} {us : List Value} (h : Bx w c us) (k : Kp b w w') (hne : c ≠ b) : Bx w' c us := by
  obtain ⟨t, h⟩ := h
  exact ⟨t, by rw [k.block c (Array.getElem?_eq_some_iff.1 h).1 hne]; exact h⟩
theorem Owns.kp {b B : Nat} {w w' : World} {v : Value} {et k : Nat} {xs : List (List Value)} (h : Owns w B v et k xs) (hk : Kp b w w') (hb : b < B) : Owns w' B v et k xs := by
  obtain ⟨⟨hl, h⟩, h0⟩ := h
  refine ⟨⟨hl, ?_⟩, h0⟩
  rcases h with h | ⟨g, cap, cur, h1, h2, h3, h4⟩
  · exact .inl h
  · exact .inr ⟨g, cap, cur, h1, h2, by rw [hk.block g (Array.getElem?_eq_some_iff.1 h3).1 (by omega)]; exact h3, h4⟩
theorem CellAt.kp {b : Nat} {w w' : World} {p u : Value} (h : CellAt w p u) (k : Kp b w w') (hne : ∀ a, p = .pointer (some a) → a.block ≠ b) : CellAt w' p u := by
  obtain ⟨a, rfl, hc⟩ := h
  refine ⟨a, rfl, ?_⟩
  have hlt := World.block_lt_of_cell? w a hc
  have := k.block a.block hlt (hne a rfl)
  unfold World.cell? at hc ⊢
  rw [this]; exact hc
end Go.Vg
end
section
namespace Go.Vg
open Go.RowKit
section
variable {X : Cx} {ops : Array Oper} {l : List Oper} {k : List Kt} {e : Env} {w : World} {N : Env → World → Prop} {d : Nat} {c : Option Bool} {ty : TypeId} {pos : String} {af : Array Edge} {g : Option (Nat × Bool)}
theorem Step.min2 {x y : Operand} {t1 t2 : TypeId} {q : IntKind} {a b : Int} (hg : guardE ops e ⟨some d, .call { callee := .builtin .min, args := #[x, y], argTypes := #[t1, t2] }, ty, pos, af, g⟩ = some none)
    (hx : Op1 e none x (.int q a)) (hy : Op1 e none y (.int q b)) (hn : Nat.blt d X.n = true)
    (h : N ((d, none, .int q (if b < a then b else a)) :: e) w) : Step X ops ⟨some d, .call { callee := .builtin .min, args := #[x, y], argTypes := #[t1, t2] }, ty, pos, af, g⟩ e w N :=
  Step.eff rfl (by simpa [Nat.blt_eq] using hn) hg (fun _ hh => by cases hh) (fun t' hf => run_builtin2 (hx.val hf rfl) (hy.val hf rfl) fun cs => by
    simp [builtin, Builtin.min_, Builtin.min2]) h
end
end Go.Vg
end
section
namespace Go.Vg
open Go.RowKit Go.Proofs Go.Lib

/-- an iterator over a text -/
def Its (w : World) (b : Nat) (s : List UInt8) (i : Nat) : Prop := w.heap[b]? = some (.stringIter ⟨⟨s⟩⟩ i)
section
variable {X : Cx} {ops : Array Oper} {l : List Oper} {kk : List Kt} {e : Env} {w : World} {N : Env → World → Prop} {d : Nat} {c : Option Bool} {ty : TypeId} {pos : String} {af : Array Edge} {g : Option (Nat × Bool)}

theorem Step.rangeS (T : Tb X.P) {x : Operand} {t : TypeId} {s : List UInt8} (hg : guardE ops e ⟨some d, .range t x, ty, pos, af, g⟩ = some none)
    (hx : Op1 e none x (S s)) (ht : T.ty t = some .string) (hn : Nat.blt d X.n = true)
    (h : ∀ w', Its w' w.heap.size s 0 → Ext w w' → N ((d, none, ptr w.heap.size) :: e) w') : Step X ops ⟨some d, .range t x, ty, pos, af, g⟩ e w N :=
  Step.eff (v := ptr w.heap.size) (w' := w.iter ⟨⟨s⟩⟩ 0) rfl (by simpa [Nat.blt_eq] using hn) hg (fun _ hh => by cases hh) (fun t' hf => by
    simp only [execOp, hx.val hf rfl, S, Sem.run_bind, run_range_string w t ⟨⟨s⟩⟩ (T.ok _ _ ht), Result.andThen_ok, Sem.run_pure]
    rfl) (h _ (World.iter_heap _ _ _) (Ext.alloc _ _))
theorem wr_iterAt (w : World) (b : Nat) (s : ByteArray) (i : Nat) : Wr b w (w.iterAt b s i) := ⟨rfl, rfl, rfl, iterAt_size _ _ _ _, fun _ hk => iterAt_other _ _ _ _ _ hk⟩
theorem Step.nextS {x : Operand} {s : List UInt8} {b i : Nat} (hg : guardE ops e ⟨some d, .next x true, ty, pos, af, g⟩ = some none) (hi : Its w b s i)
    (hx : Op1 e none x (ptr b)) (hlt : i < s.length) (hn : Nat.blt d X.n = true)
    (h : ∀ w', Its w' b s (i + (Utf8.decode ⟨⟨s⟩⟩ i).2) → Wr b w w' → N ((d, none, .tuple ⟨[.bool true, .int .i64 i, .int .i32 (Utf8.decode ⟨⟨s⟩⟩ i).1]⟩) :: e) w') : Step X ops ⟨some d, .next x true, ty, pos, af, g⟩ e w N :=
  Step.eff (v := .tuple ⟨[.bool true, .int .i64 i, .int .i32 (Utf8.decode ⟨⟨s⟩⟩ i).1]⟩) (w' := w.iterAt b ⟨⟨s⟩⟩ (i + (Utf8.decode ⟨⟨s⟩⟩ i).2)) rfl (by simpa [Nat.blt_eq] using hn) hg (fun _ hh => by cases hh) (fun t' hf => by
    simp only [execOp, hx.val hf rfl, ptr, Sem.run_bind, run_next_any_at w b ⟨⟨s⟩⟩ i ty hi hlt, Result.andThen_ok, Sem.run_pure]) (h _ (iterAt_heap _ _ _ _ _ hi) (wr_iterAt _ _ _ _))
theorem Step.nextE {x : Operand} {s : List UInt8} {b i : Nat} (hg : guardE ops e ⟨some d, .next x true, ty, pos, af, g⟩ = some none) (hi : Its w b s i)
    (hx : Op1 e none x (ptr b)) (hlt : ¬ i < s.length) (hn : Nat.blt d X.n = true)
    (h : N ((d, none, .tuple ⟨[.bool false]⟩) :: e) w) : Step X ops ⟨some d, .next x true, ty, pos, af, g⟩ e w N :=
  Step.eff (v := .tuple ⟨[.bool false]⟩) (w' := w) rfl (by simpa [Nat.blt_eq] using hn) hg (fun _ hh => by cases hh) (fun t' hf => by
    simp only [execOp, hx.val hf rfl, ptr, Sem.run_bind, run_next_end_at w b ⟨⟨s⟩⟩ i ty hi hlt, Result.andThen_ok, Sem.run_pure]) h
theorem decode_asc (s : List UInt8) (i : Nat) (h : i < s.length) (ha : (s.getD i 0).toNat < 128) : Utf8.decode ⟨⟨s⟩⟩ i = ((s.getD i 0).toNat, 1) := by
  have e : ((ByteArray.mk ⟨s⟩)[i]'h) = s.getD i 0 := by
    rw [List.getD_eq_getElem?_getD, List.getElem?_eq_getElem h]
    rfl
  rw [decode_ascii _ _ h (by rw [e]; exact ha), e]
/-- a character's bytes -/
def encL (n : Int) : List UInt8 := (Utf8.encode n).data.toList
theorem encL_high (n : Int) (hv : Utf8.valid n = true) (h : 128 ≤ n) : 2 ≤ (encL n).length ∧ (encL n).length ≤ 4 ∧ 128 ≤ ((encL n).getD ((encL n).length - 1) 0).toNat := by
  obtain ⟨h1, h2, h3⟩ := encode_facts n hv h
  have h4 : (Utf8.encode n).size - 1 < (Utf8.encode n).size := by omega
  refine ⟨h1, h2, ?_⟩
  have h5 := h3 h4
  have h6 : (encL n).length - 1 < (encL n).length := h4
  rw [List.getD_eq_getElem?_getD, List.getElem?_eq_getElem h6]
  exact h5
theorem Step.runeS (T : Tb X.P) {x : Operand} {src dst : TypeId} {q : IntKind} {n : Int} {sd : TypeDesc} (hg : guardE ops e ⟨some d, .convert src dst x, ty, pos, af, g⟩ = some c) (hx : Op1 e c x (.int q n)) (hs : T.ty src = some sd) (ht : T.ty dst = some .string)
    (hn : Nat.blt d X.n = true) (h : N ((d, c, S (encL n)) :: e) w) : Step X ops ⟨some d, .convert src dst x, ty, pos, af, g⟩ e w N :=
  Step.quiet rfl (by simpa [Nat.blt_eq] using hn) hg (fun _ hh => by cases hh) (fun t hf hc => by
    have := run_convert_int_string (P := X.P) w src dst q n (by simp [T.ok _ _ hs]) (T.ok _ _ ht)
    simp only [execOp, hx.val hf hc, Sem.run_bind, this, Result.andThen_ok, Sem.run_pure]
    rfl) h
theorem sRs (T : Tb X.P) {x : Operand} {src dst : TypeId} {q : IntKind} {n : Int} {sd : TypeDesc} (h : GL X ops l kk ((d, c, S (encL n)) :: e) w) (hg : guardE ops e ⟨some d, .convert src dst x, ty, pos, af, g⟩ = some c := by exact rfl)
    (hx : Op1 e c x (.int q n) := by exact Op1.of rfl (fun _ => rfl)) (hs : T.ty src = some sd := by exact rfl) (ht : T.ty dst = some .string := by exact rfl) (hn : Nat.blt d X.n = true := by exact rfl) :
    GL X ops (⟨some d, .convert src dst x, ty, pos, af, g⟩ :: l) kk e w := GL.cons (Step.runeS T hg hx hs ht hn h)
theorem Step.max2 {x y : Operand} {t1 t2 : TypeId} {q : IntKind} {a b : Int} (hg : guardE ops e ⟨some d, .call { callee := .builtin .max, args := #[x, y], argTypes := #[t1, t2] }, ty, pos, af, g⟩ = some none)
    (hx : Op1 e none x (.int q a)) (hy : Op1 e none y (.int q b)) (hn : Nat.blt d X.n = true)
    (h : N ((d, none, .int q (if a < b then b else a)) :: e) w) : Step X ops ⟨some d, .call { callee := .builtin .max, args := #[x, y], argTypes := #[t1, t2] }, ty, pos, af, g⟩ e w N :=
  Step.eff rfl (by simpa [Nat.blt_eq] using hn) hg (fun _ hh => by cases hh) (fun t' hf => run_builtin2 (hx.val hf rfl) (hy.val hf rfl) fun cs => by
    simp [builtin, Builtin.max_, Builtin.max2]) h
theorem sRg (T : Tb X.P) {x : Operand} {t : TypeId} {s : List UInt8}
    (h : ∀ w', Its w' w.heap.size s 0 → Ext w w' → GL X ops l kk ((d, none, ptr w.heap.size) :: e) w') (hg : guardE ops e ⟨some d, .range t x, ty, pos, af, g⟩ = some none := by exact rfl)
    (hx : Op1 e none x (S s) := by exact Op1.of rfl (fun _ => rfl)) (ht : T.ty t = some .string := by exact rfl) (hn : Nat.blt d X.n = true := by exact rfl) :
    GL X ops (⟨some d, .range t x, ty, pos, af, g⟩ :: l) kk e w := GL.cons (Step.rangeS T hg hx ht hn h)
theorem sNx {x : Operand} {s : List UInt8} {b i : Nat} (hi : Its w b s i) (hlt : i < s.length)
    (h : ∀ w', Its w' b s (i + (Utf8.decode ⟨⟨s⟩⟩ i).2) → Wr b w w' → GL X ops l kk ((d, none, .tuple ⟨[.bool true, .int .i64 i, .int .i32 (Utf8.decode ⟨⟨s⟩⟩ i).1]⟩) :: e) w')
    (hg : guardE ops e ⟨some d, .next x true, ty, pos, af, g⟩ = some none := by exact rfl) (hx : Op1 e none x (ptr b) := by exact Op1.of rfl (fun _ => rfl)) (hn : Nat.blt d X.n = true := by exact rfl) :
    GL X ops (⟨some d, .next x true, ty, pos, af, g⟩ :: l) kk e w := GL.cons (Step.nextS hg hi hx hlt hn h)
theorem sNe {x : Operand} {s : List UInt8} {b i : Nat} (hi : Its w b s i) (hlt : ¬ i < s.length)
    (h : GL X ops l kk ((d, none, .tuple ⟨[.bool false]⟩) :: e) w)
    (hg : guardE ops e ⟨some d, .next x true, ty, pos, af, g⟩ = some none := by exact rfl) (hx : Op1 e none x (ptr b) := by exact Op1.of rfl (fun _ => rfl)) (hn : Nat.blt d X.n = true := by exact rfl) :
    GL X ops (⟨some d, .next x true, ty, pos, af, g⟩ :: l) kk e w := GL.cons (Step.nextE hg hi hx hlt hn h)
end
end Go.Vg
end
