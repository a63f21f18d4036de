/- Part of the proof of a statement about the given program. -/
import Derived.Test.YtmkckngecjpklaaGreatDoorP01
import Derived.Test.YtmkckngecjpklaaGreatDoorProg
import Derived.KernelRfl
import Derived.Shelf.Strings.Builder1
import Derived.Shelf.Strings.Builder2
import Derived.Shelf.Strings.OnBuilder
import Derived.Shelf.Small.Utf8
import Derived.Shelf.Small.Strs
import Derived.Shelf.Strings.BuilderF
import Derived.Shelf.Strings.Search1
import Derived.Shelf.Strings.Prefix
import Derived.Shelf.Unicode.Decode
import Derived.Shelf.Strings.Runes
import Derived.Shelf.Unicode.DecodeSlow
import Derived.Shelf.Unicode.DecodeAny
import Derived.Shelf.Unicode.ValidAny
import Derived.Lib.AppendStr
import Derived.Laws.BytesArg
import Derived.Laws.IdiomStrings
import Derived.Lib.Overlaps
import Derived.Lib.AppendZerosOnto
import Derived.Lib.SlBytesConst
import Derived.MapKept
import Derived.Scope
import Derived.OwnWalk
import Derived.Lib.SmallJoins
import Derived.WalkLawsBesides
section
namespace Go.Proofs.YtmkckngecjpklaaGreatDoor
open Go Go.Vg
def tyL : List (Nat × TypeDesc) := [(2, (TypeDesc.int IntKind.i64)),
  (3, (TypeDesc.int IntKind.i64)),
  (4, TypeDesc.bool),
  (5, (TypeDesc.int IntKind.u8)),
  (7, (TypeDesc.struct #[{ name := "x", type := 2, offset := 0, embedded := false, tag := "", pkgPath := "runtime", byteOffset := 0 }, { name := "y", type := 3, offset := 1, embedded := false, tag := "", pkgPath := "runtime", byteOffset := 8 }, { name := "signed", type := 4, offset := 2, embedded := false, tag := "", pkgPath := "runtime", byteOffset := 16 }, { name := "code", type := 6, offset := 3, embedded := false, tag := "", pkgPath := "runtime", byteOffset := 17 }])),
  (9, TypeDesc.string),
  (12, (TypeDesc.int IntKind.u64)),
  (13, (TypeDesc.struct #[{ name := "msg", type := 9, offset := 0, embedded := false, tag := "", pkgPath := "runtime", byteOffset := 0 }, { name := "addr", type := 12, offset := 1, embedded := false, tag := "", pkgPath := "runtime", byteOffset := 16 }])),
  (19, (TypeDesc.struct #[{ name := "typ", type := 17, offset := 0, embedded := false, tag := "", pkgPath := "internal/runtime/maps", byteOffset := 0 }])),
  (20, (TypeDesc.interface #[])),
  (21, (TypeDesc.int IntKind.i32)),
  (22, (TypeDesc.slice 26)),
  (23, (TypeDesc.slice 78)),
  (24, (TypeDesc.float FloatKind.f64)),
  (25, (TypeDesc.struct #[{ name := "Labels", type := 23, offset := 0, embedded := false, tag := "", pkgPath := "", byteOffset := 0 }, { name := "V", type := 24, offset := 1, embedded := false, tag := "", pkgPath := "", byteOffset := 24 }, { name := "T", type := 3, offset := 2, embedded := false, tag := "", pkgPath := "", byteOffset := 32 }, { name := "HasT", type := 4, offset := 3, embedded := false, tag := "", pkgPath := "", byteOffset := 40 }])),
  (26, (TypeDesc.struct #[{ name := "Labels", type := 23, offset := 0, embedded := false, tag := "", pkgPath := "", byteOffset := 0 }, { name := "V", type := 24, offset := 1, embedded := false, tag := "", pkgPath := "", byteOffset := 24 }, { name := "T", type := 3, offset := 2, embedded := false, tag := "", pkgPath := "", byteOffset := 32 }, { name := "HasT", type := 4, offset := 3, embedded := false, tag := "", pkgPath := "", byteOffset := 40 }])),
  (30, (TypeDesc.struct #[{ name := "Job", type := 9, offset := 0, embedded := false, tag := "", pkgPath := "", byteOffset := 0 }, { name := "Labels", type := 23, offset := 1, embedded := false, tag := "", pkgPath := "", byteOffset := 16 }, { name := "URL", type := 9, offset := 2, embedded := false, tag := "", pkgPath := "", byteOffset := 40 }, { name := "Offset", type := 3, offset := 3, embedded := false, tag := "", pkgPath := "", byteOffset := 56 }])),
  (31, (TypeDesc.struct #[{ name := "Job", type := 9, offset := 0, embedded := false, tag := "", pkgPath := "", byteOffset := 0 }, { name := "Labels", type := 23, offset := 1, embedded := false, tag := "", pkgPath := "", byteOffset := 16 }, { name := "URL", type := 9, offset := 2, embedded := false, tag := "", pkgPath := "", byteOffset := 40 }, { name := "Offset", type := 3, offset := 3, embedded := false, tag := "", pkgPath := "", byteOffset := 56 }])),
  (32, (TypeDesc.slice 45)),
  (33, (TypeDesc.slice 23)),
  (34, (TypeDesc.int IntKind.i64)),
  (37, (TypeDesc.slice 63)),
  (38, (TypeDesc.struct #[{ name := "Name", type := 9, offset := 0, embedded := false, tag := "", pkgPath := "", byteOffset := 0 }, { name := "Interval", type := 3, offset := 1, embedded := false, tag := "", pkgPath := "", byteOffset := 16 }, { name := "SampleLimit", type := 3, offset := 2, embedded := false, tag := "", pkgPath := "", byteOffset := 24 }, { name := "Honor", type := 4, offset := 3, embedded := false, tag := "", pkgPath := "", byteOffset := 32 }, { name := "Targets", type := 33, offset := 4, embedded := false, tag := "", pkgPath := "", byteOffset := 40 }, { name := "Relabel", type := 37, offset := 5, embedded := false, tag := "", pkgPath := "", byteOffset := 64 }, { name := "Metric", type := 37, offset := 6, embedded := false, tag := "", pkgPath := "", byteOffset := 88 }])),
  (39, (TypeDesc.struct #[{ name := "Name", type := 9, offset := 0, embedded := false, tag := "", pkgPath := "", byteOffset := 0 }, { name := "Interval", type := 3, offset := 1, embedded := false, tag := "", pkgPath := "", byteOffset := 16 }, { name := "SampleLimit", type := 3, offset := 2, embedded := false, tag := "", pkgPath := "", byteOffset := 24 }, { name := "Honor", type := 4, offset := 3, embedded := false, tag := "", pkgPath := "", byteOffset := 32 }, { name := "Targets", type := 33, offset := 4, embedded := false, tag := "", pkgPath := "", byteOffset := 40 }, { name := "Relabel", type := 37, offset := 5, embedded := false, tag := "", pkgPath := "", byteOffset := 64 }, { name := "Metric", type := 37, offset := 6, embedded := false, tag := "", pkgPath := "", byteOffset := 88 }])),
  (40, (TypeDesc.slice 5)),
  (44, (TypeDesc.struct #[{ name := "Labels", type := 23, offset := 0, embedded := false, tag := "", pkgPath := "", byteOffset := 0 }, { name := "T", type := 3, offset := 1, embedded := false, tag := "", pkgPath := "", byteOffset := 24 }, { name := "V", type := 24, offset := 2, embedded := false, tag := "", pkgPath := "", byteOffset := 32 }])),
  (45, (TypeDesc.struct #[{ name := "Labels", type := 23, offset := 0, embedded := false, tag := "", pkgPath := "", byteOffset := 0 }, { name := "T", type := 3, offset := 1, embedded := false, tag := "", pkgPath := "", byteOffset := 24 }, { name := "V", type := 24, offset := 2, embedded := false, tag := "", pkgPath := "", byteOffset := 32 }])),
  (48, (TypeDesc.struct #[{ name := "Job", type := 39, offset := 0, embedded := false, tag := "", pkgPath := "", byteOffset := 0 }, { name := "Target", type := 23, offset := 7, embedded := false, tag := "", pkgPath := "", byteOffset := 112 }, { name := "Now", type := 3, offset := 8, embedded := false, tag := "", pkgPath := "", byteOffset := 136 }, { name := "Body", type := 40, offset := 9, embedded := false, tag := "", pkgPath := "", byteOffset := 144 }, { name := "Before", type := 33, offset := 10, embedded := false, tag := "", pkgPath := "", byteOffset := 168 }])),
  (49, (TypeDesc.struct #[{ name := "Job", type := 39, offset := 0, embedded := false, tag := "", pkgPath := "", byteOffset := 0 }, { name := "Target", type := 23, offset := 7, embedded := false, tag := "", pkgPath := "", byteOffset := 112 }, { name := "Now", type := 3, offset := 8, embedded := false, tag := "", pkgPath := "", byteOffset := 136 }, { name := "Body", type := 40, offset := 9, embedded := false, tag := "", pkgPath := "", byteOffset := 144 }, { name := "Before", type := 33, offset := 10, embedded := false, tag := "", pkgPath := "", byteOffset := 168 }])),
  (61, (TypeDesc.slice 9)),
  (62, (TypeDesc.struct #[{ name := "Action", type := 3, offset := 0, embedded := false, tag := "", pkgPath := "", byteOffset := 0 }, { name := "Sources", type := 61, offset := 1, embedded := false, tag := "", pkgPath := "", byteOffset := 8 }, { name := "Separator", type := 9, offset := 2, embedded := false, tag := "", pkgPath := "", byteOffset := 32 }, { name := "Regex", type := 9, offset := 3, embedded := false, tag := "", pkgPath := "", byteOffset := 48 }, { name := "Modulus", type := 3, offset := 4, embedded := false, tag := "", pkgPath := "", byteOffset := 64 }, { name := "Target", type := 9, offset := 5, embedded := false, tag := "", pkgPath := "", byteOffset := 72 }, { name := "Replacement", type := 9, offset := 6, embedded := false, tag := "", pkgPath := "", byteOffset := 88 }])),
  (63, (TypeDesc.struct #[{ name := "Action", type := 3, offset := 0, embedded := false, tag := "", pkgPath := "", byteOffset := 0 }, { name := "Sources", type := 61, offset := 1, embedded := false, tag := "", pkgPath := "", byteOffset := 8 }, { name := "Separator", type := 9, offset := 2, embedded := false, tag := "", pkgPath := "", byteOffset := 32 }, { name := "Regex", type := 9, offset := 3, embedded := false, tag := "", pkgPath := "", byteOffset := 48 }, { name := "Modulus", type := 3, offset := 4, embedded := false, tag := "", pkgPath := "", byteOffset := 64 }, { name := "Target", type := 9, offset := 5, embedded := false, tag := "", pkgPath := "", byteOffset := 72 }, { name := "Replacement", type := 9, offset := 6, embedded := false, tag := "", pkgPath := "", byteOffset := 88 }])),
  (69, (TypeDesc.struct #[{ name := "A", type := 23, offset := 0, embedded := false, tag := "", pkgPath := "", byteOffset := 0 }, { name := "B", type := 23, offset := 1, embedded := false, tag := "", pkgPath := "", byteOffset := 24 }, { name := "Sources", type := 61, offset := 2, embedded := false, tag := "", pkgPath := "", byteOffset := 48 }, { name := "Modulus", type := 3, offset := 3, embedded := false, tag := "", pkgPath := "", byteOffset := 72 }])),
  (70, (TypeDesc.struct #[{ name := "A", type := 23, offset := 0, embedded := false, tag := "", pkgPath := "", byteOffset := 0 }, { name := "B", type := 23, offset := 1, embedded := false, tag := "", pkgPath := "", byteOffset := 24 }, { name := "Sources", type := 61, offset := 2, embedded := false, tag := "", pkgPath := "", byteOffset := 48 }, { name := "Modulus", type := 3, offset := 3, embedded := false, tag := "", pkgPath := "", byteOffset := 72 }])),
  (77, (TypeDesc.struct #[{ name := "Name", type := 9, offset := 0, embedded := false, tag := "", pkgPath := "", byteOffset := 0 }, { name := "Value", type := 9, offset := 1, embedded := false, tag := "", pkgPath := "", byteOffset := 16 }])),
  (78, (TypeDesc.struct #[{ name := "Name", type := 9, offset := 0, embedded := false, tag := "", pkgPath := "", byteOffset := 0 }, { name := "Value", type := 9, offset := 1, embedded := false, tag := "", pkgPath := "", byteOffset := 16 }])),
  (82, (TypeDesc.slice 31)),
  (88, (TypeDesc.slice 240)),
  (93, (TypeDesc.array 4 3)),
  (100, (TypeDesc.int IntKind.u64)),
  (107, (TypeDesc.pointer 176)),
  (111, (TypeDesc.pointer 191)),
  (122, (TypeDesc.func #[205] #[] false)),
  (134, (TypeDesc.pointer 137)),
  (135, (TypeDesc.map 9 3)),
  (136, (TypeDesc.struct #[{ name := "l", type := 88, offset := 0, embedded := false, tag := "", pkgPath := "vigil/expo", byteOffset := 0 }, { name := "at", type := 135, offset := 1, embedded := false, tag := "", pkgPath := "vigil/expo", byteOffset := 24 }])),
  (137, (TypeDesc.struct #[{ name := "l", type := 88, offset := 0, embedded := false, tag := "", pkgPath := "vigil/expo", byteOffset := 0 }, { name := "at", type := 135, offset := 1, embedded := false, tag := "", pkgPath := "vigil/expo", byteOffset := 24 }])),
  (139, (TypeDesc.func #[221] #[] false)),
  (142, (TypeDesc.struct #[{ name := "word", type := 9, offset := 0, embedded := false, tag := "", pkgPath := "vigil/expo", byteOffset := 0 }, { name := "name", type := 9, offset := 1, embedded := false, tag := "", pkgPath := "vigil/expo", byteOffset := 16 }, { name := "rest", type := 9, offset := 2, embedded := false, tag := "", pkgPath := "vigil/expo", byteOffset := 32 }])),
  (143, (TypeDesc.struct #[{ name := "word", type := 9, offset := 0, embedded := false, tag := "", pkgPath := "vigil/expo", byteOffset := 0 }, { name := "name", type := 9, offset := 1, embedded := false, tag := "", pkgPath := "vigil/expo", byteOffset := 16 }, { name := "rest", type := 9, offset := 2, embedded := false, tag := "", pkgPath := "vigil/expo", byteOffset := 32 }])),
  (152, (TypeDesc.array 4 9)),
  (164, (TypeDesc.pointer 274)),
  (167, (TypeDesc.pointer 170)),
  (168, (TypeDesc.slice 174)),
  (169, (TypeDesc.struct #[{ name := "steps", type := 168, offset := 0, embedded := false, tag := "", pkgPath := "vigil/regex", byteOffset := 0 }, { name := "full", type := 4, offset := 1, embedded := false, tag := "", pkgPath := "vigil/regex", byteOffset := 24 }])),
  (170, (TypeDesc.struct #[{ name := "steps", type := 168, offset := 0, embedded := false, tag := "", pkgPath := "vigil/regex", byteOffset := 0 }, { name := "full", type := 4, offset := 1, embedded := false, tag := "", pkgPath := "vigil/regex", byteOffset := 24 }])),
  (173, (TypeDesc.struct #[{ name := "kind", type := 3, offset := 0, embedded := false, tag := "", pkgPath := "vigil/regex", byteOffset := 0 }, { name := "set", type := 164, offset := 1, embedded := false, tag := "", pkgPath := "vigil/regex", byteOffset := 8 }, { name := "slot", type := 3, offset := 2, embedded := false, tag := "", pkgPath := "vigil/regex", byteOffset := 16 }, { name := "a", type := 3, offset := 3, embedded := false, tag := "", pkgPath := "vigil/regex", byteOffset := 24 }, { name := "b", type := 3, offset := 4, embedded := false, tag := "", pkgPath := "vigil/regex", byteOffset := 32 }])),
  (174, (TypeDesc.struct #[{ name := "kind", type := 3, offset := 0, embedded := false, tag := "", pkgPath := "vigil/regex", byteOffset := 0 }, { name := "set", type := 164, offset := 1, embedded := false, tag := "", pkgPath := "vigil/regex", byteOffset := 8 }, { name := "slot", type := 3, offset := 2, embedded := false, tag := "", pkgPath := "vigil/regex", byteOffset := 16 }, { name := "a", type := 3, offset := 3, embedded := false, tag := "", pkgPath := "vigil/regex", byteOffset := 24 }, { name := "b", type := 3, offset := 4, embedded := false, tag := "", pkgPath := "vigil/regex", byteOffset := 32 }])),
  (175, (TypeDesc.struct #[{ name := "steps", type := 168, offset := 0, embedded := false, tag := "", pkgPath := "vigil/regex", byteOffset := 0 }, { name := "groups", type := 3, offset := 1, embedded := false, tag := "", pkgPath := "vigil/regex", byteOffset := 24 }])),
  (176, (TypeDesc.struct #[{ name := "steps", type := 168, offset := 0, embedded := false, tag := "", pkgPath := "vigil/regex", byteOffset := 0 }, { name := "groups", type := 3, offset := 1, embedded := false, tag := "", pkgPath := "vigil/regex", byteOffset := 24 }])),
  (178, (TypeDesc.pointer 180)),
  (179, (TypeDesc.struct #[{ name := "s", type := 9, offset := 0, embedded := false, tag := "", pkgPath := "vigil/vigilref04", byteOffset := 0 }, { name := "at", type := 3, offset := 1, embedded := false, tag := "", pkgPath := "vigil/vigilref04", byteOffset := 16 }, { name := "wrong", type := 3, offset := 2, embedded := false, tag := "", pkgPath := "vigil/vigilref04", byteOffset := 24 }, { name := "count", type := 3, offset := 3, embedded := false, tag := "", pkgPath := "vigil/vigilref04", byteOffset := 32 }])),
  (180, (TypeDesc.struct #[{ name := "s", type := 9, offset := 0, embedded := false, tag := "", pkgPath := "vigil/vigilref04", byteOffset := 0 }, { name := "at", type := 3, offset := 1, embedded := false, tag := "", pkgPath := "vigil/vigilref04", byteOffset := 16 }, { name := "wrong", type := 3, offset := 2, embedded := false, tag := "", pkgPath := "vigil/vigilref04", byteOffset := 24 }, { name := "count", type := 3, offset := 3, embedded := false, tag := "", pkgPath := "vigil/vigilref04", byteOffset := 32 }])),
  (181, (TypeDesc.slice 3)),
  (182, (TypeDesc.struct #[{ name := "l", type := 181, offset := 0, embedded := false, tag := "", pkgPath := "vigil/vigilref04", byteOffset := 0 }, { name := "not", type := 4, offset := 1, embedded := false, tag := "", pkgPath := "vigil/vigilref04", byteOffset := 24 }])),
  (183, (TypeDesc.struct #[{ name := "l", type := 181, offset := 0, embedded := false, tag := "", pkgPath := "vigil/vigilref04", byteOffset := 0 }, { name := "not", type := 4, offset := 1, embedded := false, tag := "", pkgPath := "vigil/vigilref04", byteOffset := 24 }])),
  (184, (TypeDesc.slice 186)),
  (185, (TypeDesc.struct #[{ name := "kind", type := 3, offset := 0, embedded := false, tag := "", pkgPath := "vigil/vigilref04", byteOffset := 0 }, { name := "c", type := 183, offset := 1, embedded := false, tag := "", pkgPath := "vigil/vigilref04", byteOffset := 8 }, { name := "kids", type := 184, offset := 3, embedded := false, tag := "", pkgPath := "vigil/vigilref04", byteOffset := 40 }, { name := "n", type := 3, offset := 4, embedded := false, tag := "", pkgPath := "vigil/vigilref04", byteOffset := 64 }, { name := "lo", type := 3, offset := 5, embedded := false, tag := "", pkgPath := "vigil/vigilref04", byteOffset := 72 }, { name := "hi", type := 3, offset := 6, embedded := false, tag := "", pkgPath := "vigil/vigilref04", byteOffset := 80 }, { name := "lazy", type := 4, offset := 7, embedded := false, tag := "", pkgPath := "vigil/vigilref04", byteOffset := 88 }])),
  (186, (TypeDesc.struct #[{ name := "kind", type := 3, offset := 0, embedded := false, tag := "", pkgPath := "vigil/vigilref04", byteOffset := 0 }, { name := "c", type := 183, offset := 1, embedded := false, tag := "", pkgPath := "vigil/vigilref04", byteOffset := 8 }, { name := "kids", type := 184, offset := 3, embedded := false, tag := "", pkgPath := "vigil/vigilref04", byteOffset := 40 }, { name := "n", type := 3, offset := 4, embedded := false, tag := "", pkgPath := "vigil/vigilref04", byteOffset := 64 }, { name := "lo", type := 3, offset := 5, embedded := false, tag := "", pkgPath := "vigil/vigilref04", byteOffset := 72 }, { name := "hi", type := 3, offset := 6, embedded := false, tag := "", pkgPath := "vigil/vigilref04", byteOffset := 80 }, { name := "lazy", type := 4, offset := 7, embedded := false, tag := "", pkgPath := "vigil/vigilref04", byteOffset := 88 }])),
  (189, (TypeDesc.slice 194)),
  (190, (TypeDesc.struct #[{ name := "Steps", type := 189, offset := 0, embedded := false, tag := "", pkgPath := "", byteOffset := 0 }, { name := "Count", type := 3, offset := 1, embedded := false, tag := "", pkgPath := "", byteOffset := 24 }])),
  (191, (TypeDesc.struct #[{ name := "Steps", type := 189, offset := 0, embedded := false, tag := "", pkgPath := "", byteOffset := 0 }, { name := "Count", type := 3, offset := 1, embedded := false, tag := "", pkgPath := "", byteOffset := 24 }])),
  (193, (TypeDesc.struct #[{ name := "kind", type := 3, offset := 0, embedded := false, tag := "", pkgPath := "vigil/vigilref04", byteOffset := 0 }, { name := "a", type := 3, offset := 1, embedded := false, tag := "", pkgPath := "vigil/vigilref04", byteOffset := 8 }, { name := "b", type := 3, offset := 2, embedded := false, tag := "", pkgPath := "vigil/vigilref04", byteOffset := 16 }, { name := "c", type := 183, offset := 3, embedded := false, tag := "", pkgPath := "vigil/vigilref04", byteOffset := 24 }])),
  (194, (TypeDesc.struct #[{ name := "kind", type := 3, offset := 0, embedded := false, tag := "", pkgPath := "vigil/vigilref04", byteOffset := 0 }, { name := "a", type := 3, offset := 1, embedded := false, tag := "", pkgPath := "vigil/vigilref04", byteOffset := 8 }, { name := "b", type := 3, offset := 2, embedded := false, tag := "", pkgPath := "vigil/vigilref04", byteOffset := 16 }, { name := "c", type := 183, offset := 3, embedded := false, tag := "", pkgPath := "vigil/vigilref04", byteOffset := 24 }])),
  (207, (TypeDesc.array 256 5)),
  (208, (TypeDesc.struct #[{ name := "lo", type := 5, offset := 0, embedded := false, tag := "", pkgPath := "unicode/utf8", byteOffset := 0 }, { name := "hi", type := 5, offset := 1, embedded := false, tag := "", pkgPath := "unicode/utf8", byteOffset := 1 }])),
  (209, (TypeDesc.struct #[{ name := "lo", type := 5, offset := 0, embedded := false, tag := "", pkgPath := "unicode/utf8", byteOffset := 0 }, { name := "hi", type := 5, offset := 1, embedded := false, tag := "", pkgPath := "unicode/utf8", byteOffset := 1 }])),
  (210, (TypeDesc.array 16 209)),
  (211, (TypeDesc.int IntKind.u64)),
  (212, (TypeDesc.slice 37)),
  (225, (TypeDesc.array 256 4)),
  (226, (TypeDesc.array 256 4)),
  (230, (TypeDesc.pointer 226)),
  (231, (TypeDesc.struct #[{ name := "at", type := 3, offset := 0, embedded := false, tag := "", pkgPath := "vigil/expo", byteOffset := 0 }, { name := "why", type := 34, offset := 1, embedded := false, tag := "", pkgPath := "vigil/expo", byteOffset := 8 }])),
  (232, (TypeDesc.struct #[{ name := "at", type := 3, offset := 0, embedded := false, tag := "", pkgPath := "vigil/expo", byteOffset := 0 }, { name := "why", type := 34, offset := 1, embedded := false, tag := "", pkgPath := "vigil/expo", byteOffset := 8 }])),
  (233, (TypeDesc.pointer 235)),
  (234, (TypeDesc.struct #[{ name := "s", type := 9, offset := 0, embedded := false, tag := "", pkgPath := "vigil/expo", byteOffset := 0 }, { name := "at", type := 3, offset := 1, embedded := false, tag := "", pkgPath := "vigil/expo", byteOffset := 16 }])),
  (235, (TypeDesc.struct #[{ name := "s", type := 9, offset := 0, embedded := false, tag := "", pkgPath := "vigil/expo", byteOffset := 0 }, { name := "at", type := 3, offset := 1, embedded := false, tag := "", pkgPath := "vigil/expo", byteOffset := 16 }])),
  (239, (TypeDesc.struct #[{ name := "Name", type := 9, offset := 0, embedded := false, tag := "", pkgPath := "", byteOffset := 0 }, { name := "Kind", type := 9, offset := 1, embedded := false, tag := "", pkgPath := "", byteOffset := 16 }, { name := "Help", type := 9, offset := 2, embedded := false, tag := "", pkgPath := "", byteOffset := 32 }])),
  (240, (TypeDesc.struct #[{ name := "Name", type := 9, offset := 0, embedded := false, tag := "", pkgPath := "", byteOffset := 0 }, { name := "Kind", type := 9, offset := 1, embedded := false, tag := "", pkgPath := "", byteOffset := 16 }, { name := "Help", type := 9, offset := 2, embedded := false, tag := "", pkgPath := "", byteOffset := 32 }])),
  (252, (TypeDesc.slice 3)),
  (254, (TypeDesc.struct #[{ name := "digits", type := 252, offset := 0, embedded := false, tag := "", pkgPath := "vigil/vigilref03", byteOffset := 0 }, { name := "exp", type := 3, offset := 1, embedded := false, tag := "", pkgPath := "vigil/vigilref03", byteOffset := 24 }])),
  (255, (TypeDesc.struct #[{ name := "digits", type := 252, offset := 0, embedded := false, tag := "", pkgPath := "vigil/vigilref03", byteOffset := 0 }, { name := "exp", type := 3, offset := 1, embedded := false, tag := "", pkgPath := "vigil/vigilref03", byteOffset := 24 }])),
  (263, (TypeDesc.array 5 9)),
  (264, (TypeDesc.pointer 266)),
  (265, (TypeDesc.struct #[{ name := "s", type := 9, offset := 0, embedded := false, tag := "", pkgPath := "vigil/regex", byteOffset := 0 }, { name := "at", type := 3, offset := 1, embedded := false, tag := "", pkgPath := "vigil/regex", byteOffset := 16 }, { name := "groups", type := 3, offset := 2, embedded := false, tag := "", pkgPath := "vigil/regex", byteOffset := 24 }])),
  (266, (TypeDesc.struct #[{ name := "s", type := 9, offset := 0, embedded := false, tag := "", pkgPath := "vigil/regex", byteOffset := 0 }, { name := "at", type := 3, offset := 1, embedded := false, tag := "", pkgPath := "vigil/regex", byteOffset := 16 }, { name := "groups", type := 3, offset := 2, embedded := false, tag := "", pkgPath := "vigil/regex", byteOffset := 24 }])),
  (267, (TypeDesc.struct #[{ name := "at", type := 3, offset := 0, embedded := false, tag := "", pkgPath := "vigil/regex", byteOffset := 0 }])),
  (268, (TypeDesc.struct #[{ name := "at", type := 3, offset := 0, embedded := false, tag := "", pkgPath := "vigil/regex", byteOffset := 0 }])),
  (271, (TypeDesc.slice 358)),
  (272, (TypeDesc.slice 164)),
  (273, (TypeDesc.struct #[{ name := "kind", type := 3, offset := 0, embedded := false, tag := "", pkgPath := "vigil/regex", byteOffset := 0 }, { name := "spans", type := 271, offset := 1, embedded := false, tag := "", pkgPath := "vigil/regex", byteOffset := 8 }, { name := "not", type := 4, offset := 2, embedded := false, tag := "", pkgPath := "vigil/regex", byteOffset := 32 }, { name := "number", type := 3, offset := 3, embedded := false, tag := "", pkgPath := "vigil/regex", byteOffset := 40 }, { name := "min", type := 3, offset := 4, embedded := false, tag := "", pkgPath := "vigil/regex", byteOffset := 48 }, { name := "max", type := 3, offset := 5, embedded := false, tag := "", pkgPath := "vigil/regex", byteOffset := 56 }, { name := "few", type := 4, offset := 6, embedded := false, tag := "", pkgPath := "vigil/regex", byteOffset := 64 }, { name := "plus", type := 4, offset := 7, embedded := false, tag := "", pkgPath := "vigil/regex", byteOffset := 65 }, { name := "kids", type := 272, offset := 8, embedded := false, tag := "", pkgPath := "vigil/regex", byteOffset := 72 }])),
  (274, (TypeDesc.struct #[{ name := "kind", type := 3, offset := 0, embedded := false, tag := "", pkgPath := "vigil/regex", byteOffset := 0 }, { name := "spans", type := 271, offset := 1, embedded := false, tag := "", pkgPath := "vigil/regex", byteOffset := 8 }, { name := "not", type := 4, offset := 2, embedded := false, tag := "", pkgPath := "vigil/regex", byteOffset := 32 }, { name := "number", type := 3, offset := 3, embedded := false, tag := "", pkgPath := "vigil/regex", byteOffset := 40 }, { name := "min", type := 3, offset := 4, embedded := false, tag := "", pkgPath := "vigil/regex", byteOffset := 48 }, { name := "max", type := 3, offset := 5, embedded := false, tag := "", pkgPath := "vigil/regex", byteOffset := 56 }, { name := "few", type := 4, offset := 6, embedded := false, tag := "", pkgPath := "vigil/regex", byteOffset := 64 }, { name := "plus", type := 4, offset := 7, embedded := false, tag := "", pkgPath := "vigil/regex", byteOffset := 65 }, { name := "kids", type := 272, offset := 8, embedded := false, tag := "", pkgPath := "vigil/regex", byteOffset := 72 }])),
  (277, (TypeDesc.pointer 279)),
  (278, (TypeDesc.struct #[{ name := "addr", type := 277, offset := 0, embedded := false, tag := "", pkgPath := "strings", byteOffset := 0 }, { name := "buf", type := 40, offset := 1, embedded := false, tag := "", pkgPath := "strings", byteOffset := 8 }])),
  (279, (TypeDesc.struct #[{ name := "addr", type := 277, offset := 0, embedded := false, tag := "", pkgPath := "strings", byteOffset := 0 }, { name := "buf", type := 40, offset := 1, embedded := false, tag := "", pkgPath := "strings", byteOffset := 8 }])),
  (280, (TypeDesc.interface #[("Error", 287)])),
  (281, (TypeDesc.interface #[("Error", 287)])),
  (288, (TypeDesc.array 20 5)),
  (289, (TypeDesc.pointer 292)),
  (290, (TypeDesc.slice 4)),
  (291, (TypeDesc.struct #[{ name := "p", type := 111, offset := 0, embedded := false, tag := "", pkgPath := "vigil/vigilref04", byteOffset := 0 }, { name := "s", type := 9, offset := 1, embedded := false, tag := "", pkgPath := "vigil/vigilref04", byteOffset := 8 }, { name := "seen", type := 290, offset := 2, embedded := false, tag := "", pkgPath := "vigil/vigilref04", byteOffset := 24 }])),
  (292, (TypeDesc.struct #[{ name := "p", type := 111, offset := 0, embedded := false, tag := "", pkgPath := "vigil/vigilref04", byteOffset := 0 }, { name := "s", type := 9, offset := 1, embedded := false, tag := "", pkgPath := "vigil/vigilref04", byteOffset := 8 }, { name := "seen", type := 290, offset := 2, embedded := false, tag := "", pkgPath := "vigil/vigilref04", byteOffset := 24 }])),
  (296, (TypeDesc.array 2 9)),
  (305, (TypeDesc.int IntKind.i64)),
  (312, (TypeDesc.int IntKind.u32)),
  (320, (TypeDesc.pointer 322)),
  (321, (TypeDesc.struct #[{ name := "s", type := 9, offset := 0, embedded := false, tag := "", pkgPath := "vigil/vigilref11", byteOffset := 0 }, { name := "at", type := 3, offset := 1, embedded := false, tag := "", pkgPath := "vigil/vigilref11", byteOffset := 16 }, { name := "bad", type := 4, offset := 2, embedded := false, tag := "", pkgPath := "vigil/vigilref11", byteOffset := 24 }, { name := "where", type := 3, offset := 3, embedded := false, tag := "", pkgPath := "vigil/vigilref11", byteOffset := 32 }, { name := "why", type := 34, offset := 4, embedded := false, tag := "", pkgPath := "vigil/vigilref11", byteOffset := 40 }, { name := "names", type := 61, offset := 5, embedded := false, tag := "", pkgPath := "vigil/vigilref11", byteOffset := 48 }, { name := "values", type := 61, offset := 6, embedded := false, tag := "", pkgPath := "vigil/vigilref11", byteOffset := 72 }])),
  (322, (TypeDesc.struct #[{ name := "s", type := 9, offset := 0, embedded := false, tag := "", pkgPath := "vigil/vigilref11", byteOffset := 0 }, { name := "at", type := 3, offset := 1, embedded := false, tag := "", pkgPath := "vigil/vigilref11", byteOffset := 16 }, { name := "bad", type := 4, offset := 2, embedded := false, tag := "", pkgPath := "vigil/vigilref11", byteOffset := 24 }, { name := "where", type := 3, offset := 3, embedded := false, tag := "", pkgPath := "vigil/vigilref11", byteOffset := 32 }, { name := "why", type := 34, offset := 4, embedded := false, tag := "", pkgPath := "vigil/vigilref11", byteOffset := 40 }, { name := "names", type := 61, offset := 5, embedded := false, tag := "", pkgPath := "vigil/vigilref11", byteOffset := 48 }, { name := "values", type := 61, offset := 6, embedded := false, tag := "", pkgPath := "vigil/vigilref11", byteOffset := 72 }])),
  (327, (TypeDesc.struct #[{ name := "fork", type := 4, offset := 0, embedded := false, tag := "", pkgPath := "vigil/regex", byteOffset := 0 }, { name := "step", type := 3, offset := 1, embedded := false, tag := "", pkgPath := "vigil/regex", byteOffset := 8 }, { name := "at", type := 3, offset := 2, embedded := false, tag := "", pkgPath := "vigil/regex", byteOffset := 16 }, { name := "slot", type := 3, offset := 3, embedded := false, tag := "", pkgPath := "vigil/regex", byteOffset := 24 }, { name := "was", type := 3, offset := 4, embedded := false, tag := "", pkgPath := "vigil/regex", byteOffset := 32 }, { name := "seq", type := 3, offset := 5, embedded := false, tag := "", pkgPath := "vigil/regex", byteOffset := 40 }])),
  (328, (TypeDesc.struct #[{ name := "fork", type := 4, offset := 0, embedded := false, tag := "", pkgPath := "vigil/regex", byteOffset := 0 }, { name := "step", type := 3, offset := 1, embedded := false, tag := "", pkgPath := "vigil/regex", byteOffset := 8 }, { name := "at", type := 3, offset := 2, embedded := false, tag := "", pkgPath := "vigil/regex", byteOffset := 16 }, { name := "slot", type := 3, offset := 3, embedded := false, tag := "", pkgPath := "vigil/regex", byteOffset := 24 }, { name := "was", type := 3, offset := 4, embedded := false, tag := "", pkgPath := "vigil/regex", byteOffset := 32 }, { name := "seq", type := 3, offset := 5, embedded := false, tag := "", pkgPath := "vigil/regex", byteOffset := 40 }])),
  (329, (TypeDesc.slice 328)),
  (330, (TypeDesc.pointer 174)),
  (332, (TypeDesc.pointer 5)),
  (345, (TypeDesc.int IntKind.u64)),
  (349, (TypeDesc.pointer 3)),
  (357, (TypeDesc.struct #[{ name := "from", type := 21, offset := 0, embedded := false, tag := "", pkgPath := "vigil/regex", byteOffset := 0 }, { name := "to", type := 21, offset := 1, embedded := false, tag := "", pkgPath := "vigil/regex", byteOffset := 4 }])),
  (358, (TypeDesc.struct #[{ name := "from", type := 21, offset := 0, embedded := false, tag := "", pkgPath := "vigil/regex", byteOffset := 0 }, { name := "to", type := 21, offset := 1, embedded := false, tag := "", pkgPath := "vigil/regex", byteOffset := 4 }])),
  (361, (TypeDesc.array 5 3)),
  (368, (TypeDesc.pointer 345)),
  (380, (TypeDesc.struct #[{ name := "digits", type := 9, offset := 0, embedded := false, tag := "", pkgPath := "vigil/num", byteOffset := 0 }, { name := "exp", type := 3, offset := 1, embedded := false, tag := "", pkgPath := "vigil/num", byteOffset := 16 }])),
  (381, (TypeDesc.struct #[{ name := "digits", type := 9, offset := 0, embedded := false, tag := "", pkgPath := "vigil/num", byteOffset := 0 }, { name := "exp", type := 3, offset := 1, embedded := false, tag := "", pkgPath := "vigil/num", byteOffset := 16 }])),
  (388, (TypeDesc.slice 312)),
  (389, (TypeDesc.slice 312))]
theorem tyL_ok : AllT Tryz.prog tyL := ⟨Tryz.underlying2, Tryz.underlying3, Tryz.underlying4, Tryz.underlying5, Tryz.underlying7, Tryz.underlying9, Tryz.underlying12, Tryz.underlying13, Tryz.underlying19, Tryz.underlying20, Tryz.underlying21, Tryz.underlying22, Tryz.underlying23, Tryz.underlying24, Tryz.underlying25, Tryz.underlying26, Tryz.underlying30, Tryz.underlying31, Tryz.underlying32, Tryz.underlying33, Tryz.underlying34, Tryz.underlying37, Tryz.underlying38, Tryz.underlying39, Tryz.underlying40, Tryz.underlying44, Tryz.underlying45, Tryz.underlying48, Tryz.underlying49, Tryz.underlying61, Tryz.underlying62, Tryz.underlying63, Tryz.underlying69, Tryz.underlying70, Tryz.underlying77, Tryz.underlying78, Tryz.underlying82, Tryz.underlying88, Tryz.underlying93, Tryz.underlying100, Tryz.underlying107, Tryz.underlying111, Tryz.underlying122, Tryz.underlying134, Tryz.underlying135, Tryz.underlying136, Tryz.underlying137, Tryz.underlying139, Tryz.underlying142, Tryz.underlying143, Tryz.underlying152, Tryz.underlying164, Tryz.underlying167, Tryz.underlying168, Tryz.underlying169, Tryz.underlying170, Tryz.underlying173, Tryz.underlying174, Tryz.underlying175, Tryz.underlying176, Tryz.underlying178, Tryz.underlying179, Tryz.underlying180, Tryz.underlying181, Tryz.underlying182, Tryz.underlying183, Tryz.underlying184, Tryz.underlying185, Tryz.underlying186, Tryz.underlying189, Tryz.underlying190, Tryz.underlying191, Tryz.underlying193, Tryz.underlying194, Tryz.underlying207, Tryz.underlying208, Tryz.underlying209, Tryz.underlying210, Tryz.underlying211, Tryz.underlying212, Tryz.underlying225, Tryz.underlying226, Tryz.underlying230, Tryz.underlying231, Tryz.underlying232, Tryz.underlying233, Tryz.underlying234, Tryz.underlying235, Tryz.underlying239, Tryz.underlying240, Tryz.underlying252, Tryz.underlying254, Tryz.underlying255, Tryz.underlying263, Tryz.underlying264, Tryz.underlying265, Tryz.underlying266, Tryz.underlying267, Tryz.underlying268, Tryz.underlying271, Tryz.underlying272, Tryz.underlying273, Tryz.underlying274, Tryz.underlying277, Tryz.underlying278, Tryz.underlying279, Tryz.underlying280, Tryz.underlying281, Tryz.underlying288, Tryz.underlying289, Tryz.underlying290, Tryz.underlying291, Tryz.underlying292, Tryz.underlying296, Tryz.underlying305, Tryz.underlying312, Tryz.underlying320, Tryz.underlying321, Tryz.underlying322, Tryz.underlying327, Tryz.underlying328, Tryz.underlying329, Tryz.underlying330, Tryz.underlying332, Tryz.underlying345, Tryz.underlying349, Tryz.underlying357, Tryz.underlying358, Tryz.underlying361, Tryz.underlying368, Tryz.underlying380, Tryz.underlying381, Tryz.underlying388, Tryz.underlying389, trivial⟩
def infL : List (Nat × Value × Nat × Nat) := [(2, (.int .i64 0), 1, 8),
  (3, (.int .i64 0), 1, 8),
  (4, (.bool false), 1, 1),
  (5, (.int .u8 0), 1, 1),
  (7, (.agg ⟨[(.int .i64 0), (.int .i64 0), (.bool false), (.int .u8 0)]⟩), 4, 24),
  (9, (S []), 1, 16),
  (12, (.int .u64 0), 1, 8),
  (13, (.agg ⟨[(S []), (.int .u64 0)]⟩), 2, 24),
  (19, (.agg ⟨[(.pointer none)]⟩), 1, 8),
  (20, .nilIface, 1, 16),
  (21, (.int .i32 0), 1, 4),
  (22, (.slice none 0 0), 1, 24),
  (23, (.slice none 0 0), 1, 24),
  (24, (.float .f64 0), 1, 8),
  (25, (.agg ⟨[(.slice none 0 0), (.float .f64 0), (.int .i64 0), (.bool false)]⟩), 4, 48),
  (26, (.agg ⟨[(.slice none 0 0), (.float .f64 0), (.int .i64 0), (.bool false)]⟩), 4, 48),
  (30, (.agg ⟨[(S []), (.slice none 0 0), (S []), (.int .i64 0)]⟩), 4, 64),
  (31, (.agg ⟨[(S []), (.slice none 0 0), (S []), (.int .i64 0)]⟩), 4, 64),
  (32, (.slice none 0 0), 1, 24),
  (33, (.slice none 0 0), 1, 24),
  (34, (.int .i64 0), 1, 8),
  (37, (.slice none 0 0), 1, 24),
  (38, (.agg ⟨[(S []), (.int .i64 0), (.int .i64 0), (.bool false), (.slice none 0 0), (.slice none 0 0), (.slice none 0 0)]⟩), 7, 112),
  (39, (.agg ⟨[(S []), (.int .i64 0), (.int .i64 0), (.bool false), (.slice none 0 0), (.slice none 0 0), (.slice none 0 0)]⟩), 7, 112),
  (40, (.slice none 0 0), 1, 24),
  (44, (.agg ⟨[(.slice none 0 0), (.int .i64 0), (.float .f64 0)]⟩), 3, 40),
  (45, (.agg ⟨[(.slice none 0 0), (.int .i64 0), (.float .f64 0)]⟩), 3, 40),
  (48, (.agg ⟨[(S []), (.int .i64 0), (.int .i64 0), (.bool false), (.slice none 0 0), (.slice none 0 0), (.slice none 0 0), (.slice none 0 0), (.int .i64 0), (.slice none 0 0), (.slice none 0 0)]⟩), 11, 192),
  (49, (.agg ⟨[(S []), (.int .i64 0), (.int .i64 0), (.bool false), (.slice none 0 0), (.slice none 0 0), (.slice none 0 0), (.slice none 0 0), (.int .i64 0), (.slice none 0 0), (.slice none 0 0)]⟩), 11, 192),
  (61, (.slice none 0 0), 1, 24),
  (62, (.agg ⟨[(.int .i64 0), (.slice none 0 0), (S []), (S []), (.int .i64 0), (S []), (S [])]⟩), 7, 104),
  (63, (.agg ⟨[(.int .i64 0), (.slice none 0 0), (S []), (S []), (.int .i64 0), (S []), (S [])]⟩), 7, 104),
  (69, (.agg ⟨[(.slice none 0 0), (.slice none 0 0), (.slice none 0 0), (.int .i64 0)]⟩), 4, 80),
  (70, (.agg ⟨[(.slice none 0 0), (.slice none 0 0), (.slice none 0 0), (.int .i64 0)]⟩), 4, 80),
  (77, (.agg ⟨[(S []), (S [])]⟩), 2, 32),
  (78, (.agg ⟨[(S []), (S [])]⟩), 2, 32),
  (82, (.slice none 0 0), 1, 24),
  (88, (.slice none 0 0), 1, 24),
  (93, (.agg ⟨[(.int .i64 0), (.int .i64 0), (.int .i64 0), (.int .i64 0)]⟩), 4, 32),
  (100, (.int .u64 0), 1, 8),
  (107, (.pointer none), 1, 8),
  (111, (.pointer none), 1, 8),
  (122, .nilFunc, 1, 8),
  (134, (.pointer none), 1, 8),
  (135, (.map none), 1, 8),
  (136, (.agg ⟨[(.slice none 0 0), (.map none)]⟩), 2, 32),
  (137, (.agg ⟨[(.slice none 0 0), (.map none)]⟩), 2, 32),
  (139, .nilFunc, 1, 8),
  (142, (.agg ⟨[(S []), (S []), (S [])]⟩), 3, 48),
  (143, (.agg ⟨[(S []), (S []), (S [])]⟩), 3, 48),
  (152, (.agg ⟨[(S []), (S []), (S []), (S [])]⟩), 4, 64),
  (164, (.pointer none), 1, 8),
  (167, (.pointer none), 1, 8),
  (168, (.slice none 0 0), 1, 24),
  (169, (.agg ⟨[(.slice none 0 0), (.bool false)]⟩), 2, 32),
  (170, (.agg ⟨[(.slice none 0 0), (.bool false)]⟩), 2, 32),
  (173, (.agg ⟨[(.int .i64 0), (.pointer none), (.int .i64 0), (.int .i64 0), (.int .i64 0)]⟩), 5, 40),
  (174, (.agg ⟨[(.int .i64 0), (.pointer none), (.int .i64 0), (.int .i64 0), (.int .i64 0)]⟩), 5, 40),
  (175, (.agg ⟨[(.slice none 0 0), (.int .i64 0)]⟩), 2, 32),
  (176, (.agg ⟨[(.slice none 0 0), (.int .i64 0)]⟩), 2, 32),
  (178, (.pointer none), 1, 8),
  (179, (.agg ⟨[(S []), (.int .i64 0), (.int .i64 0), (.int .i64 0)]⟩), 4, 40),
  (180, (.agg ⟨[(S []), (.int .i64 0), (.int .i64 0), (.int .i64 0)]⟩), 4, 40),
  (181, (.slice none 0 0), 1, 24),
  (182, (.agg ⟨[(.slice none 0 0), (.bool false)]⟩), 2, 32),
  (183, (.agg ⟨[(.slice none 0 0), (.bool false)]⟩), 2, 32),
  (184, (.slice none 0 0), 1, 24),
  (185, (.agg ⟨[(.int .i64 0), (.slice none 0 0), (.bool false), (.slice none 0 0), (.int .i64 0), (.int .i64 0), (.int .i64 0), (.bool false)]⟩), 8, 96),
  (186, (.agg ⟨[(.int .i64 0), (.slice none 0 0), (.bool false), (.slice none 0 0), (.int .i64 0), (.int .i64 0), (.int .i64 0), (.bool false)]⟩), 8, 96),
  (189, (.slice none 0 0), 1, 24),
  (190, (.agg ⟨[(.slice none 0 0), (.int .i64 0)]⟩), 2, 32),
  (191, (.agg ⟨[(.slice none 0 0), (.int .i64 0)]⟩), 2, 32),
  (193, (.agg ⟨[(.int .i64 0), (.int .i64 0), (.int .i64 0), (.slice none 0 0), (.bool false)]⟩), 5, 56),
  (194, (.agg ⟨[(.int .i64 0), (.int .i64 0), (.int .i64 0), (.slice none 0 0), (.bool false)]⟩), 5, 56),
  (207, (.agg ⟨[(.int .u8 0), (.int .u8 0), (.int .u8 0), (.int .u8 0), (.int .u8 0), (.int .u8 0), (.int .u8 0), (.int .u8 0), (.int .u8 0), (.int .u8 0), (.int .u8 0), (.int .u8 0), (.int .u8 0), (.int .u8 0), (.int .u8 0), (.int .u8 0), (.int .u8 0), (.int .u8 0), (.int .u8 0), (.int .u8 0), (.int .u8 0), (.int .u8 0), (.int .u8 0), (.int .u8 0), (.int .u8 0), (.int .u8 0), (.int .u8 0), (.int .u8 0), (.int .u8 0), (.int .u8 0), (.int .u8 0), (.int .u8 0), (.int .u8 0), (.int .u8 0), (.int .u8 0), (.int .u8 0), (.int .u8 0), (.int .u8 0), (.int .u8 0), (.int .u8 0), (.int .u8 0), (.int .u8 0), (.int .u8 0), (.int .u8 0), (.int .u8 0), (.int .u8 0), (.int .u8 0), (.int .u8 0), (.int .u8 0), (.int .u8 0), (.int .u8 0), (.int .u8 0), (.int .u8 0), (.int .u8 0), (.int .u8 0), (.int .u8 0), (.int .u8 0), (.int .u8 0), (.int .u8 0), (.int .u8 0), (.int .u8 0), (.int .u8 0), (.int .u8 0), (.int .u8 0), (.int .u8 0), (.int .u8 0), (.int .u8 0), (.int .u8 0), (.int .u8 0), (.int .u8 0), (.int .u8 0), (.int .u8 0), (.int .u8 0), (.int .u8 0), (.int .u8 0), (.int .u8 0), (.int .u8 0), (.int .u8 0), (.int .u8 0), (.int .u8 0), (.int .u8 0), (.int .u8 0), (.int .u8 0), (.int .u8 0), (.int .u8 0), (.int .u8 0), (.int .u8 0), (.int .u8 0), (.int .u8 0), (.int .u8 0), (.int .u8 0), (.int .u8 0), (.int .u8 0), (.int .u8 0), (.int .u8 0), (.int .u8 0), (.int .u8 0), (.int .u8 0), (.int .u8 0), (.int .u8 0), (.int .u8 0), (.int .u8 0), (.int .u8 0), (.int .u8 0), (.int .u8 0), (.int .u8 0), (.int .u8 0), (.int .u8 0), (.int .u8 0), (.int .u8 0), (.int .u8 0), (.int .u8 0), (.int .u8 0), (.int .u8 0), (.int .u8 0), (.int .u8 0), (.int .u8 0), (.int .u8 0), (.int .u8 0), (.int .u8 0), (.int .u8 0), (.int .u8 0), (.int .u8 0), (.int .u8 0), (.int .u8 0), (.int .u8 0), (.int .u8 0), (.int .u8 0), (.int .u8 0), (.int .u8 0), (.int .u8 0), (.int .u8 0), (.int .u8 0), (.int .u8 0), (.int .u8 0), (.int .u8 0), (.int .u8 0), (.int .u8 0), (.int .u8 0), (.int .u8 0), (.int .u8 0), (.int .u8 0), (.int .u8 0), (.int .u8 0), (.int .u8 0), (.int .u8 0), (.int .u8 0), (.int .u8 0), (.int .u8 0), (.int .u8 0), (.int .u8 0), (.int .u8 0), (.int .u8 0), (.int .u8 0), (.int .u8 0), (.int .u8 0), (.int .u8 0), (.int .u8 0), (.int .u8 0), (.int .u8 0), (.int .u8 0), (.int .u8 0), (.int .u8 0), (.int .u8 0), (.int .u8 0), (.int .u8 0), (.int .u8 0), (.int .u8 0), (.int .u8 0), (.int .u8 0), (.int .u8 0), (.int .u8 0), (.int .u8 0), (.int .u8 0), (.int .u8 0), (.int .u8 0), (.int .u8 0), (.int .u8 0), (.int .u8 0), (.int .u8 0), (.int .u8 0), (.int .u8 0), (.int .u8 0), (.int .u8 0), (.int .u8 0), (.int .u8 0), (.int .u8 0), (.int .u8 0), (.int .u8 0), (.int .u8 0), (.int .u8 0), (.int .u8 0), (.int .u8 0), (.int .u8 0), (.int .u8 0), (.int .u8 0), (.int .u8 0), (.int .u8 0), (.int .u8 0), (.int .u8 0), (.int .u8 0), (.int .u8 0), (.int .u8 0), (.int .u8 0), (.int .u8 0), (.int .u8 0), (.int .u8 0), (.int .u8 0), (.int .u8 0), (.int .u8 0), (.int .u8 0), (.int .u8 0), (.int .u8 0), (.int .u8 0), (.int .u8 0), (.int .u8 0), (.int .u8 0), (.int .u8 0), (.int .u8 0), (.int .u8 0), (.int .u8 0), (.int .u8 0), (.int .u8 0), (.int .u8 0), (.int .u8 0), (.int .u8 0), (.int .u8 0), (.int .u8 0), (.int .u8 0), (.int .u8 0), (.int .u8 0), (.int .u8 0), (.int .u8 0), (.int .u8 0), (.int .u8 0), (.int .u8 0), (.int .u8 0), (.int .u8 0), (.int .u8 0), (.int .u8 0), (.int .u8 0), (.int .u8 0), (.int .u8 0), (.int .u8 0), (.int .u8 0), (.int .u8 0), (.int .u8 0), (.int .u8 0), (.int .u8 0), (.int .u8 0), (.int .u8 0), (.int .u8 0), (.int .u8 0), (.int .u8 0), (.int .u8 0), (.int .u8 0)]⟩), 256, 256),
  (208, (.agg ⟨[(.int .u8 0), (.int .u8 0)]⟩), 2, 2),
  (209, (.agg ⟨[(.int .u8 0), (.int .u8 0)]⟩), 2, 2),
  (210, (.agg ⟨[(.int .u8 0), (.int .u8 0), (.int .u8 0), (.int .u8 0), (.int .u8 0), (.int .u8 0), (.int .u8 0), (.int .u8 0), (.int .u8 0), (.int .u8 0), (.int .u8 0), (.int .u8 0), (.int .u8 0), (.int .u8 0), (.int .u8 0), (.int .u8 0), (.int .u8 0), (.int .u8 0), (.int .u8 0), (.int .u8 0), (.int .u8 0), (.int .u8 0), (.int .u8 0), (.int .u8 0), (.int .u8 0), (.int .u8 0), (.int .u8 0), (.int .u8 0), (.int .u8 0), (.int .u8 0), (.int .u8 0), (.int .u8 0)]⟩), 32, 32),
  (211, (.int .u64 0), 1, 8),
  (212, (.slice none 0 0), 1, 24),
  (225, (.agg ⟨[(.bool false), (.bool false), (.bool false), (.bool false), (.bool false), (.bool false), (.bool false), (.bool false), (.bool false), (.bool false), (.bool false), (.bool false), (.bool false), (.bool false), (.bool false), (.bool false), (.bool false), (.bool false), (.bool false), (.bool false), (.bool false), (.bool false), (.bool false), (.bool false), (.bool false), (.bool false), (.bool false), (.bool false), (.bool false), (.bool false), (.bool false), (.bool false), (.bool false), (.bool false), (.bool false), (.bool false), (.bool false), (.bool false), (.bool false), (.bool false), (.bool false), (.bool false), (.bool false), (.bool false), (.bool false), (.bool false), (.bool false), (.bool false), (.bool false), (.bool false), (.bool false), (.bool false), (.bool false), (.bool false), (.bool false), (.bool false), (.bool false), (.bool false), (.bool false), (.bool false), (.bool false), (.bool false), (.bool false), (.bool false), (.bool false), (.bool false), (.bool false), (.bool false), (.bool false), (.bool false), (.bool false), (.bool false), (.bool false), (.bool false), (.bool false), (.bool false), (.bool false), (.bool false), (.bool false), (.bool false), (.bool false), (.bool false), (.bool false), (.bool false), (.bool false), (.bool false), (.bool false), (.bool false), (.bool false), (.bool false), (.bool false), (.bool false), (.bool false), (.bool false), (.bool false), (.bool false), (.bool false), (.bool false), (.bool false), (.bool false), (.bool false), (.bool false), (.bool false), (.bool false), (.bool false), (.bool false), (.bool false), (.bool false), (.bool false), (.bool false), (.bool false), (.bool false), (.bool false), (.bool false), (.bool false), (.bool false), (.bool false), (.bool false), (.bool false), (.bool false), (.bool false), (.bool false), (.bool false), (.bool false), (.bool false), (.bool false), (.bool false), (.bool false), (.bool false), (.bool false), (.bool false), (.bool false), (.bool false), (.bool false), (.bool false), (.bool false), (.bool false), (.bool false), (.bool false), (.bool false), (.bool false), (.bool false), (.bool false), (.bool false), (.bool false), (.bool false), (.bool false), (.bool false), (.bool false), (.bool false), (.bool false), (.bool false), (.bool false), (.bool false), (.bool false), (.bool false), (.bool false), (.bool false), (.bool false), (.bool false), (.bool false), (.bool false), (.bool false), (.bool false), (.bool false), (.bool false), (.bool false), (.bool false), (.bool false), (.bool false), (.bool false), (.bool false), (.bool false), (.bool false), (.bool false), (.bool false), (.bool false), (.bool false), (.bool false), (.bool false), (.bool false), (.bool false), (.bool false), (.bool false), (.bool false), (.bool false), (.bool false), (.bool false), (.bool false), (.bool false), (.bool false), (.bool false), (.bool false), (.bool false), (.bool false), (.bool false), (.bool false), (.bool false), (.bool false), (.bool false), (.bool false), (.bool false), (.bool false), (.bool false), (.bool false), (.bool false), (.bool false), (.bool false), (.bool false), (.bool false), (.bool false), (.bool false), (.bool false), (.bool false), (.bool false), (.bool false), (.bool false), (.bool false), (.bool false), (.bool false), (.bool false), (.bool false), (.bool false), (.bool false), (.bool false), (.bool false), (.bool false), (.bool false), (.bool false), (.bool false), (.bool false), (.bool false), (.bool false), (.bool false), (.bool false), (.bool false), (.bool false), (.bool false), (.bool false), (.bool false), (.bool false), (.bool false), (.bool false), (.bool false), (.bool false), (.bool false), (.bool false), (.bool false), (.bool false), (.bool false), (.bool false), (.bool false), (.bool false), (.bool false), (.bool false), (.bool false)]⟩), 256, 256),
  (226, (.agg ⟨[(.bool false), (.bool false), (.bool false), (.bool false), (.bool false), (.bool false), (.bool false), (.bool false), (.bool false), (.bool false), (.bool false), (.bool false), (.bool false), (.bool false), (.bool false), (.bool false), (.bool false), (.bool false), (.bool false), (.bool false), (.bool false), (.bool false), (.bool false), (.bool false), (.bool false), (.bool false), (.bool false), (.bool false), (.bool false), (.bool false), (.bool false), (.bool false), (.bool false), (.bool false), (.bool false), (.bool false), (.bool false), (.bool false), (.bool false), (.bool false), (.bool false), (.bool false), (.bool false), (.bool false), (.bool false), (.bool false), (.bool false), (.bool false), (.bool false), (.bool false), (.bool false), (.bool false), (.bool false), (.bool false), (.bool false), (.bool false), (.bool false), (.bool false), (.bool false), (.bool false), (.bool false), (.bool false), (.bool false), (.bool false), (.bool false), (.bool false), (.bool false), (.bool false), (.bool false), (.bool false), (.bool false), (.bool false), (.bool false), (.bool false), (.bool false), (.bool false), (.bool false), (.bool false), (.bool false), (.bool false), (.bool false), (.bool false), (.bool false), (.bool false), (.bool false), (.bool false), (.bool false), (.bool false), (.bool false), (.bool false), (.bool false), (.bool false), (.bool false), (.bool false), (.bool false), (.bool false), (.bool false), (.bool false), (.bool false), (.bool false), (.bool false), (.bool false), (.bool false), (.bool false), (.bool false), (.bool false), (.bool false), (.bool false), (.bool false), (.bool false), (.bool false), (.bool false), (.bool false), (.bool false), (.bool false), (.bool false), (.bool false), (.bool false), (.bool false), (.bool false), (.bool false), (.bool false), (.bool false), (.bool false), (.bool false), (.bool false), (.bool false), (.bool false), (.bool false), (.bool false), (.bool false), (.bool false), (.bool false), (.bool false), (.bool false), (.bool false), (.bool false), (.bool false), (.bool false), (.bool false), (.bool false), (.bool false), (.bool false), (.bool false), (.bool false), (.bool false), (.bool false), (.bool false), (.bool false), (.bool false), (.bool false), (.bool false), (.bool false), (.bool false), (.bool false), (.bool false), (.bool false), (.bool false), (.bool false), (.bool false), (.bool false), (.bool false), (.bool false), (.bool false), (.bool false), (.bool false), (.bool false), (.bool false), (.bool false), (.bool false), (.bool false), (.bool false), (.bool false), (.bool false), (.bool false), (.bool false), (.bool false), (.bool false), (.bool false), (.bool false), (.bool false), (.bool false), (.bool false), (.bool false), (.bool false), (.bool false), (.bool false), (.bool false), (.bool false), (.bool false), (.bool false), (.bool false), (.bool false), (.bool false), (.bool false), (.bool false), (.bool false), (.bool false), (.bool false), (.bool false), (.bool false), (.bool false), (.bool false), (.bool false), (.bool false), (.bool false), (.bool false), (.bool false), (.bool false), (.bool false), (.bool false), (.bool false), (.bool false), (.bool false), (.bool false), (.bool false), (.bool false), (.bool false), (.bool false), (.bool false), (.bool false), (.bool false), (.bool false), (.bool false), (.bool false), (.bool false), (.bool false), (.bool false), (.bool false), (.bool false), (.bool false), (.bool false), (.bool false), (.bool false), (.bool false), (.bool false), (.bool false), (.bool false), (.bool false), (.bool false), (.bool false), (.bool false), (.bool false), (.bool false), (.bool false), (.bool false), (.bool false), (.bool false), (.bool false), (.bool false), (.bool false), (.bool false), (.bool false), (.bool false), (.bool false), (.bool false)]⟩), 256, 256),
  (230, (.pointer none), 1, 8),
  (231, (.agg ⟨[(.int .i64 0), (.int .i64 0)]⟩), 2, 16),
  (232, (.agg ⟨[(.int .i64 0), (.int .i64 0)]⟩), 2, 16),
  (233, (.pointer none), 1, 8),
  (234, (.agg ⟨[(S []), (.int .i64 0)]⟩), 2, 24),
  (235, (.agg ⟨[(S []), (.int .i64 0)]⟩), 2, 24),
  (239, (.agg ⟨[(S []), (S []), (S [])]⟩), 3, 48),
  (240, (.agg ⟨[(S []), (S []), (S [])]⟩), 3, 48),
  (252, (.slice none 0 0), 1, 24),
  (254, (.agg ⟨[(.slice none 0 0), (.int .i64 0)]⟩), 2, 32),
  (255, (.agg ⟨[(.slice none 0 0), (.int .i64 0)]⟩), 2, 32),
  (263, (.agg ⟨[(S []), (S []), (S []), (S []), (S [])]⟩), 5, 80),
  (264, (.pointer none), 1, 8),
  (265, (.agg ⟨[(S []), (.int .i64 0), (.int .i64 0)]⟩), 3, 32),
  (266, (.agg ⟨[(S []), (.int .i64 0), (.int .i64 0)]⟩), 3, 32),
  (267, (.agg ⟨[(.int .i64 0)]⟩), 1, 8),
  (268, (.agg ⟨[(.int .i64 0)]⟩), 1, 8),
  (271, (.slice none 0 0), 1, 24),
  (272, (.slice none 0 0), 1, 24),
  (273, (.agg ⟨[(.int .i64 0), (.slice none 0 0), (.bool false), (.int .i64 0), (.int .i64 0), (.int .i64 0), (.bool false), (.bool false), (.slice none 0 0)]⟩), 9, 96),
  (274, (.agg ⟨[(.int .i64 0), (.slice none 0 0), (.bool false), (.int .i64 0), (.int .i64 0), (.int .i64 0), (.bool false), (.bool false), (.slice none 0 0)]⟩), 9, 96),
  (277, (.pointer none), 1, 8),
  (278, (.agg ⟨[(.pointer none), (.slice none 0 0)]⟩), 2, 32),
  (279, (.agg ⟨[(.pointer none), (.slice none 0 0)]⟩), 2, 32),
  (280, .nilIface, 1, 16),
  (281, .nilIface, 1, 16),
  (288, (.agg ⟨[(.int .u8 0), (.int .u8 0), (.int .u8 0), (.int .u8 0), (.int .u8 0), (.int .u8 0), (.int .u8 0), (.int .u8 0), (.int .u8 0), (.int .u8 0), (.int .u8 0), (.int .u8 0), (.int .u8 0), (.int .u8 0), (.int .u8 0), (.int .u8 0), (.int .u8 0), (.int .u8 0), (.int .u8 0), (.int .u8 0)]⟩), 20, 20),
  (289, (.pointer none), 1, 8),
  (290, (.slice none 0 0), 1, 24),
  (291, (.agg ⟨[(.pointer none), (S []), (.slice none 0 0)]⟩), 3, 48),
  (292, (.agg ⟨[(.pointer none), (S []), (.slice none 0 0)]⟩), 3, 48),
  (296, (.agg ⟨[(S []), (S [])]⟩), 2, 32),
  (305, (.int .i64 0), 1, 8),
  (312, (.int .u32 0), 1, 4),
  (320, (.pointer none), 1, 8),
  (321, (.agg ⟨[(S []), (.int .i64 0), (.bool false), (.int .i64 0), (.int .i64 0), (.slice none 0 0), (.slice none 0 0)]⟩), 7, 96),
  (322, (.agg ⟨[(S []), (.int .i64 0), (.bool false), (.int .i64 0), (.int .i64 0), (.slice none 0 0), (.slice none 0 0)]⟩), 7, 96),
  (327, (.agg ⟨[(.bool false), (.int .i64 0), (.int .i64 0), (.int .i64 0), (.int .i64 0), (.int .i64 0)]⟩), 6, 48),
  (328, (.agg ⟨[(.bool false), (.int .i64 0), (.int .i64 0), (.int .i64 0), (.int .i64 0), (.int .i64 0)]⟩), 6, 48),
  (329, (.slice none 0 0), 1, 24),
  (330, (.pointer none), 1, 8),
  (332, (.pointer none), 1, 8),
  (345, (.int .u64 0), 1, 8),
  (349, (.pointer none), 1, 8),
  (357, (.agg ⟨[(.int .i32 0), (.int .i32 0)]⟩), 2, 8),
  (358, (.agg ⟨[(.int .i32 0), (.int .i32 0)]⟩), 2, 8),
  (361, (.agg ⟨[(.int .i64 0), (.int .i64 0), (.int .i64 0), (.int .i64 0), (.int .i64 0)]⟩), 5, 40),
  (368, (.pointer none), 1, 8),
  (380, (.agg ⟨[(S []), (.int .i64 0)]⟩), 2, 24),
  (381, (.agg ⟨[(S []), (.int .i64 0)]⟩), 2, 24),
  (388, (.slice none 0 0), 1, 24),
  (389, (.slice none 0 0), 1, 24)]
theorem infL_ok : AllI Tryz.prog infL := by
  refine ⟨?_, ?_, ?_, ?_, ?_, ?_, ?_, ?_, ?_, ?_, ?_, ?_, ?_, ?_, ?_, ?_, ?_, ?_, ?_, ?_, ?_, ?_, ?_, ?_, ?_, ?_, ?_, ?_, ?_, ?_, ?_, ?_, ?_, ?_, ?_, ?_, ?_, ?_, ?_, ?_, ?_, ?_, ?_, ?_, ?_, ?_, ?_, ?_, ?_, ?_, ?_, ?_, ?_, ?_, ?_, ?_, ?_, ?_, ?_, ?_, ?_, ?_, ?_, ?_, ?_, ?_, ?_, ?_, ?_, ?_, ?_, ?_, ?_, ?_, ?_, ?_, ?_, ?_, ?_, ?_, ?_, ?_, ?_, ?_, ?_, ?_, ?_, ?_, ?_, ?_, ?_, ?_, ?_, ?_, ?_, ?_, ?_, ?_, ?_, ?_, ?_, ?_, ?_, ?_, ?_, ?_, ?_, ?_, ?_, ?_, ?_, ?_, ?_, ?_, ?_, ?_, ?_, ?_, ?_, ?_, ?_, ?_, ?_, ?_, ?_, ?_, ?_, ?_, ?_, ?_, ?_, ?_, ?_, ?_, trivial⟩ <;> kernel_rfl
def tb : Tb Tryz.prog := Tb.mk' tyL infL tyL_ok infL_ok
theorem c2 : Callable Tryz.prog 2 := ⟨_, Tryz.func2, rfl, rfl⟩
theorem c3 : Callable Tryz.prog 3 := ⟨_, Tryz.func3, rfl, rfl⟩
theorem c4 : Callable Tryz.prog 4 := ⟨_, Tryz.func4, rfl, rfl⟩
theorem c5 : Callable Tryz.prog 5 := ⟨_, Tryz.func5, rfl, rfl⟩
theorem c6 : Callable Tryz.prog 6 := ⟨_, Tryz.func6, rfl, rfl⟩
theorem c10 : Callable Tryz.prog 10 := ⟨_, Tryz.func10, rfl, rfl⟩
theorem c11 : Callable Tryz.prog 11 := ⟨_, Tryz.func11, rfl, rfl⟩
theorem c12 : Callable Tryz.prog 12 := ⟨_, Tryz.func12, rfl, rfl⟩
theorem c16 : Callable Tryz.prog 16 := ⟨_, Tryz.func16, rfl, rfl⟩
theorem c29 : Callable Tryz.prog 29 := ⟨_, Tryz.func29, rfl, rfl⟩
theorem c32 : Callable Tryz.prog 32 := ⟨_, Tryz.func32, rfl, rfl⟩
theorem c39 : Callable Tryz.prog 39 := ⟨_, Tryz.func39, rfl, rfl⟩
theorem c40 : Callable Tryz.prog 40 := ⟨_, Tryz.func40, rfl, rfl⟩
theorem c47 : Callable Tryz.prog 47 := ⟨_, Tryz.func47, rfl, rfl⟩
theorem c56 : Callable Tryz.prog 56 := ⟨_, Tryz.func56, rfl, rfl⟩
theorem c66 : Callable Tryz.prog 66 := ⟨_, Tryz.func66, rfl, rfl⟩
theorem c67 : Callable Tryz.prog 67 := ⟨_, Tryz.func67, rfl, rfl⟩
theorem c69 : Callable Tryz.prog 69 := ⟨_, Tryz.func69, rfl, rfl⟩
theorem c71 : Callable Tryz.prog 71 := ⟨_, Tryz.func71, rfl, rfl⟩
theorem c73 : Callable Tryz.prog 73 := ⟨_, Tryz.func73, rfl, rfl⟩
theorem c76 : Callable Tryz.prog 76 := ⟨_, Tryz.func76, rfl, rfl⟩
theorem c77 : Callable Tryz.prog 77 := ⟨_, Tryz.func77, rfl, rfl⟩
theorem c78 : Callable Tryz.prog 78 := ⟨_, Tryz.func78, rfl, rfl⟩
theorem c79 : Callable Tryz.prog 79 := ⟨_, Tryz.func79, rfl, rfl⟩
theorem c80 : Callable Tryz.prog 80 := ⟨_, Tryz.func80, rfl, rfl⟩
theorem c81 : Callable Tryz.prog 81 := ⟨_, Tryz.func81, rfl, rfl⟩
theorem c85 : Callable Tryz.prog 85 := ⟨_, Tryz.func85, rfl, rfl⟩
theorem c88 : Callable Tryz.prog 88 := ⟨_, Tryz.func88, rfl, rfl⟩
theorem c97 : Callable Tryz.prog 97 := ⟨_, Tryz.func97, rfl, rfl⟩
theorem c98 : Callable Tryz.prog 98 := ⟨_, Tryz.func98, rfl, rfl⟩
theorem c110 : Callable Tryz.prog 110 := ⟨_, Tryz.func110, rfl, rfl⟩
theorem c115 : Callable Tryz.prog 115 := ⟨_, Tryz.func115, rfl, rfl⟩
theorem c122 : Callable Tryz.prog 122 := ⟨_, Tryz.func122, rfl, rfl⟩
theorem c126 : Callable Tryz.prog 126 := ⟨_, Tryz.func126, rfl, rfl⟩
theorem c127 : Callable Tryz.prog 127 := ⟨_, Tryz.func127, rfl, rfl⟩
theorem c128 : Callable Tryz.prog 128 := ⟨_, Tryz.func128, rfl, rfl⟩
theorem c129 : Callable Tryz.prog 129 := ⟨_, Tryz.func129, rfl, rfl⟩
theorem c133 : Callable Tryz.prog 133 := ⟨_, Tryz.func133, rfl, rfl⟩
theorem c134 : Callable Tryz.prog 134 := ⟨_, Tryz.func134, rfl, rfl⟩
theorem c135 : Callable Tryz.prog 135 := ⟨_, Tryz.func135, rfl, rfl⟩
theorem c136 : Callable Tryz.prog 136 := ⟨_, Tryz.func136, rfl, rfl⟩
theorem c137 : Callable Tryz.prog 137 := ⟨_, Tryz.func137, rfl, rfl⟩
theorem c148 : Callable Tryz.prog 148 := ⟨_, Tryz.func148, rfl, rfl⟩
theorem c150 : Callable Tryz.prog 150 := ⟨_, Tryz.func150, rfl, rfl⟩
theorem c151 : Callable Tryz.prog 151 := ⟨_, Tryz.func151, rfl, rfl⟩
theorem c152 : Callable Tryz.prog 152 := ⟨_, Tryz.func152, rfl, rfl⟩
theorem c157 : Callable Tryz.prog 157 := ⟨_, Tryz.func157, rfl, rfl⟩
theorem c159 : Callable Tryz.prog 159 := ⟨_, Tryz.func159, rfl, rfl⟩
theorem c185 : Callable Tryz.prog 185 := ⟨_, Tryz.func185, rfl, rfl⟩
theorem c186 : Callable Tryz.prog 186 := ⟨_, Tryz.func186, rfl, rfl⟩
theorem c187 : Callable Tryz.prog 187 := ⟨_, Tryz.func187, rfl, rfl⟩
theorem c199 : Callable Tryz.prog 199 := ⟨_, Tryz.func199, rfl, rfl⟩
theorem c200 : Callable Tryz.prog 200 := ⟨_, Tryz.func200, rfl, rfl⟩
theorem c201 : Callable Tryz.prog 201 := ⟨_, Tryz.func201, rfl, rfl⟩
theorem c202 : Callable Tryz.prog 202 := ⟨_, Tryz.func202, rfl, rfl⟩
theorem c203 : Callable Tryz.prog 203 := ⟨_, Tryz.func203, rfl, rfl⟩
theorem c204 : Callable Tryz.prog 204 := ⟨_, Tryz.func204, rfl, rfl⟩
theorem c205 : Callable Tryz.prog 205 := ⟨_, Tryz.func205, rfl, rfl⟩
theorem c209 : Callable Tryz.prog 209 := ⟨_, Tryz.func209, rfl, rfl⟩
theorem c210 : Callable Tryz.prog 210 := ⟨_, Tryz.func210, rfl, rfl⟩
theorem c211 : Callable Tryz.prog 211 := ⟨_, Tryz.func211, rfl, rfl⟩
theorem c212 : Callable Tryz.prog 212 := ⟨_, Tryz.func212, rfl, rfl⟩
theorem c213 : Callable Tryz.prog 213 := ⟨_, Tryz.func213, rfl, rfl⟩
theorem c214 : Callable Tryz.prog 214 := ⟨_, Tryz.func214, rfl, rfl⟩
theorem c220 : Callable Tryz.prog 220 := ⟨_, Tryz.func220, rfl, rfl⟩
theorem c223 : Callable Tryz.prog 223 := ⟨_, Tryz.func223, rfl, rfl⟩
theorem c224 : Callable Tryz.prog 224 := ⟨_, Tryz.func224, rfl, rfl⟩
theorem c254 : Callable Tryz.prog 254 := ⟨_, Tryz.func254, rfl, rfl⟩
theorem c255 : Callable Tryz.prog 255 := ⟨_, Tryz.func255, rfl, rfl⟩
theorem c262 : Callable Tryz.prog 262 := ⟨_, Tryz.func262, rfl, rfl⟩
theorem c264 : Callable Tryz.prog 264 := ⟨_, Tryz.func264, rfl, rfl⟩
theorem c282 : Callable Tryz.prog 282 := ⟨_, Tryz.func282, rfl, rfl⟩
theorem c297 : Callable Tryz.prog 297 := ⟨_, Tryz.func297, rfl, rfl⟩
theorem c298 : Callable Tryz.prog 298 := ⟨_, Tryz.func298, rfl, rfl⟩
theorem c311 : Callable Tryz.prog 311 := ⟨_, Tryz.func311, rfl, rfl⟩
theorem c312 : Callable Tryz.prog 312 := ⟨_, Tryz.func312, rfl, rfl⟩
theorem c327 : Callable Tryz.prog 327 := ⟨_, Tryz.func327, rfl, rfl⟩
theorem c328 : Callable Tryz.prog 328 := ⟨_, Tryz.func328, rfl, rfl⟩
theorem c341 : Callable Tryz.prog 341 := ⟨_, Tryz.func341, rfl, rfl⟩
theorem c342 : Callable Tryz.prog 342 := ⟨_, Tryz.func342, rfl, rfl⟩
theorem c343 : Callable Tryz.prog 343 := ⟨_, Tryz.func343, rfl, rfl⟩
theorem c344 : Callable Tryz.prog 344 := ⟨_, Tryz.func344, rfl, rfl⟩
theorem c345 : Callable Tryz.prog 345 := ⟨_, Tryz.func345, rfl, rfl⟩
theorem c355 : Callable Tryz.prog 355 := ⟨_, Tryz.func355, rfl, rfl⟩
theorem c356 : Callable Tryz.prog 356 := ⟨_, Tryz.func356, rfl, rfl⟩
theorem c358 : Callable Tryz.prog 358 := ⟨_, Tryz.func358, rfl, rfl⟩
theorem mixed : Tryz.prog.follows .mixedOrders = true := by kernel_rfl
end Go.Proofs.YtmkckngecjpklaaGreatDoor
end
section
namespace Go.Proofs
open Go.Shelf
def Tryz.lays169_ren : Go.Shelf.Ren := ⟨fun | 169 => 214 | n => n, fun | 70 => 277 | 9 => 9 | 0 => 0 | 72 => 279 | 37 => 40 | 127 => 332 | 3 => 3 | 5 => 5 | n => n, fun | n => n⟩
theorem Tryz.lays169 : Go.Proofs.Lays.n169 Tryz.prog Tryz.lays169_ren := {
  mixed := by kernel_rfl
  f169 := Tryz.func214.trans (congrArg some (by kernel_rfl))
  t0 := Tryz.underlying0
  a0 := Tryz.isAgg0
  z0 := Tryz.sizeOf0
  v0 := Tryz.zeroValue0
  t3 := Tryz.underlying3
  a3 := Tryz.isAgg3
  z3 := Tryz.sizeOf3
  v3 := Tryz.zeroValue3
  t9 := Tryz.underlying9
  a9 := Tryz.isAgg9
  z9 := Tryz.sizeOf9
  v9 := Tryz.zeroValue9
  t37 := Tryz.underlying40
  a37 := Tryz.isAgg40
  z37 := Tryz.sizeOf40
  v37 := Tryz.zeroValue40
  t70 := Tryz.underlying277
  a70 := Tryz.isAgg277
  z70 := Tryz.sizeOf277
  v70 := Tryz.zeroValue277
  t72 := Tryz.underlying279
  a72 := Tryz.isAgg279
  z72 := Tryz.sizeOf279
  v72 := Tryz.zeroValue279
  t127 := Tryz.underlying332
  a127 := Tryz.isAgg332
  z127 := Tryz.sizeOf332
  v127 := Tryz.zeroValue332 }
theorem Tryz.Builder_Extra_169 : Builder.Extra Tryz.prog Tryz.lays169_ren := {
  sizeBuilder := by kernel_rfl
  liesBuilder := by kernel_rfl
  t5 := Tryz.underlying5
  a5 := Tryz.isAgg5
  z5 := Tryz.sizeOf5
  v5 := Tryz.zeroValue5
  infoByte := by kernel_rfl
  cellsByte := by kernel_rfl
  sizeByte := by kernel_rfl
  neB5 := by decide }
open Go.RowKit in
/-- (*strings.Builder).String: "String returns the accumulated string.": WHATEVER THE BUILDER HOLDS. (LAID: no walk: one application.) -/
theorem Tryz.Builder_String_any (B b : Nat) (l : List UInt8) (w : World) (h : Lib.IsBuilder 279 5 B b (Lib.byteCells l) w) (hBw : B ≤ w.heap.size) :
    Calls Tryz.prog 214 #[.pointer (some ⟨b, 0, none⟩)] w fun e w' => e = .returned (.string ⟨l.toArray⟩) ∧ Below B w w' := Any.Builder_String_any Tryz.lays169 Tryz.Builder_Extra_169 B b l w h hBw
def Tryz.lays156_ren : Go.Shelf.Ren := ⟨fun | 156 => 209 | 165 => 261 | 166 => 213 | 169 => 214 | 240 => 263 | 241 => 304 | 276 => 305 | 277 => 332 | n => n, fun | 31 => 61 | 9 => 9 | 3 => 3 | 4 => 4 | 0 => 0 | 20 => 20 | 72 => 279 | 76 => 285 | 70 => 277 | 37 => 40 | 75 => 281 | 127 => 332 | 164 => 359 | 5 => 5 | 80 => 287 | n => n, fun | n => n⟩
theorem Tryz.lays156 : Go.Proofs.Lays.n156 Tryz.prog Tryz.lays156_ren := {
  mixed := by kernel_rfl
  f156 := Tryz.func209.trans (congrArg some (by kernel_rfl))
  f165 := Tryz.func261.trans (congrArg some (by kernel_rfl))
  f166 := Tryz.func213.trans (congrArg some (by kernel_rfl))
  f169 := Tryz.func214.trans (congrArg some (by kernel_rfl))
  f240 := Tryz.func263.trans (congrArg some (by kernel_rfl))
  f241 := Tryz.func304.trans (congrArg some (by kernel_rfl))
  f276 := Tryz.func305.trans (congrArg some (by kernel_rfl))
  f277 := Tryz.func332.trans (congrArg some (by kernel_rfl))
  t0 := Tryz.underlying0
  a0 := Tryz.isAgg0
  z0 := Tryz.sizeOf0
  v0 := Tryz.zeroValue0
  t3 := Tryz.underlying3
  a3 := Tryz.isAgg3
  z3 := Tryz.sizeOf3
  v3 := Tryz.zeroValue3
  t4 := Tryz.underlying4
  a4 := Tryz.isAgg4
  z4 := Tryz.sizeOf4
  v4 := Tryz.zeroValue4
  t9 := Tryz.underlying9
  a9 := Tryz.isAgg9
  z9 := Tryz.sizeOf9
  v9 := Tryz.zeroValue9
  t20 := Tryz.underlying20
  a20 := Tryz.isAgg20
  z20 := Tryz.sizeOf20
  v20 := Tryz.zeroValue20
  t31 := Tryz.underlying61
  a31 := Tryz.isAgg61
  z31 := Tryz.sizeOf61
  v31 := Tryz.zeroValue61
  t37 := Tryz.underlying40
  a37 := Tryz.isAgg40
  z37 := Tryz.sizeOf40
  v37 := Tryz.zeroValue40
  t70 := Tryz.underlying277
  a70 := Tryz.isAgg277
  z70 := Tryz.sizeOf277
  v70 := Tryz.zeroValue277
  t72 := Tryz.underlying279
  a72 := Tryz.isAgg279
  z72 := Tryz.sizeOf279
  v72 := Tryz.zeroValue279
  t75 := Tryz.underlying281
  a75 := Tryz.isAgg281
  z75 := Tryz.sizeOf281
  v75 := Tryz.zeroValue281
  t76 := Tryz.underlying285
  a76 := Tryz.isAgg285
  z76 := Tryz.sizeOf285
  v76 := Tryz.zeroValue285
  t127 := Tryz.underlying332
  a127 := Tryz.isAgg332
  z127 := Tryz.sizeOf332
  v127 := Tryz.zeroValue332
  t164 := Tryz.underlying359
  a164 := Tryz.isAgg359
  z164 := Tryz.sizeOf359
  v164 := Tryz.zeroValue359 }
theorem Tryz.Builder_Extra_156 : Builder.Extra Tryz.prog Tryz.lays156_ren := {
  sizeBuilder := by kernel_rfl
  liesBuilder := by kernel_rfl
  t5 := Tryz.underlying5
  a5 := Tryz.isAgg5
  z5 := Tryz.sizeOf5
  v5 := Tryz.zeroValue5
  infoByte := by kernel_rfl
  cellsByte := by kernel_rfl
  sizeByte := by kernel_rfl
  neB5 := by decide }
open Go.RowKit in
/-- No element: the empty string; the world is as it was. (Whatever the slice's address and capacity: a nil slice too.) (LAID: no walk: one application.) -/
theorem Tryz.strings_Join_none (a : Option Addr) (c : Nat) (sep : ByteArray) (w : World) :
    Calls Tryz.prog 209 #[.slice a 0 c, .string sep] w fun e w' => e = .returned (.string ⟨#[]⟩) ∧ w' = w := Any.strings_Join_none Tryz.lays156 Tryz.Builder_Extra_156 a c sep w
open Go.RowKit in
/-- strings.Join: "Join concatenates the elements of its first argument to create a single string. The separator string sep is placed between elements in the resulting string.": HOWEVER MANY ELEMENTS. Below the heap's end the world is as it was. (LAID: no walk: one application.) -/
theorem Tryz.strings_Join (bk o c : Nat) (xs : List ByteArray) (sep : ByteArray) (w : World) (hcells : ∀ (j : Nat) x, xs[j]? = some x → w.cell? ⟨bk, o + j, none⟩ = some (.string x)) (hbk : bk < w.heap.size) (hN : xs.length ≤ 140737488355328) (hcap : xs.length ≤ c) (hlen : (Lib.join (xs.map (·.data.toList)) sep.data.toList).length ≤ 140737488355328) :
    Calls Tryz.prog 209 #[.slice (some ⟨bk, o, none⟩) xs.length c, .string sep] w fun e w' => e = .returned (.string ⟨(Lib.join (xs.map (·.data.toList)) sep.data.toList).toArray⟩) ∧ Below w.heap.size w w' := Any.strings_Join Tryz.lays156 Tryz.Builder_Extra_156 bk o c xs sep w hcells hbk hN hcap hlen
def Tryz.lays119_ren : Go.Shelf.Ren := ⟨fun | 119 => 312 | n => n, fun | 21 => 21 | 4 => 4 | n => n, fun | n => n⟩
theorem Tryz.lays119 : Go.Proofs.Lays.n119 Tryz.prog Tryz.lays119_ren := {
  mixed := by kernel_rfl
  f119 := Tryz.func312.trans (congrArg some (by kernel_rfl))
  t4 := Tryz.underlying4
  a4 := Tryz.isAgg4
  z4 := Tryz.sizeOf4
  v4 := Tryz.zeroValue4
  t21 := Tryz.underlying21
  a21 := Tryz.isAgg21
  z21 := Tryz.sizeOf21
  v21 := Tryz.zeroValue21 }
/-- utf8.ValidRune: "ValidRune reports whether r can be legally encoded as UTF-8. Code points that are out of range or a surrogate half are illegal.": IT RETURNS 'Lib.validRune r'; the world is as it was. (LAID: no walk: one application.) -/
theorem Tryz.utf8_ValidRune (r : Int) (w : World) :
    Calls Tryz.prog 312 #[.int .i32 r] w fun e w' => e = .returned (.bool (Lib.validRune r)) ∧ w' = w := Any.utf8_ValidRune Tryz.lays119 r w
def Tryz.lays137_ren : Go.Shelf.Ren := ⟨fun | 137 => 311 | 217 => 315 | 266 => 334 | n => n, fun | 9 => 9 | 5 => 5 | 3 => 3 | n => n, fun | n => n⟩
theorem Tryz.lays137 : Go.Proofs.Lays.n137 Tryz.prog Tryz.lays137_ren := {
  mixed := by kernel_rfl
  f137 := Tryz.func311.trans (congrArg some (by kernel_rfl))
  f217 := Tryz.func315.trans (congrArg some (by kernel_rfl))
  f266 := Tryz.func334.trans (congrArg some (by kernel_rfl))
  t3 := Tryz.underlying3
  a3 := Tryz.isAgg3
  z3 := Tryz.sizeOf3
  v3 := Tryz.zeroValue3
  t5 := Tryz.underlying5
  a5 := Tryz.isAgg5
  z5 := Tryz.sizeOf5
  v5 := Tryz.zeroValue5
  t9 := Tryz.underlying9
  a9 := Tryz.isAgg9
  z9 := Tryz.sizeOf9
  v9 := Tryz.zeroValue9 }
open Go.RowKit in
/-- strings.IndexByte: "IndexByte returns the index of the first instance of c in s, or -1 if c is not present in s.": IT RETURNS 'Lib.indexByte s c'; the world is as it was. (LAID: no walk: one application.) -/
theorem Tryz.strings_IndexByte (s : ByteArray) (c : Int) (w : World) :
    Calls Tryz.prog 311 #[.string s, .int .u8 c] w fun e w' => e = .returned (.int .i64 (Lib.indexByte s.data.toList c.toNat.toUInt8)) ∧ w' = w := Any.strings_IndexByte Tryz.lays137 s c w
def Tryz.lays99_ren : Go.Shelf.Ren := ⟨fun | 99 => 159 | 206 => 218 | n => n, fun | 9 => 9 | 4 => 4 | 3 => 3 | n => n, fun | n => n⟩
theorem Tryz.lays99 : Go.Proofs.Lays.n99 Tryz.prog Tryz.lays99_ren := {
  mixed := by kernel_rfl
  f99 := Tryz.func159.trans (congrArg some (by kernel_rfl))
  f206 := Tryz.func218.trans (congrArg some (by kernel_rfl))
  t3 := Tryz.underlying3
  a3 := Tryz.isAgg3
  z3 := Tryz.sizeOf3
  v3 := Tryz.zeroValue3
  t4 := Tryz.underlying4
  a4 := Tryz.isAgg4
  z4 := Tryz.sizeOf4
  v4 := Tryz.zeroValue4
  t9 := Tryz.underlying9
  a9 := Tryz.isAgg9
  z9 := Tryz.sizeOf9
  v9 := Tryz.zeroValue9 }
open Go.RowKit Go.Lib in
/-- strings.HasPrefix: "HasPrefix reports whether the string s begins with prefix.": IT RETURNS 'Lib.hasPrefix s prefix'; the world is as it was. (LAID: no walk: one application.) -/
theorem Tryz.strings_HasPrefix (s p : ByteArray) (w : World) :
    Calls Tryz.prog 159 #[.string s, .string p] w fun e w' => e = .returned (.bool (Lib.hasPrefix s.data.toList p.data.toList)) ∧ w' = w := Any.strings_HasPrefix Tryz.lays99 s p w
def Tryz.lays197_ren : Go.Shelf.Ren := ⟨fun | 197 => 223 | 260 => 281 | n => n, fun | 9 => 9 | 21 => 21 | 3 => 3 | 4 => 4 | 5 => 5 | 105 => 298 | 119 => 207 | 0 => 0 | 46 => 211 | 139 => 210 | 138 => 209 | n => n, fun | 3 => 1 | 4 => 2 | n => n⟩
theorem Tryz.lays197 : Go.Proofs.Lays.n197 Tryz.prog Tryz.lays197_ren := {
  mixed := by kernel_rfl
  f197 := Tryz.func223.trans (congrArg some (by kernel_rfl))
  f260 := Tryz.func281.trans (congrArg some (by kernel_rfl))
  t0 := Tryz.underlying0
  a0 := Tryz.isAgg0
  z0 := Tryz.sizeOf0
  v0 := Tryz.zeroValue0
  t3 := Tryz.underlying3
  a3 := Tryz.isAgg3
  z3 := Tryz.sizeOf3
  v3 := Tryz.zeroValue3
  t4 := Tryz.underlying4
  a4 := Tryz.isAgg4
  z4 := Tryz.sizeOf4
  v4 := Tryz.zeroValue4
  t5 := Tryz.underlying5
  a5 := Tryz.isAgg5
  z5 := Tryz.sizeOf5
  v5 := Tryz.zeroValue5
  t9 := Tryz.underlying9
  a9 := Tryz.isAgg9
  z9 := Tryz.sizeOf9
  v9 := Tryz.zeroValue9
  t21 := Tryz.underlying21
  a21 := Tryz.isAgg21
  z21 := Tryz.sizeOf21
  v21 := Tryz.zeroValue21
  t46 := Tryz.underlying211
  a46 := Tryz.isAgg211
  z46 := Tryz.sizeOf211
  v46 := Tryz.zeroValue211
  t105 := Tryz.underlying298
  a105 := Tryz.isAgg298
  z105 := Tryz.sizeOf298
  v105 := Tryz.zeroValue298
  t119 := Tryz.underlying207
  a119 := Tryz.isAgg207
  z119 := Tryz.sizeOf207
  t138 := Tryz.underlying209
  a138 := Tryz.isAgg209
  z138 := Tryz.sizeOf209
  v138 := Tryz.zeroValue209
  t139 := Tryz.underlying210
  a139 := Tryz.isAgg210
  z139 := Tryz.sizeOf210
  v139 := Tryz.zeroValue210
  g3 := by kernel_rfl
  g4 := by kernel_rfl }
def Tryz.lays151_ren : Go.Shelf.Ren := ⟨fun | 151 => 224 | 152 => 282 | 137 => 311 | 119 => 312 | 224 => 279 | 225 => 313 | 217 => 315 | 266 => 334 | n => n, fun | 9 => 9 | 21 => 21 | 4 => 4 | 3 => 3 | 5 => 5 | 0 => 0 | 46 => 211 | n => n, fun | n => n⟩
theorem Tryz.lays151 : Go.Proofs.Lays.n151 Tryz.prog Tryz.lays151_ren := {
  mixed := by kernel_rfl
  f119 := Tryz.func312.trans (congrArg some (by kernel_rfl))
  f137 := Tryz.func311.trans (congrArg some (by kernel_rfl))
  f151 := Tryz.func224.trans (congrArg some (by kernel_rfl))
  f152 := Tryz.func282.trans (congrArg some (by kernel_rfl))
  f217 := Tryz.func315.trans (congrArg some (by kernel_rfl))
  f224 := Tryz.func279.trans (congrArg some (by kernel_rfl))
  f225 := Tryz.func313.trans (congrArg some (by kernel_rfl))
  f266 := Tryz.func334.trans (congrArg some (by kernel_rfl))
  t0 := Tryz.underlying0
  a0 := Tryz.isAgg0
  z0 := Tryz.sizeOf0
  v0 := Tryz.zeroValue0
  t3 := Tryz.underlying3
  a3 := Tryz.isAgg3
  z3 := Tryz.sizeOf3
  v3 := Tryz.zeroValue3
  t4 := Tryz.underlying4
  a4 := Tryz.isAgg4
  z4 := Tryz.sizeOf4
  v4 := Tryz.zeroValue4
  t5 := Tryz.underlying5
  a5 := Tryz.isAgg5
  z5 := Tryz.sizeOf5
  v5 := Tryz.zeroValue5
  t9 := Tryz.underlying9
  a9 := Tryz.isAgg9
  z9 := Tryz.sizeOf9
  v9 := Tryz.zeroValue9
  t21 := Tryz.underlying21
  a21 := Tryz.isAgg21
  z21 := Tryz.sizeOf21
  v21 := Tryz.zeroValue21
  t46 := Tryz.underlying211
  a46 := Tryz.isAgg211
  z46 := Tryz.sizeOf211
  v46 := Tryz.zeroValue211 }
open Go.RowKit Go.Lib in
theorem Tryz.strings_ContainsRune_ascii (s : ByteArray) (r : Int) (w : World) (h0 : 0 ≤ r) (h1 : r < 128) :
    Calls Tryz.prog 224 #[.string s, .int .i32 r] w fun e w' => e = .returned (.bool (decide (0 ≤ Lib.indexByte s.data.toList r.toNat.toUInt8))) ∧ w' = w := Any.strings_ContainsRune_ascii Tryz.lays151 s r w h0 h1
def Tryz.lays260_ren : Go.Shelf.Ren := ⟨fun | 260 => 281 | n => n, fun | 9 => 9 | 21 => 21 | 3 => 3 | 4 => 4 | 5 => 5 | 119 => 207 | 0 => 0 | 46 => 211 | 139 => 210 | 138 => 209 | n => n, fun | 3 => 1 | 4 => 2 | n => n⟩
theorem Tryz.lays260 : Go.Proofs.Lays.n260 Tryz.prog Tryz.lays260_ren := {
  mixed := by kernel_rfl
  f260 := Tryz.func281.trans (congrArg some (by kernel_rfl))
  t0 := Tryz.underlying0
  a0 := Tryz.isAgg0
  z0 := Tryz.sizeOf0
  v0 := Tryz.zeroValue0
  t3 := Tryz.underlying3
  a3 := Tryz.isAgg3
  z3 := Tryz.sizeOf3
  v3 := Tryz.zeroValue3
  t4 := Tryz.underlying4
  a4 := Tryz.isAgg4
  z4 := Tryz.sizeOf4
  v4 := Tryz.zeroValue4
  t5 := Tryz.underlying5
  a5 := Tryz.isAgg5
  z5 := Tryz.sizeOf5
  v5 := Tryz.zeroValue5
  t9 := Tryz.underlying9
  a9 := Tryz.isAgg9
  z9 := Tryz.sizeOf9
  v9 := Tryz.zeroValue9
  t21 := Tryz.underlying21
  a21 := Tryz.isAgg21
  z21 := Tryz.sizeOf21
  v21 := Tryz.zeroValue21
  t46 := Tryz.underlying211
  a46 := Tryz.isAgg211
  z46 := Tryz.sizeOf211
  v46 := Tryz.zeroValue211
  t119 := Tryz.underlying207
  a119 := Tryz.isAgg207
  z119 := Tryz.sizeOf207
  t138 := Tryz.underlying209
  a138 := Tryz.isAgg209
  z138 := Tryz.sizeOf209
  v138 := Tryz.zeroValue209
  t139 := Tryz.underlying210
  a139 := Tryz.isAgg210
  z139 := Tryz.sizeOf210
  v139 := Tryz.zeroValue210
  g3 := by kernel_rfl
  g4 := by kernel_rfl }
open Go.RowKit Go.Lib in
/-- **unicode/utf8.DecodeRuneInString AT EVERY STRING.** (LAID: no walk: one application.) -/
theorem Tryz.utf8_DecodeRuneInString (s : ByteArray) (w : World) (hT : Lib.Utf8Tabs 1 2 w) :
    Calls Tryz.prog 223 #[.string s] w fun e w' => e = .returned (.tuple #[.int .i32 (Lib.decodeGo s).1, .int .i64 (Lib.decodeGo s).2]) ∧ Below w.heap.size w w' := Any.utf8_DecodeRuneInString Tryz.lays197 s w hT
theorem Tryz.lays166 : Go.Proofs.Lays.n166 Tryz.prog Tryz.lays156_ren := { Tryz.lays156 with }
def Tryz.lays167_ren : Go.Shelf.Ren := ⟨fun | 167 => 211 | 156 => 209 | 165 => 261 | 166 => 213 | 169 => 214 | 240 => 263 | 241 => 304 | 276 => 305 | 277 => 332 | n => n, fun | 31 => 61 | 9 => 9 | 3 => 3 | 4 => 4 | 0 => 0 | 20 => 20 | 72 => 279 | 76 => 285 | 70 => 277 | 37 => 40 | 75 => 281 | 127 => 332 | 164 => 359 | 5 => 5 | 80 => 287 | n => n, fun | n => n⟩
theorem Tryz.lays167 : Go.Proofs.Lays.n167 Tryz.prog Tryz.lays167_ren := {
  mixed := by kernel_rfl
  f167 := Tryz.func211.trans (congrArg some (by kernel_rfl))
  f240 := Tryz.func263.trans (congrArg some (by kernel_rfl))
  f276 := Tryz.func305.trans (congrArg some (by kernel_rfl))
  t0 := Tryz.underlying0
  a0 := Tryz.isAgg0
  z0 := Tryz.sizeOf0
  v0 := Tryz.zeroValue0
  t4 := Tryz.underlying4
  a4 := Tryz.isAgg4
  z4 := Tryz.sizeOf4
  v4 := Tryz.zeroValue4
  t5 := Tryz.underlying5
  a5 := Tryz.isAgg5
  z5 := Tryz.sizeOf5
  v5 := Tryz.zeroValue5
  t9 := Tryz.underlying9
  a9 := Tryz.isAgg9
  z9 := Tryz.sizeOf9
  v9 := Tryz.zeroValue9
  t20 := Tryz.underlying20
  a20 := Tryz.isAgg20
  z20 := Tryz.sizeOf20
  v20 := Tryz.zeroValue20
  t37 := Tryz.underlying40
  a37 := Tryz.isAgg40
  z37 := Tryz.sizeOf40
  v37 := Tryz.zeroValue40
  t70 := Tryz.underlying277
  a70 := Tryz.isAgg277
  z70 := Tryz.sizeOf277
  v70 := Tryz.zeroValue277
  t72 := Tryz.underlying279
  a72 := Tryz.isAgg279
  z72 := Tryz.sizeOf279
  v72 := Tryz.zeroValue279
  t75 := Tryz.underlying281
  a75 := Tryz.isAgg281
  z75 := Tryz.sizeOf281
  v75 := Tryz.zeroValue281
  t164 := Tryz.underlying359
  a164 := Tryz.isAgg359
  z164 := Tryz.sizeOf359
  v164 := Tryz.zeroValue359 }
theorem Tryz.Builder_Extra_167 : Builder.Extra Tryz.prog Tryz.lays167_ren := {
  sizeBuilder := by kernel_rfl
  liesBuilder := by kernel_rfl
  t5 := Tryz.underlying5
  a5 := Tryz.isAgg5
  z5 := Tryz.sizeOf5
  v5 := Tryz.zeroValue5
  infoByte := by kernel_rfl
  cellsByte := by kernel_rfl
  sizeByte := by kernel_rfl
  neB5 := by decide }
def Tryz.laysValid_ren : Go.Shelf.Ren := ⟨fun | 196 => 85 | 259 => 153 | n => n, fun | 9 => 9 | 4 => 4 | 3 => 3 | 5 => 5 | 12 => 12 | 119 => 207 | 0 => 0 | 46 => 211 | 139 => 210 | 138 => 209 | 53 => 100 | n => n, fun | 3 => 1 | 4 => 2 | n => n⟩
theorem Tryz.laysValid : Go.Proofs.Lays.n196 Tryz.prog Tryz.laysValid_ren := {
  mixed := by kernel_rfl
  f196 := Tryz.func85.trans (congrArg some (by kernel_rfl))
  f259 := Tryz.func153.trans (congrArg some (by kernel_rfl))
  t0 := Tryz.underlying0
  a0 := Tryz.isAgg0
  z0 := Tryz.sizeOf0
  v0 := Tryz.zeroValue0
  t3 := Tryz.underlying3
  a3 := Tryz.isAgg3
  z3 := Tryz.sizeOf3
  v3 := Tryz.zeroValue3
  t4 := Tryz.underlying4
  a4 := Tryz.isAgg4
  z4 := Tryz.sizeOf4
  v4 := Tryz.zeroValue4
  t5 := Tryz.underlying5
  a5 := Tryz.isAgg5
  z5 := Tryz.sizeOf5
  v5 := Tryz.zeroValue5
  t9 := Tryz.underlying9
  a9 := Tryz.isAgg9
  z9 := Tryz.sizeOf9
  v9 := Tryz.zeroValue9
  t12 := Tryz.underlying12
  a12 := Tryz.isAgg12
  z12 := Tryz.sizeOf12
  v12 := Tryz.zeroValue12
  t46 := Tryz.underlying211
  a46 := Tryz.isAgg211
  z46 := Tryz.sizeOf211
  v46 := Tryz.zeroValue211
  t53 := Tryz.underlying100
  a53 := Tryz.isAgg100
  z53 := Tryz.sizeOf100
  v53 := Tryz.zeroValue100
  t119 := Tryz.underlying207
  a119 := Tryz.isAgg207
  z119 := Tryz.sizeOf207
  t138 := Tryz.underlying209
  a138 := Tryz.isAgg209
  z138 := Tryz.sizeOf209
  v138 := Tryz.zeroValue209
  t139 := Tryz.underlying210
  a139 := Tryz.isAgg210
  z139 := Tryz.sizeOf210
  v139 := Tryz.zeroValue210
  g3 := by kernel_rfl
  g4 := by kernel_rfl }
end Go.Proofs
end
section
namespace Go.Vg
open Go.RowKit

theorem Bx.ci {w : World} {b i : Nat} {us : List Value} {u : Value} (h : Bx w b us) (hi : us[i]? = some u) : CellAt w (padd (ptr b) i) u := h.cells.cell hi
theorem CellsAt.c0 {w : World} {p : Value} {us : List Value} {u : Value} (h : CellsAt w p us) (hi : us[0]? = some u) : CellAt w p u := by
  obtain ⟨a, rfl, _, hc⟩ := h
  exact ⟨a, rfl, by have := hc 0 u hi; rwa [Addr.add_zero] at this⟩
theorem Bx.c0 {w : World} {b : Nat} {us : List Value} {u : Value} (h : Bx w b us) (hi : us[0]? = some u) : CellAt w (ptr b) u := h.cells.c0 hi

section
variable {X : Cx} {ops : Array Oper} {l : List Oper} {k : List Kt} {e : Env} {w : World} {d : Nat} {c : Option Bool} {ty : TypeId} {pos : String} {af : Array Edge} {g : Option (Nat × Bool)} {S : World → Prop} {N : Env → World → Prop} {lb : List (Oper × Bool)}

theorem sFa (T : Tb X.P) {x : Operand} {st : TypeId} {f : Nat} {td : TypeDesc} {p z : Value} {off ft s b : Nat} (h : GL X ops l k ((d, c, padd p off) :: e) w) (hg : guardE ops e ⟨some d, .fieldAddr st x f, ty, pos, af, g⟩ = some c := by exact rfl) (hx : Op1 e c x p := by exact Op1.of rfl (by first | exact fun _ => rfl | exact fun h => h | exact fun h => bL h | exact fun h => bL (bL h) | exact fun h => bL (bL (bL h)))) (ht : T.ty st = some td := by exact rfl) (ho : fieldOff td f = some (off, ft) := by exact rfl) (hi : T.inf ft = some (z, s, b) := by exact rfl) (hs : Nat.blt 0 s = true := by exact rfl) (hp : cv c = true → ∃ a : Addr, p = .pointer (some a) := by intro _; first | exact ⟨_, rfl⟩ | exact CellsAt.ptr (by assumption) | exact (Sli.elem (by assumption) (by assumption)).ptr | exact (Sli.elem (Owns.sli (by assumption)) (by assumption)).ptr) (hn : Nat.blt d X.n = true := by exact rfl) :
    GL X ops (⟨some d, .fieldAddr st x f, ty, pos, af, g⟩ :: l) k e w := GL.cons (Step.fieldAddr T hg hx ht ho hi hs hp hn h)
theorem dFa (T : Tb X.P) {x : Operand} {st : TypeId} {f : Nat} {td : TypeDesc} {p z : Value} {off ft s b : Nat} (h : GMN X ops S N lb ((d, c, padd p off) :: e) w) (hg : guardE ops e ⟨some d, .fieldAddr st x f, ty, pos, af, g⟩ = some c := by exact rfl) (hx : Op1 e c x p := by exact Op1.of rfl (by first | exact fun _ => rfl | exact fun h => h | exact fun h => bL h | exact fun h => bL (bL h) | exact fun h => bL (bL (bL h)))) (ht : T.ty st = some td := by exact rfl) (ho : fieldOff td f = some (off, ft) := by exact rfl) (hi : T.inf ft = some (z, s, b) := by exact rfl) (hs : Nat.blt 0 s = true := by exact rfl) (hp : cv c = true → ∃ a : Addr, p = .pointer (some a) := by intro _; first | exact ⟨_, rfl⟩ | exact CellsAt.ptr (by assumption) | exact (Sli.elem (by assumption) (by assumption)).ptr | exact (Sli.elem (Owns.sli (by assumption)) (by assumption)).ptr) (hn : Nat.blt d X.n = true := by exact rfl) :
    GMN X ops S N ((⟨some d, .fieldAddr st x f, ty, pos, af, g⟩, true) :: lb) e w := GM.read (fun _ _ => Step.fieldAddr T hg hx ht ho hi hs hp hn ⟨rfl, rfl⟩) rfl hn h
theorem sLd (T : Tb X.P) {x : Operand} {t : TypeId} {td : TypeDesc} {p u : Value} (h : GL X ops l k ((d, c, u) :: e) w) (hg : guardE ops e ⟨some d, .load t x, ty, pos, af, g⟩ = some c := by exact rfl) (hx : Op1 e c x p := by exact Op1.of rfl (by first | exact fun _ => rfl | exact fun h => h | exact fun h => bL h | exact fun h => bL (bL h) | exact fun h => bL (bL (bL h)))) (ht : T.ty t = some td := by exact rfl) (ha : aggT td = false := by exact rfl) (hc : cv c = true → CellAt w p u := by intro _; first | exact Bx.c0 (by assumption) (by exact rfl) | exact Bx.ci (by assumption) (by exact rfl) | exact (Sli.elem (by assumption) (by assumption)).c0 (by exact rfl) | exact (Sli.elem (by assumption) (by assumption)).cell (by exact rfl) | exact (Sli.elem (Owns.sli (by assumption)) (by assumption)).c0 (by exact rfl) | exact (Sli.elem (Owns.sli (by assumption)) (by assumption)).cell (by exact rfl) | exact CellsAt.c0 (by assumption) (by exact rfl) | exact CellsAt.cell (by assumption) (by exact rfl)) (hn : Nat.blt d X.n = true := by exact rfl) :
    GL X ops (⟨some d, .load t x, ty, pos, af, g⟩ :: l) k e w := GL.cons (Step.load1 T hg hx ht ha hc hn h)
theorem dLd (T : Tb X.P) {x : Operand} {t : TypeId} {td : TypeDesc} {p u : Value} (h : GMN X ops S N lb ((d, c, u) :: e) w) (hg : guardE ops e ⟨some d, .load t x, ty, pos, af, g⟩ = some c := by exact rfl) (hx : Op1 e c x p := by exact Op1.of rfl (by first | exact fun _ => rfl | exact fun h => h | exact fun h => bL h | exact fun h => bL (bL h) | exact fun h => bL (bL (bL h)))) (ht : T.ty t = some td := by exact rfl) (ha : aggT td = false := by exact rfl) (hc : ∀ w', S w' → cv c = true → CellAt w' p u := by intro w1 hS1 _; first | exact Bx.c0 (Bx.to (by assumption) hS1) (by exact rfl) | exact Bx.ci (Bx.to (by assumption) hS1) (by exact rfl) | exact (Sli.elem (Sli.to (by assumption) hS1) (by assumption)).c0 (by exact rfl) | exact (Sli.elem (Sli.to (by assumption) hS1) (by assumption)).cell (by exact rfl) | exact (Sli.elem (Owns.sli (Owns.to (by assumption) hS1)) (by assumption)).c0 (by exact rfl) | exact (Sli.elem (Owns.sli (Owns.to (by assumption) hS1)) (by assumption)).cell (by exact rfl)) (hn : Nat.blt d X.n = true := by exact rfl) :
    GMN X ops S N ((⟨some d, .load t x, ty, pos, af, g⟩, true) :: lb) e w := GM.read (fun w' hS => Step.load1 T hg hx ht ha (hc w' hS) hn ⟨rfl, rfl⟩) rfl hn h
theorem sLa (T : Tb X.P) {x : Operand} {t : TypeId} {td : TypeDesc} {p z : Value} {s b : Nat} {us : List Value} (h : GL X ops l k ((d, c, .agg ⟨us⟩) :: e) w) (hg : guardE ops e ⟨some d, .load t x, ty, pos, af, g⟩ = some c := by exact rfl) (hx : Op1 e c x p := by exact Op1.of rfl (by first | exact fun _ => rfl | exact fun h => h | exact fun h => bL h | exact fun h => bL (bL h) | exact fun h => bL (bL (bL h)))) (ht : T.ty t = some td := by exact rfl) (ha : aggT td = true := by exact rfl) (hi : T.inf t = some (z, s, b) := by exact rfl) (hc : cv c = true → CellsAt w p us := by intro _; first | exact Bx.cells (by assumption) | exact Sli.elem (by assumption) (by assumption) | exact Sli.elem (Owns.sli (by assumption)) (by assumption) | assumption) (hl : cv c = true → us.length = s := by exact fun _ => rfl) (hn : Nat.blt d X.n = true := by exact rfl) :
    GL X ops (⟨some d, .load t x, ty, pos, af, g⟩ :: l) k e w := GL.cons (Step.loadA T hg hx ht ha hi hc hl hn h)
theorem dLa (T : Tb X.P) {x : Operand} {t : TypeId} {td : TypeDesc} {p z : Value} {s b : Nat} {us : List Value} (h : GMN X ops S N lb ((d, c, .agg ⟨us⟩) :: e) w) (hg : guardE ops e ⟨some d, .load t x, ty, pos, af, g⟩ = some c := by exact rfl) (hx : Op1 e c x p := by exact Op1.of rfl (by first | exact fun _ => rfl | exact fun h => h | exact fun h => bL h | exact fun h => bL (bL h) | exact fun h => bL (bL (bL h)))) (ht : T.ty t = some td := by exact rfl) (ha : aggT td = true := by exact rfl) (hi : T.inf t = some (z, s, b) := by exact rfl) (hc : ∀ w', S w' → cv c = true → CellsAt w' p us := by intro w1 hS1 _; first | exact Bx.cells (Bx.to (by assumption) hS1) | exact Sli.elem (Sli.to (by assumption) hS1) (by assumption) | exact Sli.elem (Owns.sli (Owns.to (by assumption) hS1)) (by assumption)) (hl : cv c = true → us.length = s := by exact fun _ => rfl) (hn : Nat.blt d X.n = true := by exact rfl) :
    GMN X ops S N ((⟨some d, .load t x, ty, pos, af, g⟩, true) :: lb) e w := GM.read (fun w' hS => Step.loadA T hg hx ht ha hi (hc w' hS) hl hn ⟨rfl, rfl⟩) rfl hn h
theorem sLen (T : Tb X.P) {x : Operand} {at_ et : TypeId} {v : Value} {m : Nat} {xs : List (List Value)} (h : GL X ops l k ((d, c, .int .i64 xs.length) :: e) w) (hg : guardE ops e ⟨some d, .call { callee := .builtin .len, args := #[x], argTypes := #[at_] }, ty, pos, af, g⟩ = some c := by exact rfl) (hx : Op1 e c x v := by exact Op1.of rfl (by first | exact fun _ => rfl | exact fun h => h | exact fun h => bL h | exact fun h => bL (bL h) | exact fun h => bL (bL (bL h)))) (ht : T.ty at_ = some (.slice et) := by exact rfl) (hs : cv c = true → ∃ w, Sli w v m xs := by intro _; first | exact ⟨_, by assumption⟩ | exact ⟨_, Owns.sli (by assumption)⟩) (hn : Nat.blt d X.n = true := by exact rfl) :
    GL X ops (⟨some d, .call { callee := .builtin .len, args := #[x], argTypes := #[at_] }, ty, pos, af, g⟩ :: l) k e w := GL.cons (Step.lenV T hg hx ht hs hn h)
theorem dLen (T : Tb X.P) {x : Operand} {at_ et : TypeId} {v : Value} {m : Nat} {xs : List (List Value)} (h : GMN X ops S N lb ((d, c, .int .i64 xs.length) :: e) w) (hg : guardE ops e ⟨some d, .call { callee := .builtin .len, args := #[x], argTypes := #[at_] }, ty, pos, af, g⟩ = some c := by exact rfl) (hx : Op1 e c x v := by exact Op1.of rfl (by first | exact fun _ => rfl | exact fun h => h | exact fun h => bL h | exact fun h => bL (bL h) | exact fun h => bL (bL (bL h)))) (ht : T.ty at_ = some (.slice et) := by exact rfl) (hs : cv c = true → ∃ w, Sli w v m xs := by intro _; first | exact ⟨_, by assumption⟩ | exact ⟨_, Owns.sli (by assumption)⟩) (hn : Nat.blt d X.n = true := by exact rfl) :
    GMN X ops S N ((⟨some d, .call { callee := .builtin .len, args := #[x], argTypes := #[at_] }, ty, pos, af, g⟩, true) :: lb) e w := GM.read (fun _ _ => Step.lenV T hg hx ht hs hn ⟨rfl, rfl⟩) rfl hn h
theorem sIa (T : Tb X.P) (j : Nat) {x i : Operand} {st et : TypeId} {v z : Value} {q b : Nat} {m : Int} {xs : List (List Value)} (h : GL X ops l k ((d, c, padd v (j * q)) :: e) w) (hg : guardE ops e ⟨some d, .indexAddr st x i, ty, pos, af, g⟩ = some c := by exact rfl) (hx : Op1 e c x v := by exact Op1.of rfl (by first | exact fun _ => rfl | exact fun h => h | exact fun h => bL h | exact fun h => bL (bL h) | exact fun h => bL (bL (bL h)))) (hi : Op1 e c i (.int .i64 m) := by exact Op1.of rfl (by first | exact fun _ => rfl | exact fun h => h | exact fun h => bL h | exact fun h => bL (bL h) | exact fun h => bL (bL (bL h)))) (ht : T.ty st = some (.slice et) := by exact rfl) (hk : T.inf et = some (z, q, b) := by exact rfl) (hs : cv c = true → ∃ w, Sli w v q xs := by intro _; first | exact ⟨_, by assumption⟩ | exact ⟨_, Owns.sli (by assumption)⟩) (hj : cv c = true → m = j ∧ j < xs.length := by intro hc; first | exact ⟨by omega, by first | omega | (simp only [List.length_map]; omega)⟩ | (simp only [cv, Bool.and_eq_true, decide_eq_true_eq] at hc; exact ⟨by omega, by first | omega | (simp only [List.length_map]; omega)⟩)) (hn : Nat.blt d X.n = true := by exact rfl) :
    GL X ops (⟨some d, .indexAddr st x i, ty, pos, af, g⟩ :: l) k e w := GL.cons (Step.indexAddr T j hg hx hi ht hk hs hj hn h)
theorem dIa (T : Tb X.P) (j : Nat) {x i : Operand} {st et : TypeId} {v z : Value} {q b : Nat} {m : Int} {xs : List (List Value)} (h : GMN X ops S N lb ((d, c, padd v (j * q)) :: e) w) (hg : guardE ops e ⟨some d, .indexAddr st x i, ty, pos, af, g⟩ = some c := by exact rfl) (hx : Op1 e c x v := by exact Op1.of rfl (by first | exact fun _ => rfl | exact fun h => h | exact fun h => bL h | exact fun h => bL (bL h) | exact fun h => bL (bL (bL h)))) (hi : Op1 e c i (.int .i64 m) := by exact Op1.of rfl (by first | exact fun _ => rfl | exact fun h => h | exact fun h => bL h | exact fun h => bL (bL h) | exact fun h => bL (bL (bL h)))) (ht : T.ty st = some (.slice et) := by exact rfl) (hk : T.inf et = some (z, q, b) := by exact rfl) (hs : cv c = true → ∃ w, Sli w v q xs := by intro _; first | exact ⟨_, by assumption⟩ | exact ⟨_, Owns.sli (by assumption)⟩) (hj : cv c = true → m = j ∧ j < xs.length := by intro hc; first | exact ⟨by omega, by first | omega | (simp only [List.length_map]; omega)⟩ | (simp only [cv, Bool.and_eq_true, decide_eq_true_eq] at hc; exact ⟨by omega, by first | omega | (simp only [List.length_map]; omega)⟩)) (hn : Nat.blt d X.n = true := by exact rfl) :
    GMN X ops S N ((⟨some d, .indexAddr st x i, ty, pos, af, g⟩, true) :: lb) e w := GM.read (fun _ _ => Step.indexAddr T j hg hx hi ht hk hs hj hn ⟨rfl, rfl⟩) rfl hn h
theorem sBs (T : Tb X.P) (j : Nat) {x i : Operand} {st : TypeId} {s : List UInt8} {m : Int} (h : GL X ops l k ((d, c, U (s.getD j 0)) :: e) w) (hg : guardE ops e ⟨some d, .index st x i, ty, pos, af, g⟩ = some c := by exact rfl) (hx : Op1 e c x (Vg.S s) := by exact Op1.of rfl (by first | exact fun _ => rfl | exact fun h => h | exact fun h => bL h | exact fun h => bL (bL h) | exact fun h => bL (bL (bL h)))) (hi : Op1 e c i (.int .i64 m) := by exact Op1.of rfl (by first | exact fun _ => rfl | exact fun h => h | exact fun h => bL h | exact fun h => bL (bL h) | exact fun h => bL (bL (bL h)))) (ht : T.ty st = some .string := by exact rfl) (hj : cv c = true → m = j ∧ j < s.length := by intro hc; first | exact ⟨by omega, by first | omega | (simp only [List.length_map]; omega)⟩ | (simp only [cv, Bool.and_eq_true, decide_eq_true_eq] at hc; exact ⟨by omega, by first | omega | (simp only [List.length_map]; omega)⟩)) (hn : Nat.blt d X.n = true := by exact rfl) :
    GL X ops (⟨some d, .index st x i, ty, pos, af, g⟩ :: l) k e w := GL.cons (Step.indexS T j hg hx hi ht hj hn h)
theorem dBs (T : Tb X.P) (j : Nat) {x i : Operand} {st : TypeId} {s : List UInt8} {m : Int} (h : GMN X ops S N lb ((d, c, U (s.getD j 0)) :: e) w) (hg : guardE ops e ⟨some d, .index st x i, ty, pos, af, g⟩ = some c := by exact rfl) (hx : Op1 e c x (Vg.S s) := by exact Op1.of rfl (by first | exact fun _ => rfl | exact fun h => h | exact fun h => bL h | exact fun h => bL (bL h) | exact fun h => bL (bL (bL h)))) (hi : Op1 e c i (.int .i64 m) := by exact Op1.of rfl (by first | exact fun _ => rfl | exact fun h => h | exact fun h => bL h | exact fun h => bL (bL h) | exact fun h => bL (bL (bL h)))) (ht : T.ty st = some .string := by exact rfl) (hj : cv c = true → m = j ∧ j < s.length := by intro hc; first | exact ⟨by omega, by first | omega | (simp only [List.length_map]; omega)⟩ | (simp only [cv, Bool.and_eq_true, decide_eq_true_eq] at hc; exact ⟨by omega, by first | omega | (simp only [List.length_map]; omega)⟩)) (hn : Nat.blt d X.n = true := by exact rfl) :
    GMN X ops S N ((⟨some d, .index st x i, ty, pos, af, g⟩, true) :: lb) e w := GM.read (fun _ _ => Step.indexS T j hg hx hi ht hj hn ⟨rfl, rfl⟩) rfl hn h
theorem sFd (T : Tb X.P) {x : Operand} {st : TypeId} {f : Nat} {td ftd : TypeDesc} {us : List Value} {u : Value} {off ft : Nat} (h : GL X ops l k ((d, c, u) :: e) w) (hg : guardE ops e ⟨some d, .field st x f, ty, pos, af, g⟩ = some c := by exact rfl) (hx : Op1 e c x (.agg ⟨us⟩) := by exact Op1.of rfl (by first | exact fun _ => rfl | exact fun h => h | exact fun h => bL h | exact fun h => bL (bL h) | exact fun h => bL (bL (bL h)))) (ht : T.ty st = some td := by exact rfl) (ho : fieldOff td f = some (off, ft) := by exact rfl) (hft : T.ty ft = some ftd := by exact rfl) (ha : aggT ftd = false := by exact rfl) (hu : us[off]? = some u := by exact rfl) (hn : Nat.blt d X.n = true := by exact rfl) :
    GL X ops (⟨some d, .field st x f, ty, pos, af, g⟩ :: l) k e w := GL.cons (Step.field T hg hx ht ho hft ha hu hn h)
theorem dFd (T : Tb X.P) {x : Operand} {st : TypeId} {f : Nat} {td ftd : TypeDesc} {us : List Value} {u : Value} {off ft : Nat} (h : GMN X ops S N lb ((d, c, u) :: e) w) (hg : guardE ops e ⟨some d, .field st x f, ty, pos, af, g⟩ = some c := by exact rfl) (hx : Op1 e c x (.agg ⟨us⟩) := by exact Op1.of rfl (by first | exact fun _ => rfl | exact fun h => h | exact fun h => bL h | exact fun h => bL (bL h) | exact fun h => bL (bL (bL h)))) (ht : T.ty st = some td := by exact rfl) (ho : fieldOff td f = some (off, ft) := by exact rfl) (hft : T.ty ft = some ftd := by exact rfl) (ha : aggT ftd = false := by exact rfl) (hu : us[off]? = some u := by exact rfl) (hn : Nat.blt d X.n = true := by exact rfl) :
    GMN X ops S N ((⟨some d, .field st x f, ty, pos, af, g⟩, true) :: lb) e w := GM.read (fun _ _ => Step.field T hg hx ht ho hft ha hu hn ⟨rfl, rfl⟩) rfl hn h
theorem sAd (_ : Tb X.P) {op : BinOp} {xt yt : TypeId} {x y : Operand} {a b r : Int} (h : GL X ops l k ((d, c, .int .i64 r) :: e) w) (hg : guardE ops e ⟨some d, .binOp op xt x y yt, ty, pos, af, g⟩ = some c := by exact rfl) (hx : Op1 e c x (.int .i64 a) := by exact Op1.of rfl (by first | exact fun _ => rfl | exact fun h => h | exact fun h => bL h | exact fun h => bL (bL h) | exact fun h => bL (bL (bL h)))) (hy : Op1 e c y (.int .i64 b) := by exact Op1.of rfl (by first | exact fun _ => rfl | exact fun h => h | exact fun h => bL h | exact fun h => bL (bL h) | exact fun h => bL (bL (bL h)))) (hp : match op with | .add => IntKind.i64.wrap (a + b) = r | .sub => IntKind.i64.wrap (a - b) = r | .mul => IntKind.i64.wrap (a * b) = r | _ => False := by exact wrap_i64 (by omega) (by omega)) (hn : Nat.blt d X.n = true := by exact rfl) :
    GL X ops (⟨some d, .binOp op xt x y yt, ty, pos, af, g⟩ :: l) k e w := GL.cons (Step.arith hg hx hy hp hn h)
theorem dAd (_ : Tb X.P) {op : BinOp} {xt yt : TypeId} {x y : Operand} {a b r : Int} (h : GMN X ops S N lb ((d, c, .int .i64 r) :: e) w) (hg : guardE ops e ⟨some d, .binOp op xt x y yt, ty, pos, af, g⟩ = some c := by exact rfl) (hx : Op1 e c x (.int .i64 a) := by exact Op1.of rfl (by first | exact fun _ => rfl | exact fun h => h | exact fun h => bL h | exact fun h => bL (bL h) | exact fun h => bL (bL (bL h)))) (hy : Op1 e c y (.int .i64 b) := by exact Op1.of rfl (by first | exact fun _ => rfl | exact fun h => h | exact fun h => bL h | exact fun h => bL (bL h) | exact fun h => bL (bL (bL h)))) (hp : match op with | .add => IntKind.i64.wrap (a + b) = r | .sub => IntKind.i64.wrap (a - b) = r | .mul => IntKind.i64.wrap (a * b) = r | _ => False := by exact wrap_i64 (by omega) (by omega)) (hn : Nat.blt d X.n = true := by exact rfl) :
    GMN X ops S N ((⟨some d, .binOp op xt x y yt, ty, pos, af, g⟩, true) :: lb) e w := GM.read (fun _ _ => Step.arith hg hx hy hp hn ⟨rfl, rfl⟩) rfl hn h
theorem sCat (_ : Tb X.P) {xt yt : TypeId} {x y : Operand} {a b : List UInt8} (h : GL X ops l k ((d, c, Vg.S (a ++ b)) :: e) w) (hg : guardE ops e ⟨some d, .binOp .add xt x y yt, ty, pos, af, g⟩ = some c := by exact rfl) (hx : Op1 e c x (Vg.S a) := by exact Op1.of rfl (by first | exact fun _ => rfl | exact fun h => h | exact fun h => bL h | exact fun h => bL (bL h) | exact fun h => bL (bL (bL h)))) (hy : Op1 e c y (Vg.S b) := by exact Op1.of rfl (by first | exact fun _ => rfl | exact fun h => h | exact fun h => bL h | exact fun h => bL (bL h) | exact fun h => bL (bL (bL h)))) (hk : cv c = true → a.length + b.length ≤ 9223372036854775807 := by intro _; simp only [List.length_append, List.length_cons, List.length_nil]; omega) (hn : Nat.blt d X.n = true := by exact rfl) :
    GL X ops (⟨some d, .binOp .add xt x y yt, ty, pos, af, g⟩ :: l) k e w := GL.cons (Step.cat hg hx hy hk hn h)
theorem sCv (T : Tb X.P) {x : Operand} {src dst : TypeId} {q q' : IntKind} {m r : Int} {sd : TypeDesc} (h : GL X ops l k ((d, c, .int q' r) :: e) w) (hg : guardE ops e ⟨some d, .convert src dst x, ty, pos, af, g⟩ = some c := by exact rfl) (hx : Op1 e c x (.int q m) := by exact Op1.of rfl (by first | exact fun _ => rfl | exact fun h => h | exact fun h => bL h | exact fun h => bL (bL h) | exact fun h => bL (bL (bL h)))) (hs : T.ty src = some sd := by exact rfl) (ht : T.ty dst = some (.int q') := by exact rfl) (hr : q'.wrap m = r := by exact wrap_i64 (by omega) (by omega)) (hn : Nat.blt d X.n = true := by exact rfl) :
    GL X ops (⟨some d, .convert src dst x, ty, pos, af, g⟩ :: l) k e w := GL.cons (Step.convI T hg hx hs ht hr hn h)
theorem sBd (T : Tb X.P) {t m bytes : Nat} {z : Value} {zs us : List Value} {fs : Array Field} {parts : Array (Nat × Operand)} {lo : List (Nat × Operand)} {vs : List (Nat × Value)} {pl : List (Nat × Nat)} (h : GL X ops l k ((d, none, .agg ⟨us⟩) :: e) w) (hg : guardE ops e ⟨some d, .build t parts, ty, pos, af, g⟩ = some none := by exact rfl) (hp : parts = ⟨lo⟩ := by exact rfl) (hvs : evps e lo = some vs := by exact rfl) (ht : T.ty t = some (.struct fs) := by exact rfl) (hi : T.inf t = some (z, m, bytes) := by exact rfl) (hz : z.cells = ⟨zs⟩ := by exact rfl) (hpl : fs.toList.mapM (fun f => (T.inf f.type).map fun i => (f.offset, i.2.1)) = some pl := by exact rfl) (hf : Instr.fill (fun i => pl[i]?) ⟨zs⟩ vs = some ⟨us⟩ := by exact rfl) (hn : Nat.blt d X.n = true := by exact rfl) :
    GL X ops (⟨some d, .build t parts, ty, pos, af, g⟩ :: l) k e w := GL.cons (Step.build T hg hp hvs ht hi hz hpl hf hn h)
/-! Operations that make or turn memory, and calls. -/
theorem sBox {x : Operand} {t : TypeId} {v : Value} {us : List Value}
    (h : ∀ w', Bx w' w.heap.size us → w'.heap.size = w.heap.size + 1 → Ext w w' → GL X ops l k ((d, none, ptr w.heap.size) :: e) w') (hg : guardE ops e ⟨some d, .box t x, ty, pos, af, g⟩ = some none := by exact rfl)
    (hx : Op1 e none x v := by exact Op1.of rfl (by first | exact fun _ => rfl | exact fun h => h | exact fun h => bL h | exact fun h => bL (bL h) | exact fun h => bL (bL (bL h)))) (hv : v.cells = ⟨us⟩ := by first | exact Sli.cells (by assumption) | exact Owns.cells (by assumption) | exact rfl) (hn : Nat.blt d X.n = true := by exact rfl) :
    GL X ops (⟨some d, .box t x, ty, pos, af, g⟩ :: l) k e w := GL.cons (Step.box hg hx hv hn h)
theorem sAl (T : Tb X.P) {t : TypeId} {z : Value} {s b : Nat} {us : List Value}
    (h : ∀ w', Bx w' w.heap.size us → w'.heap.size = w.heap.size + 1 → Ext w w' → GL X ops l k ((d, none, ptr w.heap.size) :: e) w') (hg : guardE ops e ⟨some d, .alloc t, ty, pos, af, g⟩ = some none := by exact rfl)
    (hi : T.inf t = some (z, s, b) := by exact rfl) (hv : z.cells = ⟨us⟩ := by exact rfl) (hn : Nat.blt d X.n = true := by exact rfl) :
    GL X ops (⟨some d, .alloc t, ty, pos, af, g⟩ :: l) k e w := GL.cons (Step.alloc T hg hi hv hn h)
/-- a whole box is stored into -/
theorem sSt (T : Tb X.P) {x y : Operand} {t : TypeId} {v z : Value} {vs us : List Value} {s by_ b : Nat}
    (h : ∀ w', Bx w' b vs → Wr b w w' → GL X ops l k e w') (hg : guardE ops e ⟨none, .store t x y, ty, pos, af, g⟩ = some none := by exact rfl)
    (hx : Op1 e none x (ptr b) := by exact Op1.of rfl (by first | exact fun _ => rfl | exact fun h => h | exact fun h => bL h | exact fun h => bL (bL h) | exact fun h => bL (bL (bL h)))) (hy : Op1 e none y v := by exact Op1.of rfl (by first | exact fun _ => rfl | exact fun h => h | exact fun h => bL h | exact fun h => bL (bL h) | exact fun h => bL (bL (bL h)))) (hi : T.inf t = some (z, s, by_) := by exact rfl) (hv : v.cells = ⟨vs⟩ := by first | exact Sli.cells (by assumption) | exact Owns.cells (by assumption) | exact rfl) (hs : vs.length = s := by exact rfl) (h1 : ∀ v ∈ vs, v.oneCell' = true := by first | exact Sli.one (by assumption) | exact Sli.one (Owns.sli (by assumption)) | simp [Value.oneCell', S, U])
    (hb : Bx w b us := by assumption) (hl : us.length = s := by exact rfl) :
    GL X ops (⟨none, .store t x y, ty, pos, af, g⟩ :: l) k e w := GL.cons (Step.store0 T hg hx hy hi hv hs h1 hb hl h)
/-- a field of a box is stored into -/
theorem sSf (T : Tb X.P) {x y : Operand} {t : TypeId} {v z : Value} {vs us : List Value} {s by_ b off : Nat}
    (h : ∀ w', Bx w' b (us.take off ++ vs ++ us.drop (off + s)) → Wr b w w' → GL X ops l k e w') (hg : guardE ops e ⟨none, .store t x y, ty, pos, af, g⟩ = some none := by exact rfl)
    (hx : Op1 e none x (padd (ptr b) off) := by exact Op1.of rfl (by first | exact fun _ => rfl | exact fun h => h | exact fun h => bL h | exact fun h => bL (bL h) | exact fun h => bL (bL (bL h)))) (hy : Op1 e none y v := by exact Op1.of rfl (by first | exact fun _ => rfl | exact fun h => h | exact fun h => bL h | exact fun h => bL (bL h) | exact fun h => bL (bL (bL h)))) (hi : T.inf t = some (z, s, by_) := by exact rfl) (hv : v.cells = ⟨vs⟩ := by first | exact Sli.cells (by assumption) | exact Owns.cells (by assumption) | exact rfl) (hs : vs.length = s := by exact rfl) (h1 : ∀ v ∈ vs, v.oneCell' = true := by first | exact Sli.one (by assumption) | exact Sli.one (Owns.sli (by assumption)) | simp [Value.oneCell', S, U])
    (hb : Bx w b us := by assumption) (hl : off + s ≤ us.length := by exact of_decide_eq_true rfl) :
    GL X ops (⟨none, .store t x y, ty, pos, af, g⟩ :: l) k e w := GL.cons (Step.store T hg hx hy hi hv hs h1 hb hl h)
theorem sCall {f : FuncId} {args : Array Operand} {ats : Array TypeId} {lo : List Operand} {vs : List Value} {Q : Value → World → Prop} (hf : Callable X.P f) (hc : Ret X.P f ⟨vs⟩ w Q)
    (h : ∀ v w', Q v w' → GL X ops l k ((d, none, v) :: e) w') (hg : guardE ops e ⟨some d, .call { callee := .value (.func f), args := args, argTypes := ats }, ty, pos, af, g⟩ = some none := by exact rfl)
    (ha : args = ⟨lo⟩ := by exact rfl) (hvs : evs e lo = some vs := by exact rfl) (hn : Nat.blt d X.n = true := by exact rfl) :
    GL X ops (⟨some d, .call { callee := .value (.func f), args := args, argTypes := ats }, ty, pos, af, g⟩ :: l) k e w := GL.cons (Step.callF hg ha hvs hf hn hc h)
/-- a call, guarded or not, that hands back v and only adds memory -/
theorem sCallx {f : FuncId} {args : Array Operand} {ats : Array TypeId} {lo : List Operand} {vs : List Value} {v : Value} (hf : Callable X.P f) (hc : cv c = true → Ret X.P f ⟨vs⟩ w fun r w' => r = v ∧ Ext w w')
    (h : ∀ w', Ext w w' → GL X ops l k ((d, c, v) :: e) w') (hg : guardE ops e ⟨some d, .call { callee := .value (.func f), args := args, argTypes := ats }, ty, pos, af, g⟩ = some c := by exact rfl)
    (ha : args = ⟨lo⟩ := by exact rfl) (hvs : OpL e c lo vs := by repeat (first | exact OpL.nil | refine OpL.cons (Op1.of rfl (by first | exact fun _ => rfl | exact fun h => h | exact fun h => bL h | exact fun h => bL (bL h) | exact fun h => bL (bL (bL h)))) ?_)) (hn : Nat.blt d X.n = true := by exact rfl) :
    GL X ops (⟨some d, .call { callee := .value (.func f), args := args, argTypes := ats }, ty, pos, af, g⟩ :: l) k e w := GL.cons (Step.callX hg ha hvs hf hn hc h)
/-- append onto a row of one's own -/
theorem sApp (T : Tb X.P) {x y : Operand} {t et : TypeId} {v u z : Value} {q bytes B : Nat} {xs ys : List (List Value)} (hv : Owns w B v et q xs) (hu : Sli w u q ys)
    (h : ∀ v' w', Owns w' B v' et q (xs ++ ys) → Grew B v w w' → GL X ops l k ((d, none, v') :: e) w')
    (h1 : ∀ y ∈ ys, ∀ c ∈ y, c.oneCell' = true := by intro y hy c hc; simp only [List.mem_cons, List.not_mem_nil, or_false] at hy; subst hy; simp only [List.mem_cons, List.not_mem_nil, or_false] at hc; rcases hc with rfl <;> rfl)
    (hg : guardE ops e ⟨some d, .call { callee := .builtin .append, args := #[x, y], argTypes := #[t, t] }, ty, pos, af, g⟩ = some none := by exact rfl)
    (hx : Op1 e none x v := by exact Op1.of rfl (by first | exact fun _ => rfl | exact fun h => h | exact fun h => bL h | exact fun h => bL (bL h) | exact fun h => bL (bL (bL h)))) (hy : Op1 e none y u := by exact Op1.of rfl (by first | exact fun _ => rfl | exact fun h => h | exact fun h => bL h | exact fun h => bL (bL h) | exact fun h => bL (bL (bL h)))) (ht : T.ty t = some (.slice et) := by exact rfl) (hi : T.inf et = some (z, q, bytes) := by exact rfl) (hk : Nat.blt 0 q = true := by exact rfl) (hz : z.cells.size = q := by exact rfl) (hn : Nat.blt d X.n = true := by exact rfl)
    (hb : (xs.length + ys.length) * bytes ≤ 140737488355328 := by simp only [List.length_map, List.length_append, List.length_cons, List.length_nil, List.length_take, List.length_drop]; omega)
    (hl : xs.length + ys.length ≤ 140737488355328 := by simp only [List.length_map, List.length_append, List.length_cons, List.length_nil, List.length_take, List.length_drop]; omega)
    (hB : B ≤ w.heap.size := by omega) :
    GL X ops (⟨some d, .call { callee := .builtin .append, args := #[x, y], argTypes := #[t, t] }, ty, pos, af, g⟩ :: l) k e w := GL.cons (Step.append T hg hx hy ht hi hk hz hv hu h1 hb hl hB hn h)
theorem sBs' (T : Tb X.P) {t et : TypeId} {n q bytes : Nat} {z : Value} {zs : List Value} {parts : Array (Nat × Operand)} {lo : List (Nat × Operand)} {vs : List (Nat × Value)} (xs : List (List Value))
    (h : ∀ v w', Owns w' w.heap.size v et q xs → w'.heap.size = w.heap.size + 1 → Ext w w' → GL X ops l k ((d, none, v) :: e) w')
    (hg : guardE ops e ⟨some d, .buildSlice t n parts, ty, pos, af, g⟩ = some none := by exact rfl)
    (hp : parts = ⟨lo⟩ := by exact rfl) (hvs : evps e lo = some vs := by exact rfl) (ht : T.ty t = some (.slice et) := by exact rfl) (hi : T.inf et = some (z, q, bytes) := by exact rfl) (hz : z.cells = ⟨zs⟩ := by exact rfl) (hzl : zs.length = q := by exact rfl) (hk : Nat.blt 0 q = true := by exact rfl)
    (hfill : Instr.fill (fun i => some (i * q, q)) ⟨if n * q = 0 then [] else zeros zs (n * q)⟩ vs = some ⟨xs.flatten⟩ := by rfl) (hsm : Nat.ble (n * q) 1000 = true := by exact rfl)
    (hlen : xs.length = n := by rfl) (hkl : ∀ x ∈ xs, x.length = q := by simp) (hn : Nat.blt d X.n = true := by exact rfl) :
    GL X ops (⟨some d, .buildSlice t n parts, ty, pos, af, g⟩ :: l) k e w := GL.cons (Step.buildSlice T xs hg hp hvs ht hi hz hzl hk hfill hsm hlen hkl hn h)
end

/-! A drawn region in its order: simple operations by reckoning. -/
inductive ResM where
  | done (l : List (Oper × Bool)) (e : Env) (L : List Prop)
  | no
def goM {P : Program} (T : Tb P) (n : Nat) (ops : Array Oper) : List (Oper × Bool) → Env → List Prop → ResM
  | [], e, L => .done [] e L
  | (o, true) :: l, e, L => match simp1 T ops n o e with
    | some (d, c, v, M) => goM T n ops l ((d, c, v) :: e) (M ++ L)
    | none => .done ((o, true) :: l) e L
  | (o, false) :: l, e, L => .done ((o, false) :: l) e L
theorem goM_ok {X : Cx} (T : Tb X.P) {ops : Array Oper} {S : World → Prop} {N : Env → World → Prop} {w : World} : ∀ (l : List (Oper × Bool)) (e : Env) (L : List Prop) {l' : List (Oper × Bool)} {e' : Env} {L' : List Prop},
    goM T X.n ops l e L = .done l' e' L' → AllP L' → GMN X ops S N l' e' w → AllP L ∧ GMN X ops S N l e w
  | [], e, L, l', e', L', h, hL, hs => by simp only [goM] at h; cases h; exact ⟨hL, hs⟩
  | (o, false) :: l, e, L, l', e', L', h, hL, hs => by simp only [goM] at h; cases h; exact ⟨hL, hs⟩
  | (o, true) :: l, e, L, l', e', L', h, hL, hs => by
    simp only [goM] at h
    split at h
    · rename_i d c v M hm
      obtain ⟨h1, h2⟩ := goM_ok T _ _ _ h hL hs
      obtain ⟨h3, h4, h5⟩ := simp1_step T hm h1.app.1
      exact ⟨h1.app.2, GM.read (fun w' _ => h3 ⟨rfl, rfl⟩) h4 h5 h2⟩
    · cases h; exact ⟨hL, hs⟩
section
variable {X : Cx} {ops : Array Oper} {e e' : Env} {w : World} {S : World → Prop} {N : Env → World → Prop} {l l' : List (Oper × Bool)} {L : List Prop}
theorem mm (T : Tb X.P) (h : GMN X ops S N l' e' w) (hr : goM T X.n ops l e [] = .done l' e' L := by exact rfl)
    (hL : AllP L := by repeat (first | exact trivial | refine And.intro (by first | exact fun _ => rfl | exact fun h => h | exact fun h => bL h | exact fun h => bL (bL h) | exact fun h => bL (bL (bL h)) | exact fun _ _ => rfl | exact fun _ h => h | exact fun _ h => bNot h | exact fun h k => bAnd h k | exact fun h k => bAnd h (bNot k)) ?_)) : GMN X ops S N l e w := (goM_ok T l e [] hr hL h).2
end
end Go.Vg
namespace Go.Vg
/-- steps that need no word: what is left of them is asked -/
structure Held (Q : Prop) : Prop where
  of : Q
theorem rn {Q R : Prop} (h : R) (q : Held R → Q := by (intro hh; (try (first | refine gl tb ?_ | refine gg tb ?_ | refine ll tb ?_ | refine lg tb ?_); repeat ((first | refine G.condT rfl ?_ | refine G.condF rfl ?_ | refine sFa tb ?_ | refine sLd tb ?_ | refine sLa tb ?_ | refine sLen tb ?_ | refine sFd tb ?_ | refine sBd tb ?_ | refine sBa tb ?_); try (first | refine gl tb ?_ | refine gg tb ?_ | refine ll tb ?_ | refine lg tb ?_))); exact hh.of)) : Q := q ⟨h⟩
theorem rg {Q R : Prop} (h : R) (q : Held R → Q := by (intro hh; (try (first | refine gl tb ?_ | refine gg tb ?_ | refine ll tb ?_ | refine lg tb ?_); repeat ((first | refine G.condT rfl ?_ | refine G.condF rfl ?_); try (first | refine gl tb ?_ | refine gg tb ?_ | refine ll tb ?_ | refine lg tb ?_))); exact hh.of)) : Q := q ⟨h⟩
theorem rd {Q R : Prop} (h : R) (q : Held R → Q := by (intro hh; (try (refine mm tb ?_); repeat ((first | refine dFa tb ?_ | refine dLd tb ?_ | refine dLa tb ?_ | refine dLen tb ?_ | refine dFd tb ?_); try (refine mm tb ?_))); exact hh.of)) : Q := q ⟨h⟩
end Go.Vg
end
section
namespace Go.Vg
open Go.RowKit

/-- bytes as a row's elements -/
def bysC (l : List UInt8) : List (List Value) := l.map fun b => [U b]
theorem bysC_len (l : List UInt8) : (bysC l).length = l.length := by simp [bysC]
theorem bysC_get {l : List UInt8} {i : Nat} (h : i < l.length) : (bysC l)[i]? = some [U (l.getD i 0)] := by
  simp [bysC, List.getD, h]
theorem bysC_k (l : List UInt8) : ∀ x ∈ bysC l, x.length = 1 := by
  intro y hy
  obtain ⟨b, _, rfl⟩ := List.mem_map.1 hy
  rfl
/-- a row of bytes -/
abbrev By (w : World) (v : Value) (l : List UInt8) : Prop := Sli w v 1 (bysC l)

theorem Owns.wr2 {w w' : World} {b B : Nat} {v : Value} {et k : Nat} {xs : List (List Value)} (h : Owns w B v et k xs) (hx : Wr b w w') (hb : some b ≠ v.ownBlock) : Owns w' B v et k xs := by
  obtain ⟨⟨hl, h⟩, hk⟩ := h
  refine ⟨⟨hl, ?_⟩, hk⟩
  rcases h with h | ⟨g, cap, cur, h1, h2, h3, h4⟩
  · exact .inl h
  · refine .inr ⟨g, cap, cur, h1, h2, ?_, h4⟩
    rw [hx.block g (fun e => hb (by rw [h1, e]; rfl))]; exact h3
theorem wrap_u64 {n : Int} (h0 : 0 ≤ n) (h1 : n ≤ 18446744073709551615) : IntKind.u64.wrap n = n := by
  have hb : IntKind.u64.bits = 64 := rfl
  have hs : IntKind.u64.signed = false := rfl
  unfold IntKind.wrap
  simp only [hb, hs, Bool.false_and]
  have e1 : (2 : Int) ^ 64 = 18446744073709551616 := by decide
  rw [e1]
  simp only [Bool.false_eq_true, if_false]
  omega
theorem wrap_u8 (n : Int) : IntKind.u8.wrap n = n % 256 := by
  have hb : IntKind.u8.bits = 8 := rfl
  have hs : IntKind.u8.signed = false := rfl
  unfold IntKind.wrap
  simp only [hb, hs, Bool.false_and]
  have e1 : (2 : Int) ^ 8 = 256 := by decide
  rw [e1]
  simp
section
variable {X : Cx} {ops : Array Oper} {l : List Oper} {k : List Kt} {e : Env} {w : World} {N : Env → World → Prop} {d : Nat} {c : Option Bool} {ty : TypeId} {pos : String} {af : Array Edge} {g : Option (Nat × Bool)}

/-- shifted to the right by a fixed number -/
theorem Step.shr {xt yt : TypeId} {x y : Operand} {q qy : IntKind} {a r : Int} {n : Nat} (hg : guardE ops e ⟨some d, .binOp .shr xt x y yt, ty, pos, af, g⟩ = some c)
    (hx : Op1 e c x (.int q a)) (hy : Op1 e c y (.int qy n)) (hr : a / 2 ^ n = r) (hb : n ≤ q.bits) (hn : Nat.blt d X.n = true)
    (h : N ((d, c, .int q r) :: e) w) : Step X ops ⟨some d, .binOp .shr xt x y yt, ty, pos, af, g⟩ e w N :=
  Step.quiet rfl (by simpa [Nat.blt_eq] using hn) hg (fun _ hh => by cases hh) (fun t hf hc => by
    have h1 := shift_shr q qy a n (by omega) (by omega)
    simp only [Int.toNat_natCast, hr] at h1
    simp only [execOp, hx.val hf hc, hy.val hf hc]
    simp [go_sem, h1]) h
/-- an array value -/
theorem Step.buildA (T : Tb X.P) {t k q by1 by2 m et : Nat} {z z2 : Value} {zs us : List Value} {parts : Array (Nat × Operand)} {lo : List (Nat × Operand)} {vs : List (Nat × Value)}
    (hg : guardE ops e ⟨some d, .build t parts, ty, pos, af, g⟩ = some none)
    (hp : parts = ⟨lo⟩) (hvs : evps e lo = some vs) (ht : T.ty t = some (.array m et)) (hi : T.inf t = some (z, k, by1)) (hi2 : T.inf et = some (z2, q, by2)) (hz : z.cells = ⟨zs⟩)
    (hfill : Instr.fill (fun i => some (i * q, q)) ⟨zs⟩ vs = some ⟨us⟩) (hn : Nat.blt d X.n = true)
    (h : N ((d, none, .agg ⟨us⟩) :: e) w) : Step X ops ⟨some d, .build t parts, ty, pos, af, g⟩ e w N := by
  obtain ⟨i, hi1, hi2', hi3, hi4⟩ := T.iok _ _ _ _ hi
  have hT := T.ok _ _ ht
  have hz' : (zeroValue t).run X.P w = .ok z w := by simp [zeroValue, typeInfo, hi1, hi2']
  refine Step.quiet rfl (by simpa [Nat.blt_eq] using hn) hg (fun _ hh => by cases hh) (fun t' hf _ => ?_) h
  have h1 := evps_map (ds := X.ds) hf hvs
  subst hp
  have h2 : (Array.mk lo).map (fun x : Nat × Operand => match x with | (i, x) => (i, (Act.mk t' X.ds).eval x)) = ⟨vs⟩ := by
    rw [show (fun x : Nat × Operand => match x with | (i, x) => (i, (Act.mk t' X.ds).eval x)) = (fun p => (p.1, (Act.mk t' X.ds).eval p.2)) from rfl]
    simp [h1]
  simp only [execOp, Instr.build, h2, Sem.run_bind, run_underlying hT, Result.andThen_ok, hz', hz, run_sizeOf hi2, hfill, Sem.run_pure]
theorem sBa (T : Tb X.P) {t k' q by1 by2 m et : Nat} {z z2 : Value} {zs us : List Value} {parts : Array (Nat × Operand)} {lo : List (Nat × Operand)} {vs : List (Nat × Value)}
    (h : GL X ops l k ((d, none, .agg ⟨us⟩) :: e) w) (hg : guardE ops e ⟨some d, .build t parts, ty, pos, af, g⟩ = some none := by exact rfl)
    (hp : parts = ⟨lo⟩ := by exact rfl) (hvs : evps e lo = some vs := by exact rfl) (ht : T.ty t = some (.array m et) := by exact rfl) (hi : T.inf t = some (z, k', by1) := by exact rfl) (hi2 : T.inf et = some (z2, q, by2) := by exact rfl) (hz : z.cells = ⟨zs⟩ := by exact rfl)
    (hfill : Instr.fill (fun i => some (i * q, q)) ⟨zs⟩ vs = some ⟨us⟩ := by exact rfl) (hn : Nat.blt d X.n = true := by exact rfl) :
    GL X ops (⟨some d, .build t parts, ty, pos, af, g⟩ :: l) k e w := GL.cons (Step.buildA T hg hp hvs ht hi hi2 hz hfill hn h)

/-- sums of any kind, as they are wrapped -/
theorem sAr {op : BinOp} {xt yt : TypeId} {x y : Operand} {q : IntKind} {a b r : Int} (h : GL X ops l k ((d, c, .int q r) :: e) w)
    (hg : guardE ops e ⟨some d, .binOp op xt x y yt, ty, pos, af, g⟩ = some c := by exact rfl) (hx : Op1 e c x (.int q a) := by exact Op1.of rfl (by first | exact fun _ => rfl | exact fun h => h)) (hy : Op1 e c y (.int q b) := by exact Op1.of rfl (by first | exact fun _ => rfl | exact fun h => h))
    (hp : match op with | .add => q.wrap (a + b) = r | .sub => q.wrap (a - b) = r | .mul => q.wrap (a * b) = r | _ => False := by exact rfl) (hn : Nat.blt d X.n = true := by exact rfl) :
    GL X ops (⟨some d, .binOp op xt x y yt, ty, pos, af, g⟩ :: l) k e w := GL.cons (Step.arith hg hx hy hp hn h)
/-- a call that computes and turns nothing -/
theorem Step.callQ {f : FuncId} {args : Array Operand} {ats : Array TypeId} {lo : List Operand} {vs : List Value} {v : Value}
    (hg : guardE ops e ⟨some d, .call { callee := .value (.func f), args := args, argTypes := ats }, ty, pos, af, g⟩ = some c)
    (ha : args = ⟨lo⟩) (hvs : OpL e c lo vs) (hf : Callable X.P f) (hn : Nat.blt d X.n = true) (hc : cv c = true → Ret X.P f ⟨vs⟩ w fun r w' => r = v ∧ w' = w)
    (h : N ((d, c, v) :: e) w) : Step X ops ⟨some d, .call { callee := .value (.func f), args := args, argTypes := ats }, ty, pos, af, g⟩ e w N := by
  intro t K Q hft hK
  rw [guardE_wanted hft hg]
  cases hcv : cv c with
  | false =>
    rw [if_neg (by simp)]
    have := hK _ _ _ h (hft.put (by simpa [Nat.blt_eq] using hn) c v)
    simp only [gval, hcv] at this
    exact this
  | true =>
    rw [if_pos rfl]
    refine ⟨fun _ _ => trivial, ?_⟩
    rw [Oper.semAt_eq _ _ _ (fun _ hh => by cases hh)]
    have h1 := hvs.map (ds := X.ds) hft hcv
    subst ha
    have h2 : (Array.mk lo).map (Act.mk t X.ds).eval = ⟨vs⟩ := by simp [h1]
    have hr : (execOp (Act.mk t X.ds).eval ⟨some d, .call { callee := .value (.func f), args := ⟨lo⟩, argTypes := ats }, ty, pos, af, g⟩).run X.P w = .ok (.enter f ⟨vs⟩) w := by
      simp only [execOp, resolve, h2, Act.eval, Deferred.ofValue, Sem.run_bind, Sem.run_pure, Result.andThen_ok, invoke, Array.empty_append, Array.append_empty, run_callFunc hf]
    show Oper.uponIn _ _ _ _ _ _ _ ((execOp (Act.mk t X.ds).eval _).run X.P w)
    rw [hr]
    refine ⟨fun h => by simp [Fence.wide] at h, callsW (Calls.mono (hc hcv) ?_)⟩
    rintro en w' ⟨r, rfl, rfl, rfl⟩
    show K (Act.put _ (some d) r) _
    have := hK _ _ _ h (hft.put (by simpa [Nat.blt_eq] using hn) c r)
    simp only [gval, hcv] at this
    exact this
theorem sCallq {f : FuncId} {args : Array Operand} {ats : Array TypeId} {lo : List Operand} {vs : List Value} {v : Value} (hf : Callable X.P f) (hc : cv c = true → Ret X.P f ⟨vs⟩ w fun r w' => r = v ∧ w' = w)
    (h : GL X ops l k ((d, c, v) :: e) w) (hg : guardE ops e ⟨some d, .call { callee := .value (.func f), args := args, argTypes := ats }, ty, pos, af, g⟩ = some c := by exact rfl)
    (ha : args = ⟨lo⟩ := by exact rfl) (hvs : OpL e c lo vs := by repeat (first | exact OpL.nil | refine OpL.cons (Op1.of rfl (by first | exact fun _ => rfl | exact fun h => h | exact fun h => bL h | exact fun h => bL (bL h))) ?_)) (hn : Nat.blt d X.n = true := by exact rfl) :
    GL X ops (⟨some d, .call { callee := .value (.func f), args := args, argTypes := ats }, ty, pos, af, g⟩ :: l) k e w := GL.cons (Step.callQ hg ha hvs hf hn hc h)
/-- the other sign -/
theorem Step.neg {xt : TypeId} {x : Operand} {q : IntKind} {a r : Int} (hg : guardE ops e ⟨some d, .unOp .neg xt x, ty, pos, af, g⟩ = some c)
    (hx : Op1 e c x (.int q a)) (hr : q.wrap (0 - a) = r) (hn : Nat.blt d X.n = true)
    (h : N ((d, c, .int q r) :: e) w) : Step X ops ⟨some d, .unOp .neg xt x, ty, pos, af, g⟩ e w N :=
  Step.quiet rfl (by simpa [Nat.blt_eq] using hn) hg (fun _ hh => by cases hh) (fun t hf hc => by
    simp only [execOp, hx.val hf hc]
    simp [go_sem, Op.intArith, ← hr]) h
theorem sShr {xt yt : TypeId} {x y : Operand} {q qy : IntKind} {a r : Int} {n : Nat} (hr : a / 2 ^ n = r) (h : GL X ops l k ((d, c, .int q r) :: e) w)
    (hg : guardE ops e ⟨some d, .binOp .shr xt x y yt, ty, pos, af, g⟩ = some c := by exact rfl) (hx : Op1 e c x (.int q a) := by exact Op1.of rfl (by first | exact fun _ => rfl | exact fun h => h)) (hy : Op1 e c y (.int qy n) := by exact Op1.of rfl (by first | exact fun _ => rfl | exact fun h => h)) (hb : n ≤ q.bits := by exact of_decide_eq_true rfl) (hn : Nat.blt d X.n = true := by exact rfl) :
    GL X ops (⟨some d, .binOp .shr xt x y yt, ty, pos, af, g⟩ :: l) k e w := GL.cons (Step.shr hg hx hy hr hb hn h)
end
end Go.Vg
end
section
namespace Go.Vg
open Go.RowKit

section steps
variable {X : Cx} {ops : Array Oper} {l : List Oper} {k : List Kt} {e : Env} {w : World} {N : Env → World → Prop} {d : Nat} {c : Option Bool} {ty : TypeId} {pos : String} {af : Array Edge} {g : Option (Nat × Bool)}
theorem Step.rem {xt yt : TypeId} {x y : Operand} {q : IntKind} {a b r : Int} (hg : guardE ops e ⟨some d, .binOp .rem xt x y yt, ty, pos, af, g⟩ = some c)
    (hx : Op1 e c x (.int q a)) (hy : Op1 e c y (.int q b)) (hb : cv c = true → b ≠ 0) (hr : a.tmod b = r) (hn : Nat.blt d X.n = true)
    (h : N ((d, c, .int q r) :: e) w) : Step X ops ⟨some d, .binOp .rem xt x y yt, ty, pos, af, g⟩ e w N :=
  Step.quiet rfl (by simpa [Nat.blt_eq] using hn) hg (fun _ hh => by cases hh) (fun t hf hc => by
    have h0 := hb hc
    simp only [execOp, hx.val hf hc, hy.val hf hc]
    simp [go_sem, Op.intDiv, h0, hr]) h
theorem sRem {xt yt : TypeId} {x y : Operand} {q : IntKind} {a b r : Int} (hr : a.tmod b = r) (h : GL X ops l k ((d, c, .int q r) :: e) w) (hg : guardE ops e ⟨some d, .binOp .rem xt x y yt, ty, pos, af, g⟩ = some c := by exact rfl)
    (hx : Op1 e c x (.int q a) := by exact Op1.of rfl (by first | exact fun _ => rfl | exact fun h => h | exact fun h => bL h)) (hy : Op1 e c y (.int q b) := by exact Op1.of rfl (by first | exact fun _ => rfl | exact fun h => h | exact fun h => bL h))
    (hb : cv c = true → b ≠ 0 := by intro _; omega) (hn : Nat.blt d X.n = true := by exact rfl) :
    GL X ops (⟨some d, .binOp .rem xt x y yt, ty, pos, af, g⟩ :: l) k e w := GL.cons (Step.rem hg hx hy hb hr hn h)
end steps

theorem Df.lt {r : Nat} {w : World} (h : Df r w) : r < w.heap.size := (Array.getElem?_eq_some_iff.1 h).1
theorem Df.kept {l r : Nat} {w w' : World} (h : Df r w) (hk : Kept l w w') : Df r w' := hk.block h (fun _ hh => by cases hh)

theorem Df.outW {r r' : Nat} {w : World} (h : Df r w) (hne : r ≠ r') : Df r (outW r' w) := by
  unfold Df at *
  rw [World.putObj_heap_other hne]; exact h
end Go.Vg
end
section
namespace Go.Vg
open Go.RowKit

theorem run_storeCells_t (P : Program) (t : TypeId) : ∀ (vs : List Value) (b o i : Nat) (us : List Value) (w : World), w.heap[b]? = some (.cells ⟨us⟩ t (0, 0)) → o + i + vs.length ≤ us.length → (∀ v ∈ vs, v.oneCell' = true) →
    ∃ w', (storeCells ⟨b, o, none⟩ vs i).run P w = .ok () w' ∧ Wr b w w' ∧ w'.heap[b]? = some (.cells ⟨us.take (o + i) ++ vs ++ us.drop (o + i + vs.length)⟩ t (0, 0))
  | [], b, o, i, us, w, h, _, _ => ⟨w, by simp [storeCells], Wr.refl b w, by simpa using h⟩
  | v :: r, b, o, i, us, w, hb, hl, h1 => by
    simp only [List.length_cons] at hl
    have hc : (w.cell? ⟨b, o + i, none⟩).isSome = true := by
      rw [cell_of_row w b (o + i) ⟨us⟩ t (0, 0) hb]; simp; omega
    obtain ⟨u0, hu0⟩ := Option.isSome_iff_exists.1 hc
    have hf : w.frozen? ⟨b, o + i, none⟩ = false := frozen_of_row w b (o + i) ⟨us⟩ t hb
    have hst := run_store P w ⟨b, o + i, none⟩ v .plain (h1 v (by simp))
    rw [hu0] at hst
    simp only [hf, Bool.false_eq_true, if_false] at hst
    have hb2 : (w.setCell ⟨b, o + i, none⟩ v).heap[b]? = some (.cells ⟨us.set (o + i) v⟩ t (0, 0)) := by
      have := heap_setCell_same w b (o + i) ⟨us⟩ t v hb
      simpa using this
    obtain ⟨w', hr, hw, hx⟩ := run_storeCells_t P t r b o (i + 1) _ _ hb2 (by simp; omega) (fun u hu => h1 u (by simp [hu]))
    refine ⟨w', ?_, (Wr.setCell w b (o + i) v).trans hw, ?_⟩
    · simp only [storeCells, Sem.run_bind, Addr.add_lit, hst, Result.andThen_ok, hr]
    · have e : (us.set (o + i) v).take (o + (i + 1)) ++ r ++ (us.set (o + i) v).drop (o + (i + 1) + r.length) = us.take (o + i) ++ (v :: r) ++ us.drop (o + i + (v :: r).length) := by
        have h3 : o + i < us.length := by omega
        rw [show o + (i + 1) = (o + i) + 1 by omega, List.take_set, List.drop_set_of_lt (by omega)]
        rw [List.take_succ_eq_append_getElem (by simpa using h3)]
        rw [List.set_append_right _ _ (by simp; omega)]
        simp [show min (o + i) us.length = o + i by omega]
        congr 1; omega
      rw [← e]; exact hx

theorem flatten_take {k : Nat} : ∀ (xs : List (List Value)) (j : Nat), (∀ x ∈ xs, x.length = k) → (xs.take j).flatten = xs.flatten.take (j * k)
  | [], j, _ => by simp
  | x :: xs, 0, _ => by simp
  | x :: xs, j + 1, h => by
    have hx := h x (by simp)
    rw [List.take_succ_cons, List.flatten_cons, List.flatten_cons, flatten_take xs j (fun y hy => h y (by simp [hy])), Nat.add_mul, Nat.one_mul, Nat.add_comm, List.take_append_of_le_length' hx]
  where
  List.take_append_of_le_length' {x : List Value} {l : List Value} {k m : Nat} (hx : x.length = k) : (x ++ l).take (k + m) = x ++ l.take m := by
    rw [List.take_append, List.take_of_length_le (by omega)]
    congr 2; omega
theorem flatten_drop {k : Nat} (xs : List (List Value)) (j : Nat) (h : ∀ x ∈ xs, x.length = k) : (xs.drop j).flatten = xs.flatten.drop (j * k) := by
  have h1 := flatten_take xs j h
  have h2 : xs.flatten = (xs.take j).flatten ++ (xs.drop j).flatten := by rw [← List.flatten_append, List.take_append_drop]
  by_cases hj : j ≤ xs.length
  · have hl : (xs.take j).flatten.length = j * k := by
      rw [flatten_length _ (fun x hx => h x (List.mem_of_mem_take hx)), List.length_take, Nat.min_eq_left hj]
    rw [h2, List.drop_append_of_le_length (by omega), List.drop_of_length_le (l := (xs.take j).flatten) (by omega), List.nil_append]
  · rw [List.drop_of_length_le (by omega), List.flatten_nil, List.drop_of_length_le]
    rw [flatten_length _ h]; exact Nat.mul_le_mul_right _ (by omega)
theorem flatten_set {k : Nat} (xs : List (List Value)) (j : Nat) (x : List Value) (h : ∀ x ∈ xs, x.length = k) (_ : x.length = k) (hj : j < xs.length) :
    (xs.set j x).flatten = xs.flatten.take (j * k) ++ x ++ xs.flatten.drop (j * k + k) := by
  have e : xs.set j x = xs.take j ++ x :: xs.drop (j + 1) := by
    rw [List.set_eq_take_append_cons_drop, if_pos hj]
  rw [e, List.flatten_append, List.flatten_cons, flatten_take xs j h, flatten_drop xs (j + 1) h, Nat.add_mul, Nat.one_mul, List.append_assoc]

theorem Grew.trans {B : Nat} {u : Value} {w w1 w2 : World} (h : Grew B u w w1) (k : Grew B u w1 w2) : Grew B u w w2 :=
  ⟨fun _ hb => k.below _ (h.below _ hb), Nat.le_trans h.size k.size, fun q hq hne => (k.block q (Nat.lt_of_lt_of_le hq h.size) hne).trans (h.block q hq hne)⟩
theorem Grew.ofExt {B : Nat} {u : Value} {w w1 : World} (h : Ext w w1) (hB : B ≤ w.heap.size) : Grew B u w w1 :=
  ⟨fun _ hb => Below.ext hb h hB, h.size, fun q hq _ => h.block q hq⟩
theorem Grew.refl (B : Nat) (u : Value) (w : World) : Grew B u w w := ⟨fun _ h => h, Nat.le_refl _, fun _ _ _ => rfl⟩

/-- the result lies in a box -/
theorem resA {P : Program} {fn : Func} {n : Nat} {e : Env} {t : Array Value} (T : Tb P) (hf : Fits n e t) {s ty sz b : Nat} {z p : Value} {us : List Value} {d : TypeDesc} (hr : fn.results = #[.cell s ty]) (hv : look e s = some (none, p))
    (ht : T.ty ty = some d) (ha : aggT d = true) (hi : T.inf ty = some (z, sz, b)) (hl : us.length = sz) {w : World} (hc : CellsAt w p us) : (results fn t).run P w = .ok (.agg ⟨us⟩) w := by
  obtain ⟨a, rfl, _, hc⟩ := hc
  subst hl
  have h1 : t.getD s undef = .pointer (some a) := (hf.get _ _ _ hv).2
  have h0 := run_loadCells_list (P := P) w a us hc
  have h2 : (loadVar ty a).run P w = .ok (.agg ⟨us⟩) w := by
    simp only [loadVar, Sem.run_bind, Sem.run_pure, Result.andThen_ok, run_isAgg (T.ok _ _ ht), ha, if_true, run_sizeOf hi, h0]
  simp only [results, hr, List.mapM_toArray, List.mapM_cons, List.mapM_nil, h1, asAddr, Sem.run_bind, Sem.run_map, Sem.run_pure, Result.andThen_ok, h2]
  rfl
theorem G.retA {X : Cx} {k : List Kt} {e : Env} {w : World} {P : Program} {fn : Func} {R : Value → World → Prop} (T : Tb P) (hX : X.fin = retFin P fn R) (hd : X.ds = []) {s ty sz b : Nat} {z p : Value} {us : List Value} {td : TypeDesc}
    (hc : CellsAt w p us) (h : R (.agg ⟨us⟩) w) (hr : fn.results = #[.cell s ty]) (hv : look e s = some (none, p)) (ht : T.ty ty = some td) (ha : aggT td = true) (hi : T.inf ty = some (z, sz, b)) (hl : us.length = sz) : G X (.code .ret :: k) e w := by
  refine G.ret fun t hf => ?_
  rw [hX, hd]
  exact ⟨rfl, _, resA T hf hr hv ht ha hi hl hc, _, rfl, h⟩

section
variable {X : Cx} {ops : Array Oper} {l : List Oper} {kk : List Kt} {e : Env} {w : World} {N : Env → World → Prop} {d : Nat} {c : Option Bool} {ty : TypeId} {pos : String} {af : Array Edge} {g : Option (Nat × Bool)}

/-- an element of a row of one's own is stored -/
theorem Step.storeRow (T : Tb X.P) {x y : Operand} {t : TypeId} {v u z : Value} {vs : List Value} {k by_ B et j : Nat} {xs : List (List Value)} (hg : guardE ops e ⟨none, .store t x y, ty, pos, af, g⟩ = some none)
    (hx : Op1 e none x (padd v (j * k))) (hy : Op1 e none y u) (hi : T.inf t = some (z, k, by_)) (hv : u.cells = ⟨vs⟩) (hs : vs.length = k) (h1 : ∀ v ∈ vs, v.oneCell' = true)
    (ho : Owns w B v et k xs) (hj : j < xs.length)
    (h : ∀ w', Owns w' B v et k (xs.set j vs) → Grew B v w w' → N e w') : Step X ops ⟨none, .store t x y, ty, pos, af, g⟩ e w N := by
  have ho' := ho
  obtain ⟨⟨hl, hr⟩, hk, hb⟩ := ho
  rcases hr with ⟨rfl, hn⟩ | ⟨gb, cap, ⟨us⟩, rfl, hB, hgb, hc, hm, hsz, htk⟩
  · omega
  · have hle : xs.length * k ≤ cap * k := Nat.mul_le_mul_right _ hc
    have hjk : (j + 1) * k ≤ xs.length * k := Nat.mul_le_mul_right _ hj
    rw [Nat.add_mul, Nat.one_mul] at hjk
    have hus : us.length = cap * k := hsz
    simp only at htk
    obtain ⟨w', hrun, hw, hx'⟩ := run_storeCells_t X.P et vs gb (j * k) 0 us w hgb (by omega) h1
    rw [Nat.add_zero, hs] at hx'
    refine Step.effNone rfl hg (fun _ hh => by cases hh) (w' := w') (fun t' hf => ?_) (h w' ?_ ?_)
    · have hp : padd (Value.slice (some ⟨gb, 0, none⟩) xs.length cap) (j * k) = .pointer (some ⟨gb, j * k, none⟩) := by simp [padd, Addr.add_lit]
      have hsz' : ¬ ((⟨vs⟩ : Array Value).size ≠ k) := by simp [hs]
      simp only [execOp, hx.val hf rfl, hy.val hf rfl, hp, Instr.storeAt, Instr.sureAddr, storeVar, Sem.run_bind, Sem.run_pure, Result.andThen_ok, run_sizeOf hi, hv, if_neg hsz', hrun]
    · have hfl := flatten_set xs j vs hk hs hj
      refine ⟨⟨?_, .inr ⟨gb, cap, _, by rw [List.length_set], hB, hx', by rw [List.length_set]; exact hc, hm, ?_, ?_⟩⟩, ?_, by rw [List.length_set]; exact hb⟩
      · rw [flatten_length _ (fun y hy => by
          rcases List.mem_or_eq_of_mem_set hy with hy | rfl
          · exact hk y hy
          · exact hs)]
      · simp only [List.size_toArray, List.length_append, List.length_take, List.length_drop]; omega
      · rw [List.length_set, hfl, ← htk]
        simp only [List.append_assoc]
        rw [List.take_append, List.length_take, Nat.min_eq_left (by omega), List.take_of_length_le (by rw [List.length_take]; omega), List.take_append, hs, List.take_of_length_le (l := vs) (by omega), List.take_take, Nat.min_eq_left (by omega)]
        congr 2
        rw [List.drop_take]
        congr 1; omega
      · intro y hy
        rcases List.mem_or_eq_of_mem_set hy with hy | rfl
        · exact hk y hy
        · exact hs
    · exact ⟨fun w0 hb0 => hb0.wr hw hB, by rw [hw.size]; exact Nat.le_refl _, fun q hq hne => hw.block q (fun e => hne (by rw [e]; rfl))⟩
theorem sStR (T : Tb X.P) {x y : Operand} {t : TypeId} {v u z : Value} {vs : List Value} {k by_ B et j : Nat} {xs : List (List Value)} (ho : Owns w B v et k xs) (hj : j < xs.length)
    (h : ∀ w', Owns w' B v et k (xs.set j vs) → Grew B v w w' → GL X ops l kk e w') (hg : guardE ops e ⟨none, .store t x y, ty, pos, af, g⟩ = some none := by exact rfl)
    (hx : Op1 e none x (padd v (j * k)) := by exact Op1.of rfl (fun _ => rfl)) (hy : Op1 e none y u := by exact Op1.of rfl (fun _ => rfl)) (hi : T.inf t = some (z, k, by_) := by exact rfl) (hv : u.cells = ⟨vs⟩ := by exact rfl) (hs : vs.length = k := by exact rfl) (h1 : ∀ v ∈ vs, v.oneCell' = true := by simp [Value.oneCell', S, U]) :
    GL X ops (⟨none, .store t x y, ty, pos, af, g⟩ :: l) kk e w := GL.cons (Step.storeRow T hg hx hy hi hv hs h1 ho hj h)

end
end Go.Vg
end
section
namespace Go.Vg
open Go.RowKit

theorem By.sub {w : World} {v : Value} {l : List UInt8} (h : By w v l) {a b : Nat} (ha : a ≤ b) (hb : b ≤ l.length) : By w (subS v 1 a b) ((l.drop a).take (b - a)) := by
  have := Sli.sub h ha (by rw [bysC_len]; exact hb)
  unfold By bysC at *
  rw [List.map_take, List.map_drop]; exact this
/-- stands for a block, where a row's effect is spoken of -/
def blk (b : Nat) : Value := .slice (some ⟨b, 0, none⟩) 0 0
section
variable {X : Cx} {ops : Array Oper} {l : List Oper} {k : List Kt} {e : Env} {w : World} {N : Env → World → Prop} {S : World → Prop} {lb : List (Oper × Bool)} {d : Nat} {c : Option Bool} {ty : TypeId} {pos : String} {af : Array Edge} {g : Option (Nat × Bool)}
end
end Go.Vg
end
section
namespace Go.Vg
open Go.RowKit

/-- where a row lies behind an append: where it lay, or in new memory -/
def Own2 (w : World) (v v' : Value) : Prop := v'.ownBlock = v.ownBlock ∨ v'.ownBlock = some w.heap.size
theorem Own2.refl (w : World) (v : Value) : Own2 w v v := .inl rfl

section
variable {X : Cx} {ops : Array Oper} {l : List Oper} {kk : List Kt} {e : Env} {w : World} {N : Env → World → Prop} {d : Nat} {c : Option Bool} {ty : TypeId} {pos : String} {af : Array Edge} {g : Option (Nat × Bool)}

theorem Step.append2 (T : Tb X.P) {x y : Operand} {t et : TypeId} {v u z : Value} {k bytes B : Nat} {xs ys : List (List Value)}
    (hg : guardE ops e ⟨some d, .call { callee := .builtin .append, args := #[x, y], argTypes := #[t, t] }, ty, pos, af, g⟩ = some none)
    (hx : Op1 e none x v) (hy : Op1 e none y u) (ht : T.ty t = some (.slice et)) (hi : T.inf et = some (z, k, bytes)) (hk : Nat.blt 0 k = true) (hz : z.cells.size = k)
    (hv : Owns w B v et k xs) (hu : Sli w u k ys) (h1 : ∀ y ∈ ys, ∀ c ∈ y, c.oneCell' = true) (hb : (xs.length + ys.length) * bytes ≤ 140737488355328) (hl : xs.length + ys.length ≤ 140737488355328)
    (hB : B ≤ w.heap.size) (hn : Nat.blt d X.n = true)
    (h : ∀ v' w', Owns w' B v' et k (xs ++ ys) → Grew B v w w' → Own2 w v v' → N ((d, none, v') :: e) w') :
    Step X ops ⟨some d, .call { callee := .builtin .append, args := #[x, y], argTypes := #[t, t] }, ty, pos, af, g⟩ e w N := by
  obtain ⟨i, hi1, hi2, hi3, hi4⟩ := T.iok _ _ _ _ hi
  have hT := T.ok _ _ ht
  have hk' : 0 < k := by simpa [Nat.blt_eq] using hk
  rcases hu with ⟨rfl, rfl⟩ | ⟨a, cap, rfl, hs, hc, hyl, hcell, hyb⟩
  · have hr := run_append_owned_none (P := X.P) w B t ty et i k hT hi1 v xs.length xs.flatten hv.1
    refine Step.eff (v := v) (w' := w) rfl (by simpa [Nat.blt_eq] using hn) hg (fun _ hh => by cases hh) (fun t' hf => run_builtin2 (hx.val hf rfl) (hy.val hf rfl) fun cs => ?_) (h v w (by simpa using hv) ⟨fun _ h => h, Nat.le_refl _, fun _ _ _ => rfl⟩ (.inl rfl))
    simp only [builtin, Sem.run_bind, hr, Result.andThen_ok, Sem.run_pure]
  · have hfl := flatten_length ys hyl
    have hnews : ∀ j u, ys.flatten[j]? = some u → w.cell? (a.add j) = some u := fun j u hj => by
      have hj' : j < ys.length * k := by rw [← hfl]; exact (List.getElem?_eq_some_iff.1 hj).1
      have hq : j / k < ys.length := Nat.div_lt_of_lt_mul (by rw [Nat.mul_comm]; exact hj')
      have hyq : ys[j / k]? = some ys[j / k] := List.getElem?_eq_getElem hq
      have hlen : (ys[j / k]).length = k := hyl _ (List.getElem_mem hq)
      have hr' : j % k < (ys[j / k]).length := by rw [hlen]; exact Nat.mod_lt _ hk'
      have hu2 := List.getElem?_eq_getElem hr'
      have e1 : j / k * k + j % k = j := by rw [Nat.mul_comm]; exact Nat.div_add_mod j k
      have h5 := flatten_get ys hyl _ _ hyq _ _ hu2
      rw [e1, hj] at h5
      cases h5
      have := hcell _ _ hyq _ _ hu2
      rwa [e1] at this
    have hone : ∀ u ∈ ys.flatten, u.oneCell' = true := fun u hu => by obtain ⟨y, hy, hu'⟩ := List.mem_flatten.1 hu; exact h1 y hy u hu'
    obtain ⟨v', w', hr, h2, h3, _⟩ := run_append_own (P := X.P) w B t ty et i z k bytes hT hi1 hi2 hi3 hi4 hz hk' v xs.length xs.flatten hv.1 a ys.length cap ys.flatten hfl hnews hone (by unfold maxLen; omega) hb hB
    have hwhere : Own2 w v v' := by
      rcases hv.1.2 with ⟨rfl, hnil⟩ | ⟨gb, cp, cur, rfl, _, hgb, hcp, _, hsz, htk⟩
      · by_cases hm : ys.length = 0
        · have he : ys = [] := List.eq_nil_of_length_eq_zero hm
          subst he
          rcases h2.2 with ⟨rfl, _⟩ | ⟨g2, c2, cur2, rfl, _, hg2, _, _, _, _⟩
          · exact .inl rfl
          · by_cases hlt : g2 < w.heap.size
            · exfalso
              have hr0 : (Builtin.append_ #[t, t] ty #[.slice none 0 0, .slice (some a) 0 cap]).run X.P w = .ok (.slice none 0 0) w := by
                simp [Builtin.append_, run_underlying hT, sizeOf, typeInfo, hi1, Builtin.lenOf, Builtin.firstCells, loadCells, loadCellsFrom]
              rw [List.length_nil, hr0] at hr
              cases hr
            · have hr0 : (Builtin.append_ #[t, t] ty #[.slice none 0 0, .slice (some a) 0 cap]).run X.P w = .ok (.slice none 0 0) w := by
                simp [Builtin.append_, run_underlying hT, sizeOf, typeInfo, hi1, Builtin.lenOf, Builtin.firstCells, loadCells, loadCellsFrom]
              rw [List.length_nil, hr0] at hr
              cases hr
        · have h48 : ys.length * i.bytes ≤ 281474976710656 := by
            rw [hi4]
            have := Nat.mul_le_mul_right bytes (Nat.le_add_left ys.length xs.length)
            omega
          have hr2 := run_append_nil (P := X.P) w t ty et i z hT hi1 hi2 a ys.length cap ys.flatten (by rw [hi3]; exact hfl) hnews (by omega) (by omega) h48
          rw [hr2] at hr
          cases hr
          exact .inr rfl
      · by_cases hroom : xs.length + ys.length ≤ cp
        · have hr2 := run_append_room (P := X.P) w t ty et i hT hi1 gb xs.length cp cur hgb a ys.length cap ys.flatten (by rw [hi3]; exact hfl) hnews hone hroom (by rw [hi3, hfl, hsz, ← Nat.add_mul]; exact Nat.mul_le_mul_right _ hroom)
          rw [hr2] at hr
          cases hr
          exact .inl rfl
        · have holds : ∀ j u, xs.flatten[j]? = some u → w.cell? ((⟨gb, 0, none⟩ : Addr).add j) = some u := hv.1.cells (g := gb) rfl
          have hr2 := run_append_grow (P := X.P) w t ty et i z hT hi1 hi2 ⟨gb, 0, none⟩ xs.length cp xs.flatten (by rw [hi3]; exact hv.1.1) holds a ys.length cap ys.flatten (by rw [hi3]; exact hfl) hnews (by omega) (by omega) (growslice_fits (by omega) (by rw [hi4]; exact hb))
          rw [hr2] at hr
          cases hr
          exact .inr rfl
    have hown : Owns w' B v' et k (xs ++ ys) := by
      refine ⟨?_, ?_, by simpa using hl⟩
      · rw [List.length_append, List.flatten_append]; exact h2
      · intro x hx
        rcases List.mem_append.1 hx with hx | hx
        · exact hv.2.1 x hx
        · exact hyl x hx
    refine Step.eff (v := v') (w' := w') rfl (by simpa [Nat.blt_eq] using hn) hg (fun _ hh => by cases hh) (fun t' hf => run_builtin2 (hx.val hf rfl) (hy.val hf rfl) fun cs => ?_)
      (h v' w' hown ⟨fun w0 hb0 => hb0.grown h3 hB (fun k hk => by
        rcases hv.1.2 with ⟨rfl, _⟩ | ⟨g, cap, cur, rfl, hBg, _⟩
        · simp [Value.ownBlock] at hk
        · simp [Value.ownBlock] at hk; omega), h3.size, h3.block⟩ hwhere)
    simp only [builtin, Sem.run_bind, hr, Result.andThen_ok, Sem.run_pure]
theorem sApp2 (T : Tb X.P) {x y : Operand} {t et : TypeId} {v u z : Value} {q bytes B : Nat} {xs ys : List (List Value)} (hv : Owns w B v et q xs) (hu : Sli w u q ys)
    (h : ∀ v' w', Owns w' B v' et q (xs ++ ys) → Grew B v w w' → Own2 w v v' → GL X ops l kk ((d, none, v') :: e) w')
    (h1 : ∀ y ∈ ys, ∀ c ∈ y, c.oneCell' = true := by intro y hy c hc; simp only [List.mem_cons, List.not_mem_nil, or_false] at hy; subst hy; simp only [List.mem_cons, List.not_mem_nil, or_false] at hc; rcases hc with rfl <;> rfl)
    (hg : guardE ops e ⟨some d, .call { callee := .builtin .append, args := #[x, y], argTypes := #[t, t] }, ty, pos, af, g⟩ = some none := by exact rfl)
    (hx : Op1 e none x v := by exact Op1.of rfl (fun _ => rfl)) (hy : Op1 e none y u := by exact Op1.of rfl (fun _ => rfl)) (ht : T.ty t = some (.slice et) := by exact rfl) (hi : T.inf et = some (z, q, bytes) := by exact rfl) (hk : Nat.blt 0 q = true := by exact rfl) (hz : z.cells.size = q := by exact rfl) (hn : Nat.blt d X.n = true := by exact rfl)
    (hb : (xs.length + ys.length) * bytes ≤ 140737488355328 := by simp only [List.length_map, List.length_append, List.length_cons, List.length_nil, List.length_take, List.length_drop]; omega)
    (hl : xs.length + ys.length ≤ 140737488355328 := by simp only [List.length_map, List.length_append, List.length_cons, List.length_nil, List.length_take, List.length_drop]; omega)
    (hB : B ≤ w.heap.size := by omega) :
    GL X ops (⟨some d, .call { callee := .builtin .append, args := #[x, y], argTypes := #[t, t] }, ty, pos, af, g⟩ :: l) kk e w := GL.cons (Step.append2 T hg hx hy ht hi hk hz hv hu h1 hb hl hB hn h)
end

end Go.Vg
end
section
namespace Go.Vg
open Go.RowKit
section
variable {X : Cx} {ops : Array Oper} {l : List Oper} {k : List Kt} {e : Env} {w : World} {N : Env → World → Prop} {d : Nat} {c : Option Bool} {ty : TypeId} {pos : String} {af : Array Edge} {g : Option (Nat × Bool)}
/-- a call whose arguments may have been made under conditions -/
theorem Step.callO {f : FuncId} {args : Array Operand} {ats : Array TypeId} {lo : List Operand} {vs : List Value} {R : Value → World → Prop}
    (hg : guardE ops e ⟨some d, .call { callee := .value (.func f), args := args, argTypes := ats }, ty, pos, af, g⟩ = some none)
    (ha : args = ⟨lo⟩) (hvs : OpL e none lo vs) (hf : Callable X.P f)
    (hn : Nat.blt d X.n = true) (hc : Ret X.P f ⟨vs⟩ w R)
    (h : ∀ v w', R v w' → N ((d, none, v) :: e) w') : Step X ops ⟨some d, .call { callee := .value (.func f), args := args, argTypes := ats }, ty, pos, af, g⟩ e w N :=
  Step.call rfl (by simpa [Nat.blt_eq] using hn) hg (fun _ hh => by cases hh) (fun t hft => by
    have := hvs.map (ds := X.ds) hft rfl
    subst ha
    have h2 : (Array.mk lo).map (Act.mk t X.ds).eval = ⟨vs⟩ := by simp [this]
    simp only [execOp, resolve, h2, Act.eval, Deferred.ofValue, Sem.run_bind, Sem.run_pure, Result.andThen_ok, invoke, Array.empty_append, Array.append_empty, run_callFunc hf]) hc h
end
end Go.Vg
end
section
namespace Go.Vg
open Go.RowKit

theorem Owns.shape {w : World} {B : Nat} {v : Value} {et k : Nat} {xs : List (List Value)} (h : Owns w B v et k xs) (h0 : 0 < xs.length) :
    ∃ g cap cur, v = .slice (some ⟨g, 0, none⟩) xs.length cap ∧ B ≤ g ∧ w.heap[g]? = some (.cells cur et (0, 0)) ∧ xs.length ≤ cap ∧ cap ≤ maxLen ∧ cur.size = cap * k ∧ cur.toList.take (xs.length * k) = xs.flatten := by
  rcases h.1.2 with ⟨_, hn⟩ | h
  · omega
  · exact h
/-- one element more of the room behind a row -/
theorem Owns.up {w : World} {B g cap : Nat} {et k : Nat} {xs : List (List Value)} (h : Owns w B (.slice (some ⟨g, 0, none⟩) xs.length cap) et k xs) (hc : xs.length < cap) (hb : xs.length + 1 ≤ 140737488355328) :
    ∃ y, Owns w B (.slice (some ⟨g, 0, none⟩) (xs.length + 1) cap) et k (xs ++ [y]) := by
  obtain ⟨⟨hl, hr⟩, hk, _⟩ := h
  rcases hr with ⟨hv, _⟩ | ⟨g', cap', cur, hv, hB, hg, hc', hm, hs, ht⟩
  · cases hv
  · cases hv
    have hle : (xs.length + 1) * k ≤ cap * k := Nat.mul_le_mul_right _ hc
    rw [Nat.add_mul, Nat.one_mul] at hle
    have hsz : cur.toList.length = cap * k := by rw [Array.length_toList]; exact hs
    have hy : ((cur.toList.drop (xs.length * k)).take k).length = k := by rw [List.length_take, List.length_drop]; omega
    refine ⟨(cur.toList.drop (xs.length * k)).take k, ⟨?_, .inr ⟨g, cap, cur, by simp, hB, hg, by simp; omega, hm, hs, ?_⟩⟩, ?_, by simp; omega⟩
    · simp only [List.flatten_append, List.length_append, hl, List.flatten_cons, List.flatten_nil, List.append_nil, hy, List.length_cons, List.length_nil, Nat.add_mul, Nat.zero_add, Nat.one_mul]
    · simp only [List.flatten_append, List.length_append, List.flatten_cons, List.flatten_nil, List.append_nil, List.length_cons, List.length_nil, Nat.add_mul, Nat.zero_add, Nat.one_mul]
      rw [← ht, List.take_add]
    · intro x hx
      rcases List.mem_append.1 hx with hx | hx
      · exact hk x hx
      · simp only [List.mem_cons, List.not_mem_nil, or_false] at hx
        subst hx; exact hy

/-- a row with others laid over it from one place on -/
def lay {α : Type} (xs : List α) (o : Nat) (ys : List α) : List α := xs.take o ++ ys ++ xs.drop (o + ys.length)
theorem lay_len {α : Type} {xs ys : List α} {o : Nat} (h : o + ys.length ≤ xs.length) : (lay xs o ys).length = xs.length := by simp [lay]; omega

theorem cellsOf {w : World} {a : Addr} {k : Nat} {ys : List (List Value)} {n cap : Nat} (hs : Sli w (.slice (some a) n cap) k ys) (hk : 0 < k) : ∀ j u, ys.flatten[j]? = some u → w.cell? (a.add j) = some u := by
  rcases hs with ⟨h, _⟩ | ⟨a', cap', hv, hsp, hc, hyl, hcell, hyb⟩
  · cases h
  · cases hv
    intro j u hj
    have hj' : j < ys.length * k := by rw [← flatten_length ys hyl]; exact (List.getElem?_eq_some_iff.1 hj).1
    have hq : j / k < ys.length := Nat.div_lt_of_lt_mul (by rw [Nat.mul_comm]; exact hj')
    have hyq : ys[j / k]? = some ys[j / k] := List.getElem?_eq_getElem hq
    have hlen : (ys[j / k]).length = k := hyl _ (List.getElem_mem hq)
    have hr' : j % k < (ys[j / k]).length := by rw [hlen]; exact Nat.mod_lt _ hk
    have hu2 := List.getElem?_eq_getElem hr'
    have e1 : j / k * k + j % k = j := by rw [Nat.mul_comm]; exact Nat.div_add_mod j k
    have h5 := flatten_get ys hyl _ _ hyq _ _ hu2
    rw [e1, hj] at h5
    cases h5
    have := hcell _ _ hyq _ _ hu2
    rwa [e1] at this

section
variable {X : Cx} {ops : Array Oper} {l : List Oper} {kk : List Kt} {e : Env} {w : World} {N : Env → World → Prop} {d : Nat} {c : Option Bool} {ty : TypeId} {pos : String} {af : Array Edge} {g : Option (Nat × Bool)}

/-- copy, into a row of one's own -/
theorem Step.copyO (T : Tb X.P) {x y : Operand} {t et : TypeId} {v u z : Value} {k bytes B o m : Nat} {xs ys : List (List Value)}
    (hg : guardE ops e ⟨some d, .call { callee := .builtin .copy, args := #[x, y], argTypes := #[t, t] }, ty, pos, af, g⟩ = some none)
    (hx : Op1 e none x (subS v k o xs.length)) (hy : Op1 e none y u) (ht : T.ty t = some (.slice et)) (hi : T.inf et = some (z, k, bytes)) (hk : Nat.blt 0 k = true)
    (hv : Owns w B v et k xs) (hu : Sli w u k ys) (h1 : ∀ y ∈ ys.take m, ∀ c ∈ y, c.oneCell' = true) (ho : o < xs.length) (hm : m = min ys.length (xs.length - o)) (hm0 : 0 < ys.length) (hn : Nat.blt d X.n = true)
    (h : ∀ w', Owns w' B v et k (lay xs o (ys.take m)) → Grew B v w w' → N ((d, none, .int .i64 m) :: e) w') :
    Step X ops ⟨some d, .call { callee := .builtin .copy, args := #[x, y], argTypes := #[t, t] }, ty, pos, af, g⟩ e w N := by
  obtain ⟨i, hi1, hi2, hi3, hi4⟩ := T.iok _ _ _ _ hi
  have hT := T.ok _ _ ht
  have hk' : 0 < k := by simpa [Nat.blt_eq] using hk
  obtain ⟨⟨hl, -⟩, hxk, hxb⟩ := id hv
  obtain ⟨gb, cap, ⟨us⟩, rfl, hB, hgb, hc, hcm, hsz, htk⟩ := hv.shape (by omega)
  rcases hu with ⟨rfl, rfl⟩ | ⟨a, cap2, rfl, hs, hc2, hyl, hcell, hyb⟩
  · simp at hm0
  · have hcs := cellsOf (.inr ⟨a, cap2, rfl, hs, hc2, hyl, hcell, hyb⟩) hk'
    have hus : us.length = cap * k := hsz
    simp only at htk
    have hmk : (ys.take m).flatten.length = m * k := by
      rw [flatten_length _ (fun x hx => hyl x (List.mem_of_mem_take hx)), List.length_take]; congr 1; omega
    have hft : (ys.take m).flatten = ys.flatten.take (m * k) := flatten_take ys m hyl
    have hle : (o + m) * k ≤ cap * k := Nat.mul_le_mul_right _ (by omega)
    rw [Nat.add_mul] at hle
    have h1m : ∀ u ∈ (ys.take m).flatten, u.oneCell' = true := fun u hu => by
      obtain ⟨y, hy, hu'⟩ := List.mem_flatten.1 hu
      exact h1 y hy u hu'
    obtain ⟨w', hrun, hw, hx'⟩ := run_storeCells_t X.P et (ys.take m).flatten gb (o * k) 0 us w hgb (by omega) h1m
    rw [Nat.add_zero, hmk] at hx'
    have hload := run_loadCells_list (P := X.P) w a (ys.take m).flatten (fun j u hj => by
      rw [hft, List.getElem?_take] at hj
      split at hj
      · exact hcs j u hj
      · cases hj)
    have hp : subS (Value.slice (some ⟨gb, 0, none⟩) xs.length cap) k o xs.length = .slice (some ⟨gb, o * k, none⟩) (xs.length - o) (cap - o) := by
      simp only [subS, if_neg (show ¬ cap = o by omega), Option.map_some, Addr.add_lit, Nat.zero_add]
    rw [hp] at hx
    have hmn : Nat.min ys.length (xs.length - o) = m := hm.symm
    refine Step.eff (v := .int .i64 m) (w' := w') rfl (by simpa [Nat.blt_eq] using hn) hg (fun _ hh => by cases hh) (fun t' hf => run_builtin2 (hx.val hf rfl) (hy.val hf rfl) fun cs => ?_) (h w' ?_ ?_)
    · have hr : (Builtin.copy_ #[t, t] ty #[.slice (some ⟨gb, o * k, none⟩) (xs.length - o) (cap - o), .slice (some a) ys.length cap2]).run X.P w = .ok (.int .i64 m) w' := by
        rw [hmk] at hload
        simp only [Builtin.copy_, Sem.run_bind, run_underlying hT, Builtin.lenOf, Builtin.firstCells, Result.andThen_ok, Sem.run_pure, hmn, run_sizeOf hi, hload, hrun, goInt, List.getElem?_toArray, List.getElem?_cons_zero, List.getElem?_cons_succ]
      simp only [builtin, Sem.run_bind, hr, Result.andThen_ok, Sem.run_pure]
    · have hlay : (lay xs o (ys.take m)).length = xs.length := lay_len (by rw [List.length_take]; omega)
      have hlk : ∀ x ∈ lay xs o (ys.take m), x.length = k := by
        intro x hx
        simp only [lay, List.mem_append] at hx
        rcases hx with (hx | hx) | hx
        · exact hxk x (List.mem_of_mem_take hx)
        · exact hyl x (List.mem_of_mem_take hx)
        · exact hxk x (List.mem_of_mem_drop hx)
      refine ⟨⟨?_, .inr ⟨gb, cap, _, by rw [hlay], hB, hx', by rw [hlay]; exact hc, hcm, ?_, ?_⟩⟩, hlk, by rw [hlay]; exact hxb⟩
      · rw [flatten_length _ hlk]
      · simp only [List.size_toArray, List.length_append, List.length_take, List.length_drop, hmk]; omega
      · have hlm : (ys.take m).length = m := by rw [List.length_take]; omega
        have hle2 : (o + m) * k ≤ xs.length * k := Nat.mul_le_mul_right _ (by omega)
        rw [Nat.add_mul] at hle2
        have hle3 : xs.length * k ≤ cap * k := Nat.mul_le_mul_right _ hc
        rw [hlay]
        simp only [lay, List.flatten_append, hlm, flatten_take xs o hxk, flatten_drop xs (o + m) hxk, ← htk, Nat.add_mul]
        rw [List.append_assoc, List.take_append, List.length_take, Nat.min_eq_left (by omega), List.take_of_length_le (by rw [List.length_take]; omega), List.take_append, hmk, List.take_of_length_le (l := (ys.take m).flatten) (by omega), List.take_take, Nat.min_eq_left (by omega), List.append_assoc]
        congr 2
        rw [List.drop_take]
        congr 1; omega
    · exact ⟨fun w0 hb0 => hb0.wr hw hB, by rw [hw.size]; exact Nat.le_refl _, fun q hq hne => hw.block q (fun e => hne (by rw [e]; rfl))⟩

/-- how much a row's memory holds -/
theorem Step.capV (T : Tb X.P) {x : Operand} {at_ et : TypeId} {a : Option Addr} {n cap : Nat}
    (hg : guardE ops e ⟨some d, .call { callee := .builtin .cap, args := #[x], argTypes := #[at_] }, ty, pos, af, g⟩ = some c)
    (hx : Op1 e c x (.slice a n cap)) (ht : T.ty at_ = some (.slice et)) (hn : Nat.blt d X.n = true) (h : N ((d, c, .int .i64 cap) :: e) w) :
    Step X ops ⟨some d, .call { callee := .builtin .cap, args := #[x], argTypes := #[at_] }, ty, pos, af, g⟩ e w N :=
  Step.quiet rfl (by simpa [Nat.blt_eq] using hn) hg (fun _ hh => by cases hh) (fun t hf hc => by
    have hv := hx.val (ds := X.ds) hf hc
    have hr : (Builtin.cap_ #[at_] ty #[.slice a n cap]).run X.P w = .ok (.int .i64 cap) w := by
      simp [Builtin.cap_, run_underlying (T.ok _ _ ht), goInt]
    simp only [execOp, resolve, invoke, builtin, Sem.run_bind, Sem.run_pure, Result.andThen_ok, List.map_toArray, List.map_cons, List.map_nil, hv, hr]) h

/-- a row cut at its front, opened up to what its memory holds -/
theorem Step.sliceCap (T : Tb X.P) {x j : Operand} {st et : TypeId} {z : Value} {k by_ n cap b gb : Nat}
    (hg : guardE ops e ⟨some d, .slice st x none (some j) none, ty, pos, af, g⟩ = some c)
    (hx : Op1 e c x (.slice (some ⟨gb, 0, none⟩) n cap)) {m : Int} (hhi : Op1 e c j (.int .i64 m)) (ht : T.ty st = some (.slice et)) (hz : T.inf et = some (z, k, by_))
    (hb : cv c = true → m = b ∧ b ≤ cap) (hn : Nat.blt d X.n = true)
    (h : N ((d, c, .slice (some ⟨gb, 0, none⟩) b cap) :: e) w) : Step X ops ⟨some d, .slice st x none (some j) none, ty, pos, af, g⟩ e w N :=
  Step.quiet rfl (by simpa [Nat.blt_eq] using hn) hg (fun _ hh => by cases hh) (fun t hf hc => by
    obtain ⟨rfl, hb⟩ := hb hc
    have hT := T.ok _ _ ht
    have hb1 : ∀ code, (Instr.sliceBound (.int .i64 b) cap code).run X.P w = .ok b w := fun code => by
      have := run_sliceBound (P := X.P) w .i64 (b : Int) cap code (by omega) (by omega)
      simpa using this
    have h3 : (Instr.sliceAt st (.slice (some ⟨gb, 0, none⟩) n cap) none (some (.int .i64 b)) none).run X.P w = .ok (.slice (some ⟨gb, 0, none⟩) b cap) w := by
      simp only [Instr.sliceAt, Sem.run_bind, run_underlying hT, Result.andThen_ok, Instr.slice, Instr.sliceBounds, Sem.run_pure]
      simp [hb1, run_sizeOf hz, Addr.add_lit]
    simp only [execOp, hx.val hf hc, hhi.val hf hc, Option.map_some, Option.map_none, Sem.run_bind, h3, Result.andThen_ok, Sem.run_pure]) h

/-- append(s[:i], make(.., n)...) where there is no room -/
theorem Step.appendZ (T : Tb X.P) {x y : Operand} {t tn et : TypeId} {z : Value} {kn : IntKind} {k bytes i n cap gb B : Nat} {xs : List (List Value)}
    (hg : guardE ops e ⟨some d, .call { callee := .builtin .append, args := #[x, y], argTypes := #[t, tn] }, ty, pos, af, g⟩ = some none)
    (hx : Op1 e none x (subS (.slice (some ⟨gb, 0, none⟩) xs.length cap) k 0 i)) (hy : Op1 e none y (.int .i64 n)) (ht : T.ty t = some (.slice et)) (htn : T.ty tn = some (.int kn)) (hi : T.inf et = some (z, k, bytes)) (hk : Nat.blt 0 k = true) (hz : z.cells.size = k)
    (hv : Owns w B (.slice (some ⟨gb, 0, none⟩) xs.length cap) et k xs) (hin : i ≤ xs.length) (h0 : 0 < n) (hroom : cap < i + n) (hb : (i + n) * bytes ≤ 140737488355328) (hl : i + n ≤ 140737488355328) (hn : Nat.blt d X.n = true)
    (h : ∀ v' w' zs, zs.length = n → Owns w' w.heap.size v' et k (xs.take i ++ zs) → Ext w w' → N ((d, none, v') :: e) w') :
    Step X ops ⟨some d, .call { callee := .builtin .append, args := #[x, y], argTypes := #[t, tn] }, ty, pos, af, g⟩ e w N := by
  obtain ⟨ii, hi1, hi2, hi3, hi4⟩ := T.iok _ _ _ _ hi
  have hT := T.ok _ _ ht
  have hTn := T.ok _ _ htn
  have hk' : 0 < k := by simpa [Nat.blt_eq] using hk
  have hs := hv.sli
  have hxk := hv.2.1
  have hnc : xs.length ≤ cap := by
    obtain ⟨a, c', he, h'⟩ := hs.len
    cases he; exact h'
  have hp : subS (Value.slice (some ⟨gb, 0, none⟩) xs.length cap) k 0 i = .slice (some ⟨gb, 0, none⟩) i cap := by
    simp only [subS, Nat.zero_mul, Nat.sub_zero]
    split <;> simp [Addr.add_lit]
  rw [hp] at hx
  have hfl : (xs.take i).flatten.length = i * k := by
    rw [flatten_length _ (fun x hx => hxk x (List.mem_of_mem_take hx)), List.length_take]; congr 1; omega
  have hcs := cellsOf hs hk'
  have hold : (Builtin.firstCells ii.size i (.slice (some ⟨gb, 0, none⟩) i cap)).run X.P w.drew = .ok (xs.take i).flatten.toArray w.drew := by
    refine run_firstCells_some w.drew ii.size i ⟨gb, 0, none⟩ i cap _ (by rw [hi3]; exact hfl) (fun j u hj => ?_)
    rw [flatten_take xs i hxk, List.getElem?_take] at hj
    split at hj
    · exact hcs j u hj
    · cases hj
  have hr := Lib.run_append_grow_zeros w t tn ty et ii z .i64 kn hT hTn hi1 hi2 (some ⟨gb, 0, none⟩) i cap (xs.take i).flatten hold n h0 (by omega) hroom (by omega)
    (by rw [hi4]; have : n * bytes ≤ (i + n) * bytes := Nat.mul_le_mul_right _ (by omega)
        omega) (by rw [hi4]; exact growslice_fits hroom hb)
  obtain ⟨G, hG⟩ : ∃ G, G = grownCap w (i + n) cap et := ⟨_, rfl⟩
  have hGe := grownCap_ge w (i + n) cap et
  have hGm := grownCap_le_maxLen w (i + n) cap et (by unfold maxLen; omega)
  rw [← hG] at hr hGe hGm
  have hzs : z.cells.size = k := hz
  have hzc : ∀ n, (Builtin.zeroCells z.cells n).size = n * k := fun n => by simp [Builtin.zeroCells, hzs]
  obtain ⟨Z, hZ⟩ : ∃ Z : List Value, Z = (Builtin.zeroCells z.cells n).toList := ⟨_, rfl⟩
  have hZl : Z.length = n * k := by rw [hZ, Array.length_toList]; exact hzc n
  -- the zero elements, one by one
  have hsplit : ∀ (m : Nat) (L : List Value), L.length = m * k → ∃ zs : List (List Value), zs.length = m ∧ (∀ x ∈ zs, x.length = k) ∧ zs.flatten = L := by
    intro m
    induction m with
    | zero => intro L hL; exact ⟨[], rfl, by simp, by simp at hL; simp [hL]⟩
    | succ m ih =>
      intro L hL
      rw [Nat.add_mul, Nat.one_mul] at hL
      obtain ⟨zs, h1, h2, h3⟩ := ih (L.drop k) (by rw [List.length_drop]; omega)
      refine ⟨L.take k :: zs, by simp [h1], ?_, by rw [List.flatten_cons, h3, List.take_append_drop]⟩
      intro x hx
      rcases List.mem_cons.1 hx with rfl | hx
      · rw [List.length_take]; omega
      · exact h2 x hx
  obtain ⟨zs, hzl, hzk, hzf⟩ := hsplit n Z hZl
  have hxl : (xs.take i).length = i := by rw [List.length_take]; omega
  have hlen : (xs.take i ++ zs).length = i + n := by rw [List.length_append, hxl, hzl]
  obtain ⟨W, hW⟩ : ∃ W, W = w.drew.alloc (.cells ((xs.take i).flatten.toArray ++ Builtin.zeroCells z.cells n ++ Builtin.zeroCells z.cells (G - (i + n))) et) := ⟨_, rfl⟩
  rw [← hW] at hr
  refine Step.eff (v := .slice (some ⟨w.heap.size, 0, none⟩) (i + n) G) (w' := W) rfl (by simpa [Nat.blt_eq] using hn) hg (fun _ hh => by cases hh) (fun t' hf => run_builtin2 (hx.val hf rfl) (hy.val hf rfl) fun cs => ?_) (h _ W zs hzl ?_ ?_)
  · simp only [builtin, Sem.run_bind, hr, Result.andThen_ok, Sem.run_pure]
  · subst hW
    refine ⟨⟨?_, .inr ⟨w.heap.size, G, _, by rw [hlen], Nat.le_refl _, heap_alloc_new w.drew _, by rw [hlen]; exact hGe, hGm, ?_, ?_⟩⟩, ?_, by rw [hlen]; exact hl⟩
    · rw [List.flatten_append, List.length_append, hfl, hzf, hZl, hlen, Nat.add_mul]
    · simp only [Array.size_append, List.size_toArray, hfl, hzc, ← Nat.add_mul]
      congr 1; omega
    · rw [hlen, List.flatten_append, hzf, hZ]
      simp only [Array.toList_append, List.append_assoc]
      rw [← List.append_assoc]
      refine List.take_left' ?_
      rw [List.length_append, ← hZ, hZl, hfl, Nat.add_mul]
    · intro x hx
      rcases List.mem_append.1 hx with hx | hx
      · exact hxk x (List.mem_of_mem_take hx)
      · exact hzk x hx
  · subst hW; exact (Ext.drew w).trans (Ext.alloc _ _)

/-- a call of a function without a body, whose answer is known -/
theorem Step.callV {f : FuncId} {args : Array Operand} {ats : Array TypeId} {l : List Operand} {vs : List Value} {r : Value}
    (hg : guardE ops e ⟨some d, .call { callee := .value (.func f), args := args, argTypes := ats }, ty, pos, af, g⟩ = some none)
    (ha : args = ⟨l⟩) (hvs : evs e l = some vs) (hn : Nat.blt d X.n = true) (hr : (callFunc f ⟨vs⟩).run X.P w = .ok (.value r) w)
    (h : N ((d, none, r) :: e) w) : Step X ops ⟨some d, .call { callee := .value (.func f), args := args, argTypes := ats }, ty, pos, af, g⟩ e w N :=
  Step.eff rfl (by simpa [Nat.blt_eq] using hn) hg (fun _ hh => by cases hh) (fun t hft => by
    have := evs_map (ds := X.ds) hft hvs
    subst ha
    have h2 : (Array.mk l).map (Act.mk t X.ds).eval = ⟨vs⟩ := by simp [this]
    simp only [execOp, resolve, h2, Act.eval, Deferred.ofValue, Sem.run_bind, Sem.run_pure, Result.andThen_ok, invoke, Array.empty_append, Array.append_empty, hr]) h
/-- likewise, of a function held as a value -/
theorem Step.callXC {f : FuncId} {x : Operand} {cap : List Value} {args : Array Operand} {ats : Array TypeId} {l : List Operand} {vs : List Value} {v : Value}
    (hg : guardE ops e ⟨some d, .call { callee := .value x, args := args, argTypes := ats }, ty, pos, af, g⟩ = some c)
    (hx : Op1 e c x (.func (.func f) #[] ⟨cap⟩)) (ha : args = ⟨l⟩) (hvs : OpL e c l vs) (hf : Callable X.P f) (hn : Nat.blt d X.n = true) (hc : cv c = true → Ret X.P f ⟨vs ++ cap⟩ w fun r w' => r = v ∧ Ext w w')
    (h : ∀ w', Ext w w' → N ((d, c, v) :: e) w') : Step X ops ⟨some d, .call { callee := .value x, args := args, argTypes := ats }, ty, pos, af, g⟩ e w N := by
  intro t K Q hft hK
  rw [guardE_wanted hft hg]
  cases hcv : cv c with
  | false =>
    rw [if_neg (by simp)]
    have := hK _ _ _ (h w (Ext.refl w)) (hft.put (by simpa [Nat.blt_eq] using hn) c v)
    simp only [gval, hcv] at this
    exact this
  | true =>
    rw [if_pos rfl]
    refine ⟨fun _ _ => trivial, ?_⟩
    rw [Oper.semAt_eq _ _ _ (fun _ hh => by cases hh)]
    have h1 := hvs.map (ds := X.ds) hft hcv
    subst ha
    have h2 : (Array.mk l).map (Act.mk t X.ds).eval = ⟨vs⟩ := by simp [h1]
    have h3 : (Act.mk t X.ds).eval x = .func (.func f) #[] ⟨cap⟩ := hx.val hft hcv
    have h4 : (⟨vs⟩ : Array Value) ++ ⟨cap⟩ = ⟨vs ++ cap⟩ := by simp
    have hr : (execOp (Act.mk t X.ds).eval ⟨some d, .call { callee := .value x, args := ⟨l⟩, argTypes := ats }, ty, pos, af, g⟩).run X.P w = .ok (.enter f ⟨vs ++ cap⟩) w := by
      simp only [execOp, resolve, h2, h3, Deferred.ofValue, Sem.run_bind, Sem.run_pure, Result.andThen_ok, invoke, Array.empty_append, h4, run_callFunc hf]
    show Oper.uponIn _ _ _ _ _ _ _ ((execOp (Act.mk t X.ds).eval _).run X.P w)
    rw [hr]
    refine ⟨fun h => by simp [Fence.wide] at h, callsW (Calls.mono (hc hcv) ?_)⟩
    rintro en w' ⟨r, rfl, rfl, hx⟩
    show K (Act.put _ (some d) r) w'
    have := hK _ _ _ (h w' hx) (hft.put (by simpa [Nat.blt_eq] using hn) c r)
    simp only [gval, hcv] at this
    exact this
end

/-- two rows in two blocks do not overlap -/
theorem overlaps_no {P : Program} (T : Tb P) {w : World} {tS tR et : TypeId} {z : Value} {k bytes B B' : Nat} {u v : Value} {xs ys : List (List Value)} (ht : T.ty tS = some (.slice et)) (hi : T.inf et = some (z, k, bytes)) (hk : 0 < k)
    (hu : Owns w B u et k ys) (hv : Owns w B' v et k xs) (hy : 0 < ys.length) (hne : ∀ b, some b = u.ownBlock → some b ≠ v.ownBlock) {o : Nat} (ho : o < xs.length) :
    (Extern.SlicesOverlaps.overlaps #[tS, tS] #[tR] #[u, subS v k o xs.length]).run P w = .ok (.bool false) w := by
  obtain ⟨g1, cap1, cur1, rfl, _, hg1, hc1, _, hs1, _⟩ := hu.shape hy
  obtain ⟨g2, cap2, cur2, rfl, _, hg2, hc2, _, hs2, _⟩ := hv.shape (by omega)
  have hgg : g1 ≠ g2 := fun h => hne g1 rfl (by rw [h]; rfl)
  have hp : subS (Value.slice (some ⟨g2, 0, none⟩) xs.length cap2) k o xs.length = .slice (some ⟨g2, o * k, none⟩) (xs.length - o) (cap2 - o) := by
    simp only [subS, if_neg (show ¬ cap2 = o by omega), Option.map_some, Addr.add_lit, Nat.zero_add]
  rw [hp]
  have h2 : 0 < cap2 * k := Nat.mul_pos (by omega) hk
  refine Lib.run_overlaps_apart w tS tR et (T.ok _ _ ht) k (fun w => run_sizeOf hi w) ⟨g1, 0, none⟩ ⟨g2, o * k, none⟩ _ _ _ _ hgg et et cur1.size cur2.size ?_ ?_ (by omega) ?_ ?_
  · simp [World.shape?, hg1]
  · simp [World.shape?, hg2]
  · exact frozen_of_row w g1 0 cur1 et hg1
  · exact frozen_of_row w g1 _ cur1 et hg1
section
variable {X : Cx} {ops : Array Oper} {e : Env} {w : World} {S : World → Prop} {N : Env → World → Prop} {lb : List (Oper × Bool)} {d : Nat} {c : Option Bool} {ty : TypeId} {pos : String} {af : Array Edge} {g : Option (Nat × Bool)}
end
end Go.Vg
end
section
namespace Go.Vg
open Go.RowKit

abbrev TT := List (List UInt8 × List UInt8)
def mpC (es : TT) : List (Value × Value) := es.map fun p => (S p.1, S p.2)
/-- block b is a map of texts by texts -/
def Mp (w : World) (b : Nat) (es : TT) : Prop := ∃ ms clock, w.heap[b]? = some (.map ⟨ms⟩ clock) ∧ ms.map (fun e => (e.key, e.val)) = mpC es
theorem Mp.lt {w : World} {b : Nat} {es : TT} (h : Mp w b es) : b < w.heap.size := by
  obtain ⟨ms, clock, h, _⟩ := h; exact (Array.getElem?_eq_some_iff.1 h).1
theorem Mp.to {w w' : World} {b : Nat} {es : TT} (h : Mp w b es) (hx : Ext w w') : Mp w' b es := by
  obtain ⟨ms, clock, h, h2⟩ := h
  exact ⟨ms, clock, by rw [hx.block b (Array.getElem?_eq_some_iff.1 h).1]; exact h, h2⟩
theorem Mp.wr {w w' : World} {b b' : Nat} {es : TT} (h : Mp w b es) (hw : Wr b' w w') (hne : b ≠ b') : Mp w' b es := by
  obtain ⟨ms, clock, h, h2⟩ := h
  exact ⟨ms, clock, by rw [hw.block b hne]; exact h, h2⟩

section
variable {X : Cx} {ops : Array Oper} {e : Env} {w : World} {N : Env → World → Prop} {d : Nat} {c : Option Bool} {ty : TypeId} {pos : String} {af : Array Edge} {g : Option (Nat × Bool)}
end
section
variable {X : Cx} {ops : Array Oper} {l : List Oper} {k : List Kt} {e : Env} {w : World} {d : Nat} {c : Option Bool} {ty : TypeId} {pos : String} {af : Array Edge} {g : Option (Nat × Bool)}
end
theorem post_goto {ρ : Option Nat} {P : Program} {fin : Exit → Act → World → Prop} {l : Nat} {a : Act} {w : World} : ∀ {k : List Kt}, post ρ P fin k (.goto l) a w → fin (.goto l) a w
  | [], h => h
  | .code _ :: k, h => post_goto (k := k) h
  | .lp _ :: k, h => post_goto (k := k) h
  | .blk _ :: k, h => post_goto (k := k) h
/-- a stretch with labels that nobody jumps to -/
theorem G.scope {X : Cx} {k : List Kt} {e : Env} {w : World} {c : Code} {P : Program} {fn : Func} {R : Value → World → Prop} (hX : X.fin = retFin P fn R) (hr : X.ρ = none) (h : G X (.code c :: k) e w) : G X (.code (.scope c) :: k) e w := by
  intro t ht
  have h1 := h t ht
  simp only [post] at h1 ⊢
  rw [hr] at h1 ⊢
  refine (wpIn_wide (n := 0)).2 (wp_scope_straight ((wpIn_wide (n := 0)).1 (wpIn_mono h1 ?_)))
  intro ex a w' hq
  cases ex with
  | goto l =>
    have := post_goto hq
    rw [hX] at this
    exact this.elim
  | _ => exact hq
theorem G.ret3 {X : Cx} {k : List Kt} {e : Env} {w : World} {P : Program} {fn : Func} {R : Value → World → Prop} (hX : X.fin = retFin P fn R) (hd : X.ds = []) {s s' s'' : Nat} {v v' v'' : Value}
    (hr : fn.results = #[.tmp s, .tmp s', .tmp s'']) (hv : look e s = some (none, v)) (hv' : look e s' = some (none, v')) (hv'' : look e s'' = some (none, v'')) (h : R (.tuple ⟨[v, v', v'']⟩) w) : G X (.code .ret :: k) e w := by
  refine G.ret fun t ht => ?_
  rw [hX, hd]
  refine ⟨rfl, _, ?_, _, rfl, h⟩
  rw [results_tmp3 hr, (ht.get _ _ _ hv).2, (ht.get _ _ _ hv').2, (ht.get _ _ _ hv'').2]
  rfl
end Go.Vg
end
section
namespace Go.Vg
open Go.RowKit

/-- as Below, but that some block from B on may bear a mark -/
theorem Sli.same {w w' : World} {v : Value} {k : Nat} {xs : List (List Value)} (h : Sli w v k xs) (hc : ∀ a, w'.cell? a = w.cell? a) : Sli w' v k xs := by
  rcases h with h | ⟨a, cap, h1, h2, h3, h4, h5, h6⟩
  · exact .inl h
  · exact .inr ⟨a, cap, h1, h2, h3, h4, fun i x hx j u hu => by rw [hc]; exact h5 i x hx j u hu, h6⟩
section
variable {X : Cx} {ops : Array Oper} {l : List Oper} {k : List Kt} {e : Env} {w : World} {N : Env → World → Prop} {d : Nat} {c : Option Bool} {ty : TypeId} {pos : String} {af : Array Edge} {g : Option (Nat × Bool)}
end
end Go.Vg
end
section
namespace Go.Vg
open Go.RowKit

/-- a row whose first cells are bytes -/
theorem by_of {w : World} {b : Nat} {cs : List Value} {t cap : Nat} {fr : Nat × Nat} {l : List UInt8} (hb : w.heap[b]? = some (.cells ⟨cs⟩ t fr)) (h : cs.take l.length = l.map U) (hc : l.length ≤ cap) (hl : l.length ≤ 9223372036854775807) : By w (.slice (some ⟨b, 0, none⟩) l.length cap) l := by
  refine .inr ⟨⟨b, 0, none⟩, cap, by rw [bysC_len], rfl, by rw [bysC_len]; exact hc, bysC_k l, ?_, by rw [bysC_len]; exact hl⟩
  intro i x hx j u hu
  have hi : i < l.length := by
    have := (List.getElem?_eq_some_iff.1 hx).1
    rwa [bysC_len] at this
  rw [bysC_get hi] at hx
  cases hx
  have hj : j = 0 := by
    have := (List.getElem?_eq_some_iff.1 hu).1
    simp at this; exact this
  subst hj
  cases hu
  simp only [Addr.add_lit, Nat.zero_add, Nat.mul_one, Nat.add_zero]
  rw [Joins.cell_of_block hb i]
  have h2 : (cs.take l.length)[i]? = (l.map U)[i]? := by rw [h]
  rw [List.getElem?_take_of_lt hi, List.getElem?_map] at h2
  simpa [List.getD, hi] using h2
section
variable {X : Cx} {ops : Array Oper} {l : List Oper} {kk : List Kt} {e : Env} {w : World} {N : Env → World → Prop} {d : Nat} {c : Option Bool} {ty : TypeId} {pos : String} {af : Array Edge} {g : Option (Nat × Bool)}
end
end Go.Vg
end
section
namespace Go.Vg
open Go.RowKit

/-- a row made of a text: what lies behind the text's bytes may hold more -/
def Frz (w : World) (B : Nat) (v : Value) (et : Nat) (s : List UInt8) : Prop :=
  ∃ b G cs, v = .slice (some ⟨b, 0, none⟩) s.length G ∧ B ≤ b ∧ w.heap[b]? = some (.cells ⟨cs⟩ et (cs.length, cs.length + 1)) ∧ cs.take s.length = s.map U ∧ cs.length = G ∧ s.length ≤ G
/-- bytes of one's own -/
def Bwy (w : World) (B : Nat) (v : Value) (et : Nat) (s : List UInt8) : Prop := Frz w B v et s ∨ Owns w B v et 1 (bysC s)
theorem Frz.sli {w : World} {B et : Nat} {v : Value} {s : List UInt8} (h : Frz w B v et s) (hl : s.length ≤ 9223372036854775807) : By w v s := by
  obtain ⟨b, G, cs, rfl, _, hb, htk, _, hsG⟩ := h
  exact by_of hb htk hsG hl
theorem Bwy.sli {w : World} {B et : Nat} {v : Value} {s : List UInt8} (h : Bwy w B v et s) (hl : s.length ≤ 9223372036854775807) : By w v s := by
  rcases h with h | h
  · exact h.sli hl
  · exact h.sli
theorem Frz.to {w w' : World} {B et : Nat} {v : Value} {s : List UInt8} (h : Frz w B v et s) (hx : Ext w w') : Frz w' B v et s := by
  obtain ⟨b, G, cs, hv, hB, hb, hr⟩ := h
  exact ⟨b, G, cs, hv, hB, by rw [hx.block b (Array.getElem?_eq_some_iff.1 hb).1]; exact hb, hr⟩
theorem Bwy.to {w w' : World} {B et : Nat} {v : Value} {s : List UInt8} (h : Bwy w B v et s) (hx : Ext w w') : Bwy w' B v et s := by
  rcases h with h | h
  · exact .inl (h.to hx)
  · exact .inr (Owns.to h hx)
theorem Frz.mono {w : World} {B B' et : Nat} {v : Value} {s : List UInt8} (h : Frz w B v et s) (hB : B' ≤ B) : Frz w B' v et s := by
  obtain ⟨b, G, cs, hv, hb, hr⟩ := h
  exact ⟨b, G, cs, hv, Nat.le_trans hB hb, hr⟩
section
variable {X : Cx} {ops : Array Oper} {l : List Oper} {kk : List Kt} {e : Env} {w : World} {N : Env → World → Prop} {d : Nat} {c : Option Bool} {ty : TypeId} {pos : String} {af : Array Edge} {g : Option (Nat × Bool)}
end
end Go.Vg
end
section
namespace Go.Vg
open Go.RowKit

/-- a float of 64 bits -/
abbrev Fl (b : Nat) : Value := .float .f64 b
section
variable {X : Cx} {ops : Array Oper} {l : List Oper} {k : List Kt} {e : Env} {w : World} {N : Env → World → Prop} {d : Nat} {c : Option Bool} {ty : TypeId} {pos : String} {af : Array Edge} {g : Option (Nat × Bool)}
/-- a call that the model answers by itself -/
theorem Step.ext {f : FuncId} {args : Array Operand} {ats : Array TypeId} {lo : List Operand} {vs : List Value} {v : Value}
    (hg : guardE ops e ⟨some d, .call { callee := .value (.func f), args := args, argTypes := ats }, ty, pos, af, g⟩ = some c)
    (ha : args = ⟨lo⟩) (hvs : OpL e c lo vs) (hr : (callFunc f ⟨vs⟩).run X.P w = .ok (.value v) w) (hn : Nat.blt d X.n = true)
    (h : N ((d, c, v) :: e) w) : Step X ops ⟨some d, .call { callee := .value (.func f), args := args, argTypes := ats }, ty, pos, af, g⟩ e w N :=
  Step.quiet rfl (by simpa [Nat.blt_eq] using hn) hg (fun _ hh => by cases hh) (fun t hf hc => by
    have := hvs.map (ds := X.ds) hf hc
    subst ha
    have h2 : (Array.mk lo).map (Act.mk t X.ds).eval = ⟨vs⟩ := by simp [this]
    simp only [execOp, resolve, h2, Act.eval, Deferred.ofValue, Sem.run_bind, Sem.run_pure, Result.andThen_ok, invoke, Array.empty_append, Array.append_empty, hr]) h
end
end Go.Vg
end
