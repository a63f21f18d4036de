/- Part of the proof of a statement about the given program. -/
import Derived.Test.YtmkckngecjpklaaGreatDoorP01
import Derived.Test.YtmkckngecjpklaaGreatDoorProg
import Derived.KernelRfl
import Derived.Shelf.Strings.Builder1
import Derived.Shelf.Strings.Builder2
import Derived.Shelf.Strings.OnBuilder
import Derived.Shelf.Small.Utf8
import Derived.Shelf.Small.Strs
import Derived.Shelf.Strings.BuilderF
import Derived.Shelf.Strings.Search1
import Derived.Shelf.Strings.Prefix
import Derived.Shelf.Unicode.Decode
import Derived.Shelf.Strings.Runes
import Derived.Shelf.Unicode.DecodeSlow
import Derived.Shelf.Unicode.DecodeAny
import Derived.Shelf.Unicode.ValidAny
import Derived.Deep.Slices
import Derived.ProofKit
import Derived.Carry
import Derived.Deep.DeepHandedRow
import Derived.OpenShut
import Derived.Lib.AppendStr
import Derived.Laws.BytesArg
import Derived.Laws.IdiomStrings
import Derived.Lib.Overlaps
import Derived.Lib.AppendZerosOnto
set_option linter.unusedSimpArgs false
set_option linter.unusedVariables false
set_option linter.unusedSectionVars false
set_option maxHeartbeats 16000000
section
def fE (n:String)(t o b:Nat):Go.Field:={ name := n, type := t, offset := o, embedded := false, tag := "", pkgPath := "", byteOffset := b }
namespace Go.Proofs.YtmkckngecjpklaaGreatDoor
open Go Go.Vg
def tyL:List (Nat×TypeDesc):=[(2,(TypeDesc.int IntKind.i64)),
 (3,(TypeDesc.int IntKind.i64)),
 (4,TypeDesc.bool),
 (5,(TypeDesc.int IntKind.u8)),
 (9,TypeDesc.string),
 (12,(TypeDesc.int IntKind.u64)),
 (20,(TypeDesc.interface #[])),
 (21,(TypeDesc.int IntKind.i32)),
 (22,(TypeDesc.slice 26)),
 (23,(TypeDesc.slice 78)),
 (24,(TypeDesc.float FloatKind.f64)),
 (25, (TypeDesc.struct #[(fE "Labels" 23 0 0), (fE "V" 24 1 24), (fE "T" 3 2 32), (fE "HasT" 4 3 40)])),
 (26, (TypeDesc.struct #[(fE "Labels" 23 0 0), (fE "V" 24 1 24), (fE "T" 3 2 32), (fE "HasT" 4 3 40)])),
 (30, (TypeDesc.struct #[(fE "Job" 9 0 0), (fE "Labels" 23 1 16), (fE "URL" 9 2 40), (fE "Offset" 3 3 56)])),
 (31, (TypeDesc.struct #[(fE "Job" 9 0 0), (fE "Labels" 23 1 16), (fE "URL" 9 2 40), (fE "Offset" 3 3 56)])),
 (32,(TypeDesc.slice 45)),
 (33,(TypeDesc.slice 23)),
 (34,(TypeDesc.int IntKind.i64)),
 (37,(TypeDesc.slice 63)),
 (38, (TypeDesc.struct #[(fE "Name" 9 0 0), (fE "Interval" 3 1 16), (fE "SampleLimit" 3 2 24), (fE "Honor" 4 3 32), (fE "Targets" 33 4 40), (fE "Relabel" 37 5 64), (fE "Metric" 37 6 88)])),
 (39, (TypeDesc.struct #[(fE "Name" 9 0 0), (fE "Interval" 3 1 16), (fE "SampleLimit" 3 2 24), (fE "Honor" 4 3 32), (fE "Targets" 33 4 40), (fE "Relabel" 37 5 64), (fE "Metric" 37 6 88)])),
 (40,(TypeDesc.slice 5)),
 (44, (TypeDesc.struct #[(fE "Labels" 23 0 0), (fE "T" 3 1 24), (fE "V" 24 2 32)])),
 (45, (TypeDesc.struct #[(fE "Labels" 23 0 0), (fE "T" 3 1 24), (fE "V" 24 2 32)])),
 (48, (TypeDesc.struct #[(fE "Job" 39 0 0), (fE "Target" 23 7 112), (fE "Now" 3 8 136), (fE "Body" 40 9 144), (fE "Before" 33 10 168)])),
 (49, (TypeDesc.struct #[(fE "Job" 39 0 0), (fE "Target" 23 7 112), (fE "Now" 3 8 136), (fE "Body" 40 9 144), (fE "Before" 33 10 168)])),
 (61,(TypeDesc.slice 9)),
 (62, (TypeDesc.struct #[(fE "Action" 3 0 0), (fE "Sources" 61 1 8), (fE "Separator" 9 2 32), (fE "Regex" 9 3 48), (fE "Modulus" 3 4 64), (fE "Target" 9 5 72), (fE "Replacement" 9 6 88)])),
 (63, (TypeDesc.struct #[(fE "Action" 3 0 0), (fE "Sources" 61 1 8), (fE "Separator" 9 2 32), (fE "Regex" 9 3 48), (fE "Modulus" 3 4 64), (fE "Target" 9 5 72), (fE "Replacement" 9 6 88)])),
 (69, (TypeDesc.struct #[(fE "A" 23 0 0), (fE "B" 23 1 24), (fE "Sources" 61 2 48), (fE "Modulus" 3 3 72)])),
 (70, (TypeDesc.struct #[(fE "A" 23 0 0), (fE "B" 23 1 24), (fE "Sources" 61 2 48), (fE "Modulus" 3 3 72)])),
 (77, (TypeDesc.struct #[{ name := "Name", type := 9, offset := 0, embedded := false, tag := "", pkgPath := "", byteOffset := 0 }, { name := "Value", type := 9, offset := 1, embedded := false, tag := "", pkgPath := "", byteOffset := 16 }])),
 (78, (TypeDesc.struct #[{ name := "Name", type := 9, offset := 0, embedded := false, tag := "", pkgPath := "", byteOffset := 0 }, { name := "Value", type := 9, offset := 1, embedded := false, tag := "", pkgPath := "", byteOffset := 16 }])),
 (82,(TypeDesc.slice 31)),
 (88,(TypeDesc.slice 240)),
 (93,(TypeDesc.array 4 3)),
 (100,(TypeDesc.int IntKind.u64)),
 (107,(TypeDesc.pointer 176)),
 (111,(TypeDesc.pointer 191)),
 (122,(TypeDesc.func #[205] #[] false)),
 (134,(TypeDesc.pointer 137)),
 (135,(TypeDesc.map 9 3)),
 (136, (TypeDesc.struct #[{ name := "l", type := 88, offset := 0, embedded := false, tag := "", pkgPath := "vigil/expo", byteOffset := 0 }, { name := "at", type := 135, offset := 1, embedded := false, tag := "", pkgPath := "vigil/expo", byteOffset := 24 }])),
 (137, (TypeDesc.struct #[{ name := "l", type := 88, offset := 0, embedded := false, tag := "", pkgPath := "vigil/expo", byteOffset := 0 }, { name := "at", type := 135, offset := 1, embedded := false, tag := "", pkgPath := "vigil/expo", byteOffset := 24 }])),
 (139,(TypeDesc.func #[221] #[] false)),
 (142, (TypeDesc.struct #[{ name := "word", type := 9, offset := 0, embedded := false, tag := "", pkgPath := "vigil/expo", byteOffset := 0 }, { name := "name", type := 9, offset := 1, embedded := false, tag := "", pkgPath := "vigil/expo", byteOffset := 16 }, { name := "rest", type := 9, offset := 2, embedded := false, tag := "", pkgPath := "vigil/expo", byteOffset := 32 }])),
 (143, (TypeDesc.struct #[{ name := "word", type := 9, offset := 0, embedded := false, tag := "", pkgPath := "vigil/expo", byteOffset := 0 }, { name := "name", type := 9, offset := 1, embedded := false, tag := "", pkgPath := "vigil/expo", byteOffset := 16 }, { name := "rest", type := 9, offset := 2, embedded := false, tag := "", pkgPath := "vigil/expo", byteOffset := 32 }])),
 (152,(TypeDesc.array 4 9)),
 (164,(TypeDesc.pointer 274)),
 (167,(TypeDesc.pointer 170)),
 (168,(TypeDesc.slice 174)),
 (169, (TypeDesc.struct #[{ name := "steps", type := 168, offset := 0, embedded := false, tag := "", pkgPath := "vigil/regex", byteOffset := 0 }, { name := "full", type := 4, offset := 1, embedded := false, tag := "", pkgPath := "vigil/regex", byteOffset := 24 }])),
 (170, (TypeDesc.struct #[{ name := "steps", type := 168, offset := 0, embedded := false, tag := "", pkgPath := "vigil/regex", byteOffset := 0 }, { name := "full", type := 4, offset := 1, embedded := false, tag := "", pkgPath := "vigil/regex", byteOffset := 24 }])),
 (173, (TypeDesc.struct #[{ name := "kind", type := 3, offset := 0, embedded := false, tag := "", pkgPath := "vigil/regex", byteOffset := 0 }, { name := "set", type := 164, offset := 1, embedded := false, tag := "", pkgPath := "vigil/regex", byteOffset := 8 }, { name := "slot", type := 3, offset := 2, embedded := false, tag := "", pkgPath := "vigil/regex", byteOffset := 16 }, { name := "a", type := 3, offset := 3, embedded := false, tag := "", pkgPath := "vigil/regex", byteOffset := 24 }, { name := "b", type := 3, offset := 4, embedded := false, tag := "", pkgPath := "vigil/regex", byteOffset := 32 }])),
 (174, (TypeDesc.struct #[{ name := "kind", type := 3, offset := 0, embedded := false, tag := "", pkgPath := "vigil/regex", byteOffset := 0 }, { name := "set", type := 164, offset := 1, embedded := false, tag := "", pkgPath := "vigil/regex", byteOffset := 8 }, { name := "slot", type := 3, offset := 2, embedded := false, tag := "", pkgPath := "vigil/regex", byteOffset := 16 }, { name := "a", type := 3, offset := 3, embedded := false, tag := "", pkgPath := "vigil/regex", byteOffset := 24 }, { name := "b", type := 3, offset := 4, embedded := false, tag := "", pkgPath := "vigil/regex", byteOffset := 32 }])),
 (175, (TypeDesc.struct #[{ name := "steps", type := 168, offset := 0, embedded := false, tag := "", pkgPath := "vigil/regex", byteOffset := 0 }, { name := "groups", type := 3, offset := 1, embedded := false, tag := "", pkgPath := "vigil/regex", byteOffset := 24 }])),
 (176, (TypeDesc.struct #[{ name := "steps", type := 168, offset := 0, embedded := false, tag := "", pkgPath := "vigil/regex", byteOffset := 0 }, { name := "groups", type := 3, offset := 1, embedded := false, tag := "", pkgPath := "vigil/regex", byteOffset := 24 }])),
 (178,(TypeDesc.pointer 180)),
 (179, (TypeDesc.struct #[{ name := "s", type := 9, offset := 0, embedded := false, tag := "", pkgPath := "vigil/vigilref04", byteOffset := 0 }, { name := "at", type := 3, offset := 1, embedded := false, tag := "", pkgPath := "vigil/vigilref04", byteOffset := 16 }, { name := "wrong", type := 3, offset := 2, embedded := false, tag := "", pkgPath := "vigil/vigilref04", byteOffset := 24 }, { name := "count", type := 3, offset := 3, embedded := false, tag := "", pkgPath := "vigil/vigilref04", byteOffset := 32 }])),
 (180, (TypeDesc.struct #[{ name := "s", type := 9, offset := 0, embedded := false, tag := "", pkgPath := "vigil/vigilref04", byteOffset := 0 }, { name := "at", type := 3, offset := 1, embedded := false, tag := "", pkgPath := "vigil/vigilref04", byteOffset := 16 }, { name := "wrong", type := 3, offset := 2, embedded := false, tag := "", pkgPath := "vigil/vigilref04", byteOffset := 24 }, { name := "count", type := 3, offset := 3, embedded := false, tag := "", pkgPath := "vigil/vigilref04", byteOffset := 32 }])),
 (181,(TypeDesc.slice 3)),
 (182, (TypeDesc.struct #[{ name := "l", type := 181, offset := 0, embedded := false, tag := "", pkgPath := "vigil/vigilref04", byteOffset := 0 }, { name := "not", type := 4, offset := 1, embedded := false, tag := "", pkgPath := "vigil/vigilref04", byteOffset := 24 }])),
 (183, (TypeDesc.struct #[{ name := "l", type := 181, offset := 0, embedded := false, tag := "", pkgPath := "vigil/vigilref04", byteOffset := 0 }, { name := "not", type := 4, offset := 1, embedded := false, tag := "", pkgPath := "vigil/vigilref04", byteOffset := 24 }])),
 (184,(TypeDesc.slice 186)),
 (185, (TypeDesc.struct #[{ name := "kind", type := 3, offset := 0, embedded := false, tag := "", pkgPath := "vigil/vigilref04", byteOffset := 0 }, { name := "c", type := 183, offset := 1, embedded := false, tag := "", pkgPath := "vigil/vigilref04", byteOffset := 8 }, { name := "kids", type := 184, offset := 3, embedded := false, tag := "", pkgPath := "vigil/vigilref04", byteOffset := 40 }, { name := "n", type := 3, offset := 4, embedded := false, tag := "", pkgPath := "vigil/vigilref04", byteOffset := 64 }, { name := "lo", type := 3, offset := 5, embedded := false, tag := "", pkgPath := "vigil/vigilref04", byteOffset := 72 }, { name := "hi", type := 3, offset := 6, embedded := false, tag := "", pkgPath := "vigil/vigilref04", byteOffset := 80 }, { name := "lazy", type := 4, offset := 7, embedded := false, tag := "", pkgPath := "vigil/vigilref04", byteOffset := 88 }])),
 (186, (TypeDesc.struct #[{ name := "kind", type := 3, offset := 0, embedded := false, tag := "", pkgPath := "vigil/vigilref04", byteOffset := 0 }, { name := "c", type := 183, offset := 1, embedded := false, tag := "", pkgPath := "vigil/vigilref04", byteOffset := 8 }, { name := "kids", type := 184, offset := 3, embedded := false, tag := "", pkgPath := "vigil/vigilref04", byteOffset := 40 }, { name := "n", type := 3, offset := 4, embedded := false, tag := "", pkgPath := "vigil/vigilref04", byteOffset := 64 }, { name := "lo", type := 3, offset := 5, embedded := false, tag := "", pkgPath := "vigil/vigilref04", byteOffset := 72 }, { name := "hi", type := 3, offset := 6, embedded := false, tag := "", pkgPath := "vigil/vigilref04", byteOffset := 80 }, { name := "lazy", type := 4, offset := 7, embedded := false, tag := "", pkgPath := "vigil/vigilref04", byteOffset := 88 }])),
 (189,(TypeDesc.slice 194)),
 (190, (TypeDesc.struct #[(fE "Steps" 189 0 0), (fE "Count" 3 1 24)])),
 (191, (TypeDesc.struct #[(fE "Steps" 189 0 0), (fE "Count" 3 1 24)])),
 (193, (TypeDesc.struct #[{ name := "kind", type := 3, offset := 0, embedded := false, tag := "", pkgPath := "vigil/vigilref04", byteOffset := 0 }, { name := "a", type := 3, offset := 1, embedded := false, tag := "", pkgPath := "vigil/vigilref04", byteOffset := 8 }, { name := "b", type := 3, offset := 2, embedded := false, tag := "", pkgPath := "vigil/vigilref04", byteOffset := 16 }, { name := "c", type := 183, offset := 3, embedded := false, tag := "", pkgPath := "vigil/vigilref04", byteOffset := 24 }])),
 (194, (TypeDesc.struct #[{ name := "kind", type := 3, offset := 0, embedded := false, tag := "", pkgPath := "vigil/vigilref04", byteOffset := 0 }, { name := "a", type := 3, offset := 1, embedded := false, tag := "", pkgPath := "vigil/vigilref04", byteOffset := 8 }, { name := "b", type := 3, offset := 2, embedded := false, tag := "", pkgPath := "vigil/vigilref04", byteOffset := 16 }, { name := "c", type := 183, offset := 3, embedded := false, tag := "", pkgPath := "vigil/vigilref04", byteOffset := 24 }])),
 (208, (TypeDesc.struct #[{ name := "lo", type := 5, offset := 0, embedded := false, tag := "", pkgPath := "unicode/utf8", byteOffset := 0 }, { name := "hi", type := 5, offset := 1, embedded := false, tag := "", pkgPath := "unicode/utf8", byteOffset := 1 }])),
 (209, (TypeDesc.struct #[{ name := "lo", type := 5, offset := 0, embedded := false, tag := "", pkgPath := "unicode/utf8", byteOffset := 0 }, { name := "hi", type := 5, offset := 1, embedded := false, tag := "", pkgPath := "unicode/utf8", byteOffset := 1 }])),
 (210,(TypeDesc.array 16 209)),
 (211,(TypeDesc.int IntKind.u64)),
 (212,(TypeDesc.slice 37)),
 (230,(TypeDesc.pointer 226)),
 (231, (TypeDesc.struct #[{ name := "at", type := 3, offset := 0, embedded := false, tag := "", pkgPath := "vigil/expo", byteOffset := 0 }, { name := "why", type := 34, offset := 1, embedded := false, tag := "", pkgPath := "vigil/expo", byteOffset := 8 }])),
 (232, (TypeDesc.struct #[{ name := "at", type := 3, offset := 0, embedded := false, tag := "", pkgPath := "vigil/expo", byteOffset := 0 }, { name := "why", type := 34, offset := 1, embedded := false, tag := "", pkgPath := "vigil/expo", byteOffset := 8 }])),
 (233,(TypeDesc.pointer 235)),
 (234, (TypeDesc.struct #[{ name := "s", type := 9, offset := 0, embedded := false, tag := "", pkgPath := "vigil/expo", byteOffset := 0 }, { name := "at", type := 3, offset := 1, embedded := false, tag := "", pkgPath := "vigil/expo", byteOffset := 16 }])),
 (235, (TypeDesc.struct #[{ name := "s", type := 9, offset := 0, embedded := false, tag := "", pkgPath := "vigil/expo", byteOffset := 0 }, { name := "at", type := 3, offset := 1, embedded := false, tag := "", pkgPath := "vigil/expo", byteOffset := 16 }])),
 (239, (TypeDesc.struct #[(fE "Name" 9 0 0), (fE "Kind" 9 1 16), (fE "Help" 9 2 32)])),
 (240, (TypeDesc.struct #[(fE "Name" 9 0 0), (fE "Kind" 9 1 16), (fE "Help" 9 2 32)])),
 (252,(TypeDesc.slice 3)),
 (254, (TypeDesc.struct #[{ name := "digits", type := 252, offset := 0, embedded := false, tag := "", pkgPath := "vigil/vigilref03", byteOffset := 0 }, { name := "exp", type := 3, offset := 1, embedded := false, tag := "", pkgPath := "vigil/vigilref03", byteOffset := 24 }])),
 (255, (TypeDesc.struct #[{ name := "digits", type := 252, offset := 0, embedded := false, tag := "", pkgPath := "vigil/vigilref03", byteOffset := 0 }, { name := "exp", type := 3, offset := 1, embedded := false, tag := "", pkgPath := "vigil/vigilref03", byteOffset := 24 }])),
 (263,(TypeDesc.array 5 9)),
 (264,(TypeDesc.pointer 266)),
 (265, (TypeDesc.struct #[{ name := "s", type := 9, offset := 0, embedded := false, tag := "", pkgPath := "vigil/regex", byteOffset := 0 }, { name := "at", type := 3, offset := 1, embedded := false, tag := "", pkgPath := "vigil/regex", byteOffset := 16 }, { name := "groups", type := 3, offset := 2, embedded := false, tag := "", pkgPath := "vigil/regex", byteOffset := 24 }])),
 (266, (TypeDesc.struct #[{ name := "s", type := 9, offset := 0, embedded := false, tag := "", pkgPath := "vigil/regex", byteOffset := 0 }, { name := "at", type := 3, offset := 1, embedded := false, tag := "", pkgPath := "vigil/regex", byteOffset := 16 }, { name := "groups", type := 3, offset := 2, embedded := false, tag := "", pkgPath := "vigil/regex", byteOffset := 24 }])),
 (267, (TypeDesc.struct #[{ name := "at", type := 3, offset := 0, embedded := false, tag := "", pkgPath := "vigil/regex", byteOffset := 0 }])),
 (268, (TypeDesc.struct #[{ name := "at", type := 3, offset := 0, embedded := false, tag := "", pkgPath := "vigil/regex", byteOffset := 0 }])),
 (271,(TypeDesc.slice 358)),
 (272,(TypeDesc.slice 164)),
 (273, (TypeDesc.struct #[{ name := "kind", type := 3, offset := 0, embedded := false, tag := "", pkgPath := "vigil/regex", byteOffset := 0 }, { name := "spans", type := 271, offset := 1, embedded := false, tag := "", pkgPath := "vigil/regex", byteOffset := 8 }, { name := "not", type := 4, offset := 2, embedded := false, tag := "", pkgPath := "vigil/regex", byteOffset := 32 }, { name := "number", type := 3, offset := 3, embedded := false, tag := "", pkgPath := "vigil/regex", byteOffset := 40 }, { name := "min", type := 3, offset := 4, embedded := false, tag := "", pkgPath := "vigil/regex", byteOffset := 48 }, { name := "max", type := 3, offset := 5, embedded := false, tag := "", pkgPath := "vigil/regex", byteOffset := 56 }, { name := "few", type := 4, offset := 6, embedded := false, tag := "", pkgPath := "vigil/regex", byteOffset := 64 }, { name := "plus", type := 4, offset := 7, embedded := false, tag := "", pkgPath := "vigil/regex", byteOffset := 65 }, { name := "kids", type := 272, offset := 8, embedded := false, tag := "", pkgPath := "vigil/regex", byteOffset := 72 }])),
 (274, (TypeDesc.struct #[{ name := "kind", type := 3, offset := 0, embedded := false, tag := "", pkgPath := "vigil/regex", byteOffset := 0 }, { name := "spans", type := 271, offset := 1, embedded := false, tag := "", pkgPath := "vigil/regex", byteOffset := 8 }, { name := "not", type := 4, offset := 2, embedded := false, tag := "", pkgPath := "vigil/regex", byteOffset := 32 }, { name := "number", type := 3, offset := 3, embedded := false, tag := "", pkgPath := "vigil/regex", byteOffset := 40 }, { name := "min", type := 3, offset := 4, embedded := false, tag := "", pkgPath := "vigil/regex", byteOffset := 48 }, { name := "max", type := 3, offset := 5, embedded := false, tag := "", pkgPath := "vigil/regex", byteOffset := 56 }, { name := "few", type := 4, offset := 6, embedded := false, tag := "", pkgPath := "vigil/regex", byteOffset := 64 }, { name := "plus", type := 4, offset := 7, embedded := false, tag := "", pkgPath := "vigil/regex", byteOffset := 65 }, { name := "kids", type := 272, offset := 8, embedded := false, tag := "", pkgPath := "vigil/regex", byteOffset := 72 }])),
 (279, (TypeDesc.struct #[{ name := "addr", type := 277, offset := 0, embedded := false, tag := "", pkgPath := "strings", byteOffset := 0 }, { name := "buf", type := 40, offset := 1, embedded := false, tag := "", pkgPath := "strings", byteOffset := 8 }])),
 (280, (TypeDesc.interface #[("Error", 287)])),
 (281, (TypeDesc.interface #[("Error", 287)])),
 (288,(TypeDesc.array 20 5)),
 (289,(TypeDesc.pointer 292)),
 (290,(TypeDesc.slice 4)),
 (292, (TypeDesc.struct #[{ name := "p", type := 111, offset := 0, embedded := false, tag := "", pkgPath := "vigil/vigilref04", byteOffset := 0 }, { name := "s", type := 9, offset := 1, embedded := false, tag := "", pkgPath := "vigil/vigilref04", byteOffset := 8 }, { name := "seen", type := 290, offset := 2, embedded := false, tag := "", pkgPath := "vigil/vigilref04", byteOffset := 24 }])),
 (305,(TypeDesc.int IntKind.i64)),
 (327, (TypeDesc.struct #[{ name := "fork", type := 4, offset := 0, embedded := false, tag := "", pkgPath := "vigil/regex", byteOffset := 0 }, { name := "step", type := 3, offset := 1, embedded := false, tag := "", pkgPath := "vigil/regex", byteOffset := 8 }, { name := "at", type := 3, offset := 2, embedded := false, tag := "", pkgPath := "vigil/regex", byteOffset := 16 }, { name := "slot", type := 3, offset := 3, embedded := false, tag := "", pkgPath := "vigil/regex", byteOffset := 24 }, { name := "was", type := 3, offset := 4, embedded := false, tag := "", pkgPath := "vigil/regex", byteOffset := 32 }, { name := "seq", type := 3, offset := 5, embedded := false, tag := "", pkgPath := "vigil/regex", byteOffset := 40 }])),
 (328, (TypeDesc.struct #[{ name := "fork", type := 4, offset := 0, embedded := false, tag := "", pkgPath := "vigil/regex", byteOffset := 0 }, { name := "step", type := 3, offset := 1, embedded := false, tag := "", pkgPath := "vigil/regex", byteOffset := 8 }, { name := "at", type := 3, offset := 2, embedded := false, tag := "", pkgPath := "vigil/regex", byteOffset := 16 }, { name := "slot", type := 3, offset := 3, embedded := false, tag := "", pkgPath := "vigil/regex", byteOffset := 24 }, { name := "was", type := 3, offset := 4, embedded := false, tag := "", pkgPath := "vigil/regex", byteOffset := 32 }, { name := "seq", type := 3, offset := 5, embedded := false, tag := "", pkgPath := "vigil/regex", byteOffset := 40 }])),
 (329,(TypeDesc.slice 328)),
 (330,(TypeDesc.pointer 174)),
 (345,(TypeDesc.int IntKind.u64)),
 (358, (TypeDesc.struct #[{ name := "from", type := 21, offset := 0, embedded := false, tag := "", pkgPath := "vigil/regex", byteOffset := 0 }, { name := "to", type := 21, offset := 1, embedded := false, tag := "", pkgPath := "vigil/regex", byteOffset := 4 }])),
 (361,(TypeDesc.array 5 3)),
 (388,(TypeDesc.slice 312)),
 (389,(TypeDesc.slice 312))]
theorem tyL_ok:AllT Tryz.prog tyL:=⟨Tryz.underlying2,Tryz.underlying3,Tryz.underlying4,Tryz.underlying5,Tryz.underlying9,Tryz.underlying12,Tryz.underlying20,Tryz.underlying21,Tryz.underlying22,Tryz.underlying23,Tryz.underlying24,Tryz.underlying25,Tryz.underlying26,Tryz.underlying30,Tryz.underlying31,Tryz.underlying32,Tryz.underlying33,Tryz.underlying34,Tryz.underlying37,Tryz.underlying38,Tryz.underlying39,Tryz.underlying40,Tryz.underlying44,Tryz.underlying45,Tryz.underlying48,Tryz.underlying49,Tryz.underlying61,Tryz.underlying62,Tryz.underlying63,Tryz.underlying69,Tryz.underlying70,Tryz.underlying77,Tryz.underlying78,Tryz.underlying82,Tryz.underlying88,Tryz.underlying93,Tryz.underlying100,Tryz.underlying107,Tryz.underlying111,Tryz.underlying122,Tryz.underlying134,Tryz.underlying135,Tryz.underlying136,Tryz.underlying137,Tryz.underlying139,Tryz.underlying142,Tryz.underlying143,Tryz.underlying152,Tryz.underlying164,Tryz.underlying167,Tryz.underlying168,Tryz.underlying169,Tryz.underlying170,Tryz.underlying173,Tryz.underlying174,Tryz.underlying175,Tryz.underlying176,Tryz.underlying178,Tryz.underlying179,Tryz.underlying180,Tryz.underlying181,Tryz.underlying182,Tryz.underlying183,Tryz.underlying184,Tryz.underlying185,Tryz.underlying186,Tryz.underlying189,Tryz.underlying190,Tryz.underlying191,Tryz.underlying193,Tryz.underlying194,Tryz.underlying208,Tryz.underlying209,Tryz.underlying210,Tryz.underlying211,Tryz.underlying212,Tryz.underlying230,Tryz.underlying231,Tryz.underlying232,Tryz.underlying233,Tryz.underlying234,Tryz.underlying235,Tryz.underlying239,Tryz.underlying240,Tryz.underlying252,Tryz.underlying254,Tryz.underlying255,Tryz.underlying263,Tryz.underlying264,Tryz.underlying265,Tryz.underlying266,Tryz.underlying267,Tryz.underlying268,Tryz.underlying271,Tryz.underlying272,Tryz.underlying273,Tryz.underlying274,Tryz.underlying279,Tryz.underlying280,Tryz.underlying281,Tryz.underlying288,Tryz.underlying289,Tryz.underlying290,Tryz.underlying292,Tryz.underlying305,Tryz.underlying327,Tryz.underlying328,Tryz.underlying329,Tryz.underlying330,Tryz.underlying345,Tryz.underlying358,Tryz.underlying361,Tryz.underlying388,Tryz.underlying389,trivial⟩
def infL:List (Nat×Value×Nat×Nat):=[(2,(.int .i64 0),1,8),
 (3,(.int .i64 0),1,8),
 (4,(.bool false),1,1),
 (5,(.int .u8 0),1,1),
 (9,(S []),1,16),
 (12,(.int .u64 0),1,8),
 (20,.nilIface,1,16),
 (21,(.int .i32 0),1,4),
 (22,(.slice none 0 0),1,24),
 (23,(.slice none 0 0),1,24),
 (24,(.float .f64 0),1,8),
 (25,(.agg ⟨[(.slice none 0 0),(.float .f64 0),(.int .i64 0),(.bool false)]⟩),4,48),
 (26,(.agg ⟨[(.slice none 0 0),(.float .f64 0),(.int .i64 0),(.bool false)]⟩),4,48),
 (30,(.agg ⟨[(S []),(.slice none 0 0),(S []),(.int .i64 0)]⟩),4,64),
 (31,(.agg ⟨[(S []),(.slice none 0 0),(S []),(.int .i64 0)]⟩),4,64),
 (32,(.slice none 0 0),1,24),
 (33,(.slice none 0 0),1,24),
 (34,(.int .i64 0),1,8),
 (37,(.slice none 0 0),1,24),
 (38,(.agg ⟨[(S []),(.int .i64 0),(.int .i64 0),(.bool false),(.slice none 0 0),(.slice none 0 0),(.slice none 0 0)]⟩),7,112),
 (39,(.agg ⟨[(S []),(.int .i64 0),(.int .i64 0),(.bool false),(.slice none 0 0),(.slice none 0 0),(.slice none 0 0)]⟩),7,112),
 (40,(.slice none 0 0),1,24),
 (44,(.agg ⟨[(.slice none 0 0),(.int .i64 0),(.float .f64 0)]⟩),3,40),
 (45,(.agg ⟨[(.slice none 0 0),(.int .i64 0),(.float .f64 0)]⟩),3,40),
 (48,(.agg ⟨[(S []),(.int .i64 0),(.int .i64 0),(.bool false),(.slice none 0 0),(.slice none 0 0),(.slice none 0 0),(.slice none 0 0),(.int .i64 0),(.slice none 0 0),(.slice none 0 0)]⟩),11,192),
 (49,(.agg ⟨[(S []),(.int .i64 0),(.int .i64 0),(.bool false),(.slice none 0 0),(.slice none 0 0),(.slice none 0 0),(.slice none 0 0),(.int .i64 0),(.slice none 0 0),(.slice none 0 0)]⟩),11,192),
 (61,(.slice none 0 0),1,24),
 (62,(.agg ⟨[(.int .i64 0),(.slice none 0 0),(S []),(S []),(.int .i64 0),(S []),(S [])]⟩),7,104),
 (63,(.agg ⟨[(.int .i64 0),(.slice none 0 0),(S []),(S []),(.int .i64 0),(S []),(S [])]⟩),7,104),
 (69,(.agg ⟨[(.slice none 0 0),(.slice none 0 0),(.slice none 0 0),(.int .i64 0)]⟩),4,80),
 (70,(.agg ⟨[(.slice none 0 0),(.slice none 0 0),(.slice none 0 0),(.int .i64 0)]⟩),4,80),
 (77,(.agg ⟨[(S []),(S [])]⟩),2,32),
 (78,(.agg ⟨[(S []),(S [])]⟩),2,32),
 (82,(.slice none 0 0),1,24),
 (88,(.slice none 0 0),1,24),
 (93,(.agg ⟨[(.int .i64 0),(.int .i64 0),(.int .i64 0),(.int .i64 0)]⟩),4,32),
 (100,(.int .u64 0),1,8),
 (107,(.pointer none),1,8),
 (111,(.pointer none),1,8),
 (122,.nilFunc,1,8),
 (134,(.pointer none),1,8),
 (135,(.map none),1,8),
 (136,(.agg ⟨[(.slice none 0 0),(.map none)]⟩),2,32),
 (137,(.agg ⟨[(.slice none 0 0),(.map none)]⟩),2,32),
 (139,.nilFunc,1,8),
 (142,(.agg ⟨[(S []),(S []),(S [])]⟩),3,48),
 (143,(.agg ⟨[(S []),(S []),(S [])]⟩),3,48),
 (152,(.agg ⟨[(S []),(S []),(S []),(S [])]⟩),4,64),
 (164,(.pointer none),1,8),
 (167,(.pointer none),1,8),
 (168,(.slice none 0 0),1,24),
 (169,(.agg ⟨[(.slice none 0 0),(.bool false)]⟩),2,32),
 (170,(.agg ⟨[(.slice none 0 0),(.bool false)]⟩),2,32),
 (173,(.agg ⟨[(.int .i64 0),(.pointer none),(.int .i64 0),(.int .i64 0),(.int .i64 0)]⟩),5,40),
 (174,(.agg ⟨[(.int .i64 0),(.pointer none),(.int .i64 0),(.int .i64 0),(.int .i64 0)]⟩),5,40),
 (175,(.agg ⟨[(.slice none 0 0),(.int .i64 0)]⟩),2,32),
 (176,(.agg ⟨[(.slice none 0 0),(.int .i64 0)]⟩),2,32),
 (178,(.pointer none),1,8),
 (179,(.agg ⟨[(S []),(.int .i64 0),(.int .i64 0),(.int .i64 0)]⟩),4,40),
 (180,(.agg ⟨[(S []),(.int .i64 0),(.int .i64 0),(.int .i64 0)]⟩),4,40),
 (181,(.slice none 0 0),1,24),
 (182,(.agg ⟨[(.slice none 0 0),(.bool false)]⟩),2,32),
 (183,(.agg ⟨[(.slice none 0 0),(.bool false)]⟩),2,32),
 (184,(.slice none 0 0),1,24),
 (185,(.agg ⟨[(.int .i64 0),(.slice none 0 0),(.bool false),(.slice none 0 0),(.int .i64 0),(.int .i64 0),(.int .i64 0),(.bool false)]⟩),8,96),
 (186,(.agg ⟨[(.int .i64 0),(.slice none 0 0),(.bool false),(.slice none 0 0),(.int .i64 0),(.int .i64 0),(.int .i64 0),(.bool false)]⟩),8,96),
 (189,(.slice none 0 0),1,24),
 (190,(.agg ⟨[(.slice none 0 0),(.int .i64 0)]⟩),2,32),
 (191,(.agg ⟨[(.slice none 0 0),(.int .i64 0)]⟩),2,32),
 (193,(.agg ⟨[(.int .i64 0),(.int .i64 0),(.int .i64 0),(.slice none 0 0),(.bool false)]⟩),5,56),
 (194,(.agg ⟨[(.int .i64 0),(.int .i64 0),(.int .i64 0),(.slice none 0 0),(.bool false)]⟩),5,56),
 (208,(.agg ⟨[(.int .u8 0),(.int .u8 0)]⟩),2,2),
 (209,(.agg ⟨[(.int .u8 0),(.int .u8 0)]⟩),2,2),
 (210,(.agg ⟨[(.int .u8 0),(.int .u8 0),(.int .u8 0),(.int .u8 0),(.int .u8 0),(.int .u8 0),(.int .u8 0),(.int .u8 0),(.int .u8 0),(.int .u8 0),(.int .u8 0),(.int .u8 0),(.int .u8 0),(.int .u8 0),(.int .u8 0),(.int .u8 0),(.int .u8 0),(.int .u8 0),(.int .u8 0),(.int .u8 0),(.int .u8 0),(.int .u8 0),(.int .u8 0),(.int .u8 0),(.int .u8 0),(.int .u8 0),(.int .u8 0),(.int .u8 0),(.int .u8 0),(.int .u8 0),(.int .u8 0),(.int .u8 0)]⟩),32,32),
 (211,(.int .u64 0),1,8),
 (212,(.slice none 0 0),1,24),
 (230,(.pointer none),1,8),
 (231,(.agg ⟨[(.int .i64 0),(.int .i64 0)]⟩),2,16),
 (232,(.agg ⟨[(.int .i64 0),(.int .i64 0)]⟩),2,16),
 (233,(.pointer none),1,8),
 (234,(.agg ⟨[(S []),(.int .i64 0)]⟩),2,24),
 (235,(.agg ⟨[(S []),(.int .i64 0)]⟩),2,24),
 (239,(.agg ⟨[(S []),(S []),(S [])]⟩),3,48),
 (240,(.agg ⟨[(S []),(S []),(S [])]⟩),3,48),
 (252,(.slice none 0 0),1,24),
 (254,(.agg ⟨[(.slice none 0 0),(.int .i64 0)]⟩),2,32),
 (255,(.agg ⟨[(.slice none 0 0),(.int .i64 0)]⟩),2,32),
 (263,(.agg ⟨[(S []),(S []),(S []),(S []),(S [])]⟩),5,80),
 (264,(.pointer none),1,8),
 (265,(.agg ⟨[(S []),(.int .i64 0),(.int .i64 0)]⟩),3,32),
 (266,(.agg ⟨[(S []),(.int .i64 0),(.int .i64 0)]⟩),3,32),
 (267,(.agg ⟨[(.int .i64 0)]⟩),1,8),
 (268,(.agg ⟨[(.int .i64 0)]⟩),1,8),
 (271,(.slice none 0 0),1,24),
 (272,(.slice none 0 0),1,24),
 (273,(.agg ⟨[(.int .i64 0),(.slice none 0 0),(.bool false),(.int .i64 0),(.int .i64 0),(.int .i64 0),(.bool false),(.bool false),(.slice none 0 0)]⟩),9,96),
 (274,(.agg ⟨[(.int .i64 0),(.slice none 0 0),(.bool false),(.int .i64 0),(.int .i64 0),(.int .i64 0),(.bool false),(.bool false),(.slice none 0 0)]⟩),9,96),
 (279,(.agg ⟨[(.pointer none),(.slice none 0 0)]⟩),2,32),
 (280,.nilIface,1,16),
 (281,.nilIface,1,16),
 (288,(.agg ⟨[(.int .u8 0),(.int .u8 0),(.int .u8 0),(.int .u8 0),(.int .u8 0),(.int .u8 0),(.int .u8 0),(.int .u8 0),(.int .u8 0),(.int .u8 0),(.int .u8 0),(.int .u8 0),(.int .u8 0),(.int .u8 0),(.int .u8 0),(.int .u8 0),(.int .u8 0),(.int .u8 0),(.int .u8 0),(.int .u8 0)]⟩),20,20),
 (289,(.pointer none),1,8),
 (290,(.slice none 0 0),1,24),
 (292,(.agg ⟨[(.pointer none),(S []),(.slice none 0 0)]⟩),3,48),
 (305,(.int .i64 0),1,8),
 (327,(.agg ⟨[(.bool false),(.int .i64 0),(.int .i64 0),(.int .i64 0),(.int .i64 0),(.int .i64 0)]⟩),6,48),
 (328,(.agg ⟨[(.bool false),(.int .i64 0),(.int .i64 0),(.int .i64 0),(.int .i64 0),(.int .i64 0)]⟩),6,48),
 (329,(.slice none 0 0),1,24),
 (330,(.pointer none),1,8),
 (345,(.int .u64 0),1,8),
 (358,(.agg ⟨[(.int .i32 0),(.int .i32 0)]⟩),2,8),
 (361,(.agg ⟨[(.int .i64 0),(.int .i64 0),(.int .i64 0),(.int .i64 0),(.int .i64 0)]⟩),5,40),
 (388,(.slice none 0 0),1,24),
 (389,(.slice none 0 0),1,24)]
theorem infL_ok:AllI Tryz.prog infL:=by
 refine⟨?_,?_,?_,?_,?_,?_,?_,?_,?_,?_,?_,?_,?_,?_,?_,?_,?_,?_,?_,?_,?_,?_,?_,?_,?_,?_,?_,?_,?_,?_,?_,?_,?_,?_,?_,?_,?_,?_,?_,?_,?_,?_,?_,?_,?_,?_,?_,?_,?_,?_,?_,?_,?_,?_,?_,?_,?_,?_,?_,?_,?_,?_,?_,?_,?_,?_,?_,?_,?_,?_,?_,?_,?_,?_,?_,?_,?_,?_,?_,?_,?_,?_,?_,?_,?_,?_,?_,?_,?_,?_,?_,?_,?_,?_,?_,?_,?_,?_,?_,?_,?_,?_,?_,?_,?_,?_,?_,?_,?_,?_,?_,?_,?_,?_,trivial⟩<;>kernel_rfl
def tb:Tb Tryz.prog:=Tb.mk' tyL infL tyL_ok infL_ok
abbrev CP:=Callable Tryz.prog
theorem c2:CP 2:=⟨_,Tryz.func2,rfl,rfl⟩
theorem c3:CP 3:=⟨_,Tryz.func3,rfl,rfl⟩
theorem c4:CP 4:=⟨_,Tryz.func4,rfl,rfl⟩
theorem c5:CP 5:=⟨_,Tryz.func5,rfl,rfl⟩
theorem c6:CP 6:=⟨_,Tryz.func6,rfl,rfl⟩
theorem c11:CP 11:=⟨_,Tryz.func11,rfl,rfl⟩
theorem c12:CP 12:=⟨_,Tryz.func12,rfl,rfl⟩
theorem c16:CP 16:=⟨_,Tryz.func16,rfl,rfl⟩
theorem c28:CP 28:=⟨_,Tryz.func28,rfl,rfl⟩
theorem c29:CP 29:=⟨_,Tryz.func29,rfl,rfl⟩
theorem c30:CP 30:=⟨_,Tryz.func30,rfl,rfl⟩
theorem c31:CP 31:=⟨_,Tryz.func31,rfl,rfl⟩
theorem c32:CP 32:=⟨_,Tryz.func32,rfl,rfl⟩
theorem c33:CP 33:=⟨_,Tryz.func33,rfl,rfl⟩
theorem c34:CP 34:=⟨_,Tryz.func34,rfl,rfl⟩
theorem c35:CP 35:=⟨_,Tryz.func35,rfl,rfl⟩
theorem c36:CP 36:=⟨_,Tryz.func36,rfl,rfl⟩
theorem c47:CP 47:=⟨_,Tryz.func47,rfl,rfl⟩
theorem c52:CP 52:=⟨_,Tryz.func52,rfl,rfl⟩
theorem c55:CP 55:=⟨_,Tryz.func55,rfl,rfl⟩
theorem c56:CP 56:=⟨_,Tryz.func56,rfl,rfl⟩
theorem c65:CP 65:=⟨_,Tryz.func65,rfl,rfl⟩
theorem c66:CP 66:=⟨_,Tryz.func66,rfl,rfl⟩
theorem c67:CP 67:=⟨_,Tryz.func67,rfl,rfl⟩
theorem c68:CP 68:=⟨_,Tryz.func68,rfl,rfl⟩
theorem c69:CP 69:=⟨_,Tryz.func69,rfl,rfl⟩
theorem c70:CP 70:=⟨_,Tryz.func70,rfl,rfl⟩
theorem c71:CP 71:=⟨_,Tryz.func71,rfl,rfl⟩
theorem c72:CP 72:=⟨_,Tryz.func72,rfl,rfl⟩
theorem c73:CP 73:=⟨_,Tryz.func73,rfl,rfl⟩
theorem c77:CP 77:=⟨_,Tryz.func77,rfl,rfl⟩
theorem c78:CP 78:=⟨_,Tryz.func78,rfl,rfl⟩
theorem c79:CP 79:=⟨_,Tryz.func79,rfl,rfl⟩
theorem c80:CP 80:=⟨_,Tryz.func80,rfl,rfl⟩
theorem c83:CP 83:=⟨_,Tryz.func83,rfl,rfl⟩
theorem c85:CP 85:=⟨_,Tryz.func85,rfl,rfl⟩
theorem c88:CP 88:=⟨_,Tryz.func88,rfl,rfl⟩
theorem c95:CP 95:=⟨_,Tryz.func95,rfl,rfl⟩
theorem c97:CP 97:=⟨_,Tryz.func97,rfl,rfl⟩
theorem c98:CP 98:=⟨_,Tryz.func98,rfl,rfl⟩
theorem c110:CP 110:=⟨_,Tryz.func110,rfl,rfl⟩
theorem c111:CP 111:=⟨_,Tryz.func111,rfl,rfl⟩
theorem c113:CP 113:=⟨_,Tryz.func113,rfl,rfl⟩
theorem c115:CP 115:=⟨_,Tryz.func115,rfl,rfl⟩
theorem c122:CP 122:=⟨_,Tryz.func122,rfl,rfl⟩
theorem c125:CP 125:=⟨_,Tryz.func125,rfl,rfl⟩
theorem c126:CP 126:=⟨_,Tryz.func126,rfl,rfl⟩
theorem c127:CP 127:=⟨_,Tryz.func127,rfl,rfl⟩
theorem c128:CP 128:=⟨_,Tryz.func128,rfl,rfl⟩
theorem c129:CP 129:=⟨_,Tryz.func129,rfl,rfl⟩
theorem c130:CP 130:=⟨_,Tryz.func130,rfl,rfl⟩
theorem c131:CP 131:=⟨_,Tryz.func131,rfl,rfl⟩
theorem c132:CP 132:=⟨_,Tryz.func132,rfl,rfl⟩
theorem c133:CP 133:=⟨_,Tryz.func133,rfl,rfl⟩
theorem c134:CP 134:=⟨_,Tryz.func134,rfl,rfl⟩
theorem c135:CP 135:=⟨_,Tryz.func135,rfl,rfl⟩
theorem c136:CP 136:=⟨_,Tryz.func136,rfl,rfl⟩
theorem c137:CP 137:=⟨_,Tryz.func137,rfl,rfl⟩
theorem c138:CP 138:=⟨_,Tryz.func138,rfl,rfl⟩
theorem c139:CP 139:=⟨_,Tryz.func139,rfl,rfl⟩
theorem c140:CP 140:=⟨_,Tryz.func140,rfl,rfl⟩
theorem c141:CP 141:=⟨_,Tryz.func141,rfl,rfl⟩
theorem c142:CP 142:=⟨_,Tryz.func142,rfl,rfl⟩
theorem c143:CP 143:=⟨_,Tryz.func143,rfl,rfl⟩
theorem c144:CP 144:=⟨_,Tryz.func144,rfl,rfl⟩
theorem c145:CP 145:=⟨_,Tryz.func145,rfl,rfl⟩
theorem c146:CP 146:=⟨_,Tryz.func146,rfl,rfl⟩
theorem c147:CP 147:=⟨_,Tryz.func147,rfl,rfl⟩
theorem c148:CP 148:=⟨_,Tryz.func148,rfl,rfl⟩
theorem c151:CP 151:=⟨_,Tryz.func151,rfl,rfl⟩
theorem c157:CP 157:=⟨_,Tryz.func157,rfl,rfl⟩
theorem c159:CP 159:=⟨_,Tryz.func159,rfl,rfl⟩
theorem c185:CP 185:=⟨_,Tryz.func185,rfl,rfl⟩
theorem c186:CP 186:=⟨_,Tryz.func186,rfl,rfl⟩
theorem c187:CP 187:=⟨_,Tryz.func187,rfl,rfl⟩
theorem c199:CP 199:=⟨_,Tryz.func199,rfl,rfl⟩
theorem c200:CP 200:=⟨_,Tryz.func200,rfl,rfl⟩
theorem c201:CP 201:=⟨_,Tryz.func201,rfl,rfl⟩
theorem c202:CP 202:=⟨_,Tryz.func202,rfl,rfl⟩
theorem c203:CP 203:=⟨_,Tryz.func203,rfl,rfl⟩
theorem c204:CP 204:=⟨_,Tryz.func204,rfl,rfl⟩
theorem c205:CP 205:=⟨_,Tryz.func205,rfl,rfl⟩
theorem c206:CP 206:=⟨_,Tryz.func206,rfl,rfl⟩
theorem c207:CP 207:=⟨_,Tryz.func207,rfl,rfl⟩
theorem c208:CP 208:=⟨_,Tryz.func208,rfl,rfl⟩
theorem c209:CP 209:=⟨_,Tryz.func209,rfl,rfl⟩
theorem c210:CP 210:=⟨_,Tryz.func210,rfl,rfl⟩
theorem c211:CP 211:=⟨_,Tryz.func211,rfl,rfl⟩
theorem c212:CP 212:=⟨_,Tryz.func212,rfl,rfl⟩
theorem c213:CP 213:=⟨_,Tryz.func213,rfl,rfl⟩
theorem c214:CP 214:=⟨_,Tryz.func214,rfl,rfl⟩
theorem c215:CP 215:=⟨_,Tryz.func215,rfl,rfl⟩
theorem c216:CP 216:=⟨_,Tryz.func216,rfl,rfl⟩
theorem c217:CP 217:=⟨_,Tryz.func217,rfl,rfl⟩
theorem c220:CP 220:=⟨_,Tryz.func220,rfl,rfl⟩
theorem c223:CP 223:=⟨_,Tryz.func223,rfl,rfl⟩
theorem c224:CP 224:=⟨_,Tryz.func224,rfl,rfl⟩
theorem c254:CP 254:=⟨_,Tryz.func254,rfl,rfl⟩
theorem c255:CP 255:=⟨_,Tryz.func255,rfl,rfl⟩
theorem c256:CP 256:=⟨_,Tryz.func256,rfl,rfl⟩
theorem c257:CP 257:=⟨_,Tryz.func257,rfl,rfl⟩
theorem c258:CP 258:=⟨_,Tryz.func258,rfl,rfl⟩
theorem c259:CP 259:=⟨_,Tryz.func259,rfl,rfl⟩
theorem c260:CP 260:=⟨_,Tryz.func260,rfl,rfl⟩
theorem c262:CP 262:=⟨_,Tryz.func262,rfl,rfl⟩
theorem c264:CP 264:=⟨_,Tryz.func264,rfl,rfl⟩
theorem c265:CP 265:=⟨_,Tryz.func265,rfl,rfl⟩
theorem c266:CP 266:=⟨_,Tryz.func266,rfl,rfl⟩
theorem c267:CP 267:=⟨_,Tryz.func267,rfl,rfl⟩
theorem c282:CP 282:=⟨_,Tryz.func282,rfl,rfl⟩
theorem c297:CP 297:=⟨_,Tryz.func297,rfl,rfl⟩
theorem c298:CP 298:=⟨_,Tryz.func298,rfl,rfl⟩
theorem c299:CP 299:=⟨_,Tryz.func299,rfl,rfl⟩
theorem c300:CP 300:=⟨_,Tryz.func300,rfl,rfl⟩
theorem c301:CP 301:=⟨_,Tryz.func301,rfl,rfl⟩
theorem c302:CP 302:=⟨_,Tryz.func302,rfl,rfl⟩
theorem c303:CP 303:=⟨_,Tryz.func303,rfl,rfl⟩
theorem c311:CP 311:=⟨_,Tryz.func311,rfl,rfl⟩
theorem c312:CP 312:=⟨_,Tryz.func312,rfl,rfl⟩
theorem c327:CP 327:=⟨_,Tryz.func327,rfl,rfl⟩
theorem c328:CP 328:=⟨_,Tryz.func328,rfl,rfl⟩
theorem c329:CP 329:=⟨_,Tryz.func329,rfl,rfl⟩
theorem c330:CP 330:=⟨_,Tryz.func330,rfl,rfl⟩
theorem c331:CP 331:=⟨_,Tryz.func331,rfl,rfl⟩
theorem c341:CP 341:=⟨_,Tryz.func341,rfl,rfl⟩
theorem c342:CP 342:=⟨_,Tryz.func342,rfl,rfl⟩
theorem c343:CP 343:=⟨_,Tryz.func343,rfl,rfl⟩
theorem c344:CP 344:=⟨_,Tryz.func344,rfl,rfl⟩
theorem c345:CP 345:=⟨_,Tryz.func345,rfl,rfl⟩
theorem c355:CP 355:=⟨_,Tryz.func355,rfl,rfl⟩
theorem c356:CP 356:=⟨_,Tryz.func356,rfl,rfl⟩
theorem c358:CP 358:=⟨_,Tryz.func358,rfl,rfl⟩
theorem mixed:Tryz.prog.follows .mixedOrders=true:=by kernel_rfl
end Go.Proofs.YtmkckngecjpklaaGreatDoor
end
section
open Go Go.Vg Go.RowKit Go.Proofs Go.Proofs.YtmkckngecjpklaaGreatDoor
namespace Go.Proofs.YtmkckngecjpklaaGreatDoor.Lab
section
def lett (c:UInt8):Bool:=decide ((97:Int)≤c.toNat)&&decide ((c.toNat:Int)≤122)||decide ((65:Int)≤c.toNat)&&decide ((c.toNat:Int)≤90)||decide ((c.toNat:Int)=95)
def digitC (c:UInt8):Bool:=decide ((48:Int)≤c.toNat)&&decide ((c.toNat:Int)≤57)
def namedC (colons:Bool)(i:Nat)(c:UInt8):Bool:=lett c||decide ((c.toNat:Int)=58)&&colons||digitC c&&decide ((0:Int)<i)
def namedTo (colons:Bool)(s:List UInt8)(n:Nat):Prop:=∀ i,i<n→namedC colons i (s.getD i 0)=true
instance (colons:Bool) (s:List UInt8) (n:Nat):Decidable (namedTo colons s n):=by unfold namedTo;infer_instance
def namedB (colons:Bool)(s:List UInt8):Bool:=decide (namedTo colons s s.length)&&(!decide (s=[])&&decide ((s.length:Int)≤1024))
theorem namedTo_succ {colons:Bool}{s:List UInt8}{n:Nat}(h:namedTo colons s n)(hc:namedC colons n (s.getD n 0)=true):namedTo colons s (n+1):=by
 intro i hi;by_cases e:i=n
 ·subst e;exact hc
 ·exact h i (by omega)
theorem namedB_no {colons:Bool}{s:List UInt8}{n:Nat}(hn:n<s.length)(hc:namedC colons n (s.getD n 0)=false):namedB colons s=false:=by
 have:¬ namedTo colons s s.length:=fun h=>by rw[h n hn]at hc;cases hc
 simp[namedB,this]
theorem namedB_end {colons:Bool}{s:List UInt8}(h:namedTo colons s s.length):namedB colons s=(!decide (s=[])&&decide ((s.length:Int)≤1024)):=by
 simp[namedB,h]
theorem named_ok (s:List UInt8)(b:Bool)(w:World)(hs:s.length≤9223372036854775807) :
  Ret Tryz.prog 129 ⟨[S s,.bool b]⟩ w fun v w'=>v=.bool (namedB b s)∧w'=w:=by
 refine ret_of_G Tryz.func129 rfl Tryz.ntmps129 rfl ?_;simp only[argEnv];refine rg ?_;refine(G.loop (fun k:Nat=>[(0,none,S s),(1,none,.bool b),(8,none,.int .i64 s.length),(9,none,.int .i64 k)]) (fun k w'=>w'=w∧k≤s.length∧namedTo b s k) (fun k=>s.length-k) 0 sU ⟨rfl,by omega,fun i hi=>by omega⟩ ?_)
 rintro k w ⟨rfl,hk,hto⟩;refine rg ?_;refine cD ?_ ?_<;>intro hc
 ·have hlt:k<s.length:=by omega
  refine rg ?_;refine GL.cons (Step.indexS tb k rfl (oV rfl) (oV rfl) rfl (fun _=>⟨by omega,by omega⟩) rfl ?_)
  refine rg ?_;refine G.sub (e':=[(15,none,.bool (lett (s.getD k 0))),(6,none,U (s.getD k 0)),(5,none,.int .i64 k),(0,none,S s),(1,none,.bool b),(8,none,.int .i64 s.length),(9,none,.int .i64 k)]) sU ?_;have next:namedC b k (s.getD k 0)=true→∃ x',namedTo b s x'∧x'=k+1:=fun h=>⟨k+1,namedTo_succ hto h,rfl⟩
  refine cD ?_ ?_<;>intro hc
  ·refine rg ?_;refine GL.cons (Step.arith rfl (oV rfl) (oV rfl) (wrap_i64 (by omega) (by omega)) rfl ?_)
   refine rg ?_;refine G.lp (k+1) sU ⟨rfl,by omega,namedTo_succ hto (by simp only[namedC,hc];simp)⟩ (by omega)
  ·refine rg ?_;refine cD ?_ ?_<;>intro hc
   ·refine rg ?_;refine GL.cons (Step.arith rfl (oV rfl) (oV rfl) (wrap_i64 (by omega) (by omega)) rfl ?_)
    refine rg ?_;refine G.lp (k+1) sU ⟨rfl,by omega,namedTo_succ hto (by simp only[namedC,hc];simp)⟩ (by omega)
   ·refine rg ?_;have hc2:=hc;refine cD ?_ ?_<;>intro hc
    ·refine rg ?_;refine GL.cons (Step.arith rfl (oV rfl) (oV rfl) (wrap_i64 (by omega) (by omega)) rfl ?_)
     refine rg ?_;refine G.lp (k+1) sU ⟨rfl,by omega,namedTo_succ hto (by simp only[namedC,digitC,hc];simp)⟩ (by omega)
    ·refine rg ?_;refine G.ret1 rfl rfl rfl rfl ?_;refine⟨?_,rfl⟩;rw[namedB_no hlt (by simp only[namedC,digitC, *];rfl)]
 ·refine rg ?_;refine G.ret1 rfl rfl rfl rfl ?_;obtain rfl:k=s.length:=by omega
  exact⟨by rw[namedB_end hto],rfl⟩
def wordC (colons:Bool)(i:Nat)(c:UInt8):Bool:=lett c||digitC c&&decide ((0:Int)<i)||decide ((c.toNat:Int)=58)&&colons
theorem wordC_eq (colons:Bool)(i:Nat)(c:UInt8):wordC colons i c=namedC colons i c:=by
 unfold wordC namedC;cases lett c<;>cases digitC c<;>cases (decide ((0:Int)<i))<;>cases (decide ((c.toNat:Int)=58))<;>cases colons<;>rfl
theorem word_ok (s:List UInt8)(b:Bool)(w:World)(hs:s.length≤9223372036854775807) :
  Ret Tryz.prog 133 ⟨[S s,.bool b]⟩ w fun v w'=>v=.bool (namedB b s)∧w'=w:=by
 refine ret_of_G Tryz.func133 rfl Tryz.ntmps133 rfl ?_;simp only[argEnv];refine rg ?_;refine(G.loop (fun k:Nat=>[(0,none,S s),(1,none,.bool b),(5,none,.int .i64 k)]) (fun k w'=>w'=w∧k≤s.length∧namedTo b s k) (fun k=>s.length-k) 0 sU ⟨rfl,by omega,fun i hi=>by omega⟩ ?_)
 rintro k w ⟨rfl,hk,hto⟩;refine rg ?_;refine cD ?_ ?_<;>intro hc
 ·have hlt:k<s.length:=by omega
  refine rg ?_;refine GL.cons (Step.indexS tb k rfl (oV rfl) (oV rfl) rfl (fun _=>⟨by omega,by omega⟩) rfl ?_)
  refine rg ?_;refine G.sub (e':=[(55,none,.bool (!wordC b k (s.getD k 0))),(0,none,S s),(0+1,none,.bool b),(5,none,.int .i64 k)]) sU ?_;rw[wordC_eq];refine cD ?_ ?_<;>intro hc
  ·refine rg ?_;refine G.ret1 rfl rfl rfl rfl ?_;refine⟨?_,rfl⟩;rw[namedB_no hlt (by simpa using hc)]
  ·refine rg ?_;refine GL.cons (Step.arith rfl (oV rfl) (oV rfl) (wrap_i64 (by omega) (by omega)) rfl ?_)
   refine rg ?_;refine G.lp (k+1) sU ⟨rfl,by omega,namedTo_succ hto (by simpa using hc)⟩ (by omega)
 ·refine rg ?_;refine G.ret1 rfl rfl rfl rfl ?_;obtain rfl:k=s.length:=by omega
  refine⟨?_,rfl⟩;rw[namedB_end hto];cases s with
  |nil=>simp
  |cons a r=>simp;omega
theorem rightName_ok (s:List UInt8)(w:World)(hs:s.length≤9223372036854775807) :
  Ret Tryz.prog 67 ⟨[S s]⟩ w fun v w'=>v=.bool (namedB false s)∧Ext w w':=by
 refine ret_of_G Tryz.func67 rfl Tryz.ntmps67 rfl ?_;simp only[argEnv];refine rg ?_;refine GL.cons (Step.callF rfl rfl rfl c129 rfl (named_ok s false w hs) ?_);rintro _ _ ⟨rfl,rfl⟩;refine rg ?_;refine G.ret1 rfl rfl rfl rfl ?_;exact⟨rfl,Ext.refl _⟩
theorem rightMetric_ok (s:List UInt8)(w:World)(hs:s.length≤9223372036854775807) :
  Ret Tryz.prog 80 ⟨[S s]⟩ w fun v w'=>v=.bool (namedB true s)∧Ext w w':=by
 refine ret_of_G Tryz.func80 rfl Tryz.ntmps80 rfl ?_;simp only[argEnv];refine rg ?_;refine GL.cons (Step.callF rfl rfl rfl c129 rfl (named_ok s true w hs) ?_);rintro _ _ ⟨rfl,rfl⟩;refine rg ?_;refine G.ret1 rfl rfl rfl rfl ?_;exact⟨rfl,Ext.refl _⟩
theorem refName_ok (s:List UInt8)(w:World)(hs:s.length≤9223372036854775807) :
  Ret Tryz.prog 69 ⟨[S s]⟩ w fun v w'=>v=.bool (namedB false s)∧Ext w w':=by
 refine ret_of_G Tryz.func69 rfl Tryz.ntmps69 rfl ?_;simp only[argEnv];refine rg ?_;refine GL.cons (Step.callF rfl rfl rfl c133 rfl (word_ok s false w hs) ?_);rintro _ _ ⟨rfl,rfl⟩;refine rg ?_;refine G.ret1 rfl rfl rfl rfl ?_;exact⟨rfl,Ext.refl _⟩
theorem refMetric_ok (s:List UInt8)(w:World)(hs:s.length≤9223372036854775807) :
  Ret Tryz.prog 148 ⟨[S s]⟩ w fun v w'=>v=.bool (namedB true s)∧Ext w w':=by
 refine ret_of_G Tryz.func148 rfl Tryz.ntmps148 rfl ?_;simp only[argEnv];refine rg ?_;refine GL.cons (Step.callF rfl rfl rfl c133 rfl (word_ok s true w hs) ?_);rintro _ _ ⟨rfl,rfl⟩;refine rg ?_;refine G.ret1 rfl rfl rfl rfl ?_;exact⟨rfl,Ext.refl _⟩
end
section
abbrev Lab:=List UInt8×List UInt8
def labC (x:Lab):List Value:=[S x.1,S x.2]
abbrev Labs (w:World)(v:Value)(ls:List Lab):Prop:=Sli w v 2 (ls.map labC)
theorem Labs.get {ls:List Lab}{k:Nat}(h:k<ls.length):(ls.map labC)[k]?=some (labC ls[k]):=by simp[h]
theorem Labs.bound {w:World}{v:Value}{ls:List Lab}(h:Labs w v ls):ls.length≤9223372036854775807:=by have:=Sli.bound h;simpa using this
abbrev Mat:=Int×List UInt8×List UInt8
def isB (g:List UInt8→List UInt8)(m:Mat):Bool:=if m.1=1 then decide (g m.2.1=m.2.2)else if m.1=2 then !decide (g m.2.1=m.2.2)else false
def hasL (ls:List Lab)(name:List UInt8):Bool:=ls.any fun x=>decide (x.1=name)
theorem has_ok (v:Value)(ls:List Lab)(name:List UInt8)(w:World)(hv:Labs w v ls) :
  Ret Tryz.prog 97 ⟨[v,S name]⟩ w fun r w'=>r=.bool (hasL ls name)∧w'=w:=by
 have hbd:=Labs.bound hv;refine ret_of_G Tryz.func97 rfl Tryz.ntmps97 rfl ?_;simp only[argEnv];refine rg ?_;refine(G.loop (fun k:Nat=>[(0,none,v),(0+1,none,S name),(5,none,.int .i64 k)]) (fun k w'=>w'=w∧k≤ls.length∧hasL (ls.take k) name=false) (fun k=>ls.length-k) 0 sU ⟨rfl,by omega,rfl⟩ ?_)
 rintro k w ⟨rfl,hk,hto⟩;refine rg ?_;refine GL.cons (Step.lenV tb rfl (oV rfl) rfl (fun _=>⟨_,hv⟩) rfl ?_);refine rg ?_;simp only[lMa];refine cD ?_ ?_<;>intro hc
 ·have hlt:k<ls.length:=by omega
  refine rg ?_;refine GL.cons (Step.indexAddr tb k rfl (oV rfl) (oV rfl) rfl rfl (fun _=>⟨_,hv⟩) (fun _=>⟨by omega,by simpa using hlt⟩) rfl ?_)
  refine GL.cons (Step.fieldAddr tb rfl (oV rfl) rfl rfl rfl rfl (fun _=>(hv.elem (Labs.get hlt)).ptr) rfl ?_);refine GL.cons (Step.load1 tb rfl (oV rfl) rfl rfl (fun _=>(hv.elem (Labs.get hlt)).cell (i:=0) rfl) rfl ?_);refine rg ?_;have ht:ls.take (k+1)=ls.take k++[ls[k]]:=by rw[List.take_succ_eq_append_getElem hlt]
  refine cD ?_ ?_<;>intro hc
  ·refine rg ?_;refine G.ret1 rfl rfl rfl rfl ?_;refine⟨?_,rfl⟩;have:hasL ls name=true:=List.any_eq_true.2 ⟨ls[k],List.getElem_mem hlt,by simpa using hc⟩
   rw[this]
  ·refine rg ?_;refine GL.cons (Step.arith rfl (oV rfl) (oV rfl) (wrap_i64 (by omega) (by omega)) rfl ?_)
   refine rg ?_;refine G.lp (k+1) sU ⟨rfl,by omega,?_⟩ (by omega)
   rw[ht];simp only[hasL,List.any_append,List.any_cons,List.any_nil,Bool.or_false,Bool.or_eq_false_iff];exact⟨hto,by simpa using hc⟩
 ·refine rg ?_;refine G.ret1 rfl rfl rfl rfl ?_;refine⟨?_,rfl⟩;obtain rfl:k=ls.length:=by omega
  rw[List.take_length]at hto;rw[hto]
theorem drop_cons {α:Type}{l:List α}{k:Nat}(h:k<l.length):l.drop k=l[k]::l.drop (k+1):=List.drop_eq_getElem_cons h
def getL:List Lab→List UInt8→List UInt8
 |[],_=>[]
 |x::r,name=>if x.1=name then x.2 else getL r name
theorem refGet_ok (v:Value)(ls:List Lab)(name:List UInt8)(w:World)(hv:Labs w v ls) :
  Ret Tryz.prog 11 ⟨[v,S name]⟩ w fun r w'=>r=S (getL ls name)∧Ext w w':=by
 have hbd:=Labs.bound hv;refine ret_of_G Tryz.func11 rfl Tryz.ntmps11 rfl ?_;simp only[argEnv];refine rg ?_;refine(G.loop (fun k:Nat=>[(0,none,v),(0+1,none,S name),(5,none,.int .i64 k)]) (fun k w'=>w'=w∧k≤ls.length∧getL (ls.drop k) name=getL ls name) (fun k=>ls.length-k) 0 sU ⟨rfl,by omega,rfl⟩ ?_)
 rintro k w ⟨rfl,hk,hto⟩;refine rg ?_;refine GL.cons (Step.lenV tb rfl (oV rfl) rfl (fun _=>⟨_,hv⟩) rfl ?_);refine rg ?_;simp only[lMa];refine cD ?_ ?_<;>intro hc
 ·have hlt:k<ls.length:=by omega
  rw[drop_cons hlt]at hto;refine rg ?_;refine GL.cons (Step.indexAddr tb k rfl (oV rfl) (oV rfl) rfl rfl (fun _=>⟨_,hv⟩) (fun _=>⟨by omega,by simpa using hlt⟩) rfl ?_)
  refine GL.cons (Step.fieldAddr tb rfl (oV rfl) rfl rfl rfl rfl (fun _=>(hv.elem (Labs.get hlt)).ptr) rfl ?_);refine GL.cons (Step.load1 tb rfl (oV rfl) rfl rfl (fun _=>(hv.elem (Labs.get hlt)).cell (i:=0) rfl) rfl ?_);refine rg ?_;refine cD ?_ ?_<;>intro hc
  ·refine rg ?_;refine GL.cons (Step.indexAddr tb k rfl (oV rfl) (oV rfl) rfl rfl (fun _=>⟨_,hv⟩) (fun _=>⟨by omega,by simpa using hlt⟩) rfl ?_)
   refine GL.cons (Step.fieldAddr tb rfl (oV rfl) rfl rfl rfl rfl (fun _=>(hv.elem (Labs.get hlt)).ptr) rfl ?_);refine GL.cons (Step.load1 tb rfl (oV rfl) rfl rfl (fun _=>(hv.elem (Labs.get hlt)).cell (i:=1) rfl) rfl ?_);refine rg ?_;refine G.ret1 rfl rfl rfl rfl ?_;refine⟨?_,Ext.refl _⟩;rw[←hto];simp only[getL];rw[if_pos hc]
  ·refine rg ?_;refine GL.cons (Step.arith rfl (oV rfl) (oV rfl) (wrap_i64 (by omega) (by omega)) rfl ?_)
   refine rg ?_;refine G.lp (k+1) sU ⟨rfl,by omega,?_⟩ (by omega)
   rw[←hto];simp only[getL];rw[if_neg hc]
 ·refine rg ?_;refine G.ret1 rfl rfl rfl rfl ?_;refine⟨?_,Ext.refl _⟩;obtain rfl:k=ls.length:=by omega
  rw[List.drop_length]at hto;rw[←hto];rfl
end
section
theorem all_ok (v:Value)(ls:List Lab)(w:World)(hv:Labs w v ls) :
  Ret Tryz.prog 77 ⟨[v]⟩ w fun r w'=>∃ b,r=.func (.func 151) #[] ⟨[ptr b]⟩∧w.heap.size≤b∧Bx w' b [v]∧Ext w w':=by
 refine ret_of_G Tryz.func77 rfl Tryz.ntmps77 rfl ?_;unfold argEnv argEnv;refine rg ?_;refine GL.cons (Step.box rfl (oV rfl) (hv.cells) rfl ?_);intro w1 hb hsz hx;refine rg ?_;refine G.ret1 rfl rfl rfl rfl ?_;exact⟨_,rfl,Nat.le_refl _,hb,hx⟩
theorem all1_ok (v:Value)(ls:List Lab)(b:Nat):IterOk Tryz.prog 151 [ptr b] (ls.map labC) (fun W=>CellAt W (ptr b) v∧Labs W v ls):=by
 intro l I St w hD hI hSt h0 hY;refine ret_of_G Tryz.func151 rfl Tryz.ntmps151 rfl ?_;unfold argEnv argEnv argEnv;have h0':=hD 0 w h0;refine rg ?_;refine GL.cons (Step.load1 tb rfl (oV rfl) rfl rfl (fun _=>h0'.1) rfl ?_);refine GL.cons (Step.lenV tb rfl (oV rfl) rfl (fun _=>⟨_,h0'.2⟩) rfl ?_);refine rg ?_;refine(G.loop (fun k:Nat=>[(0,none,yieldV l),(5,none,v),(6,none,.int .i64 (ls.map labC).length),(7,none,.int .i64 k)]) (fun k w'=>k≤ls.length∧I k w') (fun k=>ls.length-k) 0 sU ⟨by omega,h0⟩ ?_)
 rintro k w ⟨hk,hIk⟩;refine rg ?_;simp only[lMa];refine cD ?_ ?_<;>intro hc
 ·have hlt:k<ls.length:=by omega
  have hget:(ls.map labC)[k]?=some (labC ls[k]):=by simp[hlt]
  have hL:=(hD k w hIk).2;have hbd:=hL.bound;refine rg ?_;refine GL.cons (Step.indexAddr tb k rfl (oV rfl) (oV rfl) rfl rfl (fun _=>⟨_,hL⟩) (fun _=>⟨by omega,by simpa using hlt⟩) rfl ?_)
  refine GL.cons (Step.loadA (us:=labC ls[k]) tb rfl (oV rfl) rfl rfl rfl (fun _=>hL.elem hget) (fun _=>rfl) rfl ?_);refine rg ?_;refine GL.cons (Step.alloc tb rfl rfl rfl rfl ?_);intro w1 hb1 hs1 hx1;refine GL.cons (Step.store0 (vs:=labC ls[k]) tb rfl (oV rfl) (oV rfl) rfl rfl rfl (by simp[Value.oneCell',S,labC]) hb1 rfl ?_)
  intro w2 hb2 hw2;refine rg ?_;refine GL.cons (Step.fieldAddr tb rfl (oV rfl) rfl rfl rfl rfl (fun _=>ptr_ptr _) rfl ?_);refine GL.cons (Step.load1 tb rfl (oV rfl) rfl rfl (fun _=>hb2.cells.cell (i:=0) rfl) rfl ?_);refine GL.cons (Step.fieldAddr tb rfl (oV rfl) rfl rfl rfl rfl (fun _=>ptr_ptr _) rfl ?_);refine GL.cons (Step.load1 tb rfl (oV rfl) rfl rfl (fun _=>hb2.cells.cell (i:=1) rfl) rfl ?_);have hext:Ext w w2:=Below.wr hx1 hw2 (Nat.le_refl _);refine GL.cons (Step.yield rfl (oV rfl) rfl rfl rfl (hY k _ w2 hget (hI _ _ _ hIk hext)) ?_);intro bb w3 hR;cases bb with
  |true =>
   refine rg ?_;refine GL.cons (Step.arith rfl (oV rfl) (oV rfl) (wrap_i64 (by omega) (by omega)) rfl ?_)
   refine rg ?_;exact G.lp (k+1) sU ⟨by omega,hR⟩ (by omega)
  |false =>
   refine rg ?_;exact G.ret0 rfl rfl rfl (.inr hR)
 ·refine rg ?_;obtain rfl:k=ls.length:=by omega
  exact G.end0 rfl rfl rfl (.inl (by simpa using hIk))
theorem get_ok (v:Value)(ls:List Lab)(name:List UInt8)(w:World)(hv:Labs w v ls) :
  Ret Tryz.prog 78 ⟨[v,S name]⟩ w fun r w'=>r=S (getL ls name)∧Ext w w':=by
 refine ret_of_GM Tryz.func78 rfl Tryz.ntmps78 rfl ?_;unfold argEnv argEnv argEnv;refine rg ?_;refine GL.cons (Step.box rfl (oV rfl) (rfl) rfl ?_);intro w1 hb1 hs1 hx1;refine GL.cons (Step.alloc tb rfl rfl rfl rfl ?_);intro w2 hb2 hs2 hx2;refine rg ?_;refine GL.cons (Step.callF rfl rfl rfl c77 rfl (all_ok v ls w2 (hv.to (hx1.trans hx2))) ?_);rintro r w3 ⟨b,rfl,hb,hbx,hx3⟩;have hb2':=hb2.to hx3;have hb1':=(hb1.to hx2).to hx3;have hv3:=hv.to ((hx1.trans hx2).trans hx3);have hx:Ext w w3:=(hx1.trans hx2).trans hx3;refine rg ?_;refine G.rangeFunc rfl rfl c151 (all1_ok v ls b) rfl rfl (by intro x hx;obtain⟨y,_,rfl⟩:=List.mem_map.1 hx;rfl)
  (fun i W=>Ext w3 W∧getL (ls.drop i) name=getL ls name) (fun c W=>c=.ret∧Bx W w1.heap.size [S (getL ls name)]∧Below w.heap.size w W) ?_ ?_ ?_ ?_ ?_ ?_ ?_
 ·rintro l hl i W W' ⟨h1,h2⟩ hk;exact⟨Below.kept h1 hk hl h1.size,h2⟩
 ·rintro l hl c W W' ⟨h1,h2,h3⟩ hk;exact⟨h1,h2.kept hk,Below.kept h3 hk (by have:=hx.size;omega) h3.size⟩
 ·rintro i W ⟨h1,_⟩;exact⟨(hbx.to h1).cells.one,hv3.to h1⟩
 ·exact fun w' h=>⟨h,rfl⟩
 ·rintro l r rc i x W hl hlr hxi ⟨h1,h2⟩ hLp;simp only[List.getElem?_map,Option.map_eq_some_iff]at hxi;obtain⟨y,hy,rfl⟩:=hxi;refine rg ?_;refine G.beg rfl rfl rfl hLp hlr ?_;intro W2 hk hLp2 hsz;have h1':Ext w3 W2:=Below.kept h1 hk hl h1.size;have hbn:=hb1'.to h1';have hbr:=hb2'.to h1';refine rg ?_;refine GL.cons (Step.load1 tb rfl (oV rfl) rfl rfl (fun _=>hbn.cells.one) rfl ?_);refine rg ?_;have hd:ls.drop i=y::ls.drop (i+1):=by
   have:=List.getElem?_eq_some_iff.1 hy;obtain⟨hi,rfl⟩:=this;exact List.drop_eq_getElem_cons hi
  have hg:getL ls name=if y.1=name then y.2 else getL (ls.drop (i+1)) name:=by rw[←h2,hd];rfl
  refine cD ?_ ?_<;>intro hc
  ·refine rg ?_;refine GL.cons (Step.store0 tb rfl (oV rfl) (oV rfl) rfl (rfl) rfl (by simp[Value.oneCell',S]) hbr rfl ?_)
   intro W3 hb3 hw3;refine rg ?_;refine G.ret fun t _=>⟨hLp2.wr hbr hw3,rfl,?_,?_⟩
   ·rw[hg,if_pos hc];exact hb3
   ·exact((hx.trans h1').wr hw3 (by have:=hx1.size;omega))
  ·refine rg ?_;exact G.nil fun t _=>⟨hLp2,h1',by rw[hg,if_neg hc]⟩
 ·rintro r W hr ⟨h1,h2⟩ hD;have hbr:=hb2'.to h1;refine rg ?_;refine GL.cons (Step.store0 tb rfl (oV rfl) (oV rfl) rfl (rfl) rfl (by simp[Value.oneCell']) hbr rfl ?_)
  intro W3 hb3 hw3;have hD3:=hD.wr hbr hw3;refine rg ?_;refine G.retM rfl rfl hD3 fun t ht=>⟨_,resC1 ht rfl rfl (tb.ok _ _ rfl) rfl (hb3.out hD3).cells.one,?_,?_⟩
  ·rw[←h2,lMa,List.drop_length];rfl
  ·exact((hx.trans h1).wr hw3 (by have:=hx1.size;omega)).wr (outW_wr r _) (by have:=hx.size;omega)
 ·rintro r c W hr ⟨rfl,hb,hB⟩ hD;refine G.retM rfl rfl hD fun t ht=>⟨_,resC1 ht rfl rfl (tb.ok _ _ rfl) rfl (hb.out hD).cells.one,rfl,?_⟩;exact hB.wr (outW_wr r _) (by have:=hx.size;omega)
end
section
def lead (b:Int):Option (Nat×Int×Int) :=
 if 240≤b∧b<248 then some (4,b-240,65536)else if 224≤b∧b<240 then some (3,b-224,2048)else if 192≤b∧b<224 then some (2,b-192,128)
 else if 128≤b then none else some (1,b,0)
def byteI (s:List UInt8)(i:Nat):Int:=((s.getD i 0).toNat:Int)
theorem byteI_bd (s:List UInt8)(i:Nat):0≤byteI s i∧byteI s i<256:=by
 have:=(s.getD i 0).toNat_lt;unfold byteI;omega
def contTo (s:List UInt8)(i:Nat)(c:Int):Nat→Option Int
 |0=>some c
 |j+1=>match contTo s i c j with
  |none=>none
  |some c=>if byteI s (i+(j+1))<128∨192≤byteI s (i+(j+1))then none else some (64*c+byteI s (i+(j+1))-128)
def badRune (c least:Int):Bool:=decide (c<least)||decide (1114111<c)||decide (55296≤c)&&decide (c≤57343)
def u8n (s:List UInt8)(i:Nat)(n:Nat)(c least:Int):Nat :=
 if s.length<i+n then 0 else match contTo s i c (n-1)with
  |none=>0
  |some c=>if badRune c least=true then 0 else n
def u8len (s:List UInt8)(i:Nat):Nat :=
 match lead (byteI s i)with
 |none=>0
 |some (n,c,least)=>u8n s i n c least
theorem contTo_none {s:List UInt8}{i:Nat}{c:Int}{j:Nat}(h:contTo s i c j=none):∀ m,j≤m→contTo s i c m=none:=by
 intro m
 induction m with
 |zero =>
  intro hm;obtain rfl:j=0:=by omega
  exact h
 |succ m ih =>
  intro hm;by_cases e:j=m+1
  ·subst e;exact h
  ·simp only[contTo,ih (by omega)]
theorem contTo_bd {s:List UInt8}{i:Nat}{c:Int}(hc:0≤c∧c<256):∀ (j:Nat) (r:Int),contTo s i c j=some r→0≤r∧r+1≤256*64^j:=by
 intro j
 induction j with
 |zero=>intro r h;simp only[contTo,Option.some.injEq]at h;subst h;omega
 |succ j ih =>
  intro r h;simp only[contTo]at h;cases hj:contTo s i c j with
  |none=>rw[hj]at h;cases h
  |some q =>
   rw[hj]at h;simp only at h;have hq:=ih q hj;have hp:(64:Int)^(j+1)=64*64^j:=by rw[Int.pow_succ,Int.mul_comm]
   rw[hp];by_cases hx:byteI s (i+(j+1))<128∨192≤byteI s (i+(j+1))
   ·rw[if_pos hx]at h;cases h
   ·rw[if_neg hx]at h;cases h;omega
theorem contTo_bd3 {s:List UInt8}{i:Nat}{c r:Int}{j:Nat}(hc:0≤c∧c<256)(h:contTo s i c j=some r)(hj:j≤3):0≤r∧r<67108864:=by
 have:=contTo_bd hc j r h;have h3:(64:Int)^j≤262144:=by
  rcases(show j=0∨j=1∨j=2∨j=3 by omega)with rfl|rfl|rfl|rfl<;>decide
 omega
theorem utf8_ok (s:List UInt8)(i:Nat)(w:World)(hs:s.length≤140737488355328)(hi:i<s.length) :
  Ret Tryz.prog 199 ⟨[S s,.int .i64 i]⟩ w fun v w'=>v=.int .i64 (u8len s i)∧w'=w:=by
 refine ret_of_G Tryz.func199 rfl Tryz.ntmps199 rfl ?_;simp only[argEnv];refine rg ?_;refine GL.cons (Step.indexS tb i rfl (oV rfl) (oV rfl) rfl (fun _=>⟨by omega,by omega⟩) rfl ?_)
 obtain⟨b,hb⟩:∃ b:Int,b=byteI s i:=⟨_,rfl⟩;have hbd:=byteI_bd s i;have hU:U (s.getD i 0)=.int .u8 b:=by rw[hb];rfl
 rw[hU];rw[←hb]at hbd;refine GL.cons (Step.convI tb rfl (oV rfl) rfl rfl (wrap_i64 (by omega) (by omega)) rfl ?_)
 refine rg ?_;refine G.join (fun x:Nat×Int×Int=>[(0,none,S s),(0+1,none,.int .i64 i),(6,none,.int .i64 x.1),(7,none,.int .i64 x.2.1),(8,none,.int .i64 x.2.2)])
  (fun x w'=>w'=w∧lead b=some x∧1≤x.1∧x.1≤4∧0≤x.2.1∧x.2.1<256) ?_ ?_
 ·rintro ⟨n,c,least⟩ w ⟨rfl,hl,hn1,hn4,hc0,hc1⟩;simp only at hl hn1 hn4 hc0 hc1 ⊢;have hu:u8len s i=u8n s i n c least:=by unfold u8len;rw[←hb,hl]
  refine rg ?_;refine GL.cons (Step.arith rfl (oV rfl) (oV rfl) (wrap_i64 (by omega) (by omega)) rfl ?_)
  refine rg ?_;refine cD ?_ ?_<;>intro hc
  ·refine rg ?_;refine G.ret1 rfl rfl rfl rfl ?_;refine⟨?_,rfl⟩;rw[hu,u8n,if_pos (by omega)];rfl
  ·refine rg ?_;refine(G.loop (fun x:Nat×Int=>[(0,none,S s),(0+1,none,.int .i64 i),(6,none,.int .i64 n),(7,none,.int .i64 x.2),(8,none,.int .i64 least),(9,none,.int .i64 (x.1+1:Nat))])
    (fun x w'=>w'=w∧x.1+1≤n∧contTo s i c x.1=some x.2) (fun x=>n-x.1) (0,c) sU ⟨rfl,by simpa using hn1,rfl⟩ ?_)
   rintro ⟨j,q⟩ w ⟨rfl,hj,hq⟩;simp only at hj hq ⊢;have hqb:=contTo_bd3 ⟨hc0,hc1⟩ hq (by omega)
   refine rg ?_;refine cD ?_ ?_<;>intro hc
   ·refine rg ?_;refine GL.cons (Step.arith rfl (oV rfl) (oV rfl) (wrap_i64 (by omega) (by omega)) rfl ?_)
    rw[show(i:Int)+((j+1:Nat):Int)=((i+(j+1):Nat):Int) by omega]
    refine GL.cons (Step.indexS tb (i+(j+1)) rfl (oV rfl) (oV rfl) rfl (fun _=>⟨by omega,by omega⟩) rfl ?_)
    obtain⟨x,hx⟩:∃ x:Int,x=byteI s (i+(j+1)):=⟨_,rfl⟩;have hxd:=byteI_bd s (i+(j+1));have hUx:U (s.getD (i+(j+1)) 0)=.int .u8 x:=by rw[hx];rfl
    rw[hUx];rw[←hx]at hxd;refine GL.cons (Step.convI tb rfl (oV rfl) rfl rfl (wrap_i64 (by omega) (by omega)) rfl ?_)
    refine rg ?_;have hcn:contTo s i c (j+1)=if x<128∨192≤x then none else some (64*q+x-128):=by simp only[contTo,hq,hx]
    refine cD ?_ ?_<;>intro hc
    ·refine rg ?_;refine G.ret1 rfl rfl rfl rfl ?_;refine⟨?_,rfl⟩;simp only[Bool.or_eq_true,dT]at hc;rw[if_pos hc]at hcn;rw[hu,u8n,if_neg (by omega),contTo_none hcn (n-1) (by omega)];rfl
    ·simp only[Bool.or_eq_false_iff,decide_eq_false_iff_not]at hc;rw[if_neg (by omega)]at hcn
     refine rg ?_;refine GL.cons (Step.arith rfl (oV rfl) (oV rfl) (wrap_i64 (by omega) (by omega)) rfl ?_)
     refine rg ?_;refine GL.cons (Step.arith rfl (oV rfl) (oV rfl) (wrap_i64 (by omega) (by omega)) rfl ?_)
     refine rg ?_;refine GL.cons (Step.arith rfl (oV rfl) (oV rfl) (wrap_i64 (by omega) (by omega)) rfl ?_)
     refine rg ?_;refine GL.cons (Step.arith rfl (oV rfl) (oV rfl) (wrap_i64 (by omega) (by omega)) rfl ?_)
     refine rg ?_;exact G.lp (x:=(j,q)) (j+1,64*q+x-128) sU ⟨rfl,by simp only;omega,hcn⟩ (by simp only;omega)
   ·have hjn:j=n-1:=by omega
    refine rg ?_;refine cD ?_ ?_<;>intro hc
    ·refine rg ?_;refine G.ret1 rfl rfl rfl rfl ?_;refine⟨?_,rfl⟩;rw[hu,u8n,if_neg (by omega),←hjn,hq]
     simp only[badRune,hc,if_true];rfl
    ·refine rg ?_;refine G.ret1 rfl rfl rfl rfl ?_;refine⟨?_,rfl⟩;rw[hu,u8n,if_neg (by omega),←hjn,hq]
     simp only[badRune,hc,Bool.false_eq_true,if_false]
 ·refine cD ?_ ?_<;>intro hc
  ·simp only[Bool.and_eq_true,dT]at hc;refine rg ?_;refine GL.cons (Step.arith rfl (oV rfl) (oV rfl) (wrap_i64 (by omega) (by omega)) rfl ?_)
   refine rg ?_;exact G.met (4,b-240,65536) sU ⟨rfl,by rw[lead,if_pos hc],by omega,by omega,by simp;omega,by simp;omega⟩
  ·simp only[Bool.and_eq_false_iff,decide_eq_false_iff_not]at hc;refine rg ?_;have hc1:=hc;refine cD ?_ ?_<;>intro hc
   ·simp only[Bool.and_eq_true,dT]at hc;refine rg ?_;refine GL.cons (Step.arith rfl (oV rfl) (oV rfl) (wrap_i64 (by omega) (by omega)) rfl ?_)
    refine rg ?_;exact G.met (3,b-224,2048) sU ⟨rfl,by rw[lead,if_neg (by omega),if_pos hc],by omega,by omega,by simp;omega,by simp;omega⟩
   ·simp only[Bool.and_eq_false_iff,decide_eq_false_iff_not]at hc;refine rg ?_;have hc2:=hc;refine cD ?_ ?_<;>intro hc
    ·simp only[Bool.and_eq_true,dT]at hc;refine rg ?_;refine GL.cons (Step.arith rfl (oV rfl) (oV rfl) (wrap_i64 (by omega) (by omega)) rfl ?_)
     refine rg ?_;exact G.met (2,b-192,128) sU ⟨rfl,by rw[lead,if_neg (by omega),if_neg (by omega),if_pos hc],by omega,by omega,by simp;omega,by simp;omega⟩
    ·simp only[Bool.and_eq_false_iff,decide_eq_false_iff_not]at hc;refine rg ?_;have hc3:=hc;refine cD ?_ ?_<;>intro hc
     ·refine rg ?_;refine G.ret1 rfl rfl rfl rfl ?_;refine⟨?_,rfl⟩;have:lead (byteI s i)=none:=by rw[←hb,lead,if_neg (by omega),if_neg (by omega),if_neg (by omega),if_pos hc]
      simp only[u8len,this];rfl
     ·refine rg ?_;exact G.met (1,b,0) sU ⟨rfl,by rw[lead,if_neg (by omega),if_neg (by omega),if_neg (by omega),if_neg hc],by omega,by omega,by simp;omega,by simp;omega⟩
end
section
def labAt (ls:List Lab)(k:Nat):Lab:=ls.getD k ([],[])
theorem Labs.getD {ls:List Lab}{k:Nat}(h:k<ls.length):(ls.map labC)[k]?=some (labC (labAt ls k)):=by simp[labAt,h,List.getD]
theorem ltc {k n:Nat}(h:cv (some (decide ((k:Int)<(n:Int))))=true):k<n:=by have:=of_decide_eq_true h;omega
def lessN (ls:List Lab)(name:List UInt8):Nat:=(ls.takeWhile fun x=>Op.bytesLess x.1 name).length
def putL (ls:List Lab)(x:Lab):List Lab:=ls.takeWhile (fun y=>Op.bytesLess y.1 x.1)++x::ls.dropWhile (fun y=>Op.bytesLess y.1 x.1)
theorem tw_step {α:Type}{p:α→Bool}(d:α):∀ (l:List α) (k:Nat),k≤(l.takeWhile p).length→((k<l.length∧p (l.getD k d)=true)↔k<(l.takeWhile p).length)
 |[],k,_=>by simp
 |x::l,0,_=>by
  cases hp:p x<;>simp[hp]
 |x::l,k+1,h=>by
  cases hp:p x with
  |false=>simp[hp]at h
  |true =>
   simp only[List.takeWhile_cons,hp,if_true,lCo]at h ⊢;have:=tw_step (p:=p) d l k (by omega)
   simp only[List.getD_cons_succ];rw[Nat.add_lt_add_iff_right,Nat.add_lt_add_iff_right];exact this
theorem take_tw {α:Type}(p:α→Bool)(l:List α):l.take (l.takeWhile p).length=l.takeWhile p:=by
 have:=List.takeWhile_append_dropWhile (p:=p) (l:=l)
 conv=>lhs;rw[←this]
 rw[List.take_left'];rw[this]
theorem drop_tw {α:Type}(p:α→Bool)(l:List α):l.drop (l.takeWhile p).length=l.dropWhile p:=by
 have:=List.takeWhile_append_dropWhile (p:=p) (l:=l)
 conv=>lhs;rw[←this]
 rw[List.drop_left'];rw[this]
theorem lab1 (ls:List Lab):∀ y∈ls.map labC,∀ c∈y,c.oneCell'=true:=by
 intro y hy c hc;obtain⟨x,_,rfl⟩:=List.mem_map.1 hy;simp only[labC,List.mem_cons,List.not_mem_nil,or_false]at hc;rcases hc with rfl|rfl<;>rfl
theorem labLen (ls:List Lab):∀ x∈ls.map labC,x.length=2:=by
 intro y hy;obtain⟨x,_,rfl⟩:=List.mem_map.1 hy;rfl
theorem Labs.sub {w:World}{v:Value}{ls:List Lab}(hs:Labs w v ls){l h:Nat}(hl:l≤h)(hh:h≤ls.length):Labs w (subS v 2 l h) ((ls.drop l).take (h-l)):=by
 have:=Sli.sub hs hl (by simpa using hh)
 unfold Labs;rw[List.map_take,List.map_drop];exact this
theorem put_ok (v:Value)(ls:List Lab)(x:Lab)(w:World)(hv:Labs w v ls)(hn:ls.length≤1000) :
  Ret Tryz.prog 98 ⟨[v,.agg ⟨labC x⟩]⟩ w fun r w'=>Owns w' w.heap.size r 78 2 ((putL ls x).map labC)∧Ext w w':=by
 refine ret_of_G Tryz.func98 rfl Tryz.ntmps98 rfl ?_;simp only[argEnv];refine rg ?_;refine GL.cons (Step.box rfl (oV rfl) (rfl) rfl ?_);intro w1 hb1 hs1 hx1;have hv1:=hv.to hx1;refine rg ?_;refine(G.loop (fun k:Nat=>[(0,none,v),(3,none,ptr w.heap.size),(5,none,.int .i64 k)]) (fun k w'=>Ext w1 w'∧k≤ls.length∧k≤lessN ls x.1) (fun k=>ls.length-k) 0 sU ⟨Ext.refl _,by omega,by omega⟩ ?_)
 rintro k w2 ⟨hx2,hk,hkl⟩;have hv2:=hv1.to hx2;have hb2:=hb1.to hx2;refine rg ?_;refine G.regionM [(0,true),(1,true),(2,true),(3,true),(4,true),(5,true),(6,true),(7,true),(8,true),(9,true),(10,true),(11,true),(12,true),(13,true)] (Ext w2) (by kernel_rfl) (by kernel_rfl) rfl mixed (Ext.drew w2) rfl ?_
 repeat (first
  |refine GM.nil ?_
  |refine GM.read (fun w' hS=>Step.move rfl (oV rfl) rfl ⟨rfl,rfl⟩) rfl rfl ?_
  |refine GM.read (fun w' hS=>Step.assign rfl (oV rfl) rfl ⟨rfl,rfl⟩) rfl rfl ?_
  |refine GM.read (fun w' hS=>Step.bin rfl (oV rfl) (oV rfl) rfl rfl ⟨rfl,rfl⟩) rfl rfl ?_
  |refine GM.read (fun w' hS=>Step.and rfl (oV rfl) rfl (by first|exact fun _ _=>rfl|exact fun _ h=>h|exact fun _ h=>bNot h|exact fun h k=>bAnd h k|exact fun h k=>bAnd h (bNot k)) rfl ⟨rfl,rfl⟩) rfl rfl ?_
  |refine GM.read (fun w' hS=>Step.or rfl (oV rfl) rfl (by first|exact fun _ _=>rfl|exact fun _ h=>h|exact fun _ h=>bNot h|exact fun h k=>bAnd h k|exact fun h k=>bAnd h (bNot k)) rfl ⟨rfl,rfl⟩) rfl rfl ?_
  |refine GM.read (fun w' hS=>Step.lenS tb rfl (oV rfl) rfl rfl ⟨rfl,rfl⟩) rfl rfl ?_
  |refine GM.read (fun w' hS=>Step.un rfl (oV rfl) rfl rfl ⟨rfl,rfl⟩) rfl rfl ?_
  |refine GM.read (fun w' hS=>Step.extract rfl (oV rfl) rfl rfl ⟨rfl,rfl⟩) rfl rfl ?_)
 refine GM.read (fun w' hS=>Step.lenV tb rfl (oV rfl) rfl (fun hc=>⟨_,hv2⟩) rfl ⟨rfl,rfl⟩) rfl rfl ?_;simp only[lMa]
 repeat (first
  |refine GM.nil ?_
  |refine GM.read (fun w' hS=>Step.move rfl (oV rfl) rfl ⟨rfl,rfl⟩) rfl rfl ?_
  |refine GM.read (fun w' hS=>Step.assign rfl (oV rfl) rfl ⟨rfl,rfl⟩) rfl rfl ?_
  |refine GM.read (fun w' hS=>Step.bin rfl (oV rfl) (oV rfl) rfl rfl ⟨rfl,rfl⟩) rfl rfl ?_
  |refine GM.read (fun w' hS=>Step.and rfl (oV rfl) rfl (by first|exact fun _ _=>rfl|exact fun _ h=>h|exact fun _ h=>bNot h|exact fun h k=>bAnd h k|exact fun h k=>bAnd h (bNot k)) rfl ⟨rfl,rfl⟩) rfl rfl ?_
  |refine GM.read (fun w' hS=>Step.or rfl (oV rfl) rfl (by first|exact fun _ _=>rfl|exact fun _ h=>h|exact fun _ h=>bNot h|exact fun h k=>bAnd h k|exact fun h k=>bAnd h (bNot k)) rfl ⟨rfl,rfl⟩) rfl rfl ?_
  |refine GM.read (fun w' hS=>Step.lenS tb rfl (oV rfl) rfl rfl ⟨rfl,rfl⟩) rfl rfl ?_
  |refine GM.read (fun w' hS=>Step.un rfl (oV rfl) rfl rfl ⟨rfl,rfl⟩) rfl rfl ?_
  |refine GM.read (fun w' hS=>Step.extract rfl (oV rfl) rfl rfl ⟨rfl,rfl⟩) rfl rfl ?_)
 refine GM.read (fun w' hS=>Step.indexAddr tb k rfl (oV rfl) (oV rfl) rfl rfl (fun hc=>⟨_,hv2⟩) (fun hc=>⟨rfl,by rw[lMa];exact ltc hc⟩) rfl ⟨rfl,rfl⟩) rfl rfl ?_
 refine GM.read (fun w' hS=>Step.fieldAddr tb rfl (oV rfl) rfl rfl rfl rfl (fun hc=>(hv2.elem (Labs.getD (ltc hc))).ptr) rfl ⟨rfl,rfl⟩) rfl rfl ?_;refine GM.read (fun w' hS=>Step.load1 tb rfl (oV rfl) rfl rfl (fun hc=>((hv2.to hS).elem (Labs.getD (ltc hc))).cell (i:=0) rfl) rfl ⟨rfl,rfl⟩) rfl rfl ?_;refine GM.read (fun w' hS=>Step.fieldAddr tb rfl (oV rfl) rfl rfl rfl rfl (fun hc=>ptr_ptr _) rfl ⟨rfl,rfl⟩) rfl rfl ?_;refine GM.read (fun w' hS=>Step.load1 tb rfl (oV rfl) rfl rfl (fun hc=>(hb2.to hS).cells.cell (i:=0) rfl) rfl ⟨rfl,rfl⟩) rfl rfl ?_
 repeat (first
  |refine GM.nil ?_
  |refine GM.read (fun w' hS=>Step.move rfl (oV rfl) rfl ⟨rfl,rfl⟩) rfl rfl ?_
  |refine GM.read (fun w' hS=>Step.assign rfl (oV rfl) rfl ⟨rfl,rfl⟩) rfl rfl ?_
  |refine GM.read (fun w' hS=>Step.bin rfl (oV rfl) (oV rfl) rfl rfl ⟨rfl,rfl⟩) rfl rfl ?_
  |refine GM.read (fun w' hS=>Step.and rfl (oV rfl) rfl (by first|exact fun _ _=>rfl|exact fun _ h=>h|exact fun _ h=>bNot h|exact fun h k=>bAnd h k|exact fun h k=>bAnd h (bNot k)) rfl ⟨rfl,rfl⟩) rfl rfl ?_
  |refine GM.read (fun w' hS=>Step.or rfl (oV rfl) rfl (by first|exact fun _ _=>rfl|exact fun _ h=>h|exact fun _ h=>bNot h|exact fun h k=>bAnd h k|exact fun h k=>bAnd h (bNot k)) rfl ⟨rfl,rfl⟩) rfl rfl ?_
  |refine GM.read (fun w' hS=>Step.lenS tb rfl (oV rfl) rfl rfl ⟨rfl,rfl⟩) rfl rfl ?_
  |refine GM.read (fun w' hS=>Step.un rfl (oV rfl) rfl rfl ⟨rfl,rfl⟩) rfl rfl ?_
  |refine GM.read (fun w' hS=>Step.extract rfl (oV rfl) rfl rfl ⟨rfl,rfl⟩) rfl rfl ?_)
 have hstep:=tw_step (p:=fun y:Lab=>Op.bytesLess y.1 x.1) ([],[]) ls k hkl;refine cD ?_ ?_<;>intro hc
 ·have hlt:k<lessN ls x.1:=by
   refine hstep.1 ?_;simp only[Bool.and_eq_true,dT]at hc;exact⟨by omega,hc.2⟩
  have hll:lessN ls x.1≤ls.length:=(List.takeWhile_sublist _).length_le;refine rg ?_;refine GL.cons (Step.arith rfl (oV rfl) (oV rfl) (wrap_i64 (by omega) (by omega)) rfl ?_)
  refine rg ?_;exact G.lp (k+1) sU ⟨hx2.trans (Ext.drew w2),by omega,by omega⟩ (by omega)
 ·have hke:k=(ls.takeWhile fun y=>Op.bytesLess y.1 x.1).length:=by
   refine Nat.le_antisymm hkl (Nat.le_of_not_lt fun h=>?_);have:=hstep.2 h;rw[Bool.and_eq_false_iff]at hc;rcases hc with hc|hc
   ·simp at hc;omega
   ·have h2:Op.bytesLess (labAt ls k).1 x.1=true:=this.2;rw[h2]at hc;cases hc
  have hxd:Ext w w2.drew:=(hx1.trans hx2).trans (Ext.drew w2);have hsz:w.heap.size<w2.drew.heap.size:=by have:=hx2.size;simp only[World.size_drew];omega
  have hv3:Labs w2.drew v ls:=hv2.to (Ext.drew w2);have hb3:=hb2.drew;generalize w2.drew=w3 at *;refine rg ?_;refine GL.cons (Step.buildSlice tb ([]) rfl rfl rfl rfl rfl rfl (by rfl) rfl (by rfl) (by rfl) (by rfl) (by simp) rfl ?_)
  intro s1 w4 ho1 hs4 hx4;refine rg ?_;refine GL.cons (Step.sliceVh tb k rfl (oV rfl) (oV rfl) rfl rfl (fun _=>⟨_,hv3⟩) (fun _=>⟨rfl,by rw[lMa];omega⟩) rfl ?_)
  have hsub:=Labs.sub (hv3.to hx4) (Nat.zero_le k) hk;have ho1':=ho1.mono (B':=w.heap.size) (by omega)
  refine GL.cons (Step.append tb rfl (oV rfl) (oV rfl) rfl rfl rfl (by rfl) (ho1') (hsub) (lab1 _) (by simp only[lMa,lAp,lCo,lNi,lTa,List.length_drop];omega) (by simp only[lMa,lAp,lCo,lNi,lTa,List.length_drop];omega) (by omega) rfl ?_)
  intro s2 w5 ho2 hg5;have hx5:Ext w w5:=hg5.below _ (hxd.trans hx4);have hb5:Bx w5 w.heap.size (labC x):=(hb3.to hx4).grew hg5 (ho1.ne hsz);refine rg ?_;refine GL.cons (Step.loadA tb rfl (oV rfl) rfl rfl rfl (fun _=>hb5.cells) (fun _=>rfl) rfl ?_);refine GL.cons (Step.buildSlice tb ([labC x]) rfl rfl rfl rfl rfl rfl (by rfl) rfl (by rfl) (by rfl) (by rfl) (labLen [x]) rfl ?_)
  intro s3 w6 ho3 hs6 hx6;refine GL.cons (Step.append tb rfl (oV rfl) (oV rfl) rfl rfl rfl (by rfl) (ho2.to hx6) (ho3.sli) (lab1 [x]) (by simp only[lMa,lAp,lCo,lNi,lTa,List.length_drop];omega) (by simp only[lMa,lAp,lCo,lNi,lTa,List.length_drop];omega) (by have:=(hx5.trans hx6).size;omega) rfl ?_)
  intro s4 w7 ho4 hg7;have hx7:Ext w w7:=hg7.below _ (hx5.trans hx6);refine rg ?_;have hv7:=hv.to hx7;refine GL.cons (Step.sliceVl tb k rfl (oV rfl) (oV rfl) rfl rfl (fun _=>⟨_,hv7⟩) (fun _=>⟨rfl,by rw[lMa];omega⟩) rfl ?_)
  rw[lMa];have hsub2:=Labs.sub hv7 hk (Nat.le_refl _);refine GL.cons (Step.append tb rfl (oV rfl) (oV rfl) rfl rfl rfl (by rfl) (ho4) (hsub2) (lab1 _) (by simp only[lMa,lAp,lCo,lNi,lTa,List.length_drop];omega) (by simp only[lMa,lAp,lCo,lNi,lTa,List.length_drop];omega) (by have:=hx7.size;omega) rfl ?_)
  intro s5 w8 ho5 hg8;have hx8:Ext w w8:=hg8.below _ hx7;refine rg ?_;refine G.ret1 rfl rfl rfl rfl ?_;refine⟨?_,hx8⟩;have e:[]++List.map labC ((ls.drop 0).take (k-0))++[labC x]++List.map labC ((ls.drop k).take (ls.length-k))=(putL ls x).map labC:=by
   have h1:(ls.drop 0).take (k-0)=ls.takeWhile fun y=>Op.bytesLess y.1 x.1:=by rw[List.drop_zero,Nat.sub_zero,hke];exact take_tw _ _
   have h2:(ls.drop k).take (ls.length-k)=ls.dropWhile fun y=>Op.bytesLess y.1 x.1:=by rw[List.take_of_length_le (by simp),hke];exact drop_tw _ _
   rw[h1,h2];simp[putL]
  rw[←e];exact ho5
end
section
theorem u8n_le (s:List UInt8)(i n:Nat)(c l:Int)(hi:i≤s.length):i+u8n s i n c l≤s.length:=by
 unfold u8n;by_cases h:s.length<i+n
 ·rw[if_pos h];exact hi
 ·rw[if_neg h];split
  ·exact hi
  ·split
   ·exact hi
   ·omega
theorem u8len_le (s:List UInt8)(i:Nat)(hi:i≤s.length):i+u8len s i≤s.length:=by
 unfold u8len;split
 ·exact hi
 ·exact u8n_le _ _ _ _ _ hi
def validGo (s:List UInt8):Nat→Nat→Bool
 |0,_=>true
 |m+1,i=>if s.length≤i then true else if u8len s i=0 then false else validGo s m (i+u8len s i)
def validU (s:List UInt8):Bool:=validGo s s.length 0
theorem validGo_end (s:List UInt8):∀ (m i:Nat),s.length≤i→validGo s m i=true
 |0,_,_=>rfl
 |m+1,i,h=>by rw[validGo,if_pos h]
theorem validGo_fuel (s:List UInt8):∀ (m k i:Nat),s.length-i≤m→s.length-i≤k→validGo s m i=validGo s k i:=by
 intro m
 induction m with
 |zero=>intro k i h _;rw[validGo_end s 0 i (by omega),validGo_end s k i (by omega)]
 |succ m ih =>
  intro k i h h2;cases k with
  |zero=>rw[validGo_end s 0 i (by omega),validGo_end s (m+1) i (by omega)]
  |succ k =>
   simp only[validGo];by_cases he:s.length≤i
   ·rw[if_pos he,if_pos he]
   ·rw[if_neg he,if_neg he];by_cases hz:u8len s i=0
    ·rw[if_pos hz,if_pos hz]
    ·rw[if_neg hz,if_neg hz];exact ih _ _ (by omega) (by omega)
theorem validGo_step {s:List UInt8}{i:Nat}(hi:i<s.length)(hz:u8len s i≠0):validGo s (s.length-i) i=validGo s (s.length-(i+u8len s i)) (i+u8len s i):=by
 rw[validGo_fuel s (s.length-i) ((s.length-i-1)+1) i (by omega) (by omega),validGo,if_neg (by omega),if_neg hz]
 exact validGo_fuel _ _ _ _ (by omega) (by omega)
theorem validGo_no {s:List UInt8}{i:Nat}(hi:i<s.length)(hz:u8len s i=0):validGo s (s.length-i) i=false:=by
 rw[validGo_fuel s (s.length-i) ((s.length-i-1)+1) i (by omega) (by omega),validGo,if_neg (by omega),if_pos hz]
theorem valid_ok (s:List UInt8)(w:World)(hs:s.length≤140737488355328) :
  Ret Tryz.prog 122 ⟨[S s]⟩ w fun v w'=>v=.bool (validU s)∧Ext w w':=by
 refine ret_of_G Tryz.func122 rfl Tryz.ntmps122 rfl ?_;simp only[argEnv];refine rg ?_;refine(G.loop (fun i:Nat=>[(0,none,S s),(3,none,.int .i64 i)]) (fun i w'=>w'=w∧i≤s.length∧validGo s (s.length-i) i=validU s) (fun i=>s.length-i) 0 sU ⟨rfl,by omega,rfl⟩ ?_)
 rintro i w ⟨rfl,hk,hto⟩;refine rg ?_;refine cD ?_ ?_<;>intro hc
 ·have hlt:i<s.length:=by omega
  refine rg ?_;refine GL.cons (Step.callF rfl rfl rfl c199 rfl (utf8_ok s i w hs hlt) ?_);rintro _ _ ⟨rfl,rfl⟩;have hle:=u8len_le s i hk;refine rg ?_;refine cD ?_ ?_<;>intro hc
  ·refine rg ?_;refine G.ret1 rfl rfl rfl rfl ?_;refine⟨?_,Ext.refl _⟩;rw[←hto,validGo_no hlt (by omega)]
  ·refine rg ?_;refine GL.cons (Step.arith rfl (oV rfl) (oV rfl) (wrap_i64 (by omega) (by omega)) rfl ?_)
   refine rg ?_;refine G.lp (i+u8len s i) sU ⟨rfl,hle,?_⟩ (by omega)
   rw[←hto,validGo_step hlt (by omega)]
 ·refine rg ?_;refine G.ret1 rfl rfl rfl rfl ?_;refine⟨?_,Ext.refl _⟩;rw[←hto,validGo_end _ _ _ (by omega)]
def rightV (s:List UInt8):Bool:=decide ((s.length:Int)≤1024)&&validU s
theorem refValue_ok (s:List UInt8)(w:World)(hs:s.length≤9223372036854775807) :
  Ret Tryz.prog 88 ⟨[S s]⟩ w fun v w'=>v=.bool (rightV s)∧Ext w w':=by
 refine ret_of_G Tryz.func88 rfl Tryz.ntmps88 rfl ?_;simp only[argEnv];refine rg ?_;refine GL.cons (Step.callX rfl rfl (by repeat (first|exact OpL.nil|refine OpL.cons (oV rfl) ?_)) c122 rfl (fun hc=>valid_ok s w (by have:=of_decide_eq_true hc;omega)) ?_)
 intro w1 hx;refine rg ?_;refine G.ret1 rfl rfl rfl rfl ?_;exact⟨rfl,hx⟩
def Sz (s:List UInt8):Prop:=s.length≤9223372036854775807
def LabSz (x:Lab):Prop:=Sz x.1∧Sz x.2
def nameS:List UInt8:=[95,95,110,97,109,101,95,95]
def fairB (x:Lab):Bool:=(namedB false x.1&&rightV x.2)&&(!decide (x.1=nameS)||decide (x.2=[])||namedB true x.2)
theorem fair_ok (x:Lab)(w:World)(hx:LabSz x) :
  Ret Tryz.prog 73 ⟨[.agg ⟨labC x⟩]⟩ w fun v w'=>v=.bool (fairB x)∧Ext w w':=by
 refine ret_of_G Tryz.func73 rfl Tryz.ntmps73 rfl ?_;simp only[argEnv];refine rg ?_;refine GL.cons (Step.box rfl (oV rfl) (rfl) rfl ?_);intro w1 hb1 hs1 hx1;refine rg ?_;refine GL.cons (Step.fieldAddr tb rfl (oV rfl) rfl rfl rfl rfl (fun _=>(hb1.cells).ptr) rfl ?_);refine GL.cons (Step.load1 tb rfl (oV rfl) rfl rfl (fun _=>(hb1.cells).cell (i:=0) rfl) rfl ?_);refine GL.cons (Step.callX rfl rfl (by repeat (first|exact OpL.nil|refine OpL.cons (oV rfl) ?_)) c69 rfl (fun hc=>refName_ok x.1 w1 hx.1) ?_)
 intro w2 hx2;have hb2:=hb1.to hx2;refine rg ?_;refine GL.cons (Step.fieldAddr tb rfl (oV rfl) rfl rfl rfl rfl (fun _=>(hb2.cells).ptr) rfl ?_);refine GL.cons (Step.load1 tb rfl (oV rfl) rfl rfl (fun _=>(hb2.cells).cell (i:=1) rfl) rfl ?_);refine GL.cons (Step.callX rfl rfl (by repeat (first|exact OpL.nil|refine OpL.cons (oV rfl) ?_)) c88 rfl (fun hc=>refValue_ok x.2 w2 hx.2) ?_)
 intro w3 hx3;have hb3:=hb2.to hx3;refine rg ?_;refine GL.cons (Step.fieldAddr tb rfl (oV rfl) rfl rfl rfl rfl (fun _=>(hb3.cells).ptr) rfl ?_);refine GL.cons (Step.load1 tb rfl (oV rfl) rfl rfl (fun _=>(hb3.cells).cell (i:=0) rfl) rfl ?_);refine rg ?_;refine GL.cons (Step.fieldAddr tb rfl (oV rfl) rfl rfl rfl rfl (fun _=>(hb3.cells).ptr) rfl ?_);refine GL.cons (Step.load1 tb rfl (oV rfl) rfl rfl (fun _=>(hb3.cells).cell (i:=1) rfl) rfl ?_);refine rg ?_;refine GL.cons (Step.fieldAddr tb rfl (oV rfl) rfl rfl rfl rfl (fun _=>(hb3.cells).ptr) rfl ?_);refine GL.cons (Step.load1 tb rfl (oV rfl) rfl rfl (fun _=>(hb3.cells).cell (i:=1) rfl) rfl ?_);refine GL.cons (Step.callX rfl rfl (by repeat (first|exact OpL.nil|refine OpL.cons (oV rfl) ?_)) c148 rfl (fun hc=>refMetric_ok x.2 w3 hx.2) ?_)
 intro w4 hx4;refine rg ?_;refine G.ret1 rfl rfl rfl rfl ?_;exact⟨rfl,((hx1.trans hx2).trans hx3).trans hx4⟩
end
section
abbrev LO (w:World)(B:Nat)(v:Value)(ls:List Lab):Prop:=Owns w B v 78 2 (ls.map labC)
def stepN (s:List Lab×Bool)(x:Lab):List Lab×Bool:=if x.2=[] then s else (putL s.1 x,s.2||hasL s.1 x.1)
def foldN (ls:List Lab):List Lab×Bool:=ls.foldl stepN ([],false)
def newR (ls:List Lab):Int×List Lab :=
 if ls.all fairB=true then (if (foldN ls).2=true then (13,[])else if 64<(foldN ls).1.length then (15,[])else (0,(foldN ls).1))else (2,[])
theorem putL_len (l:List Lab)(x:Lab):(putL l x).length=l.length+1:=by
 have:=congrArg List.length (List.takeWhile_append_dropWhile (p:=fun y=>Op.bytesLess y.1 x.1) (l:=l));simp only[lAp]at this;simp only[putL,lAp,lCo];omega
theorem foldN_snoc (ls:List Lab)(x:Lab):foldN (ls++[x])=stepN (foldN ls) x:=by simp[foldN]
theorem stepN_len (s:List Lab×Bool)(x:Lab):(stepN s x).1.length≤s.1.length+1:=by
 unfold stepN;split
 ·omega
 ·simp only[putL_len];omega
theorem foldN_len (ls:List Lab):(foldN ls).1.length≤ls.length:=by
 unfold foldN
 suffices ∀ (l:List Lab) s,(l.foldl stepN s).1.length≤s.1.length+l.length by simpa using this ls ([],false)
 intro l
 induction l with
 |nil=>intro s;simp
 |cons a r ih=>intro s;simp only[List.foldl_cons,lCo];have:=ih (stepN s a);have:=stepN_len s a;omega
theorem Labs.at {ls:List Lab}{k:Nat}(h:k<ls.length):∃ x,x∈ls∧(ls.map labC)[k]?=some (labC x)∧ls.take (k+1)=ls.take k++[x]∧ls.drop k=x::ls.drop (k+1)∧ls[k]?=some x :=
 ⟨ls[k],List.getElem_mem h,by simp[h],by rw[List.take_succ_eq_append_getElem h],List.drop_eq_getElem_cons h,by simp[h]⟩
theorem refNew_ok (v:Value)(ls:List Lab)(w:World)(hv:Labs w v ls)(hn:ls.length≤1000)(hz:∀ x∈ls,LabSz x) :
  Ret Tryz.prog 47 ⟨[v]⟩ w fun r w'=>∃ s,r=.tuple ⟨[s,.int .i64 (newR ls).1]⟩∧LO w' w.heap.size s (newR ls).2∧Ext w w':=by
 have hbd:=Labs.bound hv;refine ret_of_G Tryz.func47 rfl Tryz.ntmps47 rfl ?_;simp only[argEnv];refine rg ?_;refine(G.loop (fun k:Nat=>[(0,none,v),(4,none,.int .i64 k)]) (fun k w'=>Ext w w'∧k≤ls.length∧(ls.take k).all fairB=true) (fun k=>ls.length-k) 0 sU ⟨Ext.refl _,by omega,rfl⟩ ?_)
 rintro k w1 ⟨hx1,hk,hto⟩;have hv1:=hv.to hx1;refine rg ?_;refine GL.cons (Step.lenV tb rfl (oV rfl) rfl (fun _=>⟨_,hv1⟩) rfl ?_);simp only[lMa];refine rg ?_;refine cD ?_ ?_<;>intro hc
 ·have hlt:k<ls.length:=by omega
  obtain⟨x,hmem,hget,htk,-,-⟩:=Labs.at hlt;refine rg ?_;refine GL.cons (Step.indexAddr tb k rfl (oV rfl) (oV rfl) rfl rfl (fun _=>⟨_,hv1⟩) (fun _=>⟨by omega,by simpa using hlt⟩) rfl ?_)
  refine GL.cons (Step.loadA tb rfl (oV rfl) rfl rfl rfl (fun _=>hv1.elem hget) (fun _=>rfl) rfl ?_);refine GL.cons (Step.callX rfl rfl (by repeat (first|exact OpL.nil|refine OpL.cons (oV rfl) ?_)) c73 rfl (fun hc=>fair_ok x w1 (hz _ hmem)) ?_)
  intro w2 hx2;refine rg ?_;refine cD ?_ ?_<;>intro hc
  ·refine rg ?_;refine G.ret2 rfl rfl rfl rfl rfl ?_;have:newR ls=(2,[]):=by
    unfold newR;rw[if_neg];intro h;have:=List.all_eq_true.1 h x hmem;rw[this]at hc;cases hc
   rw[this];exact⟨_,rfl,Owns.nil _ _ _ _,hx1.trans hx2⟩
  ·refine rg ?_;refine GL.cons (Step.arith rfl (oV rfl) (oV rfl) (wrap_i64 (by omega) (by omega)) rfl ?_)
   refine rg ?_;refine G.lp (k+1) sU ⟨hx1.trans hx2,by omega,?_⟩ (by omega)
   rw[htk,List.all_append,hto];simpa using hc
 ·have hke:k=ls.length:=by omega
  subst hke;rw[List.take_length]at hto;refine rg ?_;refine(G.loop (fun x:Nat×Value=>[(0,none,v),(5,none,x.2),(6,none,.bool (foldN (ls.take x.1)).2),(7,none,.int .i64 x.1)]) (fun x w'=>Ext w w'∧x.1≤ls.length∧LO w' w.heap.size x.2 (foldN (ls.take x.1)).1) (fun x=>ls.length-x.1) (0,.slice none 0 0) sU ⟨hx1,by simp,Owns.nil _ _ _ _⟩ ?_)
  rintro ⟨k,s⟩ w2 ⟨hx2,hk,ho⟩;simp only at hk ho ⊢;have hv2:=hv.to hx2;refine rg ?_;refine GL.cons (Step.lenV tb rfl (oV rfl) rfl (fun _=>⟨_,hv2⟩) rfl ?_);simp only[lMa];refine rg ?_;refine cD ?_ ?_<;>intro hc
  ·have hlt:k<ls.length:=by omega
   obtain⟨x,hmem,hget,htk,-,-⟩:=Labs.at hlt;have hsn:foldN (ls.take (k+1))=stepN (foldN (ls.take k)) x:=by rw[htk,foldN_snoc]
   refine rg ?_;refine GL.cons (Step.indexAddr tb k rfl (oV rfl) (oV rfl) rfl rfl (fun _=>⟨_,hv2⟩) (fun _=>⟨by omega,by simpa using hlt⟩) rfl ?_)
   refine GL.cons (Step.fieldAddr tb rfl (oV rfl) rfl rfl rfl rfl (fun _=>(hv2.elem hget).ptr) rfl ?_);refine GL.cons (Step.load1 tb rfl (oV rfl) rfl rfl (fun _=>(hv2.elem hget).cell (i:=1) rfl) rfl ?_);refine rg ?_;refine cD ?_ ?_<;>intro hc
   ·have hst:stepN (foldN (ls.take k)) x=foldN (ls.take k):=by unfold stepN;rw[if_pos (by simpa using hc)]
    rw[hst]at hsn;refine rg ?_;refine GL.cons (Step.arith rfl (oV rfl) (oV rfl) (wrap_i64 (by omega) (by omega)) rfl ?_)
    refine rg ?_;exact G.lp (x:=(k,s)) (k+1,s) (by simp only[hsn];exact sU) ⟨hx2,by simp only;omega,by simp only[hsn];exact ho⟩ (by simp only;omega)
   ·have hst:stepN (foldN (ls.take k)) x=(putL (foldN (ls.take k)).1 x,(foldN (ls.take k)).2||hasL (foldN (ls.take k)).1 x.1):=by unfold stepN;rw[if_neg (by simpa using hc)]
    rw[hst]at hsn;have hfl:=foldN_len (ls.take k);rw[lTa]at hfl;refine rg ?_;refine GL.cons (Step.indexAddr tb k rfl (oV rfl) (oV rfl) rfl rfl (fun _=>⟨_,hv2⟩) (fun _=>⟨by omega,by simpa using hlt⟩) rfl ?_)
    refine GL.cons (Step.fieldAddr tb rfl (oV rfl) rfl rfl rfl rfl (fun _=>(hv2.elem hget).ptr) rfl ?_);refine GL.cons (Step.load1 tb rfl (oV rfl) rfl rfl (fun _=>(hv2.elem hget).cell (i:=0) rfl) rfl ?_);refine GL.cons (Step.callX rfl rfl (by repeat (first|exact OpL.nil|refine OpL.cons (oV rfl) ?_)) c97 rfl (fun hc=>(has_ok s _ x.1 w2 ho.sli).mono fun _ _ h=>⟨h.1,h.2▸Ext.refl _⟩) ?_)
    intro w3 hx3;have hv3:=hv2.to hx3;refine rg ?_;refine GL.cons (Step.indexAddr tb k rfl (oV rfl) (oV rfl) rfl rfl (fun _=>⟨_,hv3⟩) (fun _=>⟨by omega,by simpa using hlt⟩) rfl ?_)
    refine GL.cons (Step.loadA tb rfl (oV rfl) rfl rfl rfl (fun _=>hv3.elem hget) (fun _=>rfl) rfl ?_);refine GL.cons (Step.callF rfl rfl rfl c98 rfl (put_ok s _ x w3 (ho.to hx3).sli (by omega)) ?_)
    rintro r w4 ⟨ho4,hx4⟩;refine rg ?_;refine GL.cons (Step.arith rfl (oV rfl) (oV rfl) (wrap_i64 (by omega) (by omega)) rfl ?_)
    refine rg ?_;have hx14:=(hx2.trans hx3);exact G.lp (x:=(k,s)) (k+1,r) (by simp only[hsn];exact sU) ⟨hx14.trans hx4,by simp only;omega,by simp only[hsn];exact ho4.mono hx14.size⟩ (by simp only;omega)
  ·have hke:k=ls.length:=by omega
   subst hke;rw[List.take_length]at ho;refine rg ?_;rw[List.take_length];refine cD ?_ ?_<;>intro hc
   ·refine rg ?_;refine G.ret2 rfl rfl rfl rfl rfl ?_;have:newR ls=(13,[]):=by unfold newR;rw[if_pos hto,if_pos hc]
    rw[this];exact⟨_,rfl,Owns.nil _ _ _ _,hx2⟩
   ·have hc2:=hc;refine rg ?_;refine GL.cons (Step.lenV tb rfl (oV rfl) rfl (fun _=>⟨_,ho.sli⟩) rfl ?_);simp only[lMa];refine rg ?_;refine cD ?_ ?_<;>intro hc
    ·refine rg ?_;refine G.ret2 rfl rfl rfl rfl rfl ?_;have:newR ls=(15,[]):=by unfold newR;rw[if_pos hto,if_neg (by rw[hc2];simp),if_pos (by omega)]
     rw[this];exact⟨_,rfl,Owns.nil _ _ _ _,hx2⟩
    ·refine rg ?_;refine G.ret2 rfl rfl rfl rfl rfl ?_;have:newR ls=(0,(foldN ls).1):=by unfold newR;rw[if_pos hto,if_neg (by rw[hc2];simp),if_neg (by omega)]
     rw[this];exact⟨_,rfl,ho,hx2⟩
end
section
def setStep (out:List Lab)(x:Lab):List Lab:=if (newR (out++[x])).1=0 then (newR (out++[x])).2 else out
theorem newR_len {ls:List Lab}:(newR ls).2.length≤64:=by
 unfold newR;split
 ·split
  ·simp
  ·split
   ·simp
   ·simp only;omega
 ·simp
theorem setTo_snoc (ls:List Lab)(x:Lab):(ls++[x]).foldl setStep []=setStep (ls.foldl setStep []) x:=by simp
theorem setTo_len (ls:List Lab):(ls.foldl setStep []).length≤64:=by
 suffices ∀ (l:List Lab) (s:List Lab),s.length≤64→(l.foldl setStep s).length≤64 from this ls [] (by simp)
 intro l
 induction l with
 |nil=>intro s h;exact h
 |cons a r ih =>
  intro s h;refine ih _ ?_;unfold setStep;split
  ·exact newR_len
  ·exact h
theorem putL_mem {l:List Lab}{x y:Lab}(h:y∈putL l x):y∈l∨y=x:=by
 simp only[putL,List.mem_append,List.mem_cons]at h;rcases h with h|h|h
 ·exact .inl ((List.takeWhile_sublist _).mem h)
 ·exact .inr h
 ·exact .inl ((List.dropWhile_sublist _).mem h)
theorem foldN_mem {ls:List Lab}{y:Lab}(h:y∈(foldN ls).1):y∈ls:=by
 suffices ∀ (l:List Lab) (s:List Lab×Bool),y∈(l.foldl stepN s).1→y∈s.1∨y∈l by
  rcases this ls ([],false) h with h|h
  ·simp at h
  ·exact h
 intro l
 induction l with
 |nil=>intro s h;exact .inl h
 |cons a r ih =>
  intro s h;rcases ih _ h with h|h
  ·unfold stepN at h;split at h
   ·exact .inl h
   ·rcases putL_mem h with h|h
    ·exact .inl h
    ·exact .inr (by simp[h])
  ·exact .inr (by simp[h])
theorem newR_mem {ls:List Lab}{y:Lab}(h:y∈(newR ls).2):y∈ls:=by
 unfold newR at h;split at h
 ·split at h
  ·simp at h
  ·split at h
   ·simp at h
   ·exact foldN_mem h
 ·simp at h
theorem setTo_mem {ls:List Lab}{y:Lab}(h:y∈ls.foldl setStep []):y∈ls:=by
 suffices ∀ (l:List Lab) (s:List Lab),y∈l.foldl setStep s→y∈s∨y∈l by
  rcases this ls [] h with h|h
  ·simp at h
  ·exact h
 intro l
 induction l with
 |nil=>intro s h;exact .inl h
 |cons a r ih =>
  intro s h;rcases ih _ h with h|h
  ·unfold setStep at h;split at h
   ·rcases List.mem_append.1 (newR_mem h)with h|h
    ·exact .inl h
    ·exact .inr (by simp at h;simp[h])
   ·exact .inl h
  ·exact .inr (by simp[h])
end
end Go.Proofs.YtmkckngecjpklaaGreatDoor.Lab
end
section
namespace Go.Proofs
open Go.Shelf
def Tryz.lays169_ren:Go.Shelf.Ren:=⟨fun|169=>214|n=>n,fun|70=>277|9=>9|0=>0|72=>279|37=>40|127=>332|3=>3|5=>5|n=>n,fun|n=>n⟩
theorem Tryz.lays169:Go.Proofs.Lays.n169 Tryz.prog Tryz.lays169_ren:={
 mixed:=by kernel_rfl
 f169:=Tryz.func214.trans (congrArg some (by kernel_rfl))
 t0:=Tryz.underlying0
 a0:=Tryz.isAgg0
 z0:=Tryz.sizeOf0
 v0:=Tryz.zeroValue0
 t3:=Tryz.underlying3
 a3:=Tryz.isAgg3
 z3:=Tryz.sizeOf3
 v3:=Tryz.zeroValue3
 t9:=Tryz.underlying9
 a9:=Tryz.isAgg9
 z9:=Tryz.sizeOf9
 v9:=Tryz.zeroValue9
 t37:=Tryz.underlying40
 a37:=Tryz.isAgg40
 z37:=Tryz.sizeOf40
 v37:=Tryz.zeroValue40
 t70:=Tryz.underlying277
 a70:=Tryz.isAgg277
 z70:=Tryz.sizeOf277
 v70:=Tryz.zeroValue277
 t72:=Tryz.underlying279
 a72:=Tryz.isAgg279
 z72:=Tryz.sizeOf279
 v72:=Tryz.zeroValue279
 t127:=Tryz.underlying332
 a127:=Tryz.isAgg332
 z127:=Tryz.sizeOf332
 v127:=Tryz.zeroValue332 }
theorem Tryz.Builder_Extra_169:Builder.Extra Tryz.prog Tryz.lays169_ren:={
 sizeBuilder:=by kernel_rfl
 liesBuilder:=by kernel_rfl
 t5:=Tryz.underlying5
 a5:=Tryz.isAgg5
 z5:=Tryz.sizeOf5
 v5:=Tryz.zeroValue5
 infoByte:=by kernel_rfl
 cellsByte:=by kernel_rfl
 sizeByte:=by kernel_rfl
 neB5:=by decide }
def Tryz.lays156_ren:Go.Shelf.Ren:=⟨fun|156=>209|165=>261|166=>213|169=>214|240=>263|241=>304|276=>305|277=>332|n=>n,fun|31=>61|9=>9|3=>3|4=>4|0=>0|20=>20|72=>279|76=>285|70=>277|37=>40|75=>281|127=>332|164=>359|5=>5|80=>287|n=>n,fun|n=>n⟩
theorem Tryz.lays156:Go.Proofs.Lays.n156 Tryz.prog Tryz.lays156_ren:={
 mixed:=by kernel_rfl
 f156:=Tryz.func209.trans (congrArg some (by kernel_rfl))
 f165:=Tryz.func261.trans (congrArg some (by kernel_rfl))
 f166:=Tryz.func213.trans (congrArg some (by kernel_rfl))
 f169:=Tryz.func214.trans (congrArg some (by kernel_rfl))
 f240:=Tryz.func263.trans (congrArg some (by kernel_rfl))
 f241:=Tryz.func304.trans (congrArg some (by kernel_rfl))
 f276:=Tryz.func305.trans (congrArg some (by kernel_rfl))
 f277:=Tryz.func332.trans (congrArg some (by kernel_rfl))
 t0:=Tryz.underlying0
 a0:=Tryz.isAgg0
 z0:=Tryz.sizeOf0
 v0:=Tryz.zeroValue0
 t3:=Tryz.underlying3
 a3:=Tryz.isAgg3
 z3:=Tryz.sizeOf3
 v3:=Tryz.zeroValue3
 t4:=Tryz.underlying4
 a4:=Tryz.isAgg4
 z4:=Tryz.sizeOf4
 v4:=Tryz.zeroValue4
 t9:=Tryz.underlying9
 a9:=Tryz.isAgg9
 z9:=Tryz.sizeOf9
 v9:=Tryz.zeroValue9
 t20:=Tryz.underlying20
 a20:=Tryz.isAgg20
 z20:=Tryz.sizeOf20
 v20:=Tryz.zeroValue20
 t31:=Tryz.underlying61
 a31:=Tryz.isAgg61
 z31:=Tryz.sizeOf61
 v31:=Tryz.zeroValue61
 t37:=Tryz.underlying40
 a37:=Tryz.isAgg40
 z37:=Tryz.sizeOf40
 v37:=Tryz.zeroValue40
 t70:=Tryz.underlying277
 a70:=Tryz.isAgg277
 z70:=Tryz.sizeOf277
 v70:=Tryz.zeroValue277
 t72:=Tryz.underlying279
 a72:=Tryz.isAgg279
 z72:=Tryz.sizeOf279
 v72:=Tryz.zeroValue279
 t75:=Tryz.underlying281
 a75:=Tryz.isAgg281
 z75:=Tryz.sizeOf281
 v75:=Tryz.zeroValue281
 t76:=Tryz.underlying285
 a76:=Tryz.isAgg285
 z76:=Tryz.sizeOf285
 v76:=Tryz.zeroValue285
 t127:=Tryz.underlying332
 a127:=Tryz.isAgg332
 z127:=Tryz.sizeOf332
 v127:=Tryz.zeroValue332
 t164:=Tryz.underlying359
 a164:=Tryz.isAgg359
 z164:=Tryz.sizeOf359
 v164:=Tryz.zeroValue359 }
theorem Tryz.Builder_Extra_156:Builder.Extra Tryz.prog Tryz.lays156_ren:={
 sizeBuilder:=by kernel_rfl
 liesBuilder:=by kernel_rfl
 t5:=Tryz.underlying5
 a5:=Tryz.isAgg5
 z5:=Tryz.sizeOf5
 v5:=Tryz.zeroValue5
 infoByte:=by kernel_rfl
 cellsByte:=by kernel_rfl
 sizeByte:=by kernel_rfl
 neB5:=by decide }
def Tryz.lays119_ren:Go.Shelf.Ren:=⟨fun|119=>312|n=>n,fun|21=>21|4=>4|n=>n,fun|n=>n⟩
theorem Tryz.lays119:Go.Proofs.Lays.n119 Tryz.prog Tryz.lays119_ren:={
 mixed:=by kernel_rfl
 f119:=Tryz.func312.trans (congrArg some (by kernel_rfl))
 t4:=Tryz.underlying4
 a4:=Tryz.isAgg4
 z4:=Tryz.sizeOf4
 v4:=Tryz.zeroValue4
 t21:=Tryz.underlying21
 a21:=Tryz.isAgg21
 z21:=Tryz.sizeOf21
 v21:=Tryz.zeroValue21 }
theorem Tryz.utf8_ValidRune (r:Int)(w:World) :
  Calls Tryz.prog 312 #[.int .i32 r] w fun e w'=>e=.returned (.bool (Lib.validRune r))∧w'=w:=Any.utf8_ValidRune Tryz.lays119 r w
def Tryz.lays137_ren:Go.Shelf.Ren:=⟨fun|137=>311|217=>315|266=>334|n=>n,fun|9=>9|5=>5|3=>3|n=>n,fun|n=>n⟩
theorem Tryz.lays137:Go.Proofs.Lays.n137 Tryz.prog Tryz.lays137_ren:={
 mixed:=by kernel_rfl
 f137:=Tryz.func311.trans (congrArg some (by kernel_rfl))
 f217:=Tryz.func315.trans (congrArg some (by kernel_rfl))
 f266:=Tryz.func334.trans (congrArg some (by kernel_rfl))
 t3:=Tryz.underlying3
 a3:=Tryz.isAgg3
 z3:=Tryz.sizeOf3
 v3:=Tryz.zeroValue3
 t5:=Tryz.underlying5
 a5:=Tryz.isAgg5
 z5:=Tryz.sizeOf5
 v5:=Tryz.zeroValue5
 t9:=Tryz.underlying9
 a9:=Tryz.isAgg9
 z9:=Tryz.sizeOf9
 v9:=Tryz.zeroValue9 }
def Tryz.lays206_ren:Go.Shelf.Ren:=⟨fun|206=>218|n=>n,fun|9=>9|4=>4|3=>3|n=>n,fun|n=>n⟩
def Tryz.lays99_ren:Go.Shelf.Ren:=⟨fun|99=>159|206=>218|n=>n,fun|9=>9|4=>4|3=>3|n=>n,fun|n=>n⟩
theorem Tryz.lays99:Go.Proofs.Lays.n99 Tryz.prog Tryz.lays99_ren:={
 mixed:=by kernel_rfl
 f99:=Tryz.func159.trans (congrArg some (by kernel_rfl))
 f206:=Tryz.func218.trans (congrArg some (by kernel_rfl))
 t3:=Tryz.underlying3
 a3:=Tryz.isAgg3
 z3:=Tryz.sizeOf3
 v3:=Tryz.zeroValue3
 t4:=Tryz.underlying4
 a4:=Tryz.isAgg4
 z4:=Tryz.sizeOf4
 v4:=Tryz.zeroValue4
 t9:=Tryz.underlying9
 a9:=Tryz.isAgg9
 z9:=Tryz.sizeOf9
 v9:=Tryz.zeroValue9 }
def Tryz.lays197_ren:Go.Shelf.Ren:=⟨fun|197=>223|260=>281|n=>n,fun|9=>9|21=>21|3=>3|4=>4|5=>5|105=>298|119=>207|0=>0|46=>211|139=>210|138=>209|n=>n,fun|3=>1|4=>2|n=>n⟩
theorem Tryz.lays197:Go.Proofs.Lays.n197 Tryz.prog Tryz.lays197_ren:={
 mixed:=by kernel_rfl
 f197:=Tryz.func223.trans (congrArg some (by kernel_rfl))
 f260:=Tryz.func281.trans (congrArg some (by kernel_rfl))
 t0:=Tryz.underlying0
 a0:=Tryz.isAgg0
 z0:=Tryz.sizeOf0
 v0:=Tryz.zeroValue0
 t3:=Tryz.underlying3
 a3:=Tryz.isAgg3
 z3:=Tryz.sizeOf3
 v3:=Tryz.zeroValue3
 t4:=Tryz.underlying4
 a4:=Tryz.isAgg4
 z4:=Tryz.sizeOf4
 v4:=Tryz.zeroValue4
 t5:=Tryz.underlying5
 a5:=Tryz.isAgg5
 z5:=Tryz.sizeOf5
 v5:=Tryz.zeroValue5
 t9:=Tryz.underlying9
 a9:=Tryz.isAgg9
 z9:=Tryz.sizeOf9
 v9:=Tryz.zeroValue9
 t21:=Tryz.underlying21
 a21:=Tryz.isAgg21
 z21:=Tryz.sizeOf21
 v21:=Tryz.zeroValue21
 t46:=Tryz.underlying211
 a46:=Tryz.isAgg211
 z46:=Tryz.sizeOf211
 v46:=Tryz.zeroValue211
 t105:=Tryz.underlying298
 a105:=Tryz.isAgg298
 z105:=Tryz.sizeOf298
 v105:=Tryz.zeroValue298
 t119:=Tryz.underlying207
 a119:=Tryz.isAgg207
 z119:=Tryz.sizeOf207
 t138:=Tryz.underlying209
 a138:=Tryz.isAgg209
 z138:=Tryz.sizeOf209
 v138:=Tryz.zeroValue209
 t139:=Tryz.underlying210
 a139:=Tryz.isAgg210
 z139:=Tryz.sizeOf210
 v139:=Tryz.zeroValue210
 g3:=by kernel_rfl
 g4:=by kernel_rfl }
def Tryz.lays151_ren:Go.Shelf.Ren:=⟨fun|151=>224|152=>282|137=>311|119=>312|224=>279|225=>313|217=>315|266=>334|n=>n,fun|9=>9|21=>21|4=>4|3=>3|5=>5|0=>0|46=>211|n=>n,fun|n=>n⟩
theorem Tryz.lays151:Go.Proofs.Lays.n151 Tryz.prog Tryz.lays151_ren:={
 mixed:=by kernel_rfl
 f119:=Tryz.func312.trans (congrArg some (by kernel_rfl))
 f137:=Tryz.func311.trans (congrArg some (by kernel_rfl))
 f151:=Tryz.func224.trans (congrArg some (by kernel_rfl))
 f152:=Tryz.func282.trans (congrArg some (by kernel_rfl))
 f217:=Tryz.func315.trans (congrArg some (by kernel_rfl))
 f224:=Tryz.func279.trans (congrArg some (by kernel_rfl))
 f225:=Tryz.func313.trans (congrArg some (by kernel_rfl))
 f266:=Tryz.func334.trans (congrArg some (by kernel_rfl))
 t0:=Tryz.underlying0
 a0:=Tryz.isAgg0
 z0:=Tryz.sizeOf0
 v0:=Tryz.zeroValue0
 t3:=Tryz.underlying3
 a3:=Tryz.isAgg3
 z3:=Tryz.sizeOf3
 v3:=Tryz.zeroValue3
 t4:=Tryz.underlying4
 a4:=Tryz.isAgg4
 z4:=Tryz.sizeOf4
 v4:=Tryz.zeroValue4
 t5:=Tryz.underlying5
 a5:=Tryz.isAgg5
 z5:=Tryz.sizeOf5
 v5:=Tryz.zeroValue5
 t9:=Tryz.underlying9
 a9:=Tryz.isAgg9
 z9:=Tryz.sizeOf9
 v9:=Tryz.zeroValue9
 t21:=Tryz.underlying21
 a21:=Tryz.isAgg21
 z21:=Tryz.sizeOf21
 v21:=Tryz.zeroValue21
 t46:=Tryz.underlying211
 a46:=Tryz.isAgg211
 z46:=Tryz.sizeOf211
 v46:=Tryz.zeroValue211 }
def Tryz.lays260_ren:Go.Shelf.Ren:=⟨fun|260=>281|n=>n,fun|9=>9|21=>21|3=>3|4=>4|5=>5|119=>207|0=>0|46=>211|139=>210|138=>209|n=>n,fun|3=>1|4=>2|n=>n⟩
theorem Tryz.lays260:Go.Proofs.Lays.n260 Tryz.prog Tryz.lays260_ren:={
 mixed:=by kernel_rfl
 f260:=Tryz.func281.trans (congrArg some (by kernel_rfl))
 t0:=Tryz.underlying0
 a0:=Tryz.isAgg0
 z0:=Tryz.sizeOf0
 v0:=Tryz.zeroValue0
 t3:=Tryz.underlying3
 a3:=Tryz.isAgg3
 z3:=Tryz.sizeOf3
 v3:=Tryz.zeroValue3
 t4:=Tryz.underlying4
 a4:=Tryz.isAgg4
 z4:=Tryz.sizeOf4
 v4:=Tryz.zeroValue4
 t5:=Tryz.underlying5
 a5:=Tryz.isAgg5
 z5:=Tryz.sizeOf5
 v5:=Tryz.zeroValue5
 t9:=Tryz.underlying9
 a9:=Tryz.isAgg9
 z9:=Tryz.sizeOf9
 v9:=Tryz.zeroValue9
 t21:=Tryz.underlying21
 a21:=Tryz.isAgg21
 z21:=Tryz.sizeOf21
 v21:=Tryz.zeroValue21
 t46:=Tryz.underlying211
 a46:=Tryz.isAgg211
 z46:=Tryz.sizeOf211
 v46:=Tryz.zeroValue211
 t119:=Tryz.underlying207
 a119:=Tryz.isAgg207
 z119:=Tryz.sizeOf207
 t138:=Tryz.underlying209
 a138:=Tryz.isAgg209
 z138:=Tryz.sizeOf209
 v138:=Tryz.zeroValue209
 t139:=Tryz.underlying210
 a139:=Tryz.isAgg210
 z139:=Tryz.sizeOf210
 v139:=Tryz.zeroValue210
 g3:=by kernel_rfl
 g4:=by kernel_rfl }
theorem Tryz.lays166:Go.Proofs.Lays.n166 Tryz.prog Tryz.lays156_ren:={ Tryz.lays156 with }
def Tryz.lays167_ren:Go.Shelf.Ren:=⟨fun|167=>211|156=>209|165=>261|166=>213|169=>214|240=>263|241=>304|276=>305|277=>332|n=>n,fun|31=>61|9=>9|3=>3|4=>4|0=>0|20=>20|72=>279|76=>285|70=>277|37=>40|75=>281|127=>332|164=>359|5=>5|80=>287|n=>n,fun|n=>n⟩
theorem Tryz.lays167:Go.Proofs.Lays.n167 Tryz.prog Tryz.lays167_ren:={
 mixed:=by kernel_rfl
 f167:=Tryz.func211.trans (congrArg some (by kernel_rfl))
 f240:=Tryz.func263.trans (congrArg some (by kernel_rfl))
 f276:=Tryz.func305.trans (congrArg some (by kernel_rfl))
 t0:=Tryz.underlying0
 a0:=Tryz.isAgg0
 z0:=Tryz.sizeOf0
 v0:=Tryz.zeroValue0
 t4:=Tryz.underlying4
 a4:=Tryz.isAgg4
 z4:=Tryz.sizeOf4
 v4:=Tryz.zeroValue4
 t5:=Tryz.underlying5
 a5:=Tryz.isAgg5
 z5:=Tryz.sizeOf5
 v5:=Tryz.zeroValue5
 t9:=Tryz.underlying9
 a9:=Tryz.isAgg9
 z9:=Tryz.sizeOf9
 v9:=Tryz.zeroValue9
 t20:=Tryz.underlying20
 a20:=Tryz.isAgg20
 z20:=Tryz.sizeOf20
 v20:=Tryz.zeroValue20
 t37:=Tryz.underlying40
 a37:=Tryz.isAgg40
 z37:=Tryz.sizeOf40
 v37:=Tryz.zeroValue40
 t70:=Tryz.underlying277
 a70:=Tryz.isAgg277
 z70:=Tryz.sizeOf277
 v70:=Tryz.zeroValue277
 t72:=Tryz.underlying279
 a72:=Tryz.isAgg279
 z72:=Tryz.sizeOf279
 v72:=Tryz.zeroValue279
 t75:=Tryz.underlying281
 a75:=Tryz.isAgg281
 z75:=Tryz.sizeOf281
 v75:=Tryz.zeroValue281
 t164:=Tryz.underlying359
 a164:=Tryz.isAgg359
 z164:=Tryz.sizeOf359
 v164:=Tryz.zeroValue359 }
theorem Tryz.Builder_Extra_167:Builder.Extra Tryz.prog Tryz.lays167_ren:={
 sizeBuilder:=by kernel_rfl
 liesBuilder:=by kernel_rfl
 t5:=Tryz.underlying5
 a5:=Tryz.isAgg5
 z5:=Tryz.sizeOf5
 v5:=Tryz.zeroValue5
 infoByte:=by kernel_rfl
 cellsByte:=by kernel_rfl
 sizeByte:=by kernel_rfl
 neB5:=by decide }
def Tryz.laysValid_ren:Go.Shelf.Ren:=⟨fun|196=>85|259=>153|n=>n,fun|9=>9|4=>4|3=>3|5=>5|12=>12|119=>207|0=>0|46=>211|139=>210|138=>209|53=>100|n=>n,fun|3=>1|4=>2|n=>n⟩
theorem Tryz.laysValid:Go.Proofs.Lays.n196 Tryz.prog Tryz.laysValid_ren:={
 mixed:=by kernel_rfl
 f196:=Tryz.func85.trans (congrArg some (by kernel_rfl))
 f259:=Tryz.func153.trans (congrArg some (by kernel_rfl))
 t0:=Tryz.underlying0
 a0:=Tryz.isAgg0
 z0:=Tryz.sizeOf0
 v0:=Tryz.zeroValue0
 t3:=Tryz.underlying3
 a3:=Tryz.isAgg3
 z3:=Tryz.sizeOf3
 v3:=Tryz.zeroValue3
 t4:=Tryz.underlying4
 a4:=Tryz.isAgg4
 z4:=Tryz.sizeOf4
 v4:=Tryz.zeroValue4
 t5:=Tryz.underlying5
 a5:=Tryz.isAgg5
 z5:=Tryz.sizeOf5
 v5:=Tryz.zeroValue5
 t9:=Tryz.underlying9
 a9:=Tryz.isAgg9
 z9:=Tryz.sizeOf9
 v9:=Tryz.zeroValue9
 t12:=Tryz.underlying12
 a12:=Tryz.isAgg12
 z12:=Tryz.sizeOf12
 v12:=Tryz.zeroValue12
 t46:=Tryz.underlying211
 a46:=Tryz.isAgg211
 z46:=Tryz.sizeOf211
 v46:=Tryz.zeroValue211
 t53:=Tryz.underlying100
 a53:=Tryz.isAgg100
 z53:=Tryz.sizeOf100
 v53:=Tryz.zeroValue100
 t119:=Tryz.underlying207
 a119:=Tryz.isAgg207
 z119:=Tryz.sizeOf207
 t138:=Tryz.underlying209
 a138:=Tryz.isAgg209
 z138:=Tryz.sizeOf209
 v138:=Tryz.zeroValue209
 t139:=Tryz.underlying210
 a139:=Tryz.isAgg210
 z139:=Tryz.sizeOf210
 v139:=Tryz.zeroValue210
 g3:=by kernel_rfl
 g4:=by kernel_rfl }
end Go.Proofs
end
section
open Go Go.Vg Go.RowKit Go.Proofs Go.Proofs.YtmkckngecjpklaaGreatDoor
namespace Go.Proofs.YtmkckngecjpklaaGreatDoor.Lab
section
abbrev Tabs (w:World):Prop:=Lib.Utf8Tabs (Tryz.laysValid_ren.g 3) (Tryz.laysValid_ren.g 4) w
theorem validS_ok (s:List UInt8)(w:World)(hs:Sz s)(hT:Tabs w) :
  Ret Tryz.prog 85 ⟨[S s]⟩ w fun v w'=>v=.bool (Lib.validD s)∧Ext w w' :=
 Calls.mono (Any.utf8_ValidString Tryz.laysValid ⟨⟨s⟩⟩ w hs hT) fun _ _ ⟨he,hb⟩=>⟨_,he,rfl,hb⟩
theorem Tabs.to {w w':World}(h:Tabs w)(hx:Ext w w'):Tabs w':=Utf8Tabs_below h hx
def okB (x:Lab):Bool:=if (!namedB false x.1||decide ((1024:Int)<x.2.length)||!Lib.validD x.2)=true then false else (!decide (x.1=nameS)||decide (x.2=[])||namedB true x.2)
end
end Go.Proofs.YtmkckngecjpklaaGreatDoor.Lab
end
section
namespace Go.Vg
open Go.RowKit Go.WideShapes Go.ChangeShapes
theorem open_sli {H:Type}{enc:TypeId×Value→H}{P:Program}{w:World}{sp:Nat→Bool}{hd:Bool}{t e k b0:Nat}{α:Type}{v:Value}{d:DataW H}{p:List MemPlace}(dec:α→List Value)(Q:α→Prop)
  (ht:P.underlying t=some (.slice e))(hc:P.cellsOf e=k)(hel:∀ n cs x,DataW.trod enc P w 0 sp hd n e cs=some x→∃ a,cs=dec a∧Q a)
  (hval:Value.okWide P w .any b0 t v)(h:DataW.Trod enc P w 0 sp hd t v d p):∃ ls:List α,Sli w v k (ls.map dec)∧∀ a∈ls,Q a:=by
 have hspot:∀ a l c,v=.slice (some a) l c→a.spot=none:=by
  rintro a l c rfl;simp only[Value.okWide,ht,Cell.okWide,Cell.ok,World.has]at hval;exact hval.2.2.2.1
 obtain⟨a0,len,cap,rfl⟩:=okWide_slice ht hval;obtain⟨fuel,h⟩:=h;rcases Go.Deep.open_slice ht h with⟨h1,_⟩|⟨a,len',cap',m,n,D,Pl,h1,hb,hl,hm,hmm,_,hx⟩
 ·have h2:Value.slice a0 len cap=.slice none 0 0:=by simpa[Value.cells] using h1
  exact⟨[],.inl ⟨h2,rfl⟩,by simp⟩
 ·have h2:Value.slice a0 len cap=.slice (some a) len' cap':=by simpa[Value.cells] using h1
  cases h2;have hlm:len≤m:=by rw[hmm];split<;>omega
  have each:∀ i,i<len→∃ x:α,w.cells? 0 (a.add (i*k)) k=some (dec x)∧Q x:=by
   intro i hi;obtain⟨cs,h3,h4⟩:=hx i (by omega)
   rw[hc]at h3;obtain⟨x,rfl,hq⟩:=hel n cs _ h4;exact⟨x,h3,hq⟩
  have build:∀ l,l≤len→∃ ls:List α,ls.length=l∧(∀ i x,ls[i]?=some x→w.cells? 0 (a.add (i*k)) k=some (dec x)∧Q x):=by
   intro l
   induction l with
   |zero=>intro _;exact⟨[],rfl,by simp⟩
   |succ l ih =>
    intro hl';obtain⟨ls,h5,h6⟩:=ih (by omega)
    obtain⟨x,h7⟩:=each l (by omega)
    refine⟨ls++[x],by simp[h5],fun i y hy=>?_⟩
    by_cases hi:i<ls.length
    ·rw[List.getElem?_append_left hi]at hy;exact h6 i y hy
    ·have hil:i=l:=by
      have:=(List.getElem?_eq_some_iff.1 hy).1;simp at this;omega
     subst hil;rw[List.getElem?_append_right (by omega),h5,Nat.sub_self]at hy
     cases hy;exact h7
  obtain⟨ls,h5,h6⟩:=build len (Nat.le_refl _);refine⟨ls,.inr ⟨a,cap,by rw[lMa,h5],fun _=>hspot a len cap rfl,by rw[lMa,h5];exact hl,?_,?_,?_⟩,?_⟩
  ·intro x hx';obtain⟨y,hy,rfl⟩:=List.mem_map.1 hx';obtain⟨i,hi⟩:=List.getElem?_of_mem hy;exact(World.cells?_some (h6 i y hi).1).2.1
  ·intro i x hx' j u hu;simp only[List.getElem?_map,Option.map_eq_some_iff]at hx';obtain⟨y,hy,rfl⟩:=hx';obtain⟨_,h8,h9⟩:=World.cells?_some (h6 i y hy).1;have hj:j<k:=by have:=(List.getElem?_eq_some_iff.1 hu).1;omega
   have:=h9 j hj;rw[hu,Addr.add_add a (hspot a len cap rfl)]at this;exact this
  ·rw[lMa,h5];unfold maxLen at hm;omega
  ·intro x hx';obtain⟨i,hi⟩:=List.getElem?_of_mem hx';exact(h6 i x hi).2
end Go.Vg
end
section
namespace Go.Vg
open Go.RowKit Go.WideShapes Go.ChangeShapes
structure OkW (P:Program)(w:World)(b t:Nat)(v:Value):Prop where
 ok:Value.okWide P w .any b t v
theorem open_rows {H:Type}{enc:TypeId×Value→H}{P:Program}{w:World}{sp:Nat→Bool}{hd:Bool}{t e k b0:Nat}{α:Type}{v:Value}{d:DataW H}{p:List MemPlace}(dec:α→List Value)(Q:α→Prop)
  (ht:P.underlying t=some (.slice e))(hc:P.cellsOf e=k)(hel:∀ n cs x,DataW.trod enc P w 0 sp hd n e cs=some x→∃ a,cs=dec a∧Q a)
  (hval:OkW P w b0 t v)(h:DataW.Trod enc P w 0 sp hd t v d p):∃ ls:List α,Sli w v k (ls.map dec)∧∀ a∈ls,Q a:=open_sli dec Q ht hc hel hval.ok h
theorem wf_i64 {n:Int}(h:(Lit.int .i64 n).wf=true) : -9223372036854775808≤n∧n≤9223372036854775807:=by
 have e1:IntKind.i64.min = -9223372036854775808:=by decide
 have e2:IntKind.i64.max=9223372036854775807:=by decide
 simp only[Lit.wf,Bool.and_eq_true,dT,e1,e2]at h;exact h
theorem open_str {H:Type}{enc:TypeId×Value→H}{P:Program}{w:World}{b:Nat}{sp:Nat→Bool}{hd:Bool}{t n:Nat}{cs:List Value}{x:DataW H×List MemPlace}
  (ht:P.underlying t=some .string)(h:DataW.trod enc P w b sp hd n t cs=some x):∃ s:List UInt8,cs=[S s]∧s.length≤9223372036854775807:=by
 obtain⟨s,rfl,_,hl⟩:=DataW.trod_string ht h;exact⟨s.data.toList,rfl,hl⟩
theorem open_int1 {H:Type}{enc:TypeId×Value→H}{P:Program}{w:World}{b:Nat}{sp:Nat→Bool}{hd:Bool}{t n:Nat}{k:IntKind}{cs:List Value}{x:DataW H×List MemPlace}
  (ht:P.underlying t=some (.int k))(h:DataW.trod enc P w b sp hd n t cs=some x):∃ m:Int,cs=[.int k m]∧(Lit.int k m).wf=true:=by
 obtain⟨m,rfl,_,hl⟩:=DataW.trod_int ht h;exact⟨m,rfl,hl⟩
theorem open_st2 {H:Type}{enc:TypeId×Value→H}{P:Program}{w:World}{b:Nat}{sp:Nat→Bool}{hd:Bool}{t n:Nat}{f0 f1:Field}{cs:List Value}{x:DataW H×List MemPlace}
  (ht:P.underlying t=some (.struct #[f0,f1]))(hc:P.cellsOf t=2)(h0:f0.offset=0)(h1:f1.offset=1)(c0:P.cellsOf f0.type=1)(c1:P.cellsOf f1.type=1)
  (h:DataW.trod enc P w b sp hd n t cs=some x):∃ u0 u1 n y0 y1,cs=[u0,u1]∧DataW.trod enc P w b sp hd n f0.type [u0]=some y0∧DataW.trod enc P w b sp hd n f1.type [u1]=some y1:=by
 obtain⟨y0,y1,m,_,hl,k0,k1⟩:=trod_struct2 ht h;rw[hc]at hl;rw[h0,c0]at k0;rw[h1,c1]at k1
 match cs,hl with
 |[u0,u1],_=>exact⟨u0,u1,m,y0,y1,rfl,k0,k1⟩
theorem trodAll_stays {H:Type}{enc:TypeId×Value→H}{P:Program}(hl:laidOutB P=true){W W':World}{sp:Nat→Bool}(hx:Below W.heap.size W W') :
  ∀ {ts:List TypeId} {vs:List Value} {ds:List (DataW H)} {ps:List MemPlace},(ts.all fun t=>P.readableRec t&&decide (t<P.types.size))=true→DataW.TrodAll enc P W 0 (fun _=>true) true ts vs ds ps →
   (∀ p∈ps,p.block<W.heap.size)→(∀ p∈ps,sp p.block=true)→DataW.TrodAll enc P W' 0 sp true ts vs ds ps
 |[],vs,ds,ps,_,h,_,_=>by
  obtain⟨rfl,rfl,rfl⟩:=trodAll_nil h;exact trodAll_mk0
 |t::ts,vs,ds,ps,ht,h,hlt,hsp=>by
  simp only[List.all_cons,Bool.and_eq_true,dT]at ht;obtain⟨v,vs,d,ds,p,q,rfl,rfl,rfl,h0,h1⟩:=trodAll_cons h;have h0':=WideElems.Trod_stays (sp':=sp) hl ht.1.1 ht.1.2 h0 (fun x hx'=>hx.same (hlt x (by simp[hx']))) (fun x hx'=>hsp x (by simp[hx']))
  exact trodAll_cons_mk h0' (trodAll_stays hl hx ht.2 h1 (fun x hx'=>hlt x (by simp[hx'])) (fun x hx'=>hsp x (by simp[hx'])))
theorem law_post {H:Type}{enc:TypeId×Value→H}{P:Program}{f:Func}{s:ChangeSpec}{tb:TypeId}{W W':World}{args:Array Value}{ds gs:List (DataW H)}{before:List MemPlace}
  (hl:laidOutB P=true)(hts:(f.params.toList.all fun t=>P.readableRec t&&decide (t<P.types.size))=true)(hr:f.resultTypes=#[tb])(htb:P.underlying tb=some .bool)(hv:s.vars=[])
  (hW:DataW.Whole enc P f.params.toList s.vars false W args.toList ds gs before)
  (hfn:s.fn H ds={ results:=[.lit (.bool true)],args:=ds })
  (hx:Below W.heap.size W W'):s.post enc P f false true false false W args (.bool true) W':=by
 have hlt:∀ p∈before,p.block<W.heap.size:=fun p hp=>hW.lt p hp;have hW':=hW;obtain⟨p,q,hA,hV,rfl,hz,hn⟩:=hW;rw[hv]at hV;obtain⟨rfl,rfl⟩:=trodVars_none hV;have hfn':s.fn H (ds++[])={ results:=[.lit (.bool true)],args:=ds }:=by rw[List.append_nil];exact hfn
 have hA':∀ sp:Nat→Bool,(∀ x∈p++[],sp x.block=true)→DataW.TrodAll enc P W' 0 sp true f.params.toList args.toList (s.fn H (ds++[])).args p:=by
  intro sp hsp;rw[hfn'];exact trodAll_stays hl hx hts hA (fun x hx'=>hlt x (by simp[hx'])) (fun x hx'=>hsp x (by simp[hx']))
 refine⟨ds,[],p++[],[],p,[],hW',?_,hA' _ (fun x hx'=>by simpa using hlt x hx'),?_,World.keptBut_mono (fun x hx'=>⟨hx',?_⟩) (hx.frame (·∈p++[])),fun h=>by cases h⟩
 ·rw[hfn',hr];exact trodAll_cons_mk (shut_bool htb _) trodAll_mk0
 ·rw[hv,hfn'];rfl
 ·exact .inr (by simpa using hx')
end Go.Vg
end
section
namespace Go.Vg
open Go.RowKit
def bysC (l:List UInt8):List (List Value):=l.map fun b=>[U b]
theorem bysC_len (l:List UInt8):(bysC l).length=l.length:=by simp[bysC]
theorem bysC_get {l:List UInt8}{i:Nat}(h:i<l.length):(bysC l)[i]?=some [U (l.getD i 0)]:=by
 simp[bysC,List.getD,h]
theorem bysC_k (l:List UInt8):∀ x∈bysC l,x.length=1:=by
 intro y hy;obtain⟨b,_,rfl⟩:=List.mem_map.1 hy;rfl
abbrev By (w:World)(v:Value)(l:List UInt8):Prop:=Sli w v 1 (bysC l)
theorem wrap_u64 {n:Int}(h0:0≤n)(h1:n≤18446744073709551615):IntKind.u64.wrap n=n:=by
 have hb:IntKind.u64.bits=64:=rfl;have hs:IntKind.u64.signed=false:=rfl;unfold IntKind.wrap;simp only[hb,hs,Bool.false_and];have e1:(2:Int)^64=18446744073709551616:=by decide
 rw[e1];simp only[Bool.false_eq_true,if_false];omega
theorem wrap_u8 (n:Int):IntKind.u8.wrap n=n%256:=by
 have hb:IntKind.u8.bits=8:=rfl;have hs:IntKind.u8.signed=false:=rfl;unfold IntKind.wrap;simp only[hb,hs,Bool.false_and];have e1:(2:Int)^8=256:=by decide
 rw[e1];simp
def bigK:IntKind→Bool
 |.i64=>true
 |.u64=>true
 |_=>false
def byI (n:Int):UInt8:=UInt8.ofNat (n%256).toNat
theorem byI_int (n:Int):((byI n).toNat:Int)=n%256:=by
 have h:(n%256).toNat<256:=by omega
 unfold byI;rw[UInt8.toNat_ofNat_of_lt' h];omega
theorem byI_u (n:Int):Value.int .u8 (IntKind.u8.wrap n)=U (byI n):=by rw[wrap_u8,←byI_int];rfl
section
variable {X:Cx} {ops:Array Oper} {l:List Oper} {k:List Kt} {e:Env} {w:World} {N:Env→World→Prop} {d:Nat} {c:Option Bool} {ty:TypeId} {pos:String} {af:Array Edge} {g:Option (Nat×Bool)}
theorem Step.convB (T:Tb X.P){x:Operand}{src dst:TypeId}{q:IntKind}{m:Int}{sd:TypeDesc}
  (hg:guardE ops e ⟨some d,.convert src dst x,ty,pos,af,g⟩=some c)(hx:Op1 e c x (.int q m))(hs:T.ty src=some sd)(ht:T.ty dst=some (.int .u8))(hn:Nat.blt d X.n=true)
  (h:N ((d,c,U (byI m))::e) w):Step X ops ⟨some d,.convert src dst x,ty,pos,af,g⟩ e w N :=
 Step.convI T hg hx hs ht rfl hn (by rw[byI_u];exact h)
theorem Step.convU (T:Tb X.P){x:Operand}{src dst:TypeId}{q:IntKind}{b:UInt8}{sd:TypeDesc}
  (hg:guardE ops e ⟨some d,.convert src dst x,ty,pos,af,g⟩=some c)(hx:Op1 e c x (U b))(hs:T.ty src=some sd)(ht:T.ty dst=some (.int q))(hq:bigK q=true)(hn:Nat.blt d X.n=true)
  (h:N ((d,c,.int q (b.toNat:Int))::e) w):Step X ops ⟨some d,.convert src dst x,ty,pos,af,g⟩ e w N:=by
 have hb:=b.toNat_lt;refine Step.convI T hg hx hs ht ?_ hn h;cases q<;>first|exact wrap_i64 (by omega) (by omega)|exact wrap_u64 (by omega) (by omega)|cases hq
theorem Step.shr {xt yt:TypeId}{x y:Operand}{q qy:IntKind}{a r:Int}{n:Nat}(hg:guardE ops e ⟨some d,.binOp .shr xt x y yt,ty,pos,af,g⟩=some c)
  (hx:Op1 e c x (.int q a))(hy:Op1 e c y (.int qy n))(hr:a / 2^n=r)(hb:n≤q.bits)(hn:Nat.blt d X.n=true)
  (h:N ((d,c,.int q r)::e) w):Step X ops ⟨some d,.binOp .shr xt x y yt,ty,pos,af,g⟩ e w N :=
 Step.quiet rfl (by simpa[Nat.blt_eq] using hn) hg (fun _ hh=>by cases hh) (fun t hf hc=>by
  have h1:=shift_shr q qy a n (by omega) (by omega)
  simp only[Int.toNat_natCast,hr]at h1;simp only[execOp,hx.val hf hc,hy.val hf hc];simp[go_sem,h1]) h
theorem Step.bytesS (T:Tb X.P){x:Operand}{src dst et:TypeId}{v:Value}{xs:List UInt8}
  (hg:guardE ops e ⟨some d,.convert src dst x,ty,pos,af,g⟩=some c)(hx:Op1 e c x v)(hs:T.ty src=some (.slice et))(he:T.ty et=some (.int .u8))(ht:T.ty dst=some .string)
  (hv:cv c=true→By w v xs)(hn:Nat.blt d X.n=true)(h:N ((d,c,S xs)::e) w):Step X ops ⟨some d,.convert src dst x,ty,pos,af,g⟩ e w N :=
 Step.quiet rfl (by simpa[Nat.blt_eq] using hn) hg (fun _ hh=>by cases hh) (fun t hf hc=>by
  have hr:(convert src dst v).run X.P w=.ok (S xs) w:=by
   rcases hv hc with⟨rfl,h0⟩|⟨a,cap,rfl,hsp,hcap,hl,hcell,hb⟩
   ·have:xs=[]:=by simpa[bysC] using h0
    subst this;rw[run_convert_bytes_nil w src et (T.ok _ _ hs) (T.ok _ _ he) 0 0 dst (T.ok _ _ ht)];rfl
   ·rw[bysC_len];have:=run_convert_bytes_back w src dst et a cap xs (T.ok _ _ hs) (T.ok _ _ he) (T.ok _ _ ht) (fun j hj=>by
     have:=hcell j _ (bysC_get hj) 0 _ rfl;rw[Nat.mul_one,Nat.add_zero]at this;rw[this];simp[U,List.getD,hj])
    rw[this];rfl
  simp only[execOp,hx.val hf hc,Sem.run_bind,hr,Result.andThen_ok,Sem.run_pure]) h
theorem Step.buildA (T:Tb X.P){t k q by1 by2 m et:Nat}{z z2:Value}{zs us:List Value}{parts:Array (Nat×Operand)}{lo:List (Nat×Operand)}{vs:List (Nat×Value)}
  (hg:guardE ops e ⟨some d,.build t parts,ty,pos,af,g⟩=some none)
  (hp:parts=⟨lo⟩)(hvs:evps e lo=some vs)(ht:T.ty t=some (.array m et))(hi:T.inf t=some (z,k,by1))(hi2:T.inf et=some (z2,q,by2))(hz:z.cells=⟨zs⟩)
  (hfill:Instr.fill (fun i=>some (i*q,q)) ⟨zs⟩ vs=some ⟨us⟩)(hn:Nat.blt d X.n=true)
  (h:N ((d,none,.agg ⟨us⟩)::e) w):Step X ops ⟨some d,.build t parts,ty,pos,af,g⟩ e w N:=by
 obtain⟨i,hi1,hi2',hi3,hi4⟩:=T.iok _ _ _ _ hi;have hT:=T.ok _ _ ht;have hz':(zeroValue t).run X.P w=.ok z w:=by simp[zeroValue,typeInfo,hi1,hi2']
 refine Step.quiet rfl (by simpa[Nat.blt_eq] using hn) hg (fun _ hh=>by cases hh) (fun t' hf _=>?_) h
 have h1:=evps_map (ds:=X.ds) hf hvs;subst hp;have h2:(Array.mk lo).map (fun x:Nat×Operand=>match x with|(i,x)=>(i,(Act.mk t' X.ds).eval x))=⟨vs⟩:=by
  rw[show(fun x:Nat×Operand=>match x with|(i,x)=>(i,(Act.mk t' X.ds).eval x))=(fun p=>(p.1,(Act.mk t' X.ds).eval p.2)) from rfl]
  simp[h1]
 simp only[execOp,Instr.build,h2,Sem.run_bind,run_underlying hT,Result.andThen_ok,hz',hz,run_sizeOf hi2,hfill,Sem.run_pure]
theorem sBa (T:Tb X.P){t k' q by1 by2 m et:Nat}{z z2:Value}{zs us:List Value}{parts:Array (Nat×Operand)}{lo:List (Nat×Operand)}{vs:List (Nat×Value)}
  (h:GL X ops l k ((d,none,.agg ⟨us⟩)::e) w)(hg:guardE ops e ⟨some d,.build t parts,ty,pos,af,g⟩=some none:=by exact rfl)
  (hp:parts=⟨lo⟩:=by exact rfl)(hvs:evps e lo=some vs:=by exact rfl)(ht:T.ty t=some (.array m et):=by exact rfl)(hi:T.inf t=some (z,k',by1):=by exact rfl)(hi2:T.inf et=some (z2,q,by2):=by exact rfl)(hz:z.cells=⟨zs⟩:=by exact rfl)
  (hfill:Instr.fill (fun i=>some (i*q,q)) ⟨zs⟩ vs=some ⟨us⟩:=by exact rfl)(hn:Nat.blt d X.n=true:=by exact rfl) :
  GL X ops (⟨some d,.build t parts,ty,pos,af,g⟩::l) k e w:=GL.cons (Step.buildA T hg hp hvs ht hi hi2 hz hfill hn h)
theorem sAr {op:BinOp}{xt yt:TypeId}{x y:Operand}{q:IntKind}{a b r:Int}(h:GL X ops l k ((d,c,.int q r)::e) w)
  (hg:guardE ops e ⟨some d,.binOp op xt x y yt,ty,pos,af,g⟩=some c:=by exact rfl)(hx:Op1 e c x (.int q a):=by exact Op1.of rfl (by first|exact fun _=>rfl|exact fun h=>h))(hy:Op1 e c y (.int q b):=by exact Op1.of rfl (by first|exact fun _=>rfl|exact fun h=>h))
  (hp:match op with|.add=>q.wrap (a+b)=r|.sub=>q.wrap (a-b)=r|.mul=>q.wrap (a*b)=r|_=>False:=by exact rfl)(hn:Nat.blt d X.n=true:=by exact rfl) :
  GL X ops (⟨some d,.binOp op xt x y yt,ty,pos,af,g⟩::l) k e w:=GL.cons (Step.arith hg hx hy hp hn h)
theorem Step.neg {xt:TypeId}{x:Operand}{q:IntKind}{a r:Int}(hg:guardE ops e ⟨some d,.unOp .neg xt x,ty,pos,af,g⟩=some c)
  (hx:Op1 e c x (.int q a))(hr:q.wrap (0-a)=r)(hn:Nat.blt d X.n=true)
  (h:N ((d,c,.int q r)::e) w):Step X ops ⟨some d,.unOp .neg xt x,ty,pos,af,g⟩ e w N :=
 Step.quiet rfl (by simpa[Nat.blt_eq] using hn) hg (fun _ hh=>by cases hh) (fun t hf hc=>by
  simp only[execOp,hx.val hf hc];simp[go_sem,Op.intArith,←hr]) h
theorem Step.eqSt (T:Tb X.P){op:BinOp}{xt yt:TypeId}{x y:Operand}{a b:List Value}{r:Bool}{fs:Array Field}(hg:guardE ops e ⟨some d,.binOp op xt x y yt,ty,pos,af,g⟩=some c)
  (hx:Op1 e c x (.agg ⟨a⟩))(hy:Op1 e c y (.agg ⟨b⟩))(ht:T.ty xt=some (.struct fs))(hp:X.P.stoodInHeld xt=false)(hm:X.P.eqGuardType X.P.depth xt=false)
  (hq:∀ w,(Op.eqFields 9999 ⟨a⟩ ⟨b⟩ fs.toList).run X.P w=.ok r w)(hn:Nat.blt d X.n=true)
  (ho:op=.eql∨op=.neq)(h:N ((d,c,.bool (match op with|.eql=>r|_=>!r))::e) w):Step X ops ⟨some d,.binOp op xt x y yt,ty,pos,af,g⟩ e w N:=by
 have hT:=T.ok _ _ ht;have hfs:X.P.fieldsOf xt=fs:=by simp[Program.fieldsOf,hT]
 have he:∀ w,(Op.equalIn 10000 xt (.agg ⟨a⟩) (.agg ⟨b⟩)).run X.P w=.ok r w:=fun w=>by
  rw[show(10000:Nat)=9999+1 from rfl,run_equalIn_struct w 9999 xt _ _ (by rw[hfs];exact hT) hp,hfs];exact hq w
 refine Step.eqA hg hx hy (fun w=>?_) hn h;rcases ho with rfl|rfl
 ·simp only[Sem.run_bind,run_eqGuard_agg w _ _ _ _ _ _ hm,Result.andThen_ok,run_eql_struct,he]
 ·simp only[Sem.run_bind,run_eqGuard_agg w _ _ _ _ _ _ hm,Result.andThen_ok,run_neq_struct,he]
theorem sCb (T:Tb X.P){x:Operand}{src dst:TypeId}{q:IntKind}{m:Int}{sd:TypeDesc}(h:GL X ops l k ((d,c,U (byI m))::e) w)
  (hg:guardE ops e ⟨some d,.convert src dst x,ty,pos,af,g⟩=some c:=by exact rfl)(hx:Op1 e c x (.int q m):=by exact Op1.of rfl (by first|exact fun _=>rfl|exact fun h=>h))(hs:T.ty src=some sd:=by exact rfl)(ht:T.ty dst=some (.int .u8):=by exact rfl)(hn:Nat.blt d X.n=true:=by exact rfl) :
  GL X ops (⟨some d,.convert src dst x,ty,pos,af,g⟩::l) k e w:=GL.cons (Step.convB T hg hx hs ht hn h)
theorem sCu (T:Tb X.P){x:Operand}{src dst:TypeId}{q:IntKind}{b:UInt8}{sd:TypeDesc}(h:GL X ops l k ((d,c,.int q (b.toNat:Int))::e) w)
  (hg:guardE ops e ⟨some d,.convert src dst x,ty,pos,af,g⟩=some c:=by exact rfl)(hx:Op1 e c x (U b):=by exact Op1.of rfl (by first|exact fun _=>rfl|exact fun h=>h))(hs:T.ty src=some sd:=by exact rfl)(ht:T.ty dst=some (.int q):=by exact rfl)(hq:bigK q=true:=by exact rfl)(hn:Nat.blt d X.n=true:=by exact rfl) :
  GL X ops (⟨some d,.convert src dst x,ty,pos,af,g⟩::l) k e w:=GL.cons (Step.convU T hg hx hs ht hq hn h)
theorem sShr {xt yt:TypeId}{x y:Operand}{q qy:IntKind}{a r:Int}{n:Nat}(hr:a / 2^n=r)(h:GL X ops l k ((d,c,.int q r)::e) w)
  (hg:guardE ops e ⟨some d,.binOp .shr xt x y yt,ty,pos,af,g⟩=some c:=by exact rfl)(hx:Op1 e c x (.int q a):=by exact Op1.of rfl (by first|exact fun _=>rfl|exact fun h=>h))(hy:Op1 e c y (.int qy n):=by exact Op1.of rfl (by first|exact fun _=>rfl|exact fun h=>h))(hb:n≤q.bits:=by exact of_decide_eq_true rfl)(hn:Nat.blt d X.n=true:=by exact rfl) :
  GL X ops (⟨some d,.binOp .shr xt x y yt,ty,pos,af,g⟩::l) k e w:=GL.cons (Step.shr hg hx hy hr hb hn h)
theorem sByS (T:Tb X.P){x:Operand}{src dst et:TypeId}{v:Value}{xs:List UInt8}(hv:By w v xs)(h:GL X ops l k ((d,c,S xs)::e) w)
  (hg:guardE ops e ⟨some d,.convert src dst x,ty,pos,af,g⟩=some c:=by exact rfl)(hx:Op1 e c x v:=by exact Op1.of rfl (by first|exact fun _=>rfl|exact fun h=>h))(hs:T.ty src=some (.slice et):=by exact rfl)(he:T.ty et=some (.int .u8):=by exact rfl)(ht:T.ty dst=some .string:=by exact rfl)(hn:Nat.blt d X.n=true:=by exact rfl) :
  GL X ops (⟨some d,.convert src dst x,ty,pos,af,g⟩::l) k e w:=GL.cons (Step.bytesS T hg hx hs he ht (fun _=>hv) hn h)
end
end Go.Vg
end
section
open Go Go.Vg Go.RowKit Go.Proofs Go.Proofs.YtmkckngecjpklaaGreatDoor
namespace Go.Proofs.YtmkckngecjpklaaGreatDoor
section
namespace Lab
theorem open_labs {H:Type}{enc:TypeId×Value→H}{w:World}{sp:Nat→Bool}{hd:Bool}{b:Nat}{v:Value}{d:DataW H}{p:List MemPlace}
  (hval:OkW Tryz.prog w b 23 v)(h:DataW.Trod enc Tryz.prog w 0 sp hd 23 v d p):∃ ls:List Lab,Labs w v ls∧∀ x∈ls,LabSz x:=by
 refine open_rows (t:=23) (e:=78) labC LabSz (tb.ok _ _ rfl) (by kernel_rfl) (fun n cs x hx=>?_) hval h
 obtain⟨u0,u1,n,y0,y1,rfl,k0,k1⟩:=open_st2 (tb.ok _ _ rfl) (by kernel_rfl) rfl rfl (by kernel_rfl) (by kernel_rfl) hx
 obtain⟨a,ha,hla⟩:=open_str (tb.ok _ _ rfl) k0;obtain⟨c,hc,hlc⟩:=open_str (tb.ok _ _ rfl) k1;cases ha;cases hc;exact⟨(a,c),rfl,hla,hlc⟩
def strC (s:List UInt8):List Value:=[S s]
end Lab
end
end Go.Proofs.YtmkckngecjpklaaGreatDoor
end
section
namespace Go.Vg
open Go.RowKit
section steps
variable {X:Cx} {ops:Array Oper} {l:List Oper} {k:List Kt} {e:Env} {w:World} {N:Env→World→Prop} {d:Nat} {c:Option Bool} {ty:TypeId} {pos:String} {af:Array Edge} {g:Option (Nat×Bool)}
theorem Step.rem {xt yt:TypeId}{x y:Operand}{q:IntKind}{a b r:Int}(hg:guardE ops e ⟨some d,.binOp .rem xt x y yt,ty,pos,af,g⟩=some c)
  (hx:Op1 e c x (.int q a))(hy:Op1 e c y (.int q b))(hb:cv c=true→b≠0)(hr:a.tmod b=r)(hn:Nat.blt d X.n=true)
  (h:N ((d,c,.int q r)::e) w):Step X ops ⟨some d,.binOp .rem xt x y yt,ty,pos,af,g⟩ e w N :=
 Step.quiet rfl (by simpa[Nat.blt_eq] using hn) hg (fun _ hh=>by cases hh) (fun t hf hc=>by
  have h0:=hb hc;simp only[execOp,hx.val hf hc,hy.val hf hc];simp[go_sem,Op.intDiv,h0,hr]) h
theorem Step.quo {xt yt:TypeId}{x y:Operand}{q:IntKind}{a b r:Int}(hg:guardE ops e ⟨some d,.binOp .quo xt x y yt,ty,pos,af,g⟩=some c)
  (hx:Op1 e c x (.int q a))(hy:Op1 e c y (.int q b))(hb:cv c=true→b≠0)(hr:q.wrap (a.tdiv b)=r)(hn:Nat.blt d X.n=true)
  (h:N ((d,c,.int q r)::e) w):Step X ops ⟨some d,.binOp .quo xt x y yt,ty,pos,af,g⟩ e w N :=
 Step.quiet rfl (by simpa[Nat.blt_eq] using hn) hg (fun _ hh=>by cases hh) (fun t hf hc=>by
  have h0:=hb hc;simp only[execOp,hx.val hf hc,hy.val hf hc];simp[go_sem,Op.intDiv,h0,hr]) h
theorem sRem {xt yt:TypeId}{x y:Operand}{q:IntKind}{a b r:Int}(hr:a.tmod b=r)(h:GL X ops l k ((d,c,.int q r)::e) w)(hg:guardE ops e ⟨some d,.binOp .rem xt x y yt,ty,pos,af,g⟩=some c:=by exact rfl)
  (hx:Op1 e c x (.int q a):=by exact Op1.of rfl (by first|exact fun _=>rfl|exact fun h=>h|exact fun h=>bL h))(hy:Op1 e c y (.int q b):=by exact Op1.of rfl (by first|exact fun _=>rfl|exact fun h=>h|exact fun h=>bL h))
  (hb:cv c=true→b≠0:=by intro _;omega)(hn:Nat.blt d X.n=true:=by exact rfl) :
  GL X ops (⟨some d,.binOp .rem xt x y yt,ty,pos,af,g⟩::l) k e w:=GL.cons (Step.rem hg hx hy hb hr hn h)
theorem sQuo {xt yt:TypeId}{x y:Operand}{q:IntKind}{a b r:Int}(hr:q.wrap (a.tdiv b)=r)(h:GL X ops l k ((d,c,.int q r)::e) w)(hg:guardE ops e ⟨some d,.binOp .quo xt x y yt,ty,pos,af,g⟩=some c:=by exact rfl)
  (hx:Op1 e c x (.int q a):=by exact Op1.of rfl (by first|exact fun _=>rfl|exact fun h=>h|exact fun h=>bL h))(hy:Op1 e c y (.int q b):=by exact Op1.of rfl (by first|exact fun _=>rfl|exact fun h=>h|exact fun h=>bL h))
  (hb:cv c=true→b≠0:=by intro _;omega)(hn:Nat.blt d X.n=true:=by exact rfl) :
  GL X ops (⟨some d,.binOp .quo xt x y yt,ty,pos,af,g⟩::l) k e w:=GL.cons (Step.quo hg hx hy hb hr hn h)
end steps
theorem Df.kept {l r:Nat}{w w':World}(h:Df r w)(hk:Kept l w w'):Df r w':=hk.block h (fun _ hh=>by cases hh)
end Go.Vg
end
section
namespace Go.Vg
open Go.RowKit
theorem run_storeCells_t (P:Program)(t:TypeId):∀ (vs:List Value) (b o i:Nat) (us:List Value) (w:World),w.heap[b]?=some (.cells ⟨us⟩ t (0,0))→o+i+vs.length≤us.length→(∀ v∈vs,v.oneCell'=true) →
  ∃ w',(storeCells ⟨b,o,none⟩ vs i).run P w=.ok () w'∧Wr b w w'∧w'.heap[b]?=some (.cells ⟨us.take (o+i)++vs++us.drop (o+i+vs.length)⟩ t (0,0))
 |[],b,o,i,us,w,h,_,_=>⟨w,by simp[storeCells],Wr.refl b w,by simpa using h⟩
 |v::r,b,o,i,us,w,hb,hl,h1=>by
  simp only[lCo]at hl;have hc:(w.cell? ⟨b,o+i,none⟩).isSome=true:=by
   rw[cell_of_row w b (o+i) ⟨us⟩ t (0,0) hb];simp;omega
  obtain⟨u0,hu0⟩:=Option.isSome_iff_exists.1 hc;have hf:w.frozen? ⟨b,o+i,none⟩=false:=frozen_of_row w b (o+i) ⟨us⟩ t hb;have hst:=run_store P w ⟨b,o+i,none⟩ v .plain (h1 v (by simp))
  rw[hu0]at hst;simp only[hf,Bool.false_eq_true,if_false]at hst;have hb2:(w.setCell ⟨b,o+i,none⟩ v).heap[b]?=some (.cells ⟨us.set (o+i) v⟩ t (0,0)):=by
   have:=heap_setCell_same w b (o+i) ⟨us⟩ t v hb;simpa using this
  obtain⟨w',hr,hw,hx⟩:=run_storeCells_t P t r b o (i+1) _ _ hb2 (by simp;omega) (fun u hu=>h1 u (by simp[hu]))
  refine⟨w',?_,(Wr.setCell w b (o+i) v).trans hw,?_⟩
  ·simp only[storeCells,Sem.run_bind,Addr.add_lit,hst,Result.andThen_ok,hr]
  ·have e:(us.set (o+i) v).take (o+(i+1))++r++(us.set (o+i) v).drop (o+(i+1)+r.length)=us.take (o+i)++(v::r)++us.drop (o+i+(v::r).length):=by
    have h3:o+i<us.length:=by omega
    rw[show o+(i+1)=(o+i)+1 by omega,List.take_set,List.drop_set_of_lt (by omega)]
    rw[List.take_succ_eq_append_getElem (by simpa using h3)]
    rw[List.set_append_right _ _ (by simp;omega)]
    simp[show min (o+i) us.length=o+i by omega]
    congr 1;omega
   rw[←e];exact hx
theorem flatten_take {k:Nat}:∀ (xs:List (List Value)) (j:Nat),(∀ x∈xs,x.length=k)→(xs.take j).flatten=xs.flatten.take (j*k)
 |[],j,_=>by simp
 |x::xs,0,_=>by simp
 |x::xs,j+1,h=>by
  have hx:=h x (by simp)
  rw[List.take_succ_cons,List.flatten_cons,List.flatten_cons,flatten_take xs j (fun y hy=>h y (by simp[hy])),Nat.add_mul,Nat.one_mul,Nat.add_comm,List.take_append_of_le_length' hx]
 where
 List.take_append_of_le_length' {x:List Value} {l:List Value} {k m:Nat} (hx:x.length=k):(x++l).take (k+m)=x++l.take m:=by
  rw[List.take_append,List.take_of_length_le (by omega)]
  congr 2;omega
theorem flatten_drop {k:Nat}(xs:List (List Value))(j:Nat)(h:∀ x∈xs,x.length=k):(xs.drop j).flatten=xs.flatten.drop (j*k):=by
 have h1:=flatten_take xs j h;have h2:xs.flatten=(xs.take j).flatten++(xs.drop j).flatten:=by rw[←List.flatten_append,List.take_append_drop]
 by_cases hj:j≤xs.length
 ·have hl:(xs.take j).flatten.length=j*k:=by
   rw[flatten_length _ (fun x hx=>h x (List.mem_of_mem_take hx)),lTa,Nat.min_eq_left hj]
  rw[h2,List.drop_append_of_le_length (by omega),List.drop_of_length_le (l:=(xs.take j).flatten) (by omega),List.nil_append]
 ·rw[List.drop_of_length_le (by omega),List.flatten_nil,List.drop_of_length_le]
  rw[flatten_length _ h];exact Nat.mul_le_mul_right _ (by omega)
theorem flatten_set {k:Nat}(xs:List (List Value))(j:Nat)(x:List Value)(h:∀ x∈xs,x.length=k)(_:x.length=k)(hj:j<xs.length) :
  (xs.set j x).flatten=xs.flatten.take (j*k)++x++xs.flatten.drop (j*k+k):=by
 have e:xs.set j x=xs.take j++x::xs.drop (j+1):=by
  rw[List.set_eq_take_append_cons_drop,if_pos hj]
 rw[e,List.flatten_append,List.flatten_cons,flatten_take xs j h,flatten_drop xs (j+1) h,Nat.add_mul,Nat.one_mul,List.append_assoc]
theorem Grew.trans {B:Nat}{u:Value}{w w1 w2:World}(h:Grew B u w w1)(k:Grew B u w1 w2):Grew B u w w2 :=
 ⟨fun _ hb=>k.below _ (h.below _ hb),Nat.le_trans h.size k.size,fun q hq hne=>(k.block q (Nat.lt_of_lt_of_le hq h.size) hne).trans (h.block q hq hne)⟩
theorem Grew.ofExt {B:Nat}{u:Value}{w w1:World}(h:Ext w w1)(hB:B≤w.heap.size):Grew B u w w1 :=
 ⟨fun _ hb=>Below.ext hb h hB,h.size,fun q hq _=>h.block q hq⟩
theorem Grew.refl (B:Nat)(u:Value)(w:World):Grew B u w w:=⟨fun _ h=>h,Nat.le_refl _,fun _ _ _=>rfl⟩
theorem resA {P:Program}{fn:Func}{n:Nat}{e:Env}{t:Array Value}(T:Tb P)(hf:Fits n e t){s ty sz b:Nat}{z p:Value}{us:List Value}{d:TypeDesc}(hr:fn.results=#[.cell s ty])(hv:look e s=some (none,p))
  (ht:T.ty ty=some d)(ha:aggT d=true)(hi:T.inf ty=some (z,sz,b))(hl:us.length=sz){w:World}(hc:CellsAt w p us):(results fn t).run P w=.ok (.agg ⟨us⟩) w:=by
 obtain⟨a,rfl,_,hc⟩:=hc;subst hl;have h1:t.getD s undef=.pointer (some a):=(hf.get _ _ _ hv).2;have h0:=run_loadCells_list (P:=P) w a us hc;have h2:(loadVar ty a).run P w=.ok (.agg ⟨us⟩) w:=by
  simp only[loadVar,Sem.run_bind,Sem.run_pure,Result.andThen_ok,run_isAgg (T.ok _ _ ht),ha,if_true,run_sizeOf hi,h0]
 simp only[results,hr,List.mapM_toArray,List.mapM_cons,List.mapM_nil,h1,asAddr,Sem.run_bind,Sem.run_map,Sem.run_pure,Result.andThen_ok,h2];rfl
theorem G.retA {X:Cx}{k:List Kt}{e:Env}{w:World}{P:Program}{fn:Func}{R:Value→World→Prop}(T:Tb P)(hX:X.fin=retFin P fn R)(hd:X.ds=[]){s ty sz b:Nat}{z p:Value}{us:List Value}{td:TypeDesc}
  (hc:CellsAt w p us)(h:R (.agg ⟨us⟩) w)(hr:fn.results=#[.cell s ty])(hv:look e s=some (none,p))(ht:T.ty ty=some td)(ha:aggT td=true)(hi:T.inf ty=some (z,sz,b))(hl:us.length=sz):G X (.code .ret::k) e w:=by
 refine G.ret fun t hf=>?_;rw[hX,hd];exact⟨rfl,_,resA T hf hr hv ht ha hi hl hc,_,rfl,h⟩
section
variable {X:Cx} {ops:Array Oper} {l:List Oper} {kk:List Kt} {e:Env} {w:World} {N:Env→World→Prop} {d:Nat} {c:Option Bool} {ty:TypeId} {pos:String} {af:Array Edge} {g:Option (Nat×Bool)}
theorem Step.storeRow (T:Tb X.P){x y:Operand}{t:TypeId}{v u z:Value}{vs:List Value}{k by_ B et j:Nat}{xs:List (List Value)}(hg:guardE ops e ⟨none,.store t x y,ty,pos,af,g⟩=some none)
  (hx:Op1 e none x (padd v (j*k)))(hy:Op1 e none y u)(hi:T.inf t=some (z,k,by_))(hv:u.cells=⟨vs⟩)(hs:vs.length=k)(h1:∀ v∈vs,v.oneCell'=true)
  (ho:Owns w B v et k xs)(hj:j<xs.length)
  (h:∀ w',Owns w' B v et k (xs.set j vs)→Grew B v w w'→N e w'):Step X ops ⟨none,.store t x y,ty,pos,af,g⟩ e w N:=by
 have ho':=ho;obtain⟨⟨hl,hr⟩,hk,hb⟩:=ho;rcases hr with⟨rfl,hn⟩|⟨gb,cap,⟨us⟩,rfl,hB,hgb,hc,hm,hsz,htk⟩
 ·omega
 ·have hle:xs.length*k≤cap*k:=Nat.mul_le_mul_right _ hc;have hjk:(j+1)*k≤xs.length*k:=Nat.mul_le_mul_right _ hj;rw[Nat.add_mul,Nat.one_mul]at hjk;have hus:us.length=cap*k:=hsz;simp only at htk;obtain⟨w',hrun,hw,hx'⟩:=run_storeCells_t X.P et vs gb (j*k) 0 us w hgb (by omega) h1
  rw[Nat.add_zero,hs]at hx';refine Step.effNone rfl hg (fun _ hh=>by cases hh) (w':=w') (fun t' hf=>?_) (h w' ?_ ?_)
  ·have hp:padd (Value.slice (some ⟨gb,0,none⟩) xs.length cap) (j*k)=.pointer (some ⟨gb,j*k,none⟩):=by simp[padd,Addr.add_lit]
   have hsz':¬ ((⟨vs⟩:Array Value).size≠k):=by simp[hs]
   simp only[execOp,hx.val hf rfl,hy.val hf rfl,hp,Instr.storeAt,Instr.sureAddr,storeVar,Sem.run_bind,Sem.run_pure,Result.andThen_ok,run_sizeOf hi,hv,if_neg hsz',hrun]
  ·have hfl:=flatten_set xs j vs hk hs hj;refine⟨⟨?_,.inr ⟨gb,cap,_,by rw[List.length_set],hB,hx',by rw[List.length_set];exact hc,hm,?_,?_⟩⟩,?_,by rw[List.length_set];exact hb⟩
   ·rw[flatten_length _ (fun y hy=>by
     rcases List.mem_or_eq_of_mem_set hy with hy|rfl
     ·exact hk y hy
     ·exact hs)]
   ·simp only[List.size_toArray,lAp,lTa,List.length_drop];omega
   ·rw[List.length_set,hfl,←htk];simp only[List.append_assoc];rw[List.take_append,lTa,Nat.min_eq_left (by omega),List.take_of_length_le (by rw[lTa];omega),List.take_append,hs,List.take_of_length_le (l:=vs) (by omega),List.take_take,Nat.min_eq_left (by omega)]
    congr 2
    rw[List.drop_take]
    congr 1;omega
   ·intro y hy;rcases List.mem_or_eq_of_mem_set hy with hy|rfl
    ·exact hk y hy
    ·exact hs
  ·exact⟨fun w0 hb0=>hb0.wr hw hB,by rw[hw.size];exact Nat.le_refl _,fun q hq hne=>hw.block q (fun e=>hne (by rw[e];rfl))⟩
theorem sStR (T:Tb X.P){x y:Operand}{t:TypeId}{v u z:Value}{vs:List Value}{k by_ B et j:Nat}{xs:List (List Value)}(ho:Owns w B v et k xs)(hj:j<xs.length)
  (h:∀ w',Owns w' B v et k (xs.set j vs)→Grew B v w w'→GL X ops l kk e w')(hg:guardE ops e ⟨none,.store t x y,ty,pos,af,g⟩=some none:=by exact rfl)
  (hx:Op1 e none x (padd v (j*k)):=by exact Op1.of rfl (fun _=>rfl))(hy:Op1 e none y u:=by exact Op1.of rfl (fun _=>rfl))(hi:T.inf t=some (z,k,by_):=by exact rfl)(hv:u.cells=⟨vs⟩:=by exact rfl)(hs:vs.length=k:=by exact rfl)(h1:∀ v∈vs,v.oneCell'=true:=by simp[Value.oneCell',S,U]) :
  GL X ops (⟨none,.store t x y,ty,pos,af,g⟩::l) kk e w:=GL.cons (Step.storeRow T hg hx hy hi hv hs h1 ho hj h)
theorem Step.sliceUp (T:Tb X.P){x j:Operand}{st et:TypeId}{v z:Value}{k by_:Nat}{n:Int}{xs:List (List Value)}(b:Nat)
  (hg:guardE ops e ⟨some d,.slice st x none (some j) none,ty,pos,af,g⟩=some c)
  (hx:Op1 e c x (subS v k 0 b))(hhi:Op1 e c j (.int .i64 n))(ht:T.ty st=some (.slice et))(hz:T.inf et=some (z,k,by_))
  (hs:∃ w,Sli w v k xs)(hk:cv c=true→n=xs.length)(hn:Nat.blt d X.n=true)
  (h:N ((d,c,v)::e) w):Step X ops ⟨some d,.slice st x none (some j) none,ty,pos,af,g⟩ e w N :=
 Step.quiet rfl (by simpa[Nat.blt_eq] using hn) hg (fun _ hh=>by cases hh) (fun t hf hc=>by
  obtain rfl:=hk hc;obtain⟨w0,hs⟩:=hs;have hT:=T.ok _ _ ht;obtain⟨a,cap,rfl,hcap⟩:=hs.len;have hb1:∀ code,(Instr.sliceBound (.int .i64 xs.length) cap code).run X.P w=.ok xs.length w:=fun code=>by
   have:=run_sliceBound (P:=X.P) w .i64 (xs.length:Int) cap code (by omega) (by omega)
   simpa using this
  have ha:(if cap=0 then a else a.map (·.add (0*k)))=a:=by
   split
   ·rfl
   ·cases a with
    |none=>rfl
    |some a=>simp[Addr.add_zero]
  have h3:(Instr.sliceAt st (subS (.slice a xs.length cap) k 0 b) none (some (.int .i64 xs.length)) none).run X.P w=.ok (.slice a xs.length cap) w:=by
   simp only[subS,ha,Nat.sub_zero,Instr.sliceAt,Sem.run_bind,run_underlying hT,Result.andThen_ok,Instr.slice,Instr.sliceBounds,Sem.run_pure];have ha':a.map (·.add 0)=a:=by
    cases a with
    |none=>rfl
    |some a=>simp[Addr.add_zero]
   simp[hb1,run_sizeOf hz,ha']
  simp only[execOp,hx.val hf hc,hhi.val hf hc,Option.map_some,Option.map_none,Sem.run_bind,h3,Result.andThen_ok,Sem.run_pure]) h
end
end Go.Vg
end
section
namespace Go.Vg
open Go.RowKit
section
variable {X:Cx} {ops:Array Oper} {l:List Oper} {k:List Kt} {e:Env} {w:World} {N:Env→World→Prop} {S:World→Prop} {lb:List (Oper×Bool)} {d:Nat} {c:Option Bool} {ty:TypeId} {pos:String} {af:Array Edge} {g:Option (Nat×Bool)}
theorem dCu (T:Tb X.P){x:Operand}{src dst:TypeId}{q:IntKind}{b:UInt8}{sd:TypeDesc}(h:GMN X ops S N lb ((d,c,.int q (b.toNat:Int))::e) w)
  (hg:guardE ops e ⟨some d,.convert src dst x,ty,pos,af,g⟩=some c:=by exact rfl)(hx:Op1 e c x (U b):=by exact Op1.of rfl (by first|exact fun _=>rfl|exact fun h=>h))(hs:T.ty src=some sd:=by exact rfl)(ht:T.ty dst=some (.int q):=by exact rfl)(hq:bigK q=true:=by exact rfl)(hn:Nat.blt d X.n=true:=by exact rfl) :
  GMN X ops S N ((⟨some d,.convert src dst x,ty,pos,af,g⟩,true)::lb) e w:=GM.read (fun _ _=>Step.convU T hg hx hs ht hq hn ⟨rfl,rfl⟩) rfl hn h
end
end Go.Vg
end
section
namespace Go.Vg
open Go.RowKit
def Own2 (w:World)(v v':Value):Prop:=v'.ownBlock=v.ownBlock∨v'.ownBlock=some w.heap.size
theorem Own2.refl (w:World)(v:Value):Own2 w v v:=.inl rfl
section
variable {X:Cx} {ops:Array Oper} {l:List Oper} {kk:List Kt} {e:Env} {w:World} {N:Env→World→Prop} {d:Nat} {c:Option Bool} {ty:TypeId} {pos:String} {af:Array Edge} {g:Option (Nat×Bool)}
theorem Step.append2 (T:Tb X.P){x y:Operand}{t et:TypeId}{v u z:Value}{k bytes B:Nat}{xs ys:List (List Value)}
  (hg:guardE ops e ⟨some d,.call { callee:=.builtin .append,args:=#[x,y],argTypes:=#[t,t] },ty,pos,af,g⟩=some none)
  (hx:Op1 e none x v)(hy:Op1 e none y u)(ht:T.ty t=some (.slice et))(hi:T.inf et=some (z,k,bytes))(hk:Nat.blt 0 k=true)(hz:z.cells.size=k)
  (hv:Owns w B v et k xs)(hu:Sli w u k ys)(h1:∀ y∈ys,∀ c∈y,c.oneCell'=true)(hb:(xs.length+ys.length)*bytes≤140737488355328)(hl:xs.length+ys.length≤140737488355328)
  (hB:B≤w.heap.size)(hn:Nat.blt d X.n=true)
  (h:∀ v' w',Owns w' B v' et k (xs++ys)→Grew B v w w'→Own2 w v v'→N ((d,none,v')::e) w') :
  Step X ops ⟨some d,.call { callee:=.builtin .append,args:=#[x,y],argTypes:=#[t,t] },ty,pos,af,g⟩ e w N:=by
 obtain⟨i,hi1,hi2,hi3,hi4⟩:=T.iok _ _ _ _ hi;have hT:=T.ok _ _ ht;have hk':0<k:=by simpa[Nat.blt_eq] using hk
 rcases hu with⟨rfl,rfl⟩|⟨a,cap,rfl,hs,hc,hyl,hcell,hyb⟩
 ·have hr:=run_append_owned_none (P:=X.P) w B t ty et i k hT hi1 v xs.length xs.flatten hv.1;refine Step.eff (v:=v) (w':=w) rfl (by simpa[Nat.blt_eq] using hn) hg (fun _ hh=>by cases hh) (fun t' hf=>run_builtin2 (hx.val hf rfl) (hy.val hf rfl) fun cs=>?_) (h v w (by simpa using hv) ⟨fun _ h=>h,Nat.le_refl _,fun _ _ _=>rfl⟩ (.inl rfl))
  simp only[builtin,Sem.run_bind,hr,Result.andThen_ok,Sem.run_pure]
 ·have hfl:=flatten_length ys hyl;have hnews:∀ j u,ys.flatten[j]?=some u→w.cell? (a.add j)=some u:=fun j u hj=>by
   have hj':j<ys.length*k:=by rw[←hfl];exact(List.getElem?_eq_some_iff.1 hj).1
   have hq:j / k<ys.length:=Nat.div_lt_of_lt_mul (by rw[Nat.mul_comm];exact hj')
   have hyq:ys[j / k]?=some ys[j / k]:=List.getElem?_eq_getElem hq;have hlen:(ys[j / k]).length=k:=hyl _ (List.getElem_mem hq);have hr':j%k<(ys[j / k]).length:=by rw[hlen];exact Nat.mod_lt _ hk'
   have hu2:=List.getElem?_eq_getElem hr';have e1:j / k*k+j%k=j:=by rw[Nat.mul_comm];exact Nat.div_add_mod j k
   have h5:=flatten_get ys hyl _ _ hyq _ _ hu2;rw[e1,hj]at h5;cases h5;have:=hcell _ _ hyq _ _ hu2
   rwa [e1]at this
  have hone:∀ u∈ys.flatten,u.oneCell'=true:=fun u hu=>by obtain⟨y,hy,hu'⟩:=List.mem_flatten.1 hu;exact h1 y hy u hu'
  obtain⟨v',w',hr,h2,h3,_⟩:=run_append_own (P:=X.P) w B t ty et i z k bytes hT hi1 hi2 hi3 hi4 hz hk' v xs.length xs.flatten hv.1 a ys.length cap ys.flatten hfl hnews hone (by unfold maxLen;omega) hb hB
  have hwhere:Own2 w v v':=by
   rcases hv.1.2 with⟨rfl,hnil⟩|⟨gb,cp,cur,rfl,_,hgb,hcp,_,hsz,htk⟩
   ·by_cases hm:ys.length=0
    ·have he:ys=[]:=List.eq_nil_of_length_eq_zero hm;subst he;rcases h2.2 with⟨rfl,_⟩|⟨g2,c2,cur2,rfl,_,hg2,_,_,_,_⟩
     ·exact .inl rfl
     ·by_cases hlt:g2<w.heap.size
      ·exfalso;have hr0:(Builtin.append_ #[t,t] ty #[.slice none 0 0,.slice (some a) 0 cap]).run X.P w=.ok (.slice none 0 0) w:=by
        simp[Builtin.append_,run_underlying hT,sizeOf,typeInfo,hi1,Builtin.lenOf,Builtin.firstCells,loadCells,loadCellsFrom]
       rw[lNi,hr0]at hr;cases hr
      ·have hr0:(Builtin.append_ #[t,t] ty #[.slice none 0 0,.slice (some a) 0 cap]).run X.P w=.ok (.slice none 0 0) w:=by
        simp[Builtin.append_,run_underlying hT,sizeOf,typeInfo,hi1,Builtin.lenOf,Builtin.firstCells,loadCells,loadCellsFrom]
       rw[lNi,hr0]at hr;cases hr
    ·have h48:ys.length*i.bytes≤281474976710656:=by
      rw[hi4];have:=Nat.mul_le_mul_right bytes (Nat.le_add_left ys.length xs.length);omega
     have hr2:=run_append_nil (P:=X.P) w t ty et i z hT hi1 hi2 a ys.length cap ys.flatten (by rw[hi3];exact hfl) hnews (by omega) (by omega) h48
     rw[hr2]at hr;cases hr;exact .inr rfl
   ·by_cases hroom:xs.length+ys.length≤cp
    ·have hr2:=run_append_room (P:=X.P) w t ty et i hT hi1 gb xs.length cp cur hgb a ys.length cap ys.flatten (by rw[hi3];exact hfl) hnews hone hroom (by rw[hi3,hfl,hsz,←Nat.add_mul];exact Nat.mul_le_mul_right _ hroom)
     rw[hr2]at hr;cases hr;exact .inl rfl
    ·have holds:∀ j u,xs.flatten[j]?=some u→w.cell? ((⟨gb,0,none⟩:Addr).add j)=some u:=hv.1.cells (g:=gb) rfl;have hr2:=run_append_grow (P:=X.P) w t ty et i z hT hi1 hi2 ⟨gb,0,none⟩ xs.length cp xs.flatten (by rw[hi3];exact hv.1.1) holds a ys.length cap ys.flatten (by rw[hi3];exact hfl) hnews (by omega) (by omega) (growslice_fits (by omega) (by rw[hi4];exact hb))
     rw[hr2]at hr;cases hr;exact .inr rfl
  have hown:Owns w' B v' et k (xs++ys):=by
   refine⟨?_,?_,by simpa using hl⟩
   ·rw[lAp,List.flatten_append];exact h2
   ·intro x hx;rcases List.mem_append.1 hx with hx|hx
    ·exact hv.2.1 x hx
    ·exact hyl x hx
  refine Step.eff (v:=v') (w':=w') rfl (by simpa[Nat.blt_eq] using hn) hg (fun _ hh=>by cases hh) (fun t' hf=>run_builtin2 (hx.val hf rfl) (hy.val hf rfl) fun cs=>?_)
   (h v' w' hown ⟨fun w0 hb0=>hb0.grown h3 hB (fun k hk=>by
    rcases hv.1.2 with⟨rfl,_⟩|⟨g,cap,cur,rfl,hBg,_⟩
    ·simp[Value.ownBlock]at hk
    ·simp[Value.ownBlock]at hk;omega),h3.size,h3.block⟩ hwhere)
  simp only[builtin,Sem.run_bind,hr,Result.andThen_ok,Sem.run_pure]
theorem sApp2 (T:Tb X.P){x y:Operand}{t et:TypeId}{v u z:Value}{q bytes B:Nat}{xs ys:List (List Value)}(hv:Owns w B v et q xs)(hu:Sli w u q ys)
  (h:∀ v' w',Owns w' B v' et q (xs++ys)→Grew B v w w'→Own2 w v v'→GL X ops l kk ((d,none,v')::e) w')
  (h1:∀ y∈ys,∀ c∈y,c.oneCell'=true:=by intro y hy c hc;simp only[List.mem_cons,List.not_mem_nil,or_false]at hy;subst hy;simp only[List.mem_cons,List.not_mem_nil,or_false]at hc;rcases hc with rfl<;>rfl)
  (hg:guardE ops e ⟨some d,.call { callee:=.builtin .append,args:=#[x,y],argTypes:=#[t,t] },ty,pos,af,g⟩=some none:=by exact rfl)
  (hx:Op1 e none x v:=by exact Op1.of rfl (fun _=>rfl))(hy:Op1 e none y u:=by exact Op1.of rfl (fun _=>rfl))(ht:T.ty t=some (.slice et):=by exact rfl)(hi:T.inf et=some (z,q,bytes):=by exact rfl)(hk:Nat.blt 0 q=true:=by exact rfl)(hz:z.cells.size=q:=by exact rfl)(hn:Nat.blt d X.n=true:=by exact rfl)
  (hb:(xs.length+ys.length)*bytes≤140737488355328:=by simp only[lMa,lAp,lCo,lNi,lTa,List.length_drop];omega)
  (hl:xs.length+ys.length≤140737488355328:=by simp only[lMa,lAp,lCo,lNi,lTa,List.length_drop];omega)
  (hB:B≤w.heap.size:=by omega) :
  GL X ops (⟨some d,.call { callee:=.builtin .append,args:=#[x,y],argTypes:=#[t,t] },ty,pos,af,g⟩::l) kk e w:=GL.cons (Step.append2 T hg hx hy ht hi hk hz hv hu h1 hb hl hB hn h)
end
end Go.Vg
end
section
namespace Go.Vg
open Go.RowKit
section
variable {X:Cx} {ops:Array Oper} {l:List Oper} {k:List Kt} {e:Env} {w:World} {N:Env→World→Prop} {d:Nat} {c:Option Bool} {ty:TypeId} {pos:String} {af:Array Edge} {g:Option (Nat×Bool)}
theorem Step.indexAddrA (T:Tb X.P){x i:Operand}{st et n q b:Nat}{z p:Value}{m:Int}(j:Nat)
  (hg:guardE ops e ⟨some d,.indexAddr st x i,ty,pos,af,g⟩=some c)
  (hx:Op1 e c x p)(hi:Op1 e c i (.int .i64 m))(ht:T.ty st=some (.array n et))(hk:T.inf et=some (z,q,b))(hp:cv c=true→∃ a:Addr,p=.pointer (some a))(hj:cv c=true→m=j∧j<n)
  (hn:Nat.blt d X.n=true)(h:N ((d,c,padd p (j*q))::e) w):Step X ops ⟨some d,.indexAddr st x i,ty,pos,af,g⟩ e w N :=
 Step.quiet rfl (by simpa[Nat.blt_eq] using hn) hg (fun _ hh=>by cases hh) (fun t' hf hc'=>by
  obtain⟨rfl,hlt⟩:=hj hc';obtain⟨a,rfl⟩:=hp hc';have hT:=T.ok _ _ ht;have h1:(0:Int)≤j∧(j:Int)<n:=by omega
  have hr:(Instr.indexAt st (.pointer (some a)) (.int .i64 j)).run X.P w=.ok (.pointer (some (a.add (j*q)))) w:=by
   simp[Instr.indexAt,asIntOf,run_underlying hT,Instr.sureAddr,run_sizeOf hk,hlt]
  simp only[execOp,hx.val hf hc',hi.val hf hc',Sem.run_bind,hr,Result.andThen_ok,Sem.run_pure];rfl) h
theorem sIaA (T:Tb X.P){x i:Operand}{st et n q b:Nat}{z p:Value}{m:Int}(j:Nat)(h:GL X ops l k ((d,c,padd p (j*q))::e) w)
  (hg:guardE ops e ⟨some d,.indexAddr st x i,ty,pos,af,g⟩=some c:=by exact rfl)
  (hx:Op1 e c x p:=by exact Op1.of rfl (by first|exact fun _=>rfl|exact fun h=>h))(hi:Op1 e c i (.int .i64 m):=by exact Op1.of rfl (by first|exact fun _=>rfl|exact fun h=>h))(ht:T.ty st=some (.array n et):=by exact rfl)(hk:T.inf et=some (z,q,b):=by exact rfl)(hp:cv c=true→∃ a:Addr,p=.pointer (some a):=by intro _;first|exact⟨_,rfl⟩|exact CellsAt.ptr (by assumption))(hj:cv c=true→m=j∧j<n:=by intro _;exact⟨by omega,by omega⟩)
  (hn:Nat.blt d X.n=true:=by exact rfl):GL X ops (⟨some d,.indexAddr st x i,ty,pos,af,g⟩::l) k e w:=GL.cons (Step.indexAddrA T j hg hx hi ht hk hp hj hn h)
theorem Step.callO {f:FuncId}{args:Array Operand}{ats:Array TypeId}{lo:List Operand}{vs:List Value}{R:Value→World→Prop}
  (hg:guardE ops e ⟨some d,.call { callee:=.value (.func f),args:=args,argTypes:=ats },ty,pos,af,g⟩=some none)
  (ha:args=⟨lo⟩)(hvs:OpL e none lo vs)(hf:Callable X.P f)
  (hn:Nat.blt d X.n=true)(hc:Ret X.P f ⟨vs⟩ w R)
  (h:∀ v w',R v w'→N ((d,none,v)::e) w'):Step X ops ⟨some d,.call { callee:=.value (.func f),args:=args,argTypes:=ats },ty,pos,af,g⟩ e w N :=
 Step.call rfl (by simpa[Nat.blt_eq] using hn) hg (fun _ hh=>by cases hh) (fun t hft=>by
  have:=hvs.map (ds:=X.ds) hft rfl;subst ha;have h2:(Array.mk lo).map (Act.mk t X.ds).eval=⟨vs⟩:=by simp[this]
  simp only[execOp,resolve,h2,Act.eval,Deferred.ofValue,Sem.run_bind,Sem.run_pure,Result.andThen_ok,invoke,Array.empty_append,Array.append_empty,run_callFunc hf]) hc h
end
end Go.Vg
end
section
open Go Go.Vg Go.RowKit Go.Proofs Go.Proofs.YtmkckngecjpklaaGreatDoor
namespace Go.Proofs.YtmkckngecjpklaaGreatDoor.Lab
section
abbrev Strs (w:World)(v:Value)(ns:List (List UInt8)):Prop:=Sli w v 1 (ns.map strC)
theorem Strs.at {ns:List (List UInt8)}{k:Nat}(h:k<ns.length):∃ s,(ns.map strC)[k]?=some (strC s)∧s∈ns∧ns.drop k=s::ns.drop (k+1)∧ns.take (k+1)=ns.take k++[s] :=
 ⟨ns[k],by simp[h],List.getElem_mem h,List.drop_eq_getElem_cons h,List.take_succ_eq_append_getElem h⟩
theorem among_ok (v:Value)(ns:List (List UInt8))(s:List UInt8)(w:World)(hv:Strs w v ns) :
  Ret Tryz.prog 111 ⟨[v,S s]⟩ w fun r w'=>r=.bool (decide (s∈ns))∧w'=w:=by
 have hbd:=hv.bound;rw[lMa]at hbd;refine ret_of_G Tryz.func111 rfl Tryz.ntmps111 rfl ?_;simp only[argEnv];refine rn ?_;refine(G.loop (fun k:Nat=>[(0,none,v),(1,none,S s),(5,none,.int .i64 k)]) (fun k w'=>w'=w∧k≤ns.length∧¬ s∈ns.take k) (fun k=>ns.length-k) 0 sU ⟨rfl,by omega,by simp⟩ ?_)
 rintro k w ⟨rfl,hk,hto⟩;refine rn ?_;rw[lMa];refine rn ?_;refine cD ?_ ?_<;>intro hc
 ·have hlt:k<ns.length:=by omega
  obtain⟨x,hget,hmem,-,htk⟩:=Strs.at hlt;refine rK ?_;refine cD ?_ ?_<;>intro hc
  ·refine rn ?_;refine G.ret1 rfl rfl rfl rfl ?_;refine⟨?_,rfl⟩;rw[decide_eq_true (show s∈ns by rw[←hc];exact hmem)]
  ·refine rn ?_;refine sAd tb ?_;refine rn ?_;refine G.lp (k+1) sU ⟨rfl,by omega,?_⟩ (by omega)
   rw[htk];simp only[List.mem_append,List.mem_cons,List.not_mem_nil,or_false,not_or];exact⟨hto,fun e=>hc e.symm⟩
 ·refine rn ?_;refine G.ret1 rfl rfl rfl rfl ?_;obtain rfl:k=ns.length:=by omega
  rw[List.take_length]at hto;exact⟨by rw[decide_eq_false hto],rfl⟩
theorem labC_one1 (x:Lab):∀ v∈labC x,v.oneCell'=true:=by simp[Value.oneCell',S,labC]
def pickL (ls:List Lab)(ns:List (List UInt8))(b:Bool):List Lab:=ls.filter fun x=>decide (x.1∈ns)==b
theorem pickL_snoc (ls:List Lab)(ns:List (List UInt8))(b:Bool)(x:Lab):pickL (ls++[x]) ns b=if decide (x.1∈ns)=b then pickL ls ns b++[x] else pickL ls ns b:=by
 unfold pickL;rw[List.filter_append,List.filter_cons,List.filter_nil];by_cases h:decide (x.1∈ns)=b
 ·rw[if_pos h,if_pos (by simpa using h)]
 ·rw[if_neg h,if_neg (by simpa using h)];simp
theorem pickL_len (ls:List Lab)(ns:List (List UInt8))(b:Bool):(pickL ls ns b).length≤ls.length:=List.length_filter_le ..
end
end Go.Proofs.YtmkckngecjpklaaGreatDoor.Lab
end
section
namespace Go.Vg
open Go.RowKit
theorem Owns.shape {w:World}{B:Nat}{v:Value}{et k:Nat}{xs:List (List Value)}(h:Owns w B v et k xs)(h0:0<xs.length) :
  ∃ g cap cur,v=.slice (some ⟨g,0,none⟩) xs.length cap∧B≤g∧w.heap[g]?=some (.cells cur et (0,0))∧xs.length≤cap∧cap≤maxLen∧cur.size=cap*k∧cur.toList.take (xs.length*k)=xs.flatten:=by
 rcases h.1.2 with⟨_,hn⟩|h
 ·omega
 ·exact h
theorem Owns.up {w:World}{B g cap:Nat}{et k:Nat}{xs:List (List Value)}(h:Owns w B (.slice (some ⟨g,0,none⟩) xs.length cap) et k xs)(hc:xs.length<cap)(hb:xs.length+1≤140737488355328) :
  ∃ y,Owns w B (.slice (some ⟨g,0,none⟩) (xs.length+1) cap) et k (xs++[y]):=by
 obtain⟨⟨hl,hr⟩,hk,_⟩:=h;rcases hr with⟨hv,_⟩|⟨g',cap',cur,hv,hB,hg,hc',hm,hs,ht⟩
 ·cases hv
 ·cases hv;have hle:(xs.length+1)*k≤cap*k:=Nat.mul_le_mul_right _ hc;rw[Nat.add_mul,Nat.one_mul]at hle;have hsz:cur.toList.length=cap*k:=by rw[Array.length_toList];exact hs
  have hy:((cur.toList.drop (xs.length*k)).take k).length=k:=by rw[lTa,List.length_drop];omega
  refine⟨(cur.toList.drop (xs.length*k)).take k,⟨?_,.inr ⟨g,cap,cur,by simp,hB,hg,by simp;omega,hm,hs,?_⟩⟩,?_,by simp;omega⟩
  ·simp only[List.flatten_append,lAp,hl,List.flatten_cons,List.flatten_nil,List.append_nil,hy,lCo,lNi,Nat.add_mul,Nat.zero_add,Nat.one_mul]
  ·simp only[List.flatten_append,lAp,List.flatten_cons,List.flatten_nil,List.append_nil,lCo,lNi,Nat.add_mul,Nat.zero_add,Nat.one_mul];rw[←ht,List.take_add]
  ·intro x hx;rcases List.mem_append.1 hx with hx|hx
   ·exact hk x hx
   ·simp only[List.mem_cons,List.not_mem_nil,or_false]at hx;subst hx;exact hy
def lay {α:Type}(xs:List α)(o:Nat)(ys:List α):List α:=xs.take o++ys++xs.drop (o+ys.length)
theorem lay_len {α:Type}{xs ys:List α}{o:Nat}(h:o+ys.length≤xs.length):(lay xs o ys).length=xs.length:=by simp[lay];omega
theorem cellsOf {w:World}{a:Addr}{k:Nat}{ys:List (List Value)}{n cap:Nat}(hs:Sli w (.slice (some a) n cap) k ys)(hk:0<k):∀ j u,ys.flatten[j]?=some u→w.cell? (a.add j)=some u:=by
 rcases hs with⟨h,_⟩|⟨a',cap',hv,hsp,hc,hyl,hcell,hyb⟩
 ·cases h
 ·cases hv;intro j u hj;have hj':j<ys.length*k:=by rw[←flatten_length ys hyl];exact(List.getElem?_eq_some_iff.1 hj).1
  have hq:j / k<ys.length:=Nat.div_lt_of_lt_mul (by rw[Nat.mul_comm];exact hj')
  have hyq:ys[j / k]?=some ys[j / k]:=List.getElem?_eq_getElem hq;have hlen:(ys[j / k]).length=k:=hyl _ (List.getElem_mem hq);have hr':j%k<(ys[j / k]).length:=by rw[hlen];exact Nat.mod_lt _ hk
  have hu2:=List.getElem?_eq_getElem hr';have e1:j / k*k+j%k=j:=by rw[Nat.mul_comm];exact Nat.div_add_mod j k
  have h5:=flatten_get ys hyl _ _ hyq _ _ hu2;rw[e1,hj]at h5;cases h5;have:=hcell _ _ hyq _ _ hu2
  rwa [e1]at this
section
variable {X:Cx} {ops:Array Oper} {l:List Oper} {kk:List Kt} {e:Env} {w:World} {N:Env→World→Prop} {d:Nat} {c:Option Bool} {ty:TypeId} {pos:String} {af:Array Edge} {g:Option (Nat×Bool)}
theorem Step.copyO (T:Tb X.P){x y:Operand}{t et:TypeId}{v u z:Value}{k bytes B o m:Nat}{xs ys:List (List Value)}
  (hg:guardE ops e ⟨some d,.call { callee:=.builtin .copy,args:=#[x,y],argTypes:=#[t,t] },ty,pos,af,g⟩=some none)
  (hx:Op1 e none x (subS v k o xs.length))(hy:Op1 e none y u)(ht:T.ty t=some (.slice et))(hi:T.inf et=some (z,k,bytes))(hk:Nat.blt 0 k=true)
  (hv:Owns w B v et k xs)(hu:Sli w u k ys)(h1:∀ y∈ys.take m,∀ c∈y,c.oneCell'=true)(ho:o<xs.length)(hm:m=min ys.length (xs.length-o))(hm0:0<ys.length)(hn:Nat.blt d X.n=true)
  (h:∀ w',Owns w' B v et k (lay xs o (ys.take m))→Grew B v w w'→N ((d,none,.int .i64 m)::e) w') :
  Step X ops ⟨some d,.call { callee:=.builtin .copy,args:=#[x,y],argTypes:=#[t,t] },ty,pos,af,g⟩ e w N:=by
 obtain⟨i,hi1,hi2,hi3,hi4⟩:=T.iok _ _ _ _ hi;have hT:=T.ok _ _ ht;have hk':0<k:=by simpa[Nat.blt_eq] using hk
 obtain⟨⟨hl,-⟩,hxk,hxb⟩:=id hv;obtain⟨gb,cap,⟨us⟩,rfl,hB,hgb,hc,hcm,hsz,htk⟩:=hv.shape (by omega)
 rcases hu with⟨rfl,rfl⟩|⟨a,cap2,rfl,hs,hc2,hyl,hcell,hyb⟩
 ·simp at hm0
 ·have hcs:=cellsOf (.inr ⟨a,cap2,rfl,hs,hc2,hyl,hcell,hyb⟩) hk';have hus:us.length=cap*k:=hsz;simp only at htk;have hmk:(ys.take m).flatten.length=m*k:=by
   rw[flatten_length _ (fun x hx=>hyl x (List.mem_of_mem_take hx)),lTa];congr 1;omega
  have hft:(ys.take m).flatten=ys.flatten.take (m*k):=flatten_take ys m hyl;have hle:(o+m)*k≤cap*k:=Nat.mul_le_mul_right _ (by omega)
  rw[Nat.add_mul]at hle;have h1m:∀ u∈(ys.take m).flatten,u.oneCell'=true:=fun u hu=>by
   obtain⟨y,hy,hu'⟩:=List.mem_flatten.1 hu;exact h1 y hy u hu'
  obtain⟨w',hrun,hw,hx'⟩:=run_storeCells_t X.P et (ys.take m).flatten gb (o*k) 0 us w hgb (by omega) h1m
  rw[Nat.add_zero,hmk]at hx';have hload:=run_loadCells_list (P:=X.P) w a (ys.take m).flatten (fun j u hj=>by
   rw[hft,List.getElem?_take]at hj;split at hj
   ·exact hcs j u hj
   ·cases hj)
  have hp:subS (Value.slice (some ⟨gb,0,none⟩) xs.length cap) k o xs.length=.slice (some ⟨gb,o*k,none⟩) (xs.length-o) (cap-o):=by
   simp only[subS,if_neg (show ¬ cap=o by omega),Option.map_some,Addr.add_lit,Nat.zero_add]
  rw[hp]at hx;have hmn:Nat.min ys.length (xs.length-o)=m:=hm.symm;refine Step.eff (v:=.int .i64 m) (w':=w') rfl (by simpa[Nat.blt_eq] using hn) hg (fun _ hh=>by cases hh) (fun t' hf=>run_builtin2 (hx.val hf rfl) (hy.val hf rfl) fun cs=>?_) (h w' ?_ ?_)
  ·have hr:(Builtin.copy_ #[t,t] ty #[.slice (some ⟨gb,o*k,none⟩) (xs.length-o) (cap-o),.slice (some a) ys.length cap2]).run X.P w=.ok (.int .i64 m) w':=by
    rw[hmk]at hload;simp only[Builtin.copy_,Sem.run_bind,run_underlying hT,Builtin.lenOf,Builtin.firstCells,Result.andThen_ok,Sem.run_pure,hmn,run_sizeOf hi,hload,hrun,goInt,List.getElem?_toArray,List.getElem?_cons_zero,List.getElem?_cons_succ]
   simp only[builtin,Sem.run_bind,hr,Result.andThen_ok,Sem.run_pure]
  ·have hlay:(lay xs o (ys.take m)).length=xs.length:=lay_len (by rw[lTa];omega)
   have hlk:∀ x∈lay xs o (ys.take m),x.length=k:=by
    intro x hx;simp only[lay,List.mem_append]at hx;rcases hx with(hx|hx)|hx
    ·exact hxk x (List.mem_of_mem_take hx)
    ·exact hyl x (List.mem_of_mem_take hx)
    ·exact hxk x (List.mem_of_mem_drop hx)
   refine⟨⟨?_,.inr ⟨gb,cap,_,by rw[hlay],hB,hx',by rw[hlay];exact hc,hcm,?_,?_⟩⟩,hlk,by rw[hlay];exact hxb⟩
   ·rw[flatten_length _ hlk]
   ·simp only[List.size_toArray,lAp,lTa,List.length_drop,hmk];omega
   ·have hlm:(ys.take m).length=m:=by rw[lTa];omega
    have hle2:(o+m)*k≤xs.length*k:=Nat.mul_le_mul_right _ (by omega)
    rw[Nat.add_mul]at hle2;have hle3:xs.length*k≤cap*k:=Nat.mul_le_mul_right _ hc;rw[hlay];simp only[lay,List.flatten_append,hlm,flatten_take xs o hxk,flatten_drop xs (o+m) hxk,←htk,Nat.add_mul];rw[List.append_assoc,List.take_append,lTa,Nat.min_eq_left (by omega),List.take_of_length_le (by rw[lTa];omega),List.take_append,hmk,List.take_of_length_le (l:=(ys.take m).flatten) (by omega),List.take_take,Nat.min_eq_left (by omega),List.append_assoc]
    congr 2
    rw[List.drop_take]
    congr 1;omega
  ·exact⟨fun w0 hb0=>hb0.wr hw hB,by rw[hw.size];exact Nat.le_refl _,fun q hq hne=>hw.block q (fun e=>hne (by rw[e];rfl))⟩
theorem Step.capV (T:Tb X.P){x:Operand}{at_ et:TypeId}{a:Option Addr}{n cap:Nat}
  (hg:guardE ops e ⟨some d,.call { callee:=.builtin .cap,args:=#[x],argTypes:=#[at_] },ty,pos,af,g⟩=some c)
  (hx:Op1 e c x (.slice a n cap))(ht:T.ty at_=some (.slice et))(hn:Nat.blt d X.n=true)(h:N ((d,c,.int .i64 cap)::e) w) :
  Step X ops ⟨some d,.call { callee:=.builtin .cap,args:=#[x],argTypes:=#[at_] },ty,pos,af,g⟩ e w N :=
 Step.quiet rfl (by simpa[Nat.blt_eq] using hn) hg (fun _ hh=>by cases hh) (fun t hf hc=>by
  have hv:=hx.val (ds:=X.ds) hf hc;have hr:(Builtin.cap_ #[at_] ty #[.slice a n cap]).run X.P w=.ok (.int .i64 cap) w:=by
   simp[Builtin.cap_,run_underlying (T.ok _ _ ht),goInt]
  simp only[execOp,resolve,invoke,builtin,Sem.run_bind,Sem.run_pure,Result.andThen_ok,List.map_toArray,List.map_cons,List.map_nil,hv,hr]) h
theorem Step.sliceCap (T:Tb X.P){x j:Operand}{st et:TypeId}{z:Value}{k by_ n cap b gb:Nat}
  (hg:guardE ops e ⟨some d,.slice st x none (some j) none,ty,pos,af,g⟩=some c)
  (hx:Op1 e c x (.slice (some ⟨gb,0,none⟩) n cap)){m:Int}(hhi:Op1 e c j (.int .i64 m))(ht:T.ty st=some (.slice et))(hz:T.inf et=some (z,k,by_))
  (hb:cv c=true→m=b∧b≤cap)(hn:Nat.blt d X.n=true)
  (h:N ((d,c,.slice (some ⟨gb,0,none⟩) b cap)::e) w):Step X ops ⟨some d,.slice st x none (some j) none,ty,pos,af,g⟩ e w N :=
 Step.quiet rfl (by simpa[Nat.blt_eq] using hn) hg (fun _ hh=>by cases hh) (fun t hf hc=>by
  obtain⟨rfl,hb⟩:=hb hc;have hT:=T.ok _ _ ht;have hb1:∀ code,(Instr.sliceBound (.int .i64 b) cap code).run X.P w=.ok b w:=fun code=>by
   have:=run_sliceBound (P:=X.P) w .i64 (b:Int) cap code (by omega) (by omega)
   simpa using this
  have h3:(Instr.sliceAt st (.slice (some ⟨gb,0,none⟩) n cap) none (some (.int .i64 b)) none).run X.P w=.ok (.slice (some ⟨gb,0,none⟩) b cap) w:=by
   simp only[Instr.sliceAt,Sem.run_bind,run_underlying hT,Result.andThen_ok,Instr.slice,Instr.sliceBounds,Sem.run_pure];simp[hb1,run_sizeOf hz,Addr.add_lit]
  simp only[execOp,hx.val hf hc,hhi.val hf hc,Option.map_some,Option.map_none,Sem.run_bind,h3,Result.andThen_ok,Sem.run_pure]) h
theorem Step.appendZ (T:Tb X.P){x y:Operand}{t tn et:TypeId}{z:Value}{kn:IntKind}{k bytes i n cap gb B:Nat}{xs:List (List Value)}
  (hg:guardE ops e ⟨some d,.call { callee:=.builtin .append,args:=#[x,y],argTypes:=#[t,tn] },ty,pos,af,g⟩=some none)
  (hx:Op1 e none x (subS (.slice (some ⟨gb,0,none⟩) xs.length cap) k 0 i))(hy:Op1 e none y (.int .i64 n))(ht:T.ty t=some (.slice et))(htn:T.ty tn=some (.int kn))(hi:T.inf et=some (z,k,bytes))(hk:Nat.blt 0 k=true)(hz:z.cells.size=k)
  (hv:Owns w B (.slice (some ⟨gb,0,none⟩) xs.length cap) et k xs)(hin:i≤xs.length)(h0:0<n)(hroom:cap<i+n)(hb:(i+n)*bytes≤140737488355328)(hl:i+n≤140737488355328)(hn:Nat.blt d X.n=true)
  (h:∀ v' w' zs,zs.length=n→Owns w' w.heap.size v' et k (xs.take i++zs)→Ext w w'→N ((d,none,v')::e) w') :
  Step X ops ⟨some d,.call { callee:=.builtin .append,args:=#[x,y],argTypes:=#[t,tn] },ty,pos,af,g⟩ e w N:=by
 obtain⟨ii,hi1,hi2,hi3,hi4⟩:=T.iok _ _ _ _ hi;have hT:=T.ok _ _ ht;have hTn:=T.ok _ _ htn;have hk':0<k:=by simpa[Nat.blt_eq] using hk
 have hs:=hv.sli;have hxk:=hv.2.1;have hnc:xs.length≤cap:=by
  obtain⟨a,c',he,h'⟩:=hs.len;cases he;exact h'
 have hp:subS (Value.slice (some ⟨gb,0,none⟩) xs.length cap) k 0 i=.slice (some ⟨gb,0,none⟩) i cap:=by
  simp only[subS,Nat.zero_mul,Nat.sub_zero];split<;>simp[Addr.add_lit]
 rw[hp]at hx;have hfl:(xs.take i).flatten.length=i*k:=by
  rw[flatten_length _ (fun x hx=>hxk x (List.mem_of_mem_take hx)),lTa];congr 1;omega
 have hcs:=cellsOf hs hk';have hold:(Builtin.firstCells ii.size i (.slice (some ⟨gb,0,none⟩) i cap)).run X.P w.drew=.ok (xs.take i).flatten.toArray w.drew:=by
  refine run_firstCells_some w.drew ii.size i ⟨gb,0,none⟩ i cap _ (by rw[hi3];exact hfl) (fun j u hj=>?_)
  rw[flatten_take xs i hxk,List.getElem?_take]at hj;split at hj
  ·exact hcs j u hj
  ·cases hj
 have hr:=Lib.run_append_grow_zeros w t tn ty et ii z .i64 kn hT hTn hi1 hi2 (some ⟨gb,0,none⟩) i cap (xs.take i).flatten hold n h0 (by omega) hroom (by omega)
  (by
   rw[hi4];have:n*bytes≤(i+n)*bytes:=Nat.mul_le_mul_right _ (by omega)
   omega) (by rw[hi4];exact growslice_fits hroom hb)
 obtain⟨G,hG⟩:∃ G,G=grownCap w (i+n) cap et:=⟨_,rfl⟩;have hGe:=grownCap_ge w (i+n) cap et;have hGm:=grownCap_le_maxLen w (i+n) cap et (by unfold maxLen;omega)
 rw[←hG]at hr hGe hGm;have hzs:z.cells.size=k:=hz;have hzc:∀ n,(Builtin.zeroCells z.cells n).size=n*k:=fun n=>by simp[Builtin.zeroCells,hzs]
 obtain⟨Z,hZ⟩:∃ Z:List Value,Z=(Builtin.zeroCells z.cells n).toList:=⟨_,rfl⟩;have hZl:Z.length=n*k:=by rw[hZ,Array.length_toList];exact hzc n
 have hsplit:∀ (m:Nat) (L:List Value),L.length=m*k→∃ zs:List (List Value),zs.length=m∧(∀ x∈zs,x.length=k)∧zs.flatten=L:=by
  intro m
  induction m with
  |zero=>intro L hL;exact⟨[],rfl,by simp,by simp at hL;simp[hL]⟩
  |succ m ih =>
   intro L hL;rw[Nat.add_mul,Nat.one_mul]at hL;obtain⟨zs,h1,h2,h3⟩:=ih (L.drop k) (by rw[List.length_drop];omega)
   refine⟨L.take k::zs,by simp[h1],?_,by rw[List.flatten_cons,h3,List.take_append_drop]⟩
   intro x hx;rcases List.mem_cons.1 hx with rfl|hx
   ·rw[lTa];omega
   ·exact h2 x hx
 obtain⟨zs,hzl,hzk,hzf⟩:=hsplit n Z hZl;have hxl:(xs.take i).length=i:=by rw[lTa];omega
 have hlen:(xs.take i++zs).length=i+n:=by rw[lAp,hxl,hzl]
 obtain⟨W,hW⟩:∃ W,W=w.drew.alloc (.cells ((xs.take i).flatten.toArray++Builtin.zeroCells z.cells n++Builtin.zeroCells z.cells (G-(i+n))) et):=⟨_,rfl⟩;rw[←hW]at hr;refine Step.eff (v:=.slice (some ⟨w.heap.size,0,none⟩) (i+n) G) (w':=W) rfl (by simpa[Nat.blt_eq] using hn) hg (fun _ hh=>by cases hh) (fun t' hf=>run_builtin2 (hx.val hf rfl) (hy.val hf rfl) fun cs=>?_) (h _ W zs hzl ?_ ?_)
 ·simp only[builtin,Sem.run_bind,hr,Result.andThen_ok,Sem.run_pure]
 ·subst hW;refine⟨⟨?_,.inr ⟨w.heap.size,G,_,by rw[hlen],Nat.le_refl _,heap_alloc_new w.drew _,by rw[hlen];exact hGe,hGm,?_,?_⟩⟩,?_,by rw[hlen];exact hl⟩
  ·rw[List.flatten_append,lAp,hfl,hzf,hZl,hlen,Nat.add_mul]
  ·simp only[Array.size_append,List.size_toArray,hfl,hzc,←Nat.add_mul]
   congr 1;omega
  ·rw[hlen,List.flatten_append,hzf,hZ];simp only[Array.toList_append,List.append_assoc];rw[←List.append_assoc];refine List.take_left' ?_;rw[lAp,←hZ,hZl,hfl,Nat.add_mul]
  ·intro x hx;rcases List.mem_append.1 hx with hx|hx
   ·exact hxk x (List.mem_of_mem_take hx)
   ·exact hzk x hx
 ·subst hW;exact(Ext.drew w).trans (Ext.alloc _ _)
theorem Step.callV {f:FuncId}{args:Array Operand}{ats:Array TypeId}{l:List Operand}{vs:List Value}{r:Value}
  (hg:guardE ops e ⟨some d,.call { callee:=.value (.func f),args:=args,argTypes:=ats },ty,pos,af,g⟩=some none)
  (ha:args=⟨l⟩)(hvs:evs e l=some vs)(hn:Nat.blt d X.n=true)(hr:(callFunc f ⟨vs⟩).run X.P w=.ok (.value r) w)
  (h:N ((d,none,r)::e) w):Step X ops ⟨some d,.call { callee:=.value (.func f),args:=args,argTypes:=ats },ty,pos,af,g⟩ e w N :=
 Step.eff rfl (by simpa[Nat.blt_eq] using hn) hg (fun _ hh=>by cases hh) (fun t hft=>by
  have:=evs_map (ds:=X.ds) hft hvs;subst ha;have h2:(Array.mk l).map (Act.mk t X.ds).eval=⟨vs⟩:=by simp[this]
  simp only[execOp,resolve,h2,Act.eval,Deferred.ofValue,Sem.run_bind,Sem.run_pure,Result.andThen_ok,invoke,Array.empty_append,Array.append_empty,hr]) h
theorem Step.callXC {f:FuncId}{x:Operand}{cap:List Value}{args:Array Operand}{ats:Array TypeId}{l:List Operand}{vs:List Value}{v:Value}
  (hg:guardE ops e ⟨some d,.call { callee:=.value x,args:=args,argTypes:=ats },ty,pos,af,g⟩=some c)
  (hx:Op1 e c x (.func (.func f) #[] ⟨cap⟩))(ha:args=⟨l⟩)(hvs:OpL e c l vs)(hf:Callable X.P f)(hn:Nat.blt d X.n=true)(hc:cv c=true→Ret X.P f ⟨vs++cap⟩ w fun r w'=>r=v∧Ext w w')
  (h:∀ w',Ext w w'→N ((d,c,v)::e) w'):Step X ops ⟨some d,.call { callee:=.value x,args:=args,argTypes:=ats },ty,pos,af,g⟩ e w N:=by
 intro t K Q hft hK;rw[guardE_wanted hft hg];cases hcv:cv c with
 |false =>
  rw[if_neg (by simp)]
  have:=hK _ _ _ (h w (Ext.refl w)) (hft.put (by simpa[Nat.blt_eq] using hn) c v)
  simp only[gval,hcv]at this;exact this
 |true =>
  rw[if_pos rfl];refine⟨fun _ _=>trivial,?_⟩;rw[Oper.semAt_eq _ _ _ (fun _ hh=>by cases hh)]
  have h1:=hvs.map (ds:=X.ds) hft hcv;subst ha;have h2:(Array.mk l).map (Act.mk t X.ds).eval=⟨vs⟩:=by simp[h1]
  have h3:(Act.mk t X.ds).eval x=.func (.func f) #[] ⟨cap⟩:=hx.val hft hcv;have h4:(⟨vs⟩:Array Value)++⟨cap⟩=⟨vs++cap⟩:=by simp
  have hr:(execOp (Act.mk t X.ds).eval ⟨some d,.call { callee:=.value x,args:=⟨l⟩,argTypes:=ats },ty,pos,af,g⟩).run X.P w=.ok (.enter f ⟨vs++cap⟩) w:=by
   simp only[execOp,resolve,h2,h3,Deferred.ofValue,Sem.run_bind,Sem.run_pure,Result.andThen_ok,invoke,Array.empty_append,h4,run_callFunc hf]
  show Oper.uponIn _ _ _ _ _ _ _ ((execOp (Act.mk t X.ds).eval _).run X.P w);rw[hr];refine⟨fun h=>by simp[Fence.wide]at h,callsW (Calls.mono (hc hcv) ?_)⟩
  rintro en w' ⟨r,rfl,rfl,hx⟩;show K (Act.put _ (some d) r) w';have:=hK _ _ _ (h w' hx) (hft.put (by simpa[Nat.blt_eq] using hn) c r)
  simp only[gval,hcv]at this;exact this
end
theorem overlaps_no {P:Program}(T:Tb P){w:World}{tS tR et:TypeId}{z:Value}{k bytes B B':Nat}{u v:Value}{xs ys:List (List Value)}(ht:T.ty tS=some (.slice et))(hi:T.inf et=some (z,k,bytes))(hk:0<k)
  (hu:Owns w B u et k ys)(hv:Owns w B' v et k xs)(hy:0<ys.length)(hne:∀ b,some b=u.ownBlock→some b≠v.ownBlock){o:Nat}(ho:o<xs.length) :
  (Extern.SlicesOverlaps.overlaps #[tS,tS] #[tR] #[u,subS v k o xs.length]).run P w=.ok (.bool false) w:=by
 obtain⟨g1,cap1,cur1,rfl,_,hg1,hc1,_,hs1,_⟩:=hu.shape hy;obtain⟨g2,cap2,cur2,rfl,_,hg2,hc2,_,hs2,_⟩:=hv.shape (by omega)
 have hgg:g1≠g2:=fun h=>hne g1 rfl (by rw[h];rfl)
 have hp:subS (Value.slice (some ⟨g2,0,none⟩) xs.length cap2) k o xs.length=.slice (some ⟨g2,o*k,none⟩) (xs.length-o) (cap2-o):=by
  simp only[subS,if_neg (show ¬ cap2=o by omega),Option.map_some,Addr.add_lit,Nat.zero_add]
 rw[hp];have h2:0<cap2*k:=Nat.mul_pos (by omega) hk
 refine Lib.run_overlaps_apart w tS tR et (T.ok _ _ ht) k (fun w=>run_sizeOf hi w) ⟨g1,0,none⟩ ⟨g2,o*k,none⟩ _ _ _ _ hgg et et cur1.size cur2.size ?_ ?_ (by omega) ?_ ?_
 ·simp[World.shape?,hg1]
 ·simp[World.shape?,hg2]
 ·exact frozen_of_row w g1 0 cur1 et hg1
 ·exact frozen_of_row w g1 _ cur1 et hg1
section
variable {X:Cx} {ops:Array Oper} {e:Env} {w:World} {S:World→Prop} {N:Env→World→Prop} {lb:List (Oper×Bool)} {d:Nat} {c:Option Bool} {ty:TypeId} {pos:String} {af:Array Edge} {g:Option (Nat×Bool)}
end
end Go.Vg
end
section
open Go Go.Vg Go.RowKit Go.Proofs Go.Proofs.YtmkckngecjpklaaGreatDoor
namespace Go.Proofs.YtmkckngecjpklaaGreatDoor.Lab
section
theorem layA {α:Type}(xs zs:List α)(x:α)(i:Nat)(hi:i<xs.length)(hz:zs.length=xs.length+1-i) :
  lay (lay (xs.take i++zs) i ([x].take 1)) (i+1) ((xs.drop i).take (xs.length-i))=xs.take i++x::xs.drop i:=by
 have h1:(xs.take i).length=i:=by rw[lTa];omega
 have h2:((xs.drop i).take (xs.length-i))=xs.drop i:=List.take_of_length_le (by simp)
 have e1:lay (xs.take i++zs) i ([x].take 1)=(xs.take i++[x])++zs.drop 1:=by
  simp only[lay,List.take_left' h1,List.take_succ_cons,List.take_zero,lCo,lNi];rw[List.drop_append,List.drop_of_length_le (l:=xs.take i) (by omega),List.nil_append,h1,show i+(0+1)-i=1 by omega]
 have h3:(xs.take i++[x]).length=i+1:=by rw[lAp,h1];rfl
 rw[e1,h2];simp only[lay,List.take_left' h3];rw[List.drop_of_length_le (l:=xs.take i++[x]++zs.drop 1) (by simp;omega),List.append_nil,List.append_assoc]
 rfl
theorem layB {α:Type}(xs:List α)(x y:α)(i:Nat)(hi:i<xs.length) :
  lay (lay (xs++[y]) (i+1) (((xs++[y]).drop i).take (xs.length-i))) i ([x].take 1)=xs.take i++x::xs.drop i:=by
 have e1:((xs++[y]).drop i).take (xs.length-i)=xs.drop i:=by
  rw[List.drop_append_of_le_length (by omega),List.take_left' (by rw[List.length_drop])]
 have e2:lay (xs++[y]) (i+1) (xs.drop i)=xs.take (i+1)++xs.drop i:=by
  simp only[lay];rw[List.take_append_of_le_length (by omega),List.drop_of_length_le (l:=xs++[y]) (by simp;omega),List.append_nil]
 rw[e1,e2];have h1:(xs.take i).length=i:=by rw[lTa];omega
 have e3:xs.take (i+1)++xs.drop i=xs.take i++(xs[i]::xs.drop i):=by
  rw[List.take_succ_eq_append_getElem hi,List.append_assoc];rfl
 rw[e3];simp only[lay,List.take_left' h1,List.take_succ_cons,List.take_zero,lCo,lNi];rw[List.drop_append,List.drop_of_length_le (l:=xs.take i) (by omega),List.nil_append,h1,show i+(0+1)-i=1 by omega,List.append_assoc]
 rfl
theorem insert_ok (s u:Value)(xs:List (List Value))(x:List Value)(i B B':Nat)(w:World)(hs:Owns w B s 78 2 xs)(hu:Owns w B' u 78 2 [x])(hne:∀ b,some b=u.ownBlock→some b≠s.ownBlock)
  (hi:i≤xs.length)(hn:xs.length≤1000)(hB:B≤w.heap.size)(h1:∀ y∈xs,∀ c∈y,c.oneCell'=true)(h1x:∀ y∈[x],∀ c∈y,c.oneCell'=true) :
  Ret Tryz.prog 187 ⟨[s,.int .i64 i,u]⟩ w fun r w'=>Owns w' B r 78 2 (xs.take i++x::xs.drop i)∧Grew B s w w':=by
 refine ret_of_G Tryz.func187 rfl Tryz.ntmps187 rfl ?_;simp only[argEnv];refine rn ?_;refine GL.cons (Step.sliceVl tb i rfl (oV rfl) (oV rfl) rfl rfl (fun _=>⟨_,hs.sli⟩) (fun _=>⟨rfl,hi⟩) rfl ?_);refine rn ?_;rw[show((([x]:List (List Value)).length:Nat):Int)=1 from rfl]
 refine rn ?_;refine cD ?_ ?_<;>intro hc
 ·have hin:i=xs.length:=by omega
  refine rn ?_;refine sApp tb hs hu.sli ?_ (h1:=h1x);intro v1 w1 ho1 hg1;refine rn ?_;refine G.ret1 rfl rfl rfl rfl ?_;refine⟨?_,hg1⟩;rw[hin,List.take_length,List.drop_length];exact ho1
 ·have hlt:i<xs.length:=by omega
  obtain⟨gb,cap,cur,rfl,hBg,hgb,hcap,hcm,-,-⟩:=hs.shape (by omega)
  unfold maxLen at hcm;refine rn ?_;refine sAd tb ?_;refine rn ?_;refine GL.cons (Step.capV tb rfl (oV rfl) rfl rfl ?_);refine rn ?_;refine cD ?_ ?_<;>intro hc
  ·have hroom:cap<xs.length+1:=by omega
   refine rn ?_;refine GL.cons (Step.sliceVh tb i rfl (oV rfl) (oV rfl) rfl rfl (fun _=>⟨_,hs.sli⟩) (fun _=>⟨rfl,hi⟩) rfl ?_);refine rn ?_;refine sAd tb ?_;refine rn ?_;refine sAr (r:=((xs.length+1-i:Nat):Int)) ?_ (hp:=(wrap_i64 (by omega) (by omega)).trans (by omega))
   refine GL.cons (Step.appendZ tb rfl (oV rfl) (oV rfl) rfl rfl rfl rfl rfl hs hi (by omega) (by omega) (by omega) (by omega) rfl ?_)
   intro v1 w1 zs hzl ho1 hx1;refine rn ?_;have hl1:(xs.take i++zs).length=xs.length+1:=by rw[lAp,lTa,hzl];omega
   refine GL.cons (Step.sliceVl tb i rfl (oV rfl) (oV rfl) rfl rfl (fun _=>⟨_,ho1.sli⟩) (fun _=>⟨rfl,by omega⟩) rfl ?_)
   refine rn ?_;refine GL.cons (Step.copyO tb rfl (oV rfl) (oV rfl) rfl rfl rfl ho1 (hu.to hx1).sli h1x (by omega) (m:=1) (by rw[hl1];simp only[lCo,lNi];omega) (by simp) rfl ?_)
   intro w2 ho2 hg2;have hx2:Ext w w2:=hg2.below _ hx1;have hl2:(lay (xs.take i++zs) i ([x].take 1)).length=xs.length+1:=by rw[lay_len (by simp;omega)];exact hl1
   refine rn ?_;refine G.regionM [(0,true),(1,true),(2,true),(3,true),(4,true),(5,true),(6,true),(7,true),(8,false)] ((fun _=>True)) (by kernel_rfl) (by kernel_rfl) rfl mixed (trivial) rfl ?_
   refine rd ?_;refine dAd tb ?_;refine rd ?_;refine GM.read (fun w' hS=>Step.sliceVl tb (i+1) rfl (oV rfl) (oV rfl) rfl rfl (fun _=>⟨_,ho2.sli⟩) (fun _=>⟨by omega,by omega⟩) rfl ⟨rfl,rfl⟩) rfl rfl ?_
   refine rd ?_;refine GM.read (fun w' hS=>Step.sliceVl tb i rfl (oV rfl) (oV rfl) rfl rfl (fun _=>⟨_,hs.sli⟩) (fun _=>⟨rfl,hi⟩) rfl ⟨rfl,rfl⟩) rfl rfl ?_;have hx3:Ext w w2.drew:=hx2.drew';have hsub:=Sli.sub (hs.to hx3).sli hi (Nat.le_refl _);have hsl:((xs.drop i).take (xs.length-i)).length=xs.length-i:=by rw[lTa,List.length_drop];omega
   refine GM.eff (Step.copyO tb rfl (oV rfl) (oV rfl) rfl rfl rfl (ho2.to (Ext.drew w2)) hsub (fun y hy=>h1 y (List.mem_of_mem_drop (List.mem_of_mem_take (List.mem_of_mem_take hy)))) (by omega) (m:=xs.length-i) (by rw[hl2,hsl];omega) (by omega) rfl ?_)
   intro w4 ho4 hg4;refine⟨trivial,?_⟩;refine GM.nil ?_;refine rn ?_;refine G.ret1 rfl rfl rfl rfl ?_;rw[List.take_of_length_le (l:=(xs.drop i).take (xs.length-i)) (by omega),layA xs zs x i hlt hzl]at ho4
   exact⟨ho4.mono hB,Grew.ofExt (hg4.below _ hx3) hB⟩
  ·have hroom:xs.length<cap:=by omega
   obtain⟨y,ho1⟩:=hs.up hroom (by omega)
   have hl1:(xs++[y]).length=xs.length+1:=by simp
   refine rn ?_;refine sAd tb ?_;refine rn ?_;refine GL.cons (Step.sliceCap tb (b:=xs.length+1) rfl (oV rfl) (oV rfl) rfl rfl (fun _=>⟨by omega,by omega⟩) rfl ?_)
   refine rn ?_;refine sAd tb ?_;refine rn ?_;refine GL.cons (Step.sliceVl tb (i+1) rfl (oV rfl) (oV rfl) rfl rfl (fun _=>⟨_,ho1.sli⟩) (fun _=>⟨by omega,by omega⟩) rfl ?_)
   refine rn ?_;refine GL.cons (Step.callV rfl rfl rfl rfl (r:=.bool false) ?_ ?_)
   ·rw[run_callFunc_extern Tryz.func242 (by kernel_rfl) (by kernel_rfl) (by kernel_rfl) (e:=Extern.SlicesOverlaps.overlaps #[23,23] #[4]) (by kernel_rfl),
     overlaps_no tb rfl rfl (by decide) hu ho1 (by simp) (fun b hb=>hne b hb) (by omega)]
    rfl
   refine rn ?_;refine G.regionM [(0,true),(1,true),(2,true),(3,true),(4,true),(5,true),(6,true),(7,true),(8,false)] ((fun _=>True)) (by kernel_rfl) (by kernel_rfl) rfl mixed (trivial) rfl ?_
   refine rd ?_;refine dAd tb ?_;refine rd ?_;refine GM.read (fun w' hS=>Step.sliceVl tb (i+1) rfl (oV rfl) (oV rfl) rfl rfl (fun _=>⟨_,ho1.sli⟩) (fun _=>⟨by omega,by omega⟩) rfl ⟨rfl,rfl⟩) rfl rfl ?_
   refine rd ?_;refine GM.read (fun w' hS=>Step.sliceVl tb i rfl (oV rfl) (oV rfl) rfl rfl (fun _=>⟨_,ho1.sli⟩) (fun _=>⟨rfl,by omega⟩) rfl ⟨rfl,rfl⟩) rfl rfl ?_
   have ho2:=ho1.to (Ext.drew w);have hu2:=hu.to (Ext.drew w);have hsub:=Sli.sub ho2.sli (l:=i) (by omega) (Nat.le_refl _)
   have hsl:(((xs++[y]).drop i).take ((xs++[y]).length-i)).length=xs.length+1-i:=by rw[lTa,List.length_drop];omega
   have e1:(((xs++[y]).drop i).take ((xs++[y]).length-i)).take (xs.length-i)=((xs++[y]).drop i).take (xs.length-i):=by rw[List.take_take,Nat.min_eq_left (by omega)]
   have e2:((xs++[y]).drop i).take (xs.length-i)=xs.drop i:=by
    rw[List.drop_append_of_le_length (by omega),List.take_left' (by rw[List.length_drop])]
   refine GM.eff (Step.copyO tb rfl (oV rfl) (oV rfl) rfl rfl rfl ho2 hsub (fun z hz=>h1 z (by rw[e1,e2]at hz;exact List.mem_of_mem_drop hz)) (by omega) (m:=xs.length-i) (by rw[hsl,hl1];omega) (by omega) rfl ?_)
   intro w4 ho4 hg4;refine⟨trivial,?_⟩;refine GM.nil ?_;rw[e1]at ho4;have hl4:(lay (xs++[y]) (i+1) (((xs++[y]).drop i).take (xs.length-i))).length=xs.length+1:=by rw[e2,lay_len (by rw[hl1,List.length_drop];omega)];exact hl1
   have hu4:=hu2.grew hg4 hne;refine rn ?_;refine GL.cons (Step.sliceVl tb i rfl (oV rfl) (oV rfl) rfl rfl (fun _=>⟨_,ho4.sli⟩) (fun _=>⟨rfl,by omega⟩) rfl ?_)
   refine rn ?_;refine GL.cons (Step.copyO tb rfl (oV rfl) (oV rfl) rfl rfl rfl ho4 hu4.sli h1x (by omega) (m:=1) (by rw[hl4];simp only[lCo,lNi];omega) (by simp) rfl ?_)
   intro w5 ho5 hg5;refine rn ?_;refine G.ret1 rfl rfl rfl rfl ?_;rw[layB xs x y i hlt]at ho5;have hg:=hg4.trans hg5;exact⟨ho5,(Grew.ofExt (Ext.drew w) hB).trans ⟨hg.below,hg.size,hg.block⟩⟩
end
end Go.Proofs.YtmkckngecjpklaaGreatDoor.Lab
namespace Go.Proofs.YtmkckngecjpklaaGreatDoor
section
namespace Lab
def cmpB (a b:List UInt8):Int:=if Op.bytesLess a b=true then -1 else if (!Op.bytesLess a b&&!decide (a=b))=true then 1 else 0
theorem isNaN_ok (s:List UInt8)(w:World):Ret Tryz.prog 220 ⟨[S s]⟩ w fun r w'=>r=.bool false∧w'=w:=by
 refine ret_of_G Tryz.func220 rfl Tryz.ntmps220 rfl ?_;simp only[argEnv];refine rg ?_;refine G.ret1 rfl rfl rfl rfl ?_;exact⟨by simp,rfl⟩
theorem compare_ok (a b:List UInt8)(w:World):Ret Tryz.prog 157 ⟨[S a,S b]⟩ w fun r w'=>r=.int .i64 (cmpB a b)∧w'=w:=by
 refine ret_of_G Tryz.func157 rfl Tryz.ntmps157 rfl ?_;simp only[argEnv];refine rg ?_;refine GL.cons (Step.callF rfl rfl rfl c220 rfl (isNaN_ok a w) ?_);rintro _ w1 ⟨rfl,hw⟩;obtain rfl:w=w1:=hw.symm;refine rg ?_;refine GL.cons (Step.callF rfl rfl rfl c220 rfl (isNaN_ok b w) ?_);rintro _ w1 ⟨rfl,hw⟩;obtain rfl:w=w1:=hw.symm;refine rg ?_;refine cD ?_ ?_<;>intro hc
 ·refine rg ?_;refine G.ret1 rfl rfl rfl rfl ?_;exact⟨by rw[cmpB,if_pos hc],rfl⟩
 ·have hc1:=hc;refine rg ?_;refine cD ?_ ?_<;>intro hc
  ·refine rg ?_;refine G.ret1 rfl rfl rfl rfl ?_;exact⟨by rw[cmpB,if_neg (by rw[hc1];simp),if_pos hc],rfl⟩
  ·refine rg ?_;refine G.ret1 rfl rfl rfl rfl ?_;exact⟨by rw[cmpB,if_neg (by rw[hc1];simp),if_neg (by rw[hc];simp)],rfl⟩
theorem bl_cons (a b:UInt8)(x y:List UInt8):Op.bytesLess (a::x) (b::y)=true↔a.toNat<b.toNat∨a=b∧Op.bytesLess x y=true:=by
 simp only[Op.bytesLess,Bool.or_eq_true,Bool.and_eq_true,dT,beq_iff_eq,UInt8.lt_iff_toNat_lt]
theorem bl_irrefl:∀ a:List UInt8,Op.bytesLess a a=false
 |[]=>rfl
 |a::x=>by
  rw[Bool.eq_false_iff];intro h;rcases(bl_cons _ _ _ _).1 h with h|⟨_,h⟩
  ·omega
  ·rw[bl_irrefl x]at h;cases h
theorem bl_trans:∀ {a b c:List UInt8},Op.bytesLess a b=true→Op.bytesLess b c=true→Op.bytesLess a c=true
 |_,_,[],_,h=>by unfold Op.bytesLess at h;cases h
 |[],_,_::_,_,_=>rfl
 |_::_,[],_,h,_=>by unfold Op.bytesLess at h;cases h
 |a::x,b::y,c::z,h1,h2=>by
  rw[bl_cons]at h1 h2 ⊢;rcases h1 with h1|⟨rfl,h1⟩
  ·rcases h2 with h2|⟨rfl,h2⟩
   ·exact .inl (by omega)
   ·exact .inl h1
  ·rcases h2 with h2|⟨rfl,h2⟩
   ·exact .inl h2
   ·exact .inr ⟨rfl,bl_trans h1 h2⟩
theorem bl_tri:∀ (a b:List UInt8),Op.bytesLess a b=true∨a=b∨Op.bytesLess b a=true
 |[],[]=>.inr (.inl rfl)
 |[],_::_=>.inl rfl
 |_::_,[]=>.inr (.inr rfl)
 |a::x,b::y=>by
  rw[bl_cons,bl_cons];rcases Nat.lt_trichotomy a.toNat b.toNat with h|h|h
  ·exact .inl (.inl h)
  ·obtain rfl:=UInt8.toNat_inj.1 h;rcases bl_tri x y with h|rfl|h
   ·exact .inl (.inr ⟨rfl,h⟩)
   ·exact .inr (.inl rfl)
   ·exact .inr (.inr (.inr ⟨rfl,h⟩))
  ·exact .inr (.inr (.inl h))
theorem bl_asymm {a b:List UInt8}(h:Op.bytesLess a b=true):Op.bytesLess b a=false:=by
 rw[Bool.eq_false_iff];intro h2;have:=bl_trans h h2;rw[bl_irrefl]at this;cases this
theorem bl_not {a b:List UInt8}(h:Op.bytesLess a b=false):b=a∨Op.bytesLess b a=true:=by
 rcases bl_tri a b with h1|h1|h1
 ·rw[h1]at h;cases h
 ·exact .inl h1.symm
 ·exact .inr h1
end Lab
end
section
namespace Lab
def sortedL (ls:List Lab):Prop:=ls.Pairwise fun x y=>Op.bytesLess y.1 x.1=false
theorem dw_sorted {l:List Lab}{x:Lab}(h:sortedL l):∀ y∈l.dropWhile (fun y=>Op.bytesLess y.1 x.1),Op.bytesLess y.1 x.1=false:=by
 induction l with
 |nil=>simp
 |cons a r ih =>
  intro y hy;unfold sortedL at h;rw[List.pairwise_cons]at h;cases ha:Op.bytesLess a.1 x.1 with
  |true=>simp only[List.dropWhile_cons,ha,if_true]at hy;exact ih h.2 y hy
  |false =>
   simp only[List.dropWhile_cons,ha,Bool.false_eq_true,if_false]at hy;rcases List.mem_cons.1 hy with rfl|hy
   ·exact ha
   ·have h1:=h.1 y hy;rw[Bool.eq_false_iff];intro h2;rcases bl_not h1 with e|e
    ·rw[e,h2]at ha;cases ha
    ·have:=bl_trans e h2;rw[this]at ha;cases ha
theorem tw_all {l:List Lab}{x:Lab}:∀ y∈l.takeWhile (fun y=>Op.bytesLess y.1 x.1),Op.bytesLess y.1 x.1=true:=by
 induction l with
 |nil=>simp
 |cons a r ih =>
  intro y hy;cases ha:Op.bytesLess a.1 x.1 with
  |true =>
   simp only[List.takeWhile_cons,ha,if_true]at hy;rcases List.mem_cons.1 hy with rfl|hy
   ·exact ha
   ·exact ih y hy
  |false=>simp only[List.takeWhile_cons,ha,Bool.false_eq_true,if_false]at hy;cases hy
end Lab
end
end Go.Proofs.YtmkckngecjpklaaGreatDoor
end
