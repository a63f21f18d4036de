/- The table of the types of this seat, printed by wip/tb.py out of the translation. -/
import Derived.Test.YtlaingmhdgpkdaaDoorProg
import Derived.Test.YtlaingmhdgpkdaaDoorGV1
import Derived.Test.YtlaingmhdgpkdaaDoorGV2
import Derived.KernelRfl
namespace Go.Proofs.YtlaingmhdgpkdaaDoor
open Go Go.Vg
def tyL : List (Nat × TypeDesc) := [(0, (TypeDesc.tuple #[])),
  (1, (TypeDesc.func #[] #[] false)),
  (2, (TypeDesc.int IntKind.i64)),
  (3, (TypeDesc.int IntKind.i64)),
  (4, TypeDesc.bool),
  (5, (TypeDesc.int IntKind.u8)),
  (6, (TypeDesc.int IntKind.u8)),
  (7, (TypeDesc.struct #[{ name := "x", type := 2, offset := 0, embedded := false, tag := "", pkgPath := "runtime", byteOffset := 0 }, { name := "y", type := 3, offset := 1, embedded := false, tag := "", pkgPath := "runtime", byteOffset := 8 }, { name := "signed", type := 4, offset := 2, embedded := false, tag := "", pkgPath := "runtime", byteOffset := 16 }, { name := "code", type := 6, offset := 3, embedded := false, tag := "", pkgPath := "runtime", byteOffset := 17 }])),
  (8, (TypeDesc.struct #[{ name := "x", type := 2, offset := 0, embedded := false, tag := "", pkgPath := "runtime", byteOffset := 0 }, { name := "y", type := 3, offset := 1, embedded := false, tag := "", pkgPath := "runtime", byteOffset := 8 }, { name := "signed", type := 4, offset := 2, embedded := false, tag := "", pkgPath := "runtime", byteOffset := 16 }, { name := "code", type := 6, offset := 3, embedded := false, tag := "", pkgPath := "runtime", byteOffset := 17 }])),
  (9, TypeDesc.string),
  (10, TypeDesc.string),
  (11, TypeDesc.string),
  (12, (TypeDesc.int IntKind.u64)),
  (13, (TypeDesc.struct #[{ name := "msg", type := 9, offset := 0, embedded := false, tag := "", pkgPath := "runtime", byteOffset := 0 }, { name := "addr", type := 12, offset := 1, embedded := false, tag := "", pkgPath := "runtime", byteOffset := 16 }])),
  (14, (TypeDesc.struct #[{ name := "msg", type := 9, offset := 0, embedded := false, tag := "", pkgPath := "runtime", byteOffset := 0 }, { name := "addr", type := 12, offset := 1, embedded := false, tag := "", pkgPath := "runtime", byteOffset := 16 }])),
  (15, (TypeDesc.pointer 136)),
  (16, (TypeDesc.pointer 139)),
  (17, (TypeDesc.pointer 146)),
  (18, (TypeDesc.struct #[{ name := "typ", type := 17, offset := 0, embedded := false, tag := "", pkgPath := "internal/runtime/maps", byteOffset := 0 }])),
  (19, (TypeDesc.struct #[{ name := "typ", type := 17, offset := 0, embedded := false, tag := "", pkgPath := "internal/runtime/maps", byteOffset := 0 }])),
  (20, (TypeDesc.interface #[])),
  (21, (TypeDesc.int IntKind.i32)),
  (22, (TypeDesc.func #[3, 3] #[3] false)),
  (23, (TypeDesc.slice 5)),
  (24, (TypeDesc.func #[3] #[9] false)),
  (25, (TypeDesc.slice 51)),
  (26, (TypeDesc.struct #[{ name := "Method", type := 9, offset := 0, embedded := false, tag := "", pkgPath := "", byteOffset := 0 }, { name := "Path", type := 9, offset := 1, embedded := false, tag := "", pkgPath := "", byteOffset := 16 }, { name := "Params", type := 25, offset := 2, embedded := false, tag := "", pkgPath := "", byteOffset := 32 }])),
  (27, (TypeDesc.struct #[{ name := "Method", type := 9, offset := 0, embedded := false, tag := "", pkgPath := "", byteOffset := 0 }, { name := "Path", type := 9, offset := 1, embedded := false, tag := "", pkgPath := "", byteOffset := 16 }, { name := "Params", type := 25, offset := 2, embedded := false, tag := "", pkgPath := "", byteOffset := 32 }])),
  (28, (TypeDesc.tuple #[27, 3])),
  (29, (TypeDesc.func #[23] #[27, 3] false)),
  (30, (TypeDesc.func #[] #[4] false)),
  (31, (TypeDesc.func #[3] #[4] false)),
  (32, (TypeDesc.slice 9)),
  (33, (TypeDesc.struct #[{ name := "S", type := 9, offset := 0, embedded := false, tag := "", pkgPath := "", byteOffset := 0 }, { name := "Plus", type := 4, offset := 1, embedded := false, tag := "", pkgPath := "", byteOffset := 16 }, { name := "Names", type := 32, offset := 2, embedded := false, tag := "", pkgPath := "", byteOffset := 24 }, { name := "Stop", type := 3, offset := 3, embedded := false, tag := "", pkgPath := "", byteOffset := 48 }])),
  (34, (TypeDesc.struct #[{ name := "S", type := 9, offset := 0, embedded := false, tag := "", pkgPath := "", byteOffset := 0 }, { name := "Plus", type := 4, offset := 1, embedded := false, tag := "", pkgPath := "", byteOffset := 16 }, { name := "Names", type := 32, offset := 2, embedded := false, tag := "", pkgPath := "", byteOffset := 24 }, { name := "Stop", type := 3, offset := 3, embedded := false, tag := "", pkgPath := "", byteOffset := 48 }])),
  (35, (TypeDesc.func #[9] #[9] false)),
  (36, (TypeDesc.int IntKind.i64)),
  (37, (TypeDesc.tuple #[9, 36])),
  (38, (TypeDesc.func #[9, 4] #[9, 36] false)),
  (39, (TypeDesc.tuple #[25, 36])),
  (40, (TypeDesc.func #[9] #[25, 36] false)),
  (41, (TypeDesc.func #[25, 25] #[4] false)),
  (42, (TypeDesc.func #[27, 9] #[9] false)),
  (43, (TypeDesc.func #[32, 32] #[4] false)),
  (44, (TypeDesc.func #[27, 9] #[32] false)),
  (45, (TypeDesc.func #[9, 9] #[32] false)),
  (46, (TypeDesc.func #[74] #[] false)),
  (47, (TypeDesc.func #[74] #[] false)),
  (48, (TypeDesc.func #[9, 9] #[47] false)),
  (49, (TypeDesc.func #[34] #[4] false)),
  (50, (TypeDesc.struct #[{ name := "Name", type := 9, offset := 0, embedded := false, tag := "", pkgPath := "", byteOffset := 0 }, { name := "Value", type := 9, offset := 1, embedded := false, tag := "", pkgPath := "", byteOffset := 16 }])),
  (51, (TypeDesc.struct #[{ name := "Name", type := 9, offset := 0, embedded := false, tag := "", pkgPath := "", byteOffset := 0 }, { name := "Value", type := 9, offset := 1, embedded := false, tag := "", pkgPath := "", byteOffset := 16 }])),
  (52, (TypeDesc.func #[25, 4] #[4] false)),
  (53, (TypeDesc.func #[3, 9] #[23] false)),
  (54, (TypeDesc.func #[3, 9] #[4] false)),
  (55, (TypeDesc.tuple #[9, 9, 4])),
  (56, (TypeDesc.func #[9, 9] #[9, 9, 4] false)),
  (57, (TypeDesc.func #[9] #[9, 9, 4] false)),
  (58, (TypeDesc.map 9 9)),
  (59, (TypeDesc.tuple #[58, 4])),
  (60, (TypeDesc.func #[32] #[58, 4] false)),
  (61, (TypeDesc.func #[58, 9] #[4] false)),
  (62, (TypeDesc.func #[9, 25] #[4] false)),
  (63, (TypeDesc.func #[9, 9] #[9] false)),
  (64, (TypeDesc.func #[23] #[23] false)),
  (65, (TypeDesc.pointer 67)),
  (66, (TypeDesc.struct #[{ name := "addr", type := 65, offset := 0, embedded := false, tag := "", pkgPath := "strings", byteOffset := 0 }, { name := "buf", type := 23, offset := 1, embedded := false, tag := "", pkgPath := "strings", byteOffset := 8 }])),
  (67, (TypeDesc.struct #[{ name := "addr", type := 65, offset := 0, embedded := false, tag := "", pkgPath := "strings", byteOffset := 0 }, { name := "buf", type := 23, offset := 1, embedded := false, tag := "", pkgPath := "strings", byteOffset := 8 }])),
  (68, (TypeDesc.func #[5] #[3] false)),
  (69, (TypeDesc.interface #[("Error", 72)])),
  (70, (TypeDesc.interface #[("Error", 72)])),
  (71, (TypeDesc.func #[5] #[70] false)),
  (72, (TypeDesc.func #[] #[9] false)),
  (73, (TypeDesc.func #[9, 9] #[3] false)),
  (74, (TypeDesc.func #[9] #[4] false)),
  (75, (TypeDesc.func #[9, 3] #[3] false)),
  (76, (TypeDesc.func #[9, 9, 3, 3] #[32] false)),
  (77, (TypeDesc.func #[9, 9] #[4] false)),
  (78, (TypeDesc.func #[9, 79] #[4] false)),
  (79, (TypeDesc.func #[5] #[4] false)),
  (80, (TypeDesc.tuple #[9, 4])),
  (81, (TypeDesc.tuple #[3, 36])),
  (82, (TypeDesc.func #[9] #[3, 36] false)),
  (83, (TypeDesc.func #[9, 5] #[9] false)),
  (84, (TypeDesc.array 256 4)),
  (85, (TypeDesc.array 256 4)),
  (86, (TypeDesc.tuple #[85, 4])),
  (87, (TypeDesc.func #[9] #[85, 4] false)),
  (88, (TypeDesc.func #[9, 89] #[9] false)),
  (89, (TypeDesc.pointer 85)),
  (90, (TypeDesc.pointer 5)),
  (91, (TypeDesc.int IntKind.u64)),
  (92, (TypeDesc.array 20 5)),
  (93, (TypeDesc.func #[9, 3] #[32] false)),
  (94, (TypeDesc.func #[3] #[] false)),
  (95, (TypeDesc.tuple #[3, 70])),
  (96, (TypeDesc.func #[9] #[3, 70] false)),
  (97, (TypeDesc.func #[98, 9] #[9] false)),
  (98, (TypeDesc.func #[21] #[21] false)),
  (99, (TypeDesc.func #[9, 9] #[9, 4] false)),
  (100, (TypeDesc.func #[9] #[3] false)),
  (101, (TypeDesc.func #[9] #[12] false)),
  (102, (TypeDesc.array 256 5)),
  (103, (TypeDesc.struct #[{ name := "lo", type := 5, offset := 0, embedded := false, tag := "", pkgPath := "unicode/utf8", byteOffset := 0 }, { name := "hi", type := 5, offset := 1, embedded := false, tag := "", pkgPath := "unicode/utf8", byteOffset := 1 }])),
  (104, (TypeDesc.struct #[{ name := "lo", type := 5, offset := 0, embedded := false, tag := "", pkgPath := "unicode/utf8", byteOffset := 0 }, { name := "hi", type := 5, offset := 1, embedded := false, tag := "", pkgPath := "unicode/utf8", byteOffset := 1 }])),
  (105, (TypeDesc.array 16 104)),
  (106, (TypeDesc.int IntKind.u64)),
  (107, (TypeDesc.tuple #[21, 3])),
  (108, (TypeDesc.func #[9] #[21, 3] false)),
  (109, (TypeDesc.func #[9, 21] #[4] false)),
  (110, TypeDesc.unsafePointer),
  (111, (TypeDesc.func #[110] #[110] false)),
  (112, (TypeDesc.func #[9, 5] #[3] false)),
  (113, (TypeDesc.func #[3] #[3] false)),
  (114, (TypeDesc.func #[21] #[3] false)),
  (115, (TypeDesc.func #[21] #[3, 70] false)),
  (116, (TypeDesc.func #[] #[3] false)),
  (117, (TypeDesc.func #[3, 21] #[21] false)),
  (118, (TypeDesc.func #[9, 21] #[3] false)),
  (119, (TypeDesc.int IntKind.u32)),
  (120, (TypeDesc.tuple #[119, 119])),
  (121, (TypeDesc.func #[9] #[119, 119] false)),
  (122, (TypeDesc.func #[3] #[23] false)),
  (123, (TypeDesc.func #[23, 21] #[23] false)),
  (124, (TypeDesc.tuple #[21, 4])),
  (125, (TypeDesc.func #[3, 21, 126] #[21, 4] false)),
  (126, (TypeDesc.slice 134)),
  (127, (TypeDesc.func #[21] #[4] false)),
  (128, (TypeDesc.pointer 134)),
  (129, (TypeDesc.func #[21, 126] #[128] false)),
  (130, (TypeDesc.func #[3, 21, 128] #[21] false)),
  (131, (TypeDesc.array 3 21)),
  (132, (TypeDesc.array 3 21)),
  (133, (TypeDesc.struct #[{ name := "Lo", type := 119, offset := 0, embedded := false, tag := "", pkgPath := "", byteOffset := 0 }, { name := "Hi", type := 119, offset := 1, embedded := false, tag := "", pkgPath := "", byteOffset := 4 }, { name := "Delta", type := 132, offset := 2, embedded := false, tag := "", pkgPath := "", byteOffset := 8 }])),
  (134, (TypeDesc.struct #[{ name := "Lo", type := 119, offset := 0, embedded := false, tag := "", pkgPath := "", byteOffset := 0 }, { name := "Hi", type := 119, offset := 1, embedded := false, tag := "", pkgPath := "", byteOffset := 4 }, { name := "Delta", type := 132, offset := 2, embedded := false, tag := "", pkgPath := "", byteOffset := 8 }])),
  (135, (TypeDesc.struct #[{ name := "_interface", type := 17, offset := 0, embedded := false, tag := "", pkgPath := "runtime", byteOffset := 0 }, { name := "concrete", type := 17, offset := 1, embedded := false, tag := "", pkgPath := "runtime", byteOffset := 8 }, { name := "asserted", type := 17, offset := 2, embedded := false, tag := "", pkgPath := "runtime", byteOffset := 16 }, { name := "missingMethod", type := 9, offset := 3, embedded := false, tag := "", pkgPath := "runtime", byteOffset := 24 }])),
  (136, (TypeDesc.struct #[{ name := "_interface", type := 17, offset := 0, embedded := false, tag := "", pkgPath := "runtime", byteOffset := 0 }, { name := "concrete", type := 17, offset := 1, embedded := false, tag := "", pkgPath := "runtime", byteOffset := 8 }, { name := "asserted", type := 17, offset := 2, embedded := false, tag := "", pkgPath := "runtime", byteOffset := 16 }, { name := "missingMethod", type := 9, offset := 3, embedded := false, tag := "", pkgPath := "runtime", byteOffset := 24 }])),
  (137, (TypeDesc.array 0 16)),
  (138, (TypeDesc.struct #[{ name := "_", type := 137, offset := 0, embedded := false, tag := "", pkgPath := "runtime", byteOffset := 0 }])),
  (139, (TypeDesc.struct #[{ name := "_", type := 137, offset := 0, embedded := false, tag := "", pkgPath := "runtime", byteOffset := 0 }])),
  (140, (TypeDesc.int IntKind.u8)),
  (141, (TypeDesc.int IntKind.u8)),
  (142, (TypeDesc.func #[110, 110] #[4] false)),
  (143, (TypeDesc.int IntKind.i32)),
  (144, (TypeDesc.int IntKind.i32)),
  (145, (TypeDesc.struct #[{ name := "Size_", type := 12, offset := 0, embedded := false, tag := "", pkgPath := "", byteOffset := 0 }, { name := "PtrBytes", type := 12, offset := 1, embedded := false, tag := "", pkgPath := "", byteOffset := 8 }, { name := "Hash", type := 119, offset := 2, embedded := false, tag := "", pkgPath := "", byteOffset := 16 }, { name := "TFlag", type := 140, offset := 3, embedded := false, tag := "", pkgPath := "", byteOffset := 20 }, { name := "Align_", type := 5, offset := 4, embedded := false, tag := "", pkgPath := "", byteOffset := 21 }, { name := "FieldAlign_", type := 5, offset := 5, embedded := false, tag := "", pkgPath := "", byteOffset := 22 }, { name := "Kind_", type := 141, offset := 6, embedded := false, tag := "", pkgPath := "", byteOffset := 23 }, { name := "Equal", type := 142, offset := 7, embedded := false, tag := "", pkgPath := "", byteOffset := 24 }, { name := "GCData", type := 90, offset := 8, embedded := false, tag := "", pkgPath := "", byteOffset := 32 }, { name := "Str", type := 143, offset := 9, embedded := false, tag := "", pkgPath := "", byteOffset := 40 }, { name := "PtrToThis", type := 144, offset := 10, embedded := false, tag := "", pkgPath := "", byteOffset := 44 }])),
  (146, (TypeDesc.struct #[{ name := "Size_", type := 12, offset := 0, embedded := false, tag := "", pkgPath := "", byteOffset := 0 }, { name := "PtrBytes", type := 12, offset := 1, embedded := false, tag := "", pkgPath := "", byteOffset := 8 }, { name := "Hash", type := 119, offset := 2, embedded := false, tag := "", pkgPath := "", byteOffset := 16 }, { name := "TFlag", type := 140, offset := 3, embedded := false, tag := "", pkgPath := "", byteOffset := 20 }, { name := "Align_", type := 5, offset := 4, embedded := false, tag := "", pkgPath := "", byteOffset := 21 }, { name := "FieldAlign_", type := 5, offset := 5, embedded := false, tag := "", pkgPath := "", byteOffset := 22 }, { name := "Kind_", type := 141, offset := 6, embedded := false, tag := "", pkgPath := "", byteOffset := 23 }, { name := "Equal", type := 142, offset := 7, embedded := false, tag := "", pkgPath := "", byteOffset := 24 }, { name := "GCData", type := 90, offset := 8, embedded := false, tag := "", pkgPath := "", byteOffset := 32 }, { name := "Str", type := 143, offset := 9, embedded := false, tag := "", pkgPath := "", byteOffset := 40 }, { name := "PtrToThis", type := 144, offset := 10, embedded := false, tag := "", pkgPath := "", byteOffset := 44 }]))]
theorem tyL_ok : AllT Tryd.prog tyL := ⟨Tryd.underlying0, Tryd.underlying1, Tryd.underlying2, Tryd.underlying3, Tryd.underlying4, Tryd.underlying5, Tryd.underlying6, Tryd.underlying7, Tryd.underlying8, Tryd.underlying9, Tryd.underlying10, Tryd.underlying11, Tryd.underlying12, Tryd.underlying13, Tryd.underlying14, Tryd.underlying15, Tryd.underlying16, Tryd.underlying17, Tryd.underlying18, Tryd.underlying19, Tryd.underlying20, Tryd.underlying21, Tryd.underlying22, Tryd.underlying23, Tryd.underlying24, Tryd.underlying25, Tryd.underlying26, Tryd.underlying27, Tryd.underlying28, Tryd.underlying29, Tryd.underlying30, Tryd.underlying31, Tryd.underlying32, Tryd.underlying33, Tryd.underlying34, Tryd.underlying35, Tryd.underlying36, Tryd.underlying37, Tryd.underlying38, Tryd.underlying39, Tryd.underlying40, Tryd.underlying41, Tryd.underlying42, Tryd.underlying43, Tryd.underlying44, Tryd.underlying45, Tryd.underlying46, Tryd.underlying47, Tryd.underlying48, Tryd.underlying49, Tryd.underlying50, Tryd.underlying51, Tryd.underlying52, Tryd.underlying53, Tryd.underlying54, Tryd.underlying55, Tryd.underlying56, Tryd.underlying57, Tryd.underlying58, Tryd.underlying59, Tryd.underlying60, Tryd.underlying61, Tryd.underlying62, Tryd.underlying63, Tryd.underlying64, Tryd.underlying65, Tryd.underlying66, Tryd.underlying67, Tryd.underlying68, Tryd.underlying69, Tryd.underlying70, Tryd.underlying71, Tryd.underlying72, Tryd.underlying73, Tryd.underlying74, Tryd.underlying75, Tryd.underlying76, Tryd.underlying77, Tryd.underlying78, Tryd.underlying79, Tryd.underlying80, Tryd.underlying81, Tryd.underlying82, Tryd.underlying83, Tryd.underlying84, Tryd.underlying85, Tryd.underlying86, Tryd.underlying87, Tryd.underlying88, Tryd.underlying89, Tryd.underlying90, Tryd.underlying91, Tryd.underlying92, Tryd.underlying93, Tryd.underlying94, Tryd.underlying95, Tryd.underlying96, Tryd.underlying97, Tryd.underlying98, Tryd.underlying99, Tryd.underlying100, Tryd.underlying101, Tryd.underlying102, Tryd.underlying103, Tryd.underlying104, Tryd.underlying105, Tryd.underlying106, Tryd.underlying107, Tryd.underlying108, Tryd.underlying109, Tryd.underlying110, Tryd.underlying111, Tryd.underlying112, Tryd.underlying113, Tryd.underlying114, Tryd.underlying115, Tryd.underlying116, Tryd.underlying117, Tryd.underlying118, Tryd.underlying119, Tryd.underlying120, Tryd.underlying121, Tryd.underlying122, Tryd.underlying123, Tryd.underlying124, Tryd.underlying125, Tryd.underlying126, Tryd.underlying127, Tryd.underlying128, Tryd.underlying129, Tryd.underlying130, Tryd.underlying131, Tryd.underlying132, Tryd.underlying133, Tryd.underlying134, Tryd.underlying135, Tryd.underlying136, Tryd.underlying137, Tryd.underlying138, Tryd.underlying139, Tryd.underlying140, Tryd.underlying141, Tryd.underlying142, Tryd.underlying143, Tryd.underlying144, Tryd.underlying145, Tryd.underlying146, trivial⟩
def infL : List (Nat × Value × Nat × Nat) := [(1, .nilFunc, 1, 8),
  (2, (.int .i64 0), 1, 8),
  (3, (.int .i64 0), 1, 8),
  (4, (.bool false), 1, 1),
  (5, (.int .u8 0), 1, 1),
  (6, (.int .u8 0), 1, 1),
  (7, (.agg ⟨[(.int .i64 0), (.int .i64 0), (.bool false), (.int .u8 0)]⟩), 4, 24),
  (9, (S []), 1, 16),
  (12, (.int .u64 0), 1, 8),
  (13, (.agg ⟨[(S []), (.int .u64 0)]⟩), 2, 24),
  (18, (.agg ⟨[(.pointer none)]⟩), 1, 8),
  (20, .nilIface, 1, 16),
  (21, (.int .i32 0), 1, 4),
  (22, .nilFunc, 1, 8),
  (23, (.slice none 0 0), 1, 24),
  (24, .nilFunc, 1, 8),
  (25, (.slice none 0 0), 1, 24),
  (26, (.agg ⟨[(S []), (S []), (.slice none 0 0)]⟩), 3, 56),
  (27, (.agg ⟨[(S []), (S []), (.slice none 0 0)]⟩), 3, 56),
  (29, .nilFunc, 1, 8),
  (30, .nilFunc, 1, 8),
  (31, .nilFunc, 1, 8),
  (32, (.slice none 0 0), 1, 24),
  (33, (.agg ⟨[(S []), (.bool false), (.slice none 0 0), (.int .i64 0)]⟩), 4, 56),
  (34, (.agg ⟨[(S []), (.bool false), (.slice none 0 0), (.int .i64 0)]⟩), 4, 56),
  (35, .nilFunc, 1, 8),
  (36, (.int .i64 0), 1, 8),
  (38, .nilFunc, 1, 8),
  (40, .nilFunc, 1, 8),
  (41, .nilFunc, 1, 8),
  (42, .nilFunc, 1, 8),
  (43, .nilFunc, 1, 8),
  (44, .nilFunc, 1, 8),
  (45, .nilFunc, 1, 8),
  (46, .nilFunc, 1, 8),
  (47, .nilFunc, 1, 8),
  (48, .nilFunc, 1, 8),
  (49, .nilFunc, 1, 8),
  (50, (.agg ⟨[(S []), (S [])]⟩), 2, 32),
  (51, (.agg ⟨[(S []), (S [])]⟩), 2, 32),
  (52, .nilFunc, 1, 8),
  (53, .nilFunc, 1, 8),
  (54, .nilFunc, 1, 8),
  (56, .nilFunc, 1, 8),
  (57, .nilFunc, 1, 8),
  (58, (.map none), 1, 8),
  (60, .nilFunc, 1, 8),
  (61, .nilFunc, 1, 8),
  (62, .nilFunc, 1, 8),
  (63, .nilFunc, 1, 8),
  (64, .nilFunc, 1, 8),
  (66, (.agg ⟨[(.pointer none), (.slice none 0 0)]⟩), 2, 32),
  (67, (.agg ⟨[(.pointer none), (.slice none 0 0)]⟩), 2, 32),
  (68, .nilFunc, 1, 8),
  (69, .nilIface, 1, 16),
  (70, .nilIface, 1, 16),
  (71, .nilFunc, 1, 8),
  (72, .nilFunc, 1, 8),
  (73, .nilFunc, 1, 8),
  (74, .nilFunc, 1, 8),
  (75, .nilFunc, 1, 8),
  (76, .nilFunc, 1, 8),
  (77, .nilFunc, 1, 8),
  (78, .nilFunc, 1, 8),
  (79, .nilFunc, 1, 8),
  (82, .nilFunc, 1, 8),
  (83, .nilFunc, 1, 8),
  (84, (.agg ⟨[(.bool false), (.bool false), (.bool false), (.bool false), (.bool false), (.bool false), (.bool false), (.bool false), (.bool false), (.bool false), (.bool false), (.bool false), (.bool false), (.bool false), (.bool false), (.bool false), (.bool false), (.bool false), (.bool false), (.bool false), (.bool false), (.bool false), (.bool false), (.bool false), (.bool false), (.bool false), (.bool false), (.bool false), (.bool false), (.bool false), (.bool false), (.bool false), (.bool false), (.bool false), (.bool false), (.bool false), (.bool false), (.bool false), (.bool false), (.bool false), (.bool false), (.bool false), (.bool false), (.bool false), (.bool false), (.bool false), (.bool false), (.bool false), (.bool false), (.bool false), (.bool false), (.bool false), (.bool false), (.bool false), (.bool false), (.bool false), (.bool false), (.bool false), (.bool false), (.bool false), (.bool false), (.bool false), (.bool false), (.bool false), (.bool false), (.bool false), (.bool false), (.bool false), (.bool false), (.bool false), (.bool false), (.bool false), (.bool false), (.bool false), (.bool false), (.bool false), (.bool false), (.bool false), (.bool false), (.bool false), (.bool false), (.bool false), (.bool false), (.bool false), (.bool false), (.bool false), (.bool false), (.bool false), (.bool false), (.bool false), (.bool false), (.bool false), (.bool false), (.bool false), (.bool false), (.bool false), (.bool false), (.bool false), (.bool false), (.bool false), (.bool false), (.bool false), (.bool false), (.bool false), (.bool false), (.bool false), (.bool false), (.bool false), (.bool false), (.bool false), (.bool false), (.bool false), (.bool false), (.bool false), (.bool false), (.bool false), (.bool false), (.bool false), (.bool false), (.bool false), (.bool false), (.bool false), (.bool false), (.bool false), (.bool false), (.bool false), (.bool false), (.bool false), (.bool false), (.bool false), (.bool false), (.bool false), (.bool false), (.bool false), (.bool false), (.bool false), (.bool false), (.bool false), (.bool false), (.bool false), (.bool false), (.bool false), (.bool false), (.bool false), (.bool false), (.bool false), (.bool false), (.bool false), (.bool false), (.bool false), (.bool false), (.bool false), (.bool false), (.bool false), (.bool false), (.bool false), (.bool false), (.bool false), (.bool false), (.bool false), (.bool false), (.bool false), (.bool false), (.bool false), (.bool false), (.bool false), (.bool false), (.bool false), (.bool false), (.bool false), (.bool false), (.bool false), (.bool false), (.bool false), (.bool false), (.bool false), (.bool false), (.bool false), (.bool false), (.bool false), (.bool false), (.bool false), (.bool false), (.bool false), (.bool false), (.bool false), (.bool false), (.bool false), (.bool false), (.bool false), (.bool false), (.bool false), (.bool false), (.bool false), (.bool false), (.bool false), (.bool false), (.bool false), (.bool false), (.bool false), (.bool false), (.bool false), (.bool false), (.bool false), (.bool false), (.bool false), (.bool false), (.bool false), (.bool false), (.bool false), (.bool false), (.bool false), (.bool false), (.bool false), (.bool false), (.bool false), (.bool false), (.bool false), (.bool false), (.bool false), (.bool false), (.bool false), (.bool false), (.bool false), (.bool false), (.bool false), (.bool false), (.bool false), (.bool false), (.bool false), (.bool false), (.bool false), (.bool false), (.bool false), (.bool false), (.bool false), (.bool false), (.bool false), (.bool false), (.bool false), (.bool false), (.bool false), (.bool false), (.bool false), (.bool false), (.bool false), (.bool false), (.bool false), (.bool false), (.bool false), (.bool false), (.bool false), (.bool false), (.bool false), (.bool false), (.bool false)]⟩), 256, 256),
  (85, (.agg ⟨[(.bool false), (.bool false), (.bool false), (.bool false), (.bool false), (.bool false), (.bool false), (.bool false), (.bool false), (.bool false), (.bool false), (.bool false), (.bool false), (.bool false), (.bool false), (.bool false), (.bool false), (.bool false), (.bool false), (.bool false), (.bool false), (.bool false), (.bool false), (.bool false), (.bool false), (.bool false), (.bool false), (.bool false), (.bool false), (.bool false), (.bool false), (.bool false), (.bool false), (.bool false), (.bool false), (.bool false), (.bool false), (.bool false), (.bool false), (.bool false), (.bool false), (.bool false), (.bool false), (.bool false), (.bool false), (.bool false), (.bool false), (.bool false), (.bool false), (.bool false), (.bool false), (.bool false), (.bool false), (.bool false), (.bool false), (.bool false), (.bool false), (.bool false), (.bool false), (.bool false), (.bool false), (.bool false), (.bool false), (.bool false), (.bool false), (.bool false), (.bool false), (.bool false), (.bool false), (.bool false), (.bool false), (.bool false), (.bool false), (.bool false), (.bool false), (.bool false), (.bool false), (.bool false), (.bool false), (.bool false), (.bool false), (.bool false), (.bool false), (.bool false), (.bool false), (.bool false), (.bool false), (.bool false), (.bool false), (.bool false), (.bool false), (.bool false), (.bool false), (.bool false), (.bool false), (.bool false), (.bool false), (.bool false), (.bool false), (.bool false), (.bool false), (.bool false), (.bool false), (.bool false), (.bool false), (.bool false), (.bool false), (.bool false), (.bool false), (.bool false), (.bool false), (.bool false), (.bool false), (.bool false), (.bool false), (.bool false), (.bool false), (.bool false), (.bool false), (.bool false), (.bool false), (.bool false), (.bool false), (.bool false), (.bool false), (.bool false), (.bool false), (.bool false), (.bool false), (.bool false), (.bool false), (.bool false), (.bool false), (.bool false), (.bool false), (.bool false), (.bool false), (.bool false), (.bool false), (.bool false), (.bool false), (.bool false), (.bool false), (.bool false), (.bool false), (.bool false), (.bool false), (.bool false), (.bool false), (.bool false), (.bool false), (.bool false), (.bool false), (.bool false), (.bool false), (.bool false), (.bool false), (.bool false), (.bool false), (.bool false), (.bool false), (.bool false), (.bool false), (.bool false), (.bool false), (.bool false), (.bool false), (.bool false), (.bool false), (.bool false), (.bool false), (.bool false), (.bool false), (.bool false), (.bool false), (.bool false), (.bool false), (.bool false), (.bool false), (.bool false), (.bool false), (.bool false), (.bool false), (.bool false), (.bool false), (.bool false), (.bool false), (.bool false), (.bool false), (.bool false), (.bool false), (.bool false), (.bool false), (.bool false), (.bool false), (.bool false), (.bool false), (.bool false), (.bool false), (.bool false), (.bool false), (.bool false), (.bool false), (.bool false), (.bool false), (.bool false), (.bool false), (.bool false), (.bool false), (.bool false), (.bool false), (.bool false), (.bool false), (.bool false), (.bool false), (.bool false), (.bool false), (.bool false), (.bool false), (.bool false), (.bool false), (.bool false), (.bool false), (.bool false), (.bool false), (.bool false), (.bool false), (.bool false), (.bool false), (.bool false), (.bool false), (.bool false), (.bool false), (.bool false), (.bool false), (.bool false), (.bool false), (.bool false), (.bool false), (.bool false), (.bool false), (.bool false), (.bool false), (.bool false), (.bool false), (.bool false), (.bool false), (.bool false), (.bool false), (.bool false), (.bool false), (.bool false), (.bool false), (.bool false), (.bool false), (.bool false)]⟩), 256, 256),
  (87, .nilFunc, 1, 8),
  (88, .nilFunc, 1, 8),
  (90, (.pointer none), 1, 8),
  (91, (.int .u64 0), 1, 8),
  (92, (.agg ⟨[(.int .u8 0), (.int .u8 0), (.int .u8 0), (.int .u8 0), (.int .u8 0), (.int .u8 0), (.int .u8 0), (.int .u8 0), (.int .u8 0), (.int .u8 0), (.int .u8 0), (.int .u8 0), (.int .u8 0), (.int .u8 0), (.int .u8 0), (.int .u8 0), (.int .u8 0), (.int .u8 0), (.int .u8 0), (.int .u8 0)]⟩), 20, 20),
  (93, .nilFunc, 1, 8),
  (94, .nilFunc, 1, 8),
  (96, .nilFunc, 1, 8),
  (97, .nilFunc, 1, 8),
  (98, .nilFunc, 1, 8),
  (99, .nilFunc, 1, 8),
  (100, .nilFunc, 1, 8),
  (101, .nilFunc, 1, 8),
  (102, (.agg ⟨[(.int .u8 0), (.int .u8 0), (.int .u8 0), (.int .u8 0), (.int .u8 0), (.int .u8 0), (.int .u8 0), (.int .u8 0), (.int .u8 0), (.int .u8 0), (.int .u8 0), (.int .u8 0), (.int .u8 0), (.int .u8 0), (.int .u8 0), (.int .u8 0), (.int .u8 0), (.int .u8 0), (.int .u8 0), (.int .u8 0), (.int .u8 0), (.int .u8 0), (.int .u8 0), (.int .u8 0), (.int .u8 0), (.int .u8 0), (.int .u8 0), (.int .u8 0), (.int .u8 0), (.int .u8 0), (.int .u8 0), (.int .u8 0), (.int .u8 0), (.int .u8 0), (.int .u8 0), (.int .u8 0), (.int .u8 0), (.int .u8 0), (.int .u8 0), (.int .u8 0), (.int .u8 0), (.int .u8 0), (.int .u8 0), (.int .u8 0), (.int .u8 0), (.int .u8 0), (.int .u8 0), (.int .u8 0), (.int .u8 0), (.int .u8 0), (.int .u8 0), (.int .u8 0), (.int .u8 0), (.int .u8 0), (.int .u8 0), (.int .u8 0), (.int .u8 0), (.int .u8 0), (.int .u8 0), (.int .u8 0), (.int .u8 0), (.int .u8 0), (.int .u8 0), (.int .u8 0), (.int .u8 0), (.int .u8 0), (.int .u8 0), (.int .u8 0), (.int .u8 0), (.int .u8 0), (.int .u8 0), (.int .u8 0), (.int .u8 0), (.int .u8 0), (.int .u8 0), (.int .u8 0), (.int .u8 0), (.int .u8 0), (.int .u8 0), (.int .u8 0), (.int .u8 0), (.int .u8 0), (.int .u8 0), (.int .u8 0), (.int .u8 0), (.int .u8 0), (.int .u8 0), (.int .u8 0), (.int .u8 0), (.int .u8 0), (.int .u8 0), (.int .u8 0), (.int .u8 0), (.int .u8 0), (.int .u8 0), (.int .u8 0), (.int .u8 0), (.int .u8 0), (.int .u8 0), (.int .u8 0), (.int .u8 0), (.int .u8 0), (.int .u8 0), (.int .u8 0), (.int .u8 0), (.int .u8 0), (.int .u8 0), (.int .u8 0), (.int .u8 0), (.int .u8 0), (.int .u8 0), (.int .u8 0), (.int .u8 0), (.int .u8 0), (.int .u8 0), (.int .u8 0), (.int .u8 0), (.int .u8 0), (.int .u8 0), (.int .u8 0), (.int .u8 0), (.int .u8 0), (.int .u8 0), (.int .u8 0), (.int .u8 0), (.int .u8 0), (.int .u8 0), (.int .u8 0), (.int .u8 0), (.int .u8 0), (.int .u8 0), (.int .u8 0), (.int .u8 0), (.int .u8 0), (.int .u8 0), (.int .u8 0), (.int .u8 0), (.int .u8 0), (.int .u8 0), (.int .u8 0), (.int .u8 0), (.int .u8 0), (.int .u8 0), (.int .u8 0), (.int .u8 0), (.int .u8 0), (.int .u8 0), (.int .u8 0), (.int .u8 0), (.int .u8 0), (.int .u8 0), (.int .u8 0), (.int .u8 0), (.int .u8 0), (.int .u8 0), (.int .u8 0), (.int .u8 0), (.int .u8 0), (.int .u8 0), (.int .u8 0), (.int .u8 0), (.int .u8 0), (.int .u8 0), (.int .u8 0), (.int .u8 0), (.int .u8 0), (.int .u8 0), (.int .u8 0), (.int .u8 0), (.int .u8 0), (.int .u8 0), (.int .u8 0), (.int .u8 0), (.int .u8 0), (.int .u8 0), (.int .u8 0), (.int .u8 0), (.int .u8 0), (.int .u8 0), (.int .u8 0), (.int .u8 0), (.int .u8 0), (.int .u8 0), (.int .u8 0), (.int .u8 0), (.int .u8 0), (.int .u8 0), (.int .u8 0), (.int .u8 0), (.int .u8 0), (.int .u8 0), (.int .u8 0), (.int .u8 0), (.int .u8 0), (.int .u8 0), (.int .u8 0), (.int .u8 0), (.int .u8 0), (.int .u8 0), (.int .u8 0), (.int .u8 0), (.int .u8 0), (.int .u8 0), (.int .u8 0), (.int .u8 0), (.int .u8 0), (.int .u8 0), (.int .u8 0), (.int .u8 0), (.int .u8 0), (.int .u8 0), (.int .u8 0), (.int .u8 0), (.int .u8 0), (.int .u8 0), (.int .u8 0), (.int .u8 0), (.int .u8 0), (.int .u8 0), (.int .u8 0), (.int .u8 0), (.int .u8 0), (.int .u8 0), (.int .u8 0), (.int .u8 0), (.int .u8 0), (.int .u8 0), (.int .u8 0), (.int .u8 0), (.int .u8 0), (.int .u8 0), (.int .u8 0), (.int .u8 0), (.int .u8 0), (.int .u8 0), (.int .u8 0), (.int .u8 0), (.int .u8 0), (.int .u8 0), (.int .u8 0), (.int .u8 0), (.int .u8 0), (.int .u8 0), (.int .u8 0), (.int .u8 0), (.int .u8 0), (.int .u8 0), (.int .u8 0), (.int .u8 0), (.int .u8 0), (.int .u8 0), (.int .u8 0), (.int .u8 0), (.int .u8 0), (.int .u8 0), (.int .u8 0)]⟩), 256, 256),
  (103, (.agg ⟨[(.int .u8 0), (.int .u8 0)]⟩), 2, 2),
  (104, (.agg ⟨[(.int .u8 0), (.int .u8 0)]⟩), 2, 2),
  (105, (.agg ⟨[(.int .u8 0), (.int .u8 0), (.int .u8 0), (.int .u8 0), (.int .u8 0), (.int .u8 0), (.int .u8 0), (.int .u8 0), (.int .u8 0), (.int .u8 0), (.int .u8 0), (.int .u8 0), (.int .u8 0), (.int .u8 0), (.int .u8 0), (.int .u8 0), (.int .u8 0), (.int .u8 0), (.int .u8 0), (.int .u8 0), (.int .u8 0), (.int .u8 0), (.int .u8 0), (.int .u8 0), (.int .u8 0), (.int .u8 0), (.int .u8 0), (.int .u8 0), (.int .u8 0), (.int .u8 0), (.int .u8 0), (.int .u8 0)]⟩), 32, 32),
  (106, (.int .u64 0), 1, 8),
  (108, .nilFunc, 1, 8),
  (109, .nilFunc, 1, 8),
  (110, (.pointer none), 1, 8),
  (111, .nilFunc, 1, 8),
  (112, .nilFunc, 1, 8),
  (113, .nilFunc, 1, 8),
  (114, .nilFunc, 1, 8),
  (115, .nilFunc, 1, 8),
  (116, .nilFunc, 1, 8),
  (117, .nilFunc, 1, 8),
  (118, .nilFunc, 1, 8),
  (119, (.int .u32 0), 1, 4),
  (121, .nilFunc, 1, 8),
  (122, .nilFunc, 1, 8),
  (123, .nilFunc, 1, 8),
  (125, .nilFunc, 1, 8),
  (126, (.slice none 0 0), 1, 24),
  (127, .nilFunc, 1, 8),
  (128, (.pointer none), 1, 8),
  (129, .nilFunc, 1, 8),
  (130, .nilFunc, 1, 8),
  (131, (.agg ⟨[(.int .i32 0), (.int .i32 0), (.int .i32 0)]⟩), 3, 12),
  (132, (.agg ⟨[(.int .i32 0), (.int .i32 0), (.int .i32 0)]⟩), 3, 12),
  (133, (.agg ⟨[(.int .u32 0), (.int .u32 0), (.int .i32 0), (.int .i32 0), (.int .i32 0)]⟩), 5, 20),
  (134, (.agg ⟨[(.int .u32 0), (.int .u32 0), (.int .i32 0), (.int .i32 0), (.int .i32 0)]⟩), 5, 20),
  (135, (.agg ⟨[(.pointer none), (.pointer none), (.pointer none), (S [])]⟩), 4, 40),
  (136, (.agg ⟨[(.pointer none), (.pointer none), (.pointer none), (S [])]⟩), 4, 40),
  (137, (.agg ⟨[]⟩), 0, 0),
  (138, (.agg ⟨[]⟩), 0, 0),
  (139, (.agg ⟨[]⟩), 0, 0),
  (140, (.int .u8 0), 1, 1),
  (142, .nilFunc, 1, 8),
  (143, (.int .i32 0), 1, 4),
  (144, (.int .i32 0), 1, 4),
  (145, (.agg ⟨[(.int .u64 0), (.int .u64 0), (.int .u32 0), (.int .u8 0), (.int .u8 0), (.int .u8 0), (.int .u8 0), .nilFunc, (.pointer none), (.int .i32 0), (.int .i32 0)]⟩), 11, 48),
  (146, (.agg ⟨[(.int .u64 0), (.int .u64 0), (.int .u32 0), (.int .u8 0), (.int .u8 0), (.int .u8 0), (.int .u8 0), .nilFunc, (.pointer none), (.int .i32 0), (.int .i32 0)]⟩), 11, 48)]
theorem infL_ok : AllI Tryd.prog infL := by
  refine ⟨?_, ?_, ?_, ?_, ?_, ?_, ?_, ?_, ?_, ?_, ?_, ?_, ?_, ?_, ?_, ?_, ?_, ?_, ?_, ?_, ?_, ?_, ?_, ?_, ?_, ?_, ?_, ?_, ?_, ?_, ?_, ?_, ?_, ?_, ?_, ?_, ?_, ?_, ?_, ?_, ?_, ?_, ?_, ?_, ?_, ?_, ?_, ?_, ?_, ?_, ?_, ?_, ?_, ?_, ?_, ?_, ?_, ?_, ?_, ?_, ?_, ?_, ?_, ?_, ?_, ?_, ?_, ?_, ?_, ?_, ?_, ?_, ?_, ?_, ?_, ?_, ?_, ?_, ?_, ?_, ?_, ?_, ?_, ?_, ?_, ?_, ?_, ?_, ?_, ?_, ?_, ?_, ?_, ?_, ?_, ?_, ?_, ?_, ?_, ?_, ?_, ?_, ?_, ?_, ?_, ?_, ?_, ?_, ?_, ?_, ?_, ?_, ?_, ?_, ?_, ?_, ?_, ?_, ?_, ?_, ?_, ?_, ?_, trivial⟩ <;> kernel_rfl
def tb : Tb Tryd.prog := Tb.mk' tyL infL tyL_ok infL_ok
theorem c2 : Callable Tryd.prog 2 := ⟨_, Tryd.func2, rfl, rfl⟩
theorem c3 : Callable Tryd.prog 3 := ⟨_, Tryd.func3, rfl, rfl⟩
theorem c4 : Callable Tryd.prog 4 := ⟨_, Tryd.func4, rfl, rfl⟩
theorem c5 : Callable Tryd.prog 5 := ⟨_, Tryd.func5, rfl, rfl⟩
theorem c6 : Callable Tryd.prog 6 := ⟨_, Tryd.func6, rfl, rfl⟩
theorem c7 : Callable Tryd.prog 7 := ⟨_, Tryd.func7, rfl, rfl⟩
theorem c8 : Callable Tryd.prog 8 := ⟨_, Tryd.func8, rfl, rfl⟩
theorem c9 : Callable Tryd.prog 9 := ⟨_, Tryd.func9, rfl, rfl⟩
theorem c10 : Callable Tryd.prog 10 := ⟨_, Tryd.func10, rfl, rfl⟩
theorem c11 : Callable Tryd.prog 11 := ⟨_, Tryd.func11, rfl, rfl⟩
theorem c12 : Callable Tryd.prog 12 := ⟨_, Tryd.func12, rfl, rfl⟩
theorem c13 : Callable Tryd.prog 13 := ⟨_, Tryd.func13, rfl, rfl⟩
theorem c14 : Callable Tryd.prog 14 := ⟨_, Tryd.func14, rfl, rfl⟩
theorem c15 : Callable Tryd.prog 15 := ⟨_, Tryd.func15, rfl, rfl⟩
theorem c16 : Callable Tryd.prog 16 := ⟨_, Tryd.func16, rfl, rfl⟩
theorem c17 : Callable Tryd.prog 17 := ⟨_, Tryd.func17, rfl, rfl⟩
theorem c18 : Callable Tryd.prog 18 := ⟨_, Tryd.func18, rfl, rfl⟩
theorem c19 : Callable Tryd.prog 19 := ⟨_, Tryd.func19, rfl, rfl⟩
theorem c20 : Callable Tryd.prog 20 := ⟨_, Tryd.func20, rfl, rfl⟩
theorem c21 : Callable Tryd.prog 21 := ⟨_, Tryd.func21, rfl, rfl⟩
theorem c22 : Callable Tryd.prog 22 := ⟨_, Tryd.func22, rfl, rfl⟩
theorem c23 : Callable Tryd.prog 23 := ⟨_, Tryd.func23, rfl, rfl⟩
theorem c24 : Callable Tryd.prog 24 := ⟨_, Tryd.func24, rfl, rfl⟩
theorem c25 : Callable Tryd.prog 25 := ⟨_, Tryd.func25, rfl, rfl⟩
theorem c26 : Callable Tryd.prog 26 := ⟨_, Tryd.func26, rfl, rfl⟩
theorem c27 : Callable Tryd.prog 27 := ⟨_, Tryd.func27, rfl, rfl⟩
theorem c28 : Callable Tryd.prog 28 := ⟨_, Tryd.func28, rfl, rfl⟩
theorem c29 : Callable Tryd.prog 29 := ⟨_, Tryd.func29, rfl, rfl⟩
theorem c30 : Callable Tryd.prog 30 := ⟨_, Tryd.func30, rfl, rfl⟩
theorem c31 : Callable Tryd.prog 31 := ⟨_, Tryd.func31, rfl, rfl⟩
theorem c32 : Callable Tryd.prog 32 := ⟨_, Tryd.func32, rfl, rfl⟩
theorem c33 : Callable Tryd.prog 33 := ⟨_, Tryd.func33, rfl, rfl⟩
theorem c34 : Callable Tryd.prog 34 := ⟨_, Tryd.func34, rfl, rfl⟩
theorem c35 : Callable Tryd.prog 35 := ⟨_, Tryd.func35, rfl, rfl⟩
theorem c36 : Callable Tryd.prog 36 := ⟨_, Tryd.func36, rfl, rfl⟩
theorem c37 : Callable Tryd.prog 37 := ⟨_, Tryd.func37, rfl, rfl⟩
theorem c38 : Callable Tryd.prog 38 := ⟨_, Tryd.func38, rfl, rfl⟩
theorem c39 : Callable Tryd.prog 39 := ⟨_, Tryd.func39, rfl, rfl⟩
theorem c40 : Callable Tryd.prog 40 := ⟨_, Tryd.func40, rfl, rfl⟩
theorem c41 : Callable Tryd.prog 41 := ⟨_, Tryd.func41, rfl, rfl⟩
theorem c42 : Callable Tryd.prog 42 := ⟨_, Tryd.func42, rfl, rfl⟩
theorem c43 : Callable Tryd.prog 43 := ⟨_, Tryd.func43, rfl, rfl⟩
theorem c44 : Callable Tryd.prog 44 := ⟨_, Tryd.func44, rfl, rfl⟩
theorem c45 : Callable Tryd.prog 45 := ⟨_, Tryd.func45, rfl, rfl⟩
theorem c46 : Callable Tryd.prog 46 := ⟨_, Tryd.func46, rfl, rfl⟩
theorem c47 : Callable Tryd.prog 47 := ⟨_, Tryd.func47, rfl, rfl⟩
theorem c48 : Callable Tryd.prog 48 := ⟨_, Tryd.func48, rfl, rfl⟩
theorem c49 : Callable Tryd.prog 49 := ⟨_, Tryd.func49, rfl, rfl⟩
theorem c50 : Callable Tryd.prog 50 := ⟨_, Tryd.func50, rfl, rfl⟩
theorem c51 : Callable Tryd.prog 51 := ⟨_, Tryd.func51, rfl, rfl⟩
theorem c52 : Callable Tryd.prog 52 := ⟨_, Tryd.func52, rfl, rfl⟩
theorem c53 : Callable Tryd.prog 53 := ⟨_, Tryd.func53, rfl, rfl⟩
theorem c54 : Callable Tryd.prog 54 := ⟨_, Tryd.func54, rfl, rfl⟩
theorem c55 : Callable Tryd.prog 55 := ⟨_, Tryd.func55, rfl, rfl⟩
theorem c56 : Callable Tryd.prog 56 := ⟨_, Tryd.func56, rfl, rfl⟩
theorem c57 : Callable Tryd.prog 57 := ⟨_, Tryd.func57, rfl, rfl⟩
theorem c58 : Callable Tryd.prog 58 := ⟨_, Tryd.func58, rfl, rfl⟩
theorem c59 : Callable Tryd.prog 59 := ⟨_, Tryd.func59, rfl, rfl⟩
theorem c60 : Callable Tryd.prog 60 := ⟨_, Tryd.func60, rfl, rfl⟩
theorem c61 : Callable Tryd.prog 61 := ⟨_, Tryd.func61, rfl, rfl⟩
theorem c62 : Callable Tryd.prog 62 := ⟨_, Tryd.func62, rfl, rfl⟩
theorem c63 : Callable Tryd.prog 63 := ⟨_, Tryd.func63, rfl, rfl⟩
theorem c64 : Callable Tryd.prog 64 := ⟨_, Tryd.func64, rfl, rfl⟩
theorem c65 : Callable Tryd.prog 65 := ⟨_, Tryd.func65, rfl, rfl⟩
theorem c66 : Callable Tryd.prog 66 := ⟨_, Tryd.func66, rfl, rfl⟩
theorem c67 : Callable Tryd.prog 67 := ⟨_, Tryd.func67, rfl, rfl⟩
theorem c68 : Callable Tryd.prog 68 := ⟨_, Tryd.func68, rfl, rfl⟩
theorem c69 : Callable Tryd.prog 69 := ⟨_, Tryd.func69, rfl, rfl⟩
theorem c70 : Callable Tryd.prog 70 := ⟨_, Tryd.func70, rfl, rfl⟩
theorem c71 : Callable Tryd.prog 71 := ⟨_, Tryd.func71, rfl, rfl⟩
theorem c72 : Callable Tryd.prog 72 := ⟨_, Tryd.func72, rfl, rfl⟩
theorem c73 : Callable Tryd.prog 73 := ⟨_, Tryd.func73, rfl, rfl⟩
theorem c74 : Callable Tryd.prog 74 := ⟨_, Tryd.func74, rfl, rfl⟩
theorem c75 : Callable Tryd.prog 75 := ⟨_, Tryd.func75, rfl, rfl⟩
theorem c76 : Callable Tryd.prog 76 := ⟨_, Tryd.func76, rfl, rfl⟩
theorem c77 : Callable Tryd.prog 77 := ⟨_, Tryd.func77, rfl, rfl⟩
theorem c78 : Callable Tryd.prog 78 := ⟨_, Tryd.func78, rfl, rfl⟩
theorem c79 : Callable Tryd.prog 79 := ⟨_, Tryd.func79, rfl, rfl⟩
theorem c80 : Callable Tryd.prog 80 := ⟨_, Tryd.func80, rfl, rfl⟩
theorem c82 : Callable Tryd.prog 82 := ⟨_, Tryd.func82, rfl, rfl⟩
theorem c84 : Callable Tryd.prog 84 := ⟨_, Tryd.func84, rfl, rfl⟩
theorem c85 : Callable Tryd.prog 85 := ⟨_, Tryd.func85, rfl, rfl⟩
theorem c86 : Callable Tryd.prog 86 := ⟨_, Tryd.func86, rfl, rfl⟩
theorem c88 : Callable Tryd.prog 88 := ⟨_, Tryd.func88, rfl, rfl⟩
theorem c89 : Callable Tryd.prog 89 := ⟨_, Tryd.func89, rfl, rfl⟩
theorem c90 : Callable Tryd.prog 90 := ⟨_, Tryd.func90, rfl, rfl⟩
theorem c91 : Callable Tryd.prog 91 := ⟨_, Tryd.func91, rfl, rfl⟩
theorem c92 : Callable Tryd.prog 92 := ⟨_, Tryd.func92, rfl, rfl⟩
theorem c93 : Callable Tryd.prog 93 := ⟨_, Tryd.func93, rfl, rfl⟩
theorem c94 : Callable Tryd.prog 94 := ⟨_, Tryd.func94, rfl, rfl⟩
theorem c95 : Callable Tryd.prog 95 := ⟨_, Tryd.func95, rfl, rfl⟩
theorem c96 : Callable Tryd.prog 96 := ⟨_, Tryd.func96, rfl, rfl⟩
theorem c97 : Callable Tryd.prog 97 := ⟨_, Tryd.func97, rfl, rfl⟩
theorem c99 : Callable Tryd.prog 99 := ⟨_, Tryd.func99, rfl, rfl⟩
theorem c101 : Callable Tryd.prog 101 := ⟨_, Tryd.func101, rfl, rfl⟩
theorem c102 : Callable Tryd.prog 102 := ⟨_, Tryd.func102, rfl, rfl⟩
theorem c103 : Callable Tryd.prog 103 := ⟨_, Tryd.func103, rfl, rfl⟩
theorem c104 : Callable Tryd.prog 104 := ⟨_, Tryd.func104, rfl, rfl⟩
theorem c105 : Callable Tryd.prog 105 := ⟨_, Tryd.func105, rfl, rfl⟩
theorem c106 : Callable Tryd.prog 106 := ⟨_, Tryd.func106, rfl, rfl⟩
theorem c107 : Callable Tryd.prog 107 := ⟨_, Tryd.func107, rfl, rfl⟩
theorem c130 : Callable Tryd.prog 130 := ⟨_, Tryd.func130, rfl, rfl⟩
theorem mixed : Tryd.prog.follows .mixedOrders = true := by kernel_rfl
end Go.Proofs.YtlaingmhdgpkdaaDoor
