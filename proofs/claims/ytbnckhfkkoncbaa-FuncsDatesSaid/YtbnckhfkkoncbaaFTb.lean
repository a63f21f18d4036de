/- The table of the types of this seat, printed by wip/tb.py out of the translation. -/
import Derived.Test.YtbnckhfkkoncbaaProg
import Derived.Test.YtbnckhfkkoncbaaGV1
import Derived.Test.YtbnckhfkkoncbaaGV2
import Derived.KernelRfl
namespace Go.Proofs.Ytbnckhfkkoncbaa
open Go Go.Vg
def tyL : List (Nat × TypeDesc) := [(0, (TypeDesc.tuple #[])),
  (1, (TypeDesc.func #[] #[] false)),
  (2, (TypeDesc.int IntKind.i64)),
  (3, (TypeDesc.int IntKind.i64)),
  (4, TypeDesc.bool),
  (5, (TypeDesc.int IntKind.u8)),
  (6, (TypeDesc.int IntKind.u8)),
  (7, (TypeDesc.struct #[{ name := "x", type := 2, offset := 0, embedded := false, tag := "", pkgPath := "runtime", byteOffset := 0 }, { name := "y", type := 3, offset := 1, embedded := false, tag := "", pkgPath := "runtime", byteOffset := 8 }, { name := "signed", type := 4, offset := 2, embedded := false, tag := "", pkgPath := "runtime", byteOffset := 16 }, { name := "code", type := 6, offset := 3, embedded := false, tag := "", pkgPath := "runtime", byteOffset := 17 }])),
  (8, (TypeDesc.struct #[{ name := "x", type := 2, offset := 0, embedded := false, tag := "", pkgPath := "runtime", byteOffset := 0 }, { name := "y", type := 3, offset := 1, embedded := false, tag := "", pkgPath := "runtime", byteOffset := 8 }, { name := "signed", type := 4, offset := 2, embedded := false, tag := "", pkgPath := "runtime", byteOffset := 16 }, { name := "code", type := 6, offset := 3, embedded := false, tag := "", pkgPath := "runtime", byteOffset := 17 }])),
  (9, TypeDesc.string),
  (10, TypeDesc.string),
  (11, TypeDesc.string),
  (12, (TypeDesc.int IntKind.u64)),
  (13, (TypeDesc.struct #[{ name := "msg", type := 9, offset := 0, embedded := false, tag := "", pkgPath := "runtime", byteOffset := 0 }, { name := "addr", type := 12, offset := 1, embedded := false, tag := "", pkgPath := "runtime", byteOffset := 16 }])),
  (14, (TypeDesc.struct #[{ name := "msg", type := 9, offset := 0, embedded := false, tag := "", pkgPath := "runtime", byteOffset := 0 }, { name := "addr", type := 12, offset := 1, embedded := false, tag := "", pkgPath := "runtime", byteOffset := 16 }])),
  (15, (TypeDesc.pointer 103)),
  (16, (TypeDesc.pointer 106)),
  (17, (TypeDesc.pointer 116)),
  (18, (TypeDesc.struct #[{ name := "typ", type := 17, offset := 0, embedded := false, tag := "", pkgPath := "internal/runtime/maps", byteOffset := 0 }])),
  (19, (TypeDesc.struct #[{ name := "typ", type := 17, offset := 0, embedded := false, tag := "", pkgPath := "internal/runtime/maps", byteOffset := 0 }])),
  (20, (TypeDesc.interface #[])),
  (21, (TypeDesc.int IntKind.i32)),
  (22, (TypeDesc.func #[3, 3] #[3] false)),
  (23, (TypeDesc.slice 26)),
  (24, (TypeDesc.float FloatKind.f64)),
  (25, (TypeDesc.struct #[{ name := "T", type := 3, offset := 0, embedded := false, tag := "", pkgPath := "", byteOffset := 0 }, { name := "V", type := 24, offset := 1, embedded := false, tag := "", pkgPath := "", byteOffset := 8 }])),
  (26, (TypeDesc.struct #[{ name := "T", type := 3, offset := 0, embedded := false, tag := "", pkgPath := "", byteOffset := 0 }, { name := "V", type := 24, offset := 1, embedded := false, tag := "", pkgPath := "", byteOffset := 8 }])),
  (27, (TypeDesc.tuple #[24, 4])),
  (28, (TypeDesc.func #[9, 23, 24, 3, 3] #[24, 4] false)),
  (29, (TypeDesc.func #[24] #[24] false)),
  (30, (TypeDesc.func #[] #[4] false)),
  (31, (TypeDesc.func #[3, 3, 3] #[4] false)),
  (32, (TypeDesc.slice 3)),
  (33, (TypeDesc.slice 24)),
  (34, (TypeDesc.func #[24] #[4] false)),
  (35, (TypeDesc.func #[24, 33] #[24] false)),
  (36, (TypeDesc.func #[9, 33, 24] #[24, 4] false)),
  (37, (TypeDesc.func #[24, 3] #[4] false)),
  (38, (TypeDesc.func #[32, 3, 3] #[4] false)),
  (39, (TypeDesc.slice 9)),
  (40, (TypeDesc.struct #[{ name := "Names", type := 39, offset := 0, embedded := false, tag := "", pkgPath := "", byteOffset := 0 }, { name := "L", type := 23, offset := 1, embedded := false, tag := "", pkgPath := "", byteOffset := 24 }, { name := "From", type := 3, offset := 2, embedded := false, tag := "", pkgPath := "", byteOffset := 48 }, { name := "To", type := 3, offset := 3, embedded := false, tag := "", pkgPath := "", byteOffset := 56 }, { name := "Stop", type := 3, offset := 4, embedded := false, tag := "", pkgPath := "", byteOffset := 64 }])),
  (41, (TypeDesc.struct #[{ name := "Names", type := 39, offset := 0, embedded := false, tag := "", pkgPath := "", byteOffset := 0 }, { name := "L", type := 23, offset := 1, embedded := false, tag := "", pkgPath := "", byteOffset := 24 }, { name := "From", type := 3, offset := 2, embedded := false, tag := "", pkgPath := "", byteOffset := 48 }, { name := "To", type := 3, offset := 3, embedded := false, tag := "", pkgPath := "", byteOffset := 56 }, { name := "Stop", type := 3, offset := 4, embedded := false, tag := "", pkgPath := "", byteOffset := 64 }])),
  (42, (TypeDesc.func #[23] #[23] false)),
  (43, (TypeDesc.func #[24, 24] #[4] false)),
  (44, (TypeDesc.func #[80] #[] false)),
  (45, (TypeDesc.func #[80] #[] false)),
  (46, (TypeDesc.func #[23] #[45] false)),
  (47, (TypeDesc.func #[41] #[4] false)),
  (48, (TypeDesc.tuple #[32, 3, 3, 4])),
  (49, (TypeDesc.func #[9] #[32, 3, 3, 4] false)),
  (50, (TypeDesc.func #[32, 32] #[4] false)),
  (51, (TypeDesc.func #[32] #[] false)),
  (52, (TypeDesc.func #[39] #[4] false)),
  (53, (TypeDesc.slice 69)),
  (54, (TypeDesc.func #[53] #[33] false)),
  (55, (TypeDesc.func #[9, 24] #[24] false)),
  (56, (TypeDesc.func #[24, 24] #[24] false)),
  (57, (TypeDesc.func #[39, 53, 32] #[4] false)),
  (58, (TypeDesc.func #[9, 33] #[24, 4] false)),
  (59, (TypeDesc.func #[9, 24, 24] #[24] false)),
  (60, (TypeDesc.func #[9, 24, 24] #[4] false)),
  (61, (TypeDesc.func #[39, 53] #[4] false)),
  (62, (TypeDesc.func #[23, 3, 3] #[23] false)),
  (63, (TypeDesc.func #[23, 43] #[24] false)),
  (64, (TypeDesc.func #[23, 4] #[24, 4] false)),
  (65, (TypeDesc.func #[9, 23, 3, 3] #[24, 4] false)),
  (66, (TypeDesc.tuple #[9, 4])),
  (67, (TypeDesc.func #[9, 9] #[9, 4] false)),
  (68, (TypeDesc.func #[69] #[24] false)),
  (69, (TypeDesc.int IntKind.u64)),
  (70, (TypeDesc.func #[24] #[69] false)),
  (71, (TypeDesc.func #[] #[24] false)),
  (72, (TypeDesc.func #[3] #[24] false)),
  (73, (TypeDesc.func #[33] #[33] false)),
  (74, (TypeDesc.func #[33, 75] #[] false)),
  (75, (TypeDesc.func #[24, 24] #[3] false)),
  (76, (TypeDesc.func #[33] #[24] false)),
  (77, (TypeDesc.func #[33, 43] #[24] false)),
  (78, (TypeDesc.func #[9, 23, 3, 3] #[24] false)),
  (79, (TypeDesc.func #[23] #[33] false)),
  (80, (TypeDesc.func #[3, 24] #[4] false)),
  (81, (TypeDesc.tuple #[3, 3])),
  (82, (TypeDesc.func #[3, 3] #[3, 3] false)),
  (83, (TypeDesc.tuple #[3, 3, 3, 3])),
  (84, (TypeDesc.func #[3] #[3, 3, 3, 3] false)),
  (85, (TypeDesc.func #[24, 24, 24] #[24] false)),
  (86, (TypeDesc.func #[3, 3] #[24] false)),
  (87, (TypeDesc.array 2 24)),
  (88, (TypeDesc.func #[33, 3, 75] #[] false)),
  (89, (TypeDesc.func #[33, 4] #[24] false)),
  (90, (TypeDesc.func #[3] #[4] false)),
  (91, (TypeDesc.array 13 3)),
  (92, (TypeDesc.tuple #[24, 24])),
  (93, (TypeDesc.func #[24] #[24, 24] false)),
  (94, (TypeDesc.tuple #[24, 3])),
  (95, (TypeDesc.func #[24] #[24, 3] false)),
  (96, (TypeDesc.func #[24, 3] #[24] false)),
  (97, (TypeDesc.func #[9, 9] #[4] false)),
  (98, (TypeDesc.func #[33, 3, 3, 75] #[] false)),
  (99, (TypeDesc.func #[33, 3, 3, 3, 75] #[] false)),
  (100, (TypeDesc.int IntKind.u64)),
  (101, (TypeDesc.func #[] #[9] false)),
  (102, (TypeDesc.struct #[{ name := "_interface", type := 17, offset := 0, embedded := false, tag := "", pkgPath := "runtime", byteOffset := 0 }, { name := "concrete", type := 17, offset := 1, embedded := false, tag := "", pkgPath := "runtime", byteOffset := 8 }, { name := "asserted", type := 17, offset := 2, embedded := false, tag := "", pkgPath := "runtime", byteOffset := 16 }, { name := "missingMethod", type := 9, offset := 3, embedded := false, tag := "", pkgPath := "runtime", byteOffset := 24 }])),
  (103, (TypeDesc.struct #[{ name := "_interface", type := 17, offset := 0, embedded := false, tag := "", pkgPath := "runtime", byteOffset := 0 }, { name := "concrete", type := 17, offset := 1, embedded := false, tag := "", pkgPath := "runtime", byteOffset := 8 }, { name := "asserted", type := 17, offset := 2, embedded := false, tag := "", pkgPath := "runtime", byteOffset := 16 }, { name := "missingMethod", type := 9, offset := 3, embedded := false, tag := "", pkgPath := "runtime", byteOffset := 24 }])),
  (104, (TypeDesc.array 0 16)),
  (105, (TypeDesc.struct #[{ name := "_", type := 104, offset := 0, embedded := false, tag := "", pkgPath := "runtime", byteOffset := 0 }])),
  (106, (TypeDesc.struct #[{ name := "_", type := 104, offset := 0, embedded := false, tag := "", pkgPath := "runtime", byteOffset := 0 }])),
  (107, (TypeDesc.func #[] #[3] false)),
  (108, (TypeDesc.int IntKind.u32)),
  (109, (TypeDesc.int IntKind.u8)),
  (110, (TypeDesc.int IntKind.u8)),
  (111, (TypeDesc.func #[117, 117] #[4] false)),
  (112, (TypeDesc.pointer 5)),
  (113, (TypeDesc.int IntKind.i32)),
  (114, (TypeDesc.int IntKind.i32)),
  (115, (TypeDesc.struct #[{ name := "Size_", type := 12, offset := 0, embedded := false, tag := "", pkgPath := "", byteOffset := 0 }, { name := "PtrBytes", type := 12, offset := 1, embedded := false, tag := "", pkgPath := "", byteOffset := 8 }, { name := "Hash", type := 108, offset := 2, embedded := false, tag := "", pkgPath := "", byteOffset := 16 }, { name := "TFlag", type := 109, offset := 3, embedded := false, tag := "", pkgPath := "", byteOffset := 20 }, { name := "Align_", type := 5, offset := 4, embedded := false, tag := "", pkgPath := "", byteOffset := 21 }, { name := "FieldAlign_", type := 5, offset := 5, embedded := false, tag := "", pkgPath := "", byteOffset := 22 }, { name := "Kind_", type := 110, offset := 6, embedded := false, tag := "", pkgPath := "", byteOffset := 23 }, { name := "Equal", type := 111, offset := 7, embedded := false, tag := "", pkgPath := "", byteOffset := 24 }, { name := "GCData", type := 112, offset := 8, embedded := false, tag := "", pkgPath := "", byteOffset := 32 }, { name := "Str", type := 113, offset := 9, embedded := false, tag := "", pkgPath := "", byteOffset := 40 }, { name := "PtrToThis", type := 114, offset := 10, embedded := false, tag := "", pkgPath := "", byteOffset := 44 }])),
  (116, (TypeDesc.struct #[{ name := "Size_", type := 12, offset := 0, embedded := false, tag := "", pkgPath := "", byteOffset := 0 }, { name := "PtrBytes", type := 12, offset := 1, embedded := false, tag := "", pkgPath := "", byteOffset := 8 }, { name := "Hash", type := 108, offset := 2, embedded := false, tag := "", pkgPath := "", byteOffset := 16 }, { name := "TFlag", type := 109, offset := 3, embedded := false, tag := "", pkgPath := "", byteOffset := 20 }, { name := "Align_", type := 5, offset := 4, embedded := false, tag := "", pkgPath := "", byteOffset := 21 }, { name := "FieldAlign_", type := 5, offset := 5, embedded := false, tag := "", pkgPath := "", byteOffset := 22 }, { name := "Kind_", type := 110, offset := 6, embedded := false, tag := "", pkgPath := "", byteOffset := 23 }, { name := "Equal", type := 111, offset := 7, embedded := false, tag := "", pkgPath := "", byteOffset := 24 }, { name := "GCData", type := 112, offset := 8, embedded := false, tag := "", pkgPath := "", byteOffset := 32 }, { name := "Str", type := 113, offset := 9, embedded := false, tag := "", pkgPath := "", byteOffset := 40 }, { name := "PtrToThis", type := 114, offset := 10, embedded := false, tag := "", pkgPath := "", byteOffset := 44 }])),
  (117, TypeDesc.unsafePointer)]
theorem tyL_ok : AllT Try.prog tyL := ⟨Try.underlying0, Try.underlying1, Try.underlying2, Try.underlying3, Try.underlying4, Try.underlying5, Try.underlying6, Try.underlying7, Try.underlying8, Try.underlying9, Try.underlying10, Try.underlying11, Try.underlying12, Try.underlying13, Try.underlying14, Try.underlying15, Try.underlying16, Try.underlying17, Try.underlying18, Try.underlying19, Try.underlying20, Try.underlying21, Try.underlying22, Try.underlying23, Try.underlying24, Try.underlying25, Try.underlying26, Try.underlying27, Try.underlying28, Try.underlying29, Try.underlying30, Try.underlying31, Try.underlying32, Try.underlying33, Try.underlying34, Try.underlying35, Try.underlying36, Try.underlying37, Try.underlying38, Try.underlying39, Try.underlying40, Try.underlying41, Try.underlying42, Try.underlying43, Try.underlying44, Try.underlying45, Try.underlying46, Try.underlying47, Try.underlying48, Try.underlying49, Try.underlying50, Try.underlying51, Try.underlying52, Try.underlying53, Try.underlying54, Try.underlying55, Try.underlying56, Try.underlying57, Try.underlying58, Try.underlying59, Try.underlying60, Try.underlying61, Try.underlying62, Try.underlying63, Try.underlying64, Try.underlying65, Try.underlying66, Try.underlying67, Try.underlying68, Try.underlying69, Try.underlying70, Try.underlying71, Try.underlying72, Try.underlying73, Try.underlying74, Try.underlying75, Try.underlying76, Try.underlying77, Try.underlying78, Try.underlying79, Try.underlying80, Try.underlying81, Try.underlying82, Try.underlying83, Try.underlying84, Try.underlying85, Try.underlying86, Try.underlying87, Try.underlying88, Try.underlying89, Try.underlying90, Try.underlying91, Try.underlying92, Try.underlying93, Try.underlying94, Try.underlying95, Try.underlying96, Try.underlying97, Try.underlying98, Try.underlying99, Try.underlying100, Try.underlying101, Try.underlying102, Try.underlying103, Try.underlying104, Try.underlying105, Try.underlying106, Try.underlying107, Try.underlying108, Try.underlying109, Try.underlying110, Try.underlying111, Try.underlying112, Try.underlying113, Try.underlying114, Try.underlying115, Try.underlying116, Try.underlying117, trivial⟩
def infL : List (Nat × Value × Nat × Nat) := [(1, .nilFunc, 1, 8),
  (2, (.int .i64 0), 1, 8),
  (3, (.int .i64 0), 1, 8),
  (4, (.bool false), 1, 1),
  (5, (.int .u8 0), 1, 1),
  (6, (.int .u8 0), 1, 1),
  (7, (.agg ⟨[(.int .i64 0), (.int .i64 0), (.bool false), (.int .u8 0)]⟩), 4, 24),
  (9, (S []), 1, 16),
  (12, (.int .u64 0), 1, 8),
  (13, (.agg ⟨[(S []), (.int .u64 0)]⟩), 2, 24),
  (18, (.agg ⟨[(.pointer none)]⟩), 1, 8),
  (20, .nilIface, 1, 16),
  (21, (.int .i32 0), 1, 4),
  (22, .nilFunc, 1, 8),
  (23, (.slice none 0 0), 1, 24),
  (24, (.float .f64 0), 1, 8),
  (25, (.agg ⟨[(.int .i64 0), (.float .f64 0)]⟩), 2, 16),
  (26, (.agg ⟨[(.int .i64 0), (.float .f64 0)]⟩), 2, 16),
  (28, .nilFunc, 1, 8),
  (29, .nilFunc, 1, 8),
  (30, .nilFunc, 1, 8),
  (31, .nilFunc, 1, 8),
  (32, (.slice none 0 0), 1, 24),
  (33, (.slice none 0 0), 1, 24),
  (34, .nilFunc, 1, 8),
  (35, .nilFunc, 1, 8),
  (36, .nilFunc, 1, 8),
  (37, .nilFunc, 1, 8),
  (38, .nilFunc, 1, 8),
  (39, (.slice none 0 0), 1, 24),
  (40, (.agg ⟨[(.slice none 0 0), (.slice none 0 0), (.int .i64 0), (.int .i64 0), (.int .i64 0)]⟩), 5, 72),
  (41, (.agg ⟨[(.slice none 0 0), (.slice none 0 0), (.int .i64 0), (.int .i64 0), (.int .i64 0)]⟩), 5, 72),
  (42, .nilFunc, 1, 8),
  (43, .nilFunc, 1, 8),
  (44, .nilFunc, 1, 8),
  (45, .nilFunc, 1, 8),
  (46, .nilFunc, 1, 8),
  (47, .nilFunc, 1, 8),
  (49, .nilFunc, 1, 8),
  (50, .nilFunc, 1, 8),
  (51, .nilFunc, 1, 8),
  (52, .nilFunc, 1, 8),
  (53, (.slice none 0 0), 1, 24),
  (54, .nilFunc, 1, 8),
  (55, .nilFunc, 1, 8),
  (56, .nilFunc, 1, 8),
  (57, .nilFunc, 1, 8),
  (58, .nilFunc, 1, 8),
  (59, .nilFunc, 1, 8),
  (60, .nilFunc, 1, 8),
  (61, .nilFunc, 1, 8),
  (62, .nilFunc, 1, 8),
  (63, .nilFunc, 1, 8),
  (64, .nilFunc, 1, 8),
  (65, .nilFunc, 1, 8),
  (67, .nilFunc, 1, 8),
  (68, .nilFunc, 1, 8),
  (69, (.int .u64 0), 1, 8),
  (70, .nilFunc, 1, 8),
  (71, .nilFunc, 1, 8),
  (72, .nilFunc, 1, 8),
  (73, .nilFunc, 1, 8),
  (74, .nilFunc, 1, 8),
  (75, .nilFunc, 1, 8),
  (76, .nilFunc, 1, 8),
  (77, .nilFunc, 1, 8),
  (78, .nilFunc, 1, 8),
  (79, .nilFunc, 1, 8),
  (80, .nilFunc, 1, 8),
  (82, .nilFunc, 1, 8),
  (84, .nilFunc, 1, 8),
  (85, .nilFunc, 1, 8),
  (86, .nilFunc, 1, 8),
  (87, (.agg ⟨[(.float .f64 0), (.float .f64 0)]⟩), 2, 16),
  (88, .nilFunc, 1, 8),
  (89, .nilFunc, 1, 8),
  (90, .nilFunc, 1, 8),
  (91, (.agg ⟨[(.int .i64 0), (.int .i64 0), (.int .i64 0), (.int .i64 0), (.int .i64 0), (.int .i64 0), (.int .i64 0), (.int .i64 0), (.int .i64 0), (.int .i64 0), (.int .i64 0), (.int .i64 0), (.int .i64 0)]⟩), 13, 104),
  (93, .nilFunc, 1, 8),
  (95, .nilFunc, 1, 8),
  (96, .nilFunc, 1, 8),
  (97, .nilFunc, 1, 8),
  (98, .nilFunc, 1, 8),
  (99, .nilFunc, 1, 8),
  (100, (.int .u64 0), 1, 8),
  (101, .nilFunc, 1, 8),
  (102, (.agg ⟨[(.pointer none), (.pointer none), (.pointer none), (S [])]⟩), 4, 40),
  (103, (.agg ⟨[(.pointer none), (.pointer none), (.pointer none), (S [])]⟩), 4, 40),
  (104, (.agg ⟨[]⟩), 0, 0),
  (105, (.agg ⟨[]⟩), 0, 0),
  (106, (.agg ⟨[]⟩), 0, 0),
  (107, .nilFunc, 1, 8),
  (108, (.int .u32 0), 1, 4),
  (109, (.int .u8 0), 1, 1),
  (111, .nilFunc, 1, 8),
  (112, (.pointer none), 1, 8),
  (113, (.int .i32 0), 1, 4),
  (114, (.int .i32 0), 1, 4),
  (115, (.agg ⟨[(.int .u64 0), (.int .u64 0), (.int .u32 0), (.int .u8 0), (.int .u8 0), (.int .u8 0), (.int .u8 0), .nilFunc, (.pointer none), (.int .i32 0), (.int .i32 0)]⟩), 11, 48),
  (116, (.agg ⟨[(.int .u64 0), (.int .u64 0), (.int .u32 0), (.int .u8 0), (.int .u8 0), (.int .u8 0), (.int .u8 0), .nilFunc, (.pointer none), (.int .i32 0), (.int .i32 0)]⟩), 11, 48),
  (117, (.pointer none), 1, 8)]
theorem infL_ok : AllI Try.prog infL := by
  refine ⟨?_, ?_, ?_, ?_, ?_, ?_, ?_, ?_, ?_, ?_, ?_, ?_, ?_, ?_, ?_, ?_, ?_, ?_, ?_, ?_, ?_, ?_, ?_, ?_, ?_, ?_, ?_, ?_, ?_, ?_, ?_, ?_, ?_, ?_, ?_, ?_, ?_, ?_, ?_, ?_, ?_, ?_, ?_, ?_, ?_, ?_, ?_, ?_, ?_, ?_, ?_, ?_, ?_, ?_, ?_, ?_, ?_, ?_, ?_, ?_, ?_, ?_, ?_, ?_, ?_, ?_, ?_, ?_, ?_, ?_, ?_, ?_, ?_, ?_, ?_, ?_, ?_, ?_, ?_, ?_, ?_, ?_, ?_, ?_, ?_, ?_, ?_, ?_, ?_, ?_, ?_, ?_, ?_, ?_, ?_, ?_, ?_, ?_, ?_, ?_, ?_, trivial⟩ <;> kernel_rfl
def tb : Tb Try.prog := Tb.mk' tyL infL tyL_ok infL_ok
theorem c2 : Callable Try.prog 2 := ⟨_, Try.func2, rfl, rfl⟩
theorem c3 : Callable Try.prog 3 := ⟨_, Try.func3, rfl, rfl⟩
theorem c4 : Callable Try.prog 4 := ⟨_, Try.func4, rfl, rfl⟩
theorem c5 : Callable Try.prog 5 := ⟨_, Try.func5, rfl, rfl⟩
theorem c6 : Callable Try.prog 6 := ⟨_, Try.func6, rfl, rfl⟩
theorem c7 : Callable Try.prog 7 := ⟨_, Try.func7, rfl, rfl⟩
theorem c8 : Callable Try.prog 8 := ⟨_, Try.func8, rfl, rfl⟩
theorem c9 : Callable Try.prog 9 := ⟨_, Try.func9, rfl, rfl⟩
theorem c10 : Callable Try.prog 10 := ⟨_, Try.func10, rfl, rfl⟩
theorem c11 : Callable Try.prog 11 := ⟨_, Try.func11, rfl, rfl⟩
theorem c12 : Callable Try.prog 12 := ⟨_, Try.func12, rfl, rfl⟩
theorem c13 : Callable Try.prog 13 := ⟨_, Try.func13, rfl, rfl⟩
theorem c14 : Callable Try.prog 14 := ⟨_, Try.func14, rfl, rfl⟩
theorem c15 : Callable Try.prog 15 := ⟨_, Try.func15, rfl, rfl⟩
theorem c16 : Callable Try.prog 16 := ⟨_, Try.func16, rfl, rfl⟩
theorem c17 : Callable Try.prog 17 := ⟨_, Try.func17, rfl, rfl⟩
theorem c18 : Callable Try.prog 18 := ⟨_, Try.func18, rfl, rfl⟩
theorem c19 : Callable Try.prog 19 := ⟨_, Try.func19, rfl, rfl⟩
theorem c20 : Callable Try.prog 20 := ⟨_, Try.func20, rfl, rfl⟩
theorem c21 : Callable Try.prog 21 := ⟨_, Try.func21, rfl, rfl⟩
theorem c22 : Callable Try.prog 22 := ⟨_, Try.func22, rfl, rfl⟩
theorem c23 : Callable Try.prog 23 := ⟨_, Try.func23, rfl, rfl⟩
theorem c24 : Callable Try.prog 24 := ⟨_, Try.func24, rfl, rfl⟩
theorem c25 : Callable Try.prog 25 := ⟨_, Try.func25, rfl, rfl⟩
theorem c26 : Callable Try.prog 26 := ⟨_, Try.func26, rfl, rfl⟩
theorem c27 : Callable Try.prog 27 := ⟨_, Try.func27, rfl, rfl⟩
theorem c28 : Callable Try.prog 28 := ⟨_, Try.func28, rfl, rfl⟩
theorem c29 : Callable Try.prog 29 := ⟨_, Try.func29, rfl, rfl⟩
theorem c30 : Callable Try.prog 30 := ⟨_, Try.func30, rfl, rfl⟩
theorem c31 : Callable Try.prog 31 := ⟨_, Try.func31, rfl, rfl⟩
theorem c32 : Callable Try.prog 32 := ⟨_, Try.func32, rfl, rfl⟩
theorem c33 : Callable Try.prog 33 := ⟨_, Try.func33, rfl, rfl⟩
theorem c34 : Callable Try.prog 34 := ⟨_, Try.func34, rfl, rfl⟩
theorem c35 : Callable Try.prog 35 := ⟨_, Try.func35, rfl, rfl⟩
theorem c36 : Callable Try.prog 36 := ⟨_, Try.func36, rfl, rfl⟩
theorem c37 : Callable Try.prog 37 := ⟨_, Try.func37, rfl, rfl⟩
theorem c38 : Callable Try.prog 38 := ⟨_, Try.func38, rfl, rfl⟩
theorem c39 : Callable Try.prog 39 := ⟨_, Try.func39, rfl, rfl⟩
theorem c40 : Callable Try.prog 40 := ⟨_, Try.func40, rfl, rfl⟩
theorem c41 : Callable Try.prog 41 := ⟨_, Try.func41, rfl, rfl⟩
theorem c42 : Callable Try.prog 42 := ⟨_, Try.func42, rfl, rfl⟩
theorem c43 : Callable Try.prog 43 := ⟨_, Try.func43, rfl, rfl⟩
theorem c46 : Callable Try.prog 46 := ⟨_, Try.func46, rfl, rfl⟩
theorem c47 : Callable Try.prog 47 := ⟨_, Try.func47, rfl, rfl⟩
theorem c48 : Callable Try.prog 48 := ⟨_, Try.func48, rfl, rfl⟩
theorem c49 : Callable Try.prog 49 := ⟨_, Try.func49, rfl, rfl⟩
theorem c50 : Callable Try.prog 50 := ⟨_, Try.func50, rfl, rfl⟩
theorem c51 : Callable Try.prog 51 := ⟨_, Try.func51, rfl, rfl⟩
theorem c52 : Callable Try.prog 52 := ⟨_, Try.func52, rfl, rfl⟩
theorem c53 : Callable Try.prog 53 := ⟨_, Try.func53, rfl, rfl⟩
theorem c54 : Callable Try.prog 54 := ⟨_, Try.func54, rfl, rfl⟩
theorem c55 : Callable Try.prog 55 := ⟨_, Try.func55, rfl, rfl⟩
theorem c56 : Callable Try.prog 56 := ⟨_, Try.func56, rfl, rfl⟩
theorem c57 : Callable Try.prog 57 := ⟨_, Try.func57, rfl, rfl⟩
theorem c58 : Callable Try.prog 58 := ⟨_, Try.func58, rfl, rfl⟩
theorem c59 : Callable Try.prog 59 := ⟨_, Try.func59, rfl, rfl⟩
theorem c60 : Callable Try.prog 60 := ⟨_, Try.func60, rfl, rfl⟩
theorem c61 : Callable Try.prog 61 := ⟨_, Try.func61, rfl, rfl⟩
theorem c62 : Callable Try.prog 62 := ⟨_, Try.func62, rfl, rfl⟩
theorem c63 : Callable Try.prog 63 := ⟨_, Try.func63, rfl, rfl⟩
theorem c64 : Callable Try.prog 64 := ⟨_, Try.func64, rfl, rfl⟩
theorem c65 : Callable Try.prog 65 := ⟨_, Try.func65, rfl, rfl⟩
theorem c66 : Callable Try.prog 66 := ⟨_, Try.func66, rfl, rfl⟩
theorem c67 : Callable Try.prog 67 := ⟨_, Try.func67, rfl, rfl⟩
theorem c68 : Callable Try.prog 68 := ⟨_, Try.func68, rfl, rfl⟩
theorem c69 : Callable Try.prog 69 := ⟨_, Try.func69, rfl, rfl⟩
theorem c70 : Callable Try.prog 70 := ⟨_, Try.func70, rfl, rfl⟩
theorem c71 : Callable Try.prog 71 := ⟨_, Try.func71, rfl, rfl⟩
theorem c72 : Callable Try.prog 72 := ⟨_, Try.func72, rfl, rfl⟩
theorem c74 : Callable Try.prog 74 := ⟨_, Try.func74, rfl, rfl⟩
theorem c75 : Callable Try.prog 75 := ⟨_, Try.func75, rfl, rfl⟩
theorem c76 : Callable Try.prog 76 := ⟨_, Try.func76, rfl, rfl⟩
theorem c77 : Callable Try.prog 77 := ⟨_, Try.func77, rfl, rfl⟩
theorem c78 : Callable Try.prog 78 := ⟨_, Try.func78, rfl, rfl⟩
theorem c79 : Callable Try.prog 79 := ⟨_, Try.func79, rfl, rfl⟩
theorem c80 : Callable Try.prog 80 := ⟨_, Try.func80, rfl, rfl⟩
theorem c81 : Callable Try.prog 81 := ⟨_, Try.func81, rfl, rfl⟩
theorem c82 : Callable Try.prog 82 := ⟨_, Try.func82, rfl, rfl⟩
theorem c83 : Callable Try.prog 83 := ⟨_, Try.func83, rfl, rfl⟩
theorem c84 : Callable Try.prog 84 := ⟨_, Try.func84, rfl, rfl⟩
theorem c85 : Callable Try.prog 85 := ⟨_, Try.func85, rfl, rfl⟩
theorem c86 : Callable Try.prog 86 := ⟨_, Try.func86, rfl, rfl⟩
theorem c87 : Callable Try.prog 87 := ⟨_, Try.func87, rfl, rfl⟩
theorem c88 : Callable Try.prog 88 := ⟨_, Try.func88, rfl, rfl⟩
theorem c90 : Callable Try.prog 90 := ⟨_, Try.func90, rfl, rfl⟩
theorem c91 : Callable Try.prog 91 := ⟨_, Try.func91, rfl, rfl⟩
theorem c92 : Callable Try.prog 92 := ⟨_, Try.func92, rfl, rfl⟩
theorem c93 : Callable Try.prog 93 := ⟨_, Try.func93, rfl, rfl⟩
theorem c94 : Callable Try.prog 94 := ⟨_, Try.func94, rfl, rfl⟩
theorem c95 : Callable Try.prog 95 := ⟨_, Try.func95, rfl, rfl⟩
theorem c96 : Callable Try.prog 96 := ⟨_, Try.func96, rfl, rfl⟩
theorem c97 : Callable Try.prog 97 := ⟨_, Try.func97, rfl, rfl⟩
theorem c98 : Callable Try.prog 98 := ⟨_, Try.func98, rfl, rfl⟩
theorem c99 : Callable Try.prog 99 := ⟨_, Try.func99, rfl, rfl⟩
theorem c101 : Callable Try.prog 101 := ⟨_, Try.func101, rfl, rfl⟩
theorem c102 : Callable Try.prog 102 := ⟨_, Try.func102, rfl, rfl⟩
theorem c103 : Callable Try.prog 103 := ⟨_, Try.func103, rfl, rfl⟩
theorem c104 : Callable Try.prog 104 := ⟨_, Try.func104, rfl, rfl⟩
theorem c105 : Callable Try.prog 105 := ⟨_, Try.func105, rfl, rfl⟩
theorem c106 : Callable Try.prog 106 := ⟨_, Try.func106, rfl, rfl⟩
theorem c107 : Callable Try.prog 107 := ⟨_, Try.func107, rfl, rfl⟩
theorem c108 : Callable Try.prog 108 := ⟨_, Try.func108, rfl, rfl⟩
theorem c109 : Callable Try.prog 109 := ⟨_, Try.func109, rfl, rfl⟩
theorem c110 : Callable Try.prog 110 := ⟨_, Try.func110, rfl, rfl⟩
theorem c111 : Callable Try.prog 111 := ⟨_, Try.func111, rfl, rfl⟩
theorem c112 : Callable Try.prog 112 := ⟨_, Try.func112, rfl, rfl⟩
theorem c114 : Callable Try.prog 114 := ⟨_, Try.func114, rfl, rfl⟩
theorem c115 : Callable Try.prog 115 := ⟨_, Try.func115, rfl, rfl⟩
theorem c116 : Callable Try.prog 116 := ⟨_, Try.func116, rfl, rfl⟩
theorem mixed : Try.prog.follows .mixedOrders = true := by kernel_rfl
end Go.Proofs.Ytbnckhfkkoncbaa
