/- Own texts of this claim, in build order: Ty, Shelf, Lj, Sa, Sb, Sp, Sc, Sd, Se, Sf, Sh, Si, Sj, Sk, Sl, Lm, Sn, So, R1, R2, Sq, Sr, Su, Sv. -/
import Derived.Test.YtbnbklbpkpibmaaDoorX2
import Derived.Test.YtbnbklbpkpibmaaDoorProg
import Derived.KernelRfl
import Derived.Shelf.Strings.Builder1
import Derived.Shelf.Strings.Builder2
import Derived.Shelf.Small.Bits
import Derived.Shelf.Strings.BuilderF
import Derived.Shelf.Strconv.Itoa0
import Derived.Shelf.LaysM
import Derived.Shelf.Strconv.Clone
import Derived.Shelf.Strings.Prefix
import Derived.Shelf.Bits.Mul64
import Derived.Shelf.Strings.Repeat
section
set_option maxRecDepth 100000
namespace Go.LX
open Go.Proofs

def ti1 : TI := ⟨.func #[] #[] false, .nilFunc, 1, 8⟩
theorem tok1 : TOk Tryd.prog (1, ti1) := ⟨Tryd.underlying1, by kernel_rfl, (fun h => by cases h)⟩
def ti2 : TI := ⟨.int .i64, .int .i64 0, 1, 8⟩
theorem tok2 : TOk Tryd.prog (2, ti2) := ⟨Tryd.underlying2, by kernel_rfl, (fun h => by cases h)⟩
def ti3 : TI := ⟨.int .i64, .int .i64 0, 1, 8⟩
theorem tok3 : TOk Tryd.prog (3, ti3) := ⟨Tryd.underlying3, by kernel_rfl, (fun h => by cases h)⟩
def ti4 : TI := ⟨.bool, .bool false, 1, 1⟩
theorem tok4 : TOk Tryd.prog (4, ti4) := ⟨Tryd.underlying4, by kernel_rfl, (fun h => by cases h)⟩
def ti5 : TI := ⟨.int .u8, .int .u8 0, 1, 1⟩
theorem tok5 : TOk Tryd.prog (5, ti5) := ⟨Tryd.underlying5, by kernel_rfl, (fun h => by cases h)⟩
def ti9 : TI := ⟨.string, .string ⟨#[]⟩, 1, 16⟩
theorem tok9 : TOk Tryd.prog (9, ti9) := ⟨Tryd.underlying9, by kernel_rfl, (fun h => by cases h)⟩
def ti12 : TI := ⟨.int .u64, .int .u64 0, 1, 8⟩
theorem tok12 : TOk Tryd.prog (12, ti12) := ⟨Tryd.underlying12, by kernel_rfl, (fun h => by cases h)⟩
def ti21 : TI := ⟨.int .i32, .int .i32 0, 1, 4⟩
theorem tok21 : TOk Tryd.prog (21, ti21) := ⟨Tryd.underlying21, by kernel_rfl, (fun h => by cases h)⟩
def ti22 : TI := ⟨.slice 27, .slice none 0 0, 1, 24⟩
theorem tok22 : TOk Tryd.prog (22, ti22) := ⟨Tryd.underlying22, by kernel_rfl, (fun h => by cases h)⟩
def ti23 : TI := ⟨.func #[] #[4] false, .nilFunc, 1, 8⟩
theorem tok23 : TOk Tryd.prog (23, ti23) := ⟨Tryd.underlying23, by kernel_rfl, (fun h => by cases h)⟩
def ti24 : TI := ⟨.func #[22] #[4] false, .nilFunc, 1, 8⟩
theorem tok24 : TOk Tryd.prog (24, ti24) := ⟨Tryd.underlying24, by kernel_rfl, (fun h => by cases h)⟩
def ti25 : TI := ⟨.func #[22] #[3] false, .nilFunc, 1, 8⟩
theorem tok25 : TOk Tryd.prog (25, ti25) := ⟨Tryd.underlying25, by kernel_rfl, (fun h => by cases h)⟩
def ti26 : TI := ⟨.struct #[{ name := "Key", type := 9, offset := 0, embedded := false, tag := "", pkgPath := "", byteOffset := 0 }, { name := "Value", type := 9, offset := 1, embedded := false, tag := "", pkgPath := "", byteOffset := 16 }], .agg #[.string ⟨#[]⟩, .string ⟨#[]⟩], 2, 32⟩
theorem tok26 : TOk Tryd.prog (26, ti26) := ⟨Tryd.underlying26, by kernel_rfl, fun _ => ⟨by kernel_rfl, by kernel_rfl⟩⟩
def ti27 : TI := ⟨.struct #[{ name := "Key", type := 9, offset := 0, embedded := false, tag := "", pkgPath := "", byteOffset := 0 }, { name := "Value", type := 9, offset := 1, embedded := false, tag := "", pkgPath := "", byteOffset := 16 }], .agg #[.string ⟨#[]⟩, .string ⟨#[]⟩], 2, 32⟩
theorem tok27 : TOk Tryd.prog (27, ti27) := ⟨Tryd.underlying27, by kernel_rfl, fun _ => ⟨by kernel_rfl, by kernel_rfl⟩⟩
def ti28 : TI := ⟨.func #[22] #[9] false, .nilFunc, 1, 8⟩
theorem tok28 : TOk Tryd.prog (28, ti28) := ⟨Tryd.underlying28, by kernel_rfl, (fun h => by cases h)⟩
def ti29 : TI := ⟨.pointer 35, .pointer none, 1, 8⟩
theorem tok29 : TOk Tryd.prog (29, ti29) := ⟨Tryd.underlying29, by kernel_rfl, (fun h => by cases h)⟩
def ti30 : TI := ⟨.func #[] #[29] false, .nilFunc, 1, 8⟩
theorem tok30 : TOk Tryd.prog (30, ti30) := ⟨Tryd.underlying30, by kernel_rfl, (fun h => by cases h)⟩
def ti31 : TI := ⟨.func #[29, 22] #[9] false, .nilFunc, 1, 8⟩
theorem tok31 : TOk Tryd.prog (31, ti31) := ⟨Tryd.underlying31, by kernel_rfl, (fun h => by cases h)⟩
def ti32 : TI := ⟨.slice 75, .slice none 0 0, 1, 24⟩
theorem tok32 : TOk Tryd.prog (32, ti32) := ⟨Tryd.underlying32, by kernel_rfl, (fun h => by cases h)⟩
def ti33 : TI := ⟨.map 9 9, .map none, 1, 8⟩
theorem tok33 : TOk Tryd.prog (33, ti33) := ⟨Tryd.underlying33, by kernel_rfl, (fun h => by cases h)⟩
def ti34 : TI := ⟨.struct #[{ name := "K", type := 32, offset := 0, embedded := false, tag := "", pkgPath := "", byteOffset := 0 }, { name := "H", type := 32, offset := 1, embedded := false, tag := "", pkgPath := "", byteOffset := 24 }, { name := "Of", type := 33, offset := 2, embedded := false, tag := "", pkgPath := "", byteOffset := 48 }, { name := "Clash", type := 4, offset := 3, embedded := false, tag := "", pkgPath := "", byteOffset := 56 }], .agg #[.slice none 0 0, .slice none 0 0, .map none, .bool false], 4, 64⟩
theorem tok34 : TOk Tryd.prog (34, ti34) := ⟨Tryd.underlying34, by kernel_rfl, fun _ => ⟨by kernel_rfl, by kernel_rfl⟩⟩
def ti35 : TI := ⟨.struct #[{ name := "K", type := 32, offset := 0, embedded := false, tag := "", pkgPath := "", byteOffset := 0 }, { name := "H", type := 32, offset := 1, embedded := false, tag := "", pkgPath := "", byteOffset := 24 }, { name := "Of", type := 33, offset := 2, embedded := false, tag := "", pkgPath := "", byteOffset := 48 }, { name := "Clash", type := 4, offset := 3, embedded := false, tag := "", pkgPath := "", byteOffset := 56 }], .agg #[.slice none 0 0, .slice none 0 0, .map none, .bool false], 4, 64⟩
theorem tok35 : TOk Tryd.prog (35, ti35) := ⟨Tryd.underlying35, by kernel_rfl, fun _ => ⟨by kernel_rfl, by kernel_rfl⟩⟩
def ti36 : TI := ⟨.func #[22, 22] #[4] false, .nilFunc, 1, 8⟩
theorem tok36 : TOk Tryd.prog (36, ti36) := ⟨Tryd.underlying36, by kernel_rfl, (fun h => by cases h)⟩
def ti37 : TI := ⟨.func #[22, 3, 9, 5] #[4] false, .nilFunc, 1, 8⟩
theorem tok37 : TOk Tryd.prog (37, ti37) := ⟨Tryd.underlying37, by kernel_rfl, (fun h => by cases h)⟩
def ti38 : TI := ⟨.int .i64, .int .i64 0, 1, 8⟩
theorem tok38 : TOk Tryd.prog (38, ti38) := ⟨Tryd.underlying38, by kernel_rfl, (fun h => by cases h)⟩
def ti39 : TI := ⟨.func #[22] #[38] false, .nilFunc, 1, 8⟩
theorem tok39 : TOk Tryd.prog (39, ti39) := ⟨Tryd.underlying39, by kernel_rfl, (fun h => by cases h)⟩
def ti40 : TI := ⟨.func #[3, 9] #[9] false, .nilFunc, 1, 8⟩
theorem tok40 : TOk Tryd.prog (40, ti40) := ⟨Tryd.underlying40, by kernel_rfl, (fun h => by cases h)⟩
def ti41 : TI := ⟨.func #[29, 3, 9] #[9] false, .nilFunc, 1, 8⟩
theorem tok41 : TOk Tryd.prog (41, ti41) := ⟨Tryd.underlying41, by kernel_rfl, (fun h => by cases h)⟩
def ti42 : TI := ⟨.func #[27] #[9] false, .nilFunc, 1, 8⟩
theorem tok42 : TOk Tryd.prog (42, ti42) := ⟨Tryd.underlying42, by kernel_rfl, (fun h => by cases h)⟩
def ti43 : TI := ⟨.func #[29, 27] #[9] false, .nilFunc, 1, 8⟩
theorem tok43 : TOk Tryd.prog (43, ti43) := ⟨Tryd.underlying43, by kernel_rfl, (fun h => by cases h)⟩
def ti44 : TI := ⟨.func #[45, 45] #[4] false, .nilFunc, 1, 8⟩
theorem tok44 : TOk Tryd.prog (44, ti44) := ⟨Tryd.underlying44, by kernel_rfl, (fun h => by cases h)⟩
def ti45 : TI := ⟨.slice 9, .slice none 0 0, 1, 24⟩
theorem tok45 : TOk Tryd.prog (45, ti45) := ⟨Tryd.underlying45, by kernel_rfl, (fun h => by cases h)⟩
def ti46 : TI := ⟨.func #[22, 3] #[45] false, .nilFunc, 1, 8⟩
theorem tok46 : TOk Tryd.prog (46, ti46) := ⟨Tryd.underlying46, by kernel_rfl, (fun h => by cases h)⟩
def ti47 : TI := ⟨.func #[29, 22, 3] #[45] false, .nilFunc, 1, 8⟩
theorem tok47 : TOk Tryd.prog (47, ti47) := ⟨Tryd.underlying47, by kernel_rfl, (fun h => by cases h)⟩
def ti48 : TI := ⟨.func #[22, 3, 3, 9] #[4] false, .nilFunc, 1, 8⟩
theorem tok48 : TOk Tryd.prog (48, ti48) := ⟨Tryd.underlying48, by kernel_rfl, (fun h => by cases h)⟩
def ti49 : TI := ⟨.struct #[{ name := "Index", type := 3, offset := 0, embedded := false, tag := "", pkgPath := "", byteOffset := 0 }, { name := "Count", type := 3, offset := 1, embedded := false, tag := "", pkgPath := "", byteOffset := 8 }, { name := "Pair", type := 27, offset := 2, embedded := false, tag := "", pkgPath := "", byteOffset := 16 }, { name := "Path", type := 45, offset := 4, embedded := false, tag := "", pkgPath := "", byteOffset := 48 }], .agg #[.int .i64 0, .int .i64 0, .string ⟨#[]⟩, .string ⟨#[]⟩, .slice none 0 0], 5, 72⟩
theorem tok49 : TOk Tryd.prog (49, ti49) := ⟨Tryd.underlying49, by kernel_rfl, fun _ => ⟨by kernel_rfl, by kernel_rfl⟩⟩
def ti50 : TI := ⟨.struct #[{ name := "Index", type := 3, offset := 0, embedded := false, tag := "", pkgPath := "", byteOffset := 0 }, { name := "Count", type := 3, offset := 1, embedded := false, tag := "", pkgPath := "", byteOffset := 8 }, { name := "Pair", type := 27, offset := 2, embedded := false, tag := "", pkgPath := "", byteOffset := 16 }, { name := "Path", type := 45, offset := 4, embedded := false, tag := "", pkgPath := "", byteOffset := 48 }], .agg #[.int .i64 0, .int .i64 0, .string ⟨#[]⟩, .string ⟨#[]⟩, .slice none 0 0], 5, 72⟩
theorem tok50 : TOk Tryd.prog (50, ti50) := ⟨Tryd.underlying50, by kernel_rfl, fun _ => ⟨by kernel_rfl, by kernel_rfl⟩⟩
def ti52 : TI := ⟨.func #[50] #[9, 4] false, .nilFunc, 1, 8⟩
theorem tok52 : TOk Tryd.prog (52, ti52) := ⟨Tryd.underlying52, by kernel_rfl, (fun h => by cases h)⟩
def ti53 : TI := ⟨.func #[29, 50] #[9, 4] false, .nilFunc, 1, 8⟩
theorem tok53 : TOk Tryd.prog (53, ti53) := ⟨Tryd.underlying53, by kernel_rfl, (fun h => by cases h)⟩
def ti54 : TI := ⟨.func #[50] #[4] false, .nilFunc, 1, 8⟩
theorem tok54 : TOk Tryd.prog (54, ti54) := ⟨Tryd.underlying54, by kernel_rfl, (fun h => by cases h)⟩
def ti55 : TI := ⟨.func #[22, 50] #[4] false, .nilFunc, 1, 8⟩
theorem tok55 : TOk Tryd.prog (55, ti55) := ⟨Tryd.underlying55, by kernel_rfl, (fun h => by cases h)⟩
def ti56 : TI := ⟨.func #[45] #[9] true, .nilFunc, 1, 8⟩
theorem tok56 : TOk Tryd.prog (56, ti56) := ⟨Tryd.underlying56, by kernel_rfl, (fun h => by cases h)⟩
def ti58 : TI := ⟨.func #[] #[32, 32] false, .nilFunc, 1, 8⟩
theorem tok58 : TOk Tryd.prog (58, ti58) := ⟨Tryd.underlying58, by kernel_rfl, (fun h => by cases h)⟩
def ti59 : TI := ⟨.int .u64, .int .u64 0, 1, 8⟩
theorem tok59 : TOk Tryd.prog (59, ti59) := ⟨Tryd.underlying59, by kernel_rfl, (fun h => by cases h)⟩
def ti60 : TI := ⟨.func #[3] #[9] false, .nilFunc, 1, 8⟩
theorem tok60 : TOk Tryd.prog (60, ti60) := ⟨Tryd.underlying60, by kernel_rfl, (fun h => by cases h)⟩
def ti61 : TI := ⟨.func #[9] #[9] false, .nilFunc, 1, 8⟩
theorem tok61 : TOk Tryd.prog (61, ti61) := ⟨Tryd.underlying61, by kernel_rfl, (fun h => by cases h)⟩
def ti62 : TI := ⟨.func #[59, 3] #[9] false, .nilFunc, 1, 8⟩
theorem tok62 : TOk Tryd.prog (62, ti62) := ⟨Tryd.underlying62, by kernel_rfl, (fun h => by cases h)⟩
def ti63 : TI := ⟨.func #[22, 3] #[] false, .nilFunc, 1, 8⟩
theorem tok63 : TOk Tryd.prog (63, ti63) := ⟨Tryd.underlying63, by kernel_rfl, (fun h => by cases h)⟩
def ti64 : TI := ⟨.func #[3] #[3] false, .nilFunc, 1, 8⟩
theorem tok64 : TOk Tryd.prog (64, ti64) := ⟨Tryd.underlying64, by kernel_rfl, (fun h => by cases h)⟩
def ti65 : TI := ⟨.func #[3, 3] #[9] false, .nilFunc, 1, 8⟩
theorem tok65 : TOk Tryd.prog (65, ti65) := ⟨Tryd.underlying65, by kernel_rfl, (fun h => by cases h)⟩
def ti66 : TI := ⟨.func #[9, 9] #[9] false, .nilFunc, 1, 8⟩
theorem tok66 : TOk Tryd.prog (66, ti66) := ⟨Tryd.underlying66, by kernel_rfl, (fun h => by cases h)⟩
def ti67 : TI := ⟨.func #[3, 3] #[3] false, .nilFunc, 1, 8⟩
theorem tok67 : TOk Tryd.prog (67, ti67) := ⟨Tryd.underlying67, by kernel_rfl, (fun h => by cases h)⟩
def ti68 : TI := ⟨.func #[29, 50, 3, 3] #[9] false, .nilFunc, 1, 8⟩
theorem tok68 : TOk Tryd.prog (68, ti68) := ⟨Tryd.underlying68, by kernel_rfl, (fun h => by cases h)⟩
def ti69 : TI := ⟨.pointer 85, .pointer none, 1, 8⟩
theorem tok69 : TOk Tryd.prog (69, ti69) := ⟨Tryd.underlying69, by kernel_rfl, (fun h => by cases h)⟩
def ti70 : TI := ⟨.func #[] #[69] false, .nilFunc, 1, 8⟩
theorem tok70 : TOk Tryd.prog (70, ti70) := ⟨Tryd.underlying70, by kernel_rfl, (fun h => by cases h)⟩
def ti71 : TI := ⟨.func #[9] #[] false, .nilFunc, 1, 8⟩
theorem tok71 : TOk Tryd.prog (71, ti71) := ⟨Tryd.underlying71, by kernel_rfl, (fun h => by cases h)⟩
def ti72 : TI := ⟨.func #[] #[9] false, .nilFunc, 1, 8⟩
theorem tok72 : TOk Tryd.prog (72, ti72) := ⟨Tryd.underlying72, by kernel_rfl, (fun h => by cases h)⟩
def ti73 : TI := ⟨.slice 59, .slice none 0 0, 1, 24⟩
theorem tok73 : TOk Tryd.prog (73, ti73) := ⟨Tryd.underlying73, by kernel_rfl, (fun h => by cases h)⟩
def ti74 : TI := ⟨.func #[3] #[73] false, .nilFunc, 1, 8⟩
theorem tok74 : TOk Tryd.prog (74, ti74) := ⟨Tryd.underlying74, by kernel_rfl, (fun h => by cases h)⟩
def ti75 : TI := ⟨.int .u32, .int .u32 0, 1, 4⟩
theorem tok75 : TOk Tryd.prog (75, ti75) := ⟨Tryd.underlying75, by kernel_rfl, (fun h => by cases h)⟩
def ti76 : TI := ⟨.func #[59, 4] #[75] false, .nilFunc, 1, 8⟩
theorem tok76 : TOk Tryd.prog (76, ti76) := ⟨Tryd.underlying76, by kernel_rfl, (fun h => by cases h)⟩
def ti77 : TI := ⟨.slice 5, .slice none 0 0, 1, 24⟩
theorem tok77 : TOk Tryd.prog (77, ti77) := ⟨Tryd.underlying77, by kernel_rfl, (fun h => by cases h)⟩
def ti78 : TI := ⟨.func #[79] #[3] false, .nilFunc, 1, 8⟩
theorem tok78 : TOk Tryd.prog (78, ti78) := ⟨Tryd.underlying78, by kernel_rfl, (fun h => by cases h)⟩
def ti79 : TI := ⟨.int .u64, .int .u64 0, 1, 8⟩
theorem tok79 : TOk Tryd.prog (79, ti79) := ⟨Tryd.underlying79, by kernel_rfl, (fun h => by cases h)⟩
def ti80 : TI := ⟨.array 8 75, .agg #[.int .u32 0, .int .u32 0, .int .u32 0, .int .u32 0, .int .u32 0, .int .u32 0, .int .u32 0, .int .u32 0], 8, 32⟩
theorem tok80 : TOk Tryd.prog (80, ti80) := ⟨Tryd.underlying80, by kernel_rfl, (fun h => by cases h)⟩
def ti81 : TI := ⟨.struct #[{ name := "h", type := 80, offset := 0, embedded := false, tag := "", pkgPath := "carrack/sha", byteOffset := 0 }], .agg #[.int .u32 0, .int .u32 0, .int .u32 0, .int .u32 0, .int .u32 0, .int .u32 0, .int .u32 0, .int .u32 0], 8, 32⟩
theorem tok81 : TOk Tryd.prog (81, ti81) := ⟨Tryd.underlying81, by kernel_rfl, fun _ => ⟨by kernel_rfl, by kernel_rfl⟩⟩
def ti82 : TI := ⟨.struct #[{ name := "h", type := 80, offset := 0, embedded := false, tag := "", pkgPath := "carrack/sha", byteOffset := 0 }], .agg #[.int .u32 0, .int .u32 0, .int .u32 0, .int .u32 0, .int .u32 0, .int .u32 0, .int .u32 0, .int .u32 0], 8, 32⟩
theorem tok82 : TOk Tryd.prog (82, ti82) := ⟨Tryd.underlying82, by kernel_rfl, fun _ => ⟨by kernel_rfl, by kernel_rfl⟩⟩
def ti83 : TI := ⟨.func #[] #[82] false, .nilFunc, 1, 8⟩
theorem tok83 : TOk Tryd.prog (83, ti83) := ⟨Tryd.underlying83, by kernel_rfl, (fun h => by cases h)⟩
def ti84 : TI := ⟨.struct #[{ name := "state", type := 82, offset := 0, embedded := true, tag := "", pkgPath := "carrack/sha", byteOffset := 0 }, { name := "rest", type := 9, offset := 8, embedded := false, tag := "", pkgPath := "carrack/sha", byteOffset := 32 }, { name := "n", type := 3, offset := 9, embedded := false, tag := "", pkgPath := "carrack/sha", byteOffset := 48 }], .agg #[.int .u32 0, .int .u32 0, .int .u32 0, .int .u32 0, .int .u32 0, .int .u32 0, .int .u32 0, .int .u32 0, .string ⟨#[]⟩, .int .i64 0], 10, 56⟩
theorem tok84 : TOk Tryd.prog (84, ti84) := ⟨Tryd.underlying84, by kernel_rfl, fun _ => ⟨by kernel_rfl, by kernel_rfl⟩⟩
def ti85 : TI := ⟨.struct #[{ name := "state", type := 82, offset := 0, embedded := true, tag := "", pkgPath := "carrack/sha", byteOffset := 0 }, { name := "rest", type := 9, offset := 8, embedded := false, tag := "", pkgPath := "carrack/sha", byteOffset := 32 }, { name := "n", type := 3, offset := 9, embedded := false, tag := "", pkgPath := "carrack/sha", byteOffset := 48 }], .agg #[.int .u32 0, .int .u32 0, .int .u32 0, .int .u32 0, .int .u32 0, .int .u32 0, .int .u32 0, .int .u32 0, .string ⟨#[]⟩, .int .i64 0], 10, 56⟩
theorem tok85 : TOk Tryd.prog (85, ti85) := ⟨Tryd.underlying85, by kernel_rfl, fun _ => ⟨by kernel_rfl, by kernel_rfl⟩⟩
def ti86 : TI := ⟨.pointer 88, .pointer none, 1, 8⟩
theorem tok86 : TOk Tryd.prog (86, ti86) := ⟨Tryd.underlying86, by kernel_rfl, (fun h => by cases h)⟩
def ti87 : TI := ⟨.struct #[{ name := "addr", type := 86, offset := 0, embedded := false, tag := "", pkgPath := "strings", byteOffset := 0 }, { name := "buf", type := 77, offset := 1, embedded := false, tag := "", pkgPath := "strings", byteOffset := 8 }], .agg #[.pointer none, .slice none 0 0], 2, 32⟩
theorem tok87 : TOk Tryd.prog (87, ti87) := ⟨Tryd.underlying87, by kernel_rfl, fun _ => ⟨by kernel_rfl, by kernel_rfl⟩⟩
def ti88 : TI := ⟨.struct #[{ name := "addr", type := 86, offset := 0, embedded := false, tag := "", pkgPath := "strings", byteOffset := 0 }, { name := "buf", type := 77, offset := 1, embedded := false, tag := "", pkgPath := "strings", byteOffset := 8 }], .agg #[.pointer none, .slice none 0 0], 2, 32⟩
theorem tok88 : TOk Tryd.prog (88, ti88) := ⟨Tryd.underlying88, by kernel_rfl, fun _ => ⟨by kernel_rfl, by kernel_rfl⟩⟩
def ti91 : TI := ⟨.func #[5] #[90] false, .nilFunc, 1, 8⟩
theorem tok91 : TOk Tryd.prog (91, ti91) := ⟨Tryd.underlying91, by kernel_rfl, (fun h => by cases h)⟩
def ti92 : TI := ⟨.func #[9, 3] #[9] false, .nilFunc, 1, 8⟩
theorem tok92 : TOk Tryd.prog (92, ti92) := ⟨Tryd.underlying92, by kernel_rfl, (fun h => by cases h)⟩
def ti93 : TI := ⟨.func #[59, 59, 4] #[4] false, .nilFunc, 1, 8⟩
theorem tok93 : TOk Tryd.prog (93, ti93) := ⟨Tryd.underlying93, by kernel_rfl, (fun h => by cases h)⟩
def ti94 : TI := ⟨.func #[9, 32, 32] #[32] false, .nilFunc, 1, 8⟩
theorem tok94 : TOk Tryd.prog (94, ti94) := ⟨Tryd.underlying94, by kernel_rfl, (fun h => by cases h)⟩
def ti95 : TI := ⟨.func #[75] #[3] false, .nilFunc, 1, 8⟩
theorem tok95 : TOk Tryd.prog (95, ti95) := ⟨Tryd.underlying95, by kernel_rfl, (fun h => by cases h)⟩
def ti96 : TI := ⟨.func #[59] #[3] false, .nilFunc, 1, 8⟩
theorem tok96 : TOk Tryd.prog (96, ti96) := ⟨Tryd.underlying96, by kernel_rfl, (fun h => by cases h)⟩
def ti97 : TI := ⟨.pointer 82, .pointer none, 1, 8⟩
theorem tok97 : TOk Tryd.prog (97, ti97) := ⟨Tryd.underlying97, by kernel_rfl, (fun h => by cases h)⟩
def ti98 : TI := ⟨.array 64 75, .agg ⟨List.replicate 64 (.int .u32 0)⟩, 64, 256⟩
theorem tok98 : TOk Tryd.prog (98, ti98) := ⟨Tryd.underlying98, by kernel_rfl, (fun h => by cases h)⟩
def ti99 : TI := ⟨.func #[9] #[98] false, .nilFunc, 1, 8⟩
theorem tok99 : TOk Tryd.prog (99, ti99) := ⟨Tryd.underlying99, by kernel_rfl, (fun h => by cases h)⟩
def ti100 : TI := ⟨.func #[75, 3] #[75] false, .nilFunc, 1, 8⟩
theorem tok100 : TOk Tryd.prog (100, ti100) := ⟨Tryd.underlying100, by kernel_rfl, (fun h => by cases h)⟩
def ti102 : TI := ⟨.func #[79, 79] #[79, 79] false, .nilFunc, 1, 8⟩
theorem tok102 : TOk Tryd.prog (102, ti102) := ⟨Tryd.underlying102, by kernel_rfl, (fun h => by cases h)⟩
def ti103 : TI := ⟨.func #[9, 9] #[4] false, .nilFunc, 1, 8⟩
theorem tok103 : TOk Tryd.prog (103, ti103) := ⟨Tryd.underlying103, by kernel_rfl, (fun h => by cases h)⟩
def ti104 : TI := ⟨.func #[3] #[] false, .nilFunc, 1, 8⟩
theorem tok104 : TOk Tryd.prog (104, ti104) := ⟨Tryd.underlying104, by kernel_rfl, (fun h => by cases h)⟩
def ti106 : TI := ⟨.func #[9] #[3, 90] false, .nilFunc, 1, 8⟩
theorem tok106 : TOk Tryd.prog (106, ti106) := ⟨Tryd.underlying106, by kernel_rfl, (fun h => by cases h)⟩
def ti107 : TI := ⟨.func #[] #[3] false, .nilFunc, 1, 8⟩
theorem tok107 : TOk Tryd.prog (107, ti107) := ⟨Tryd.underlying107, by kernel_rfl, (fun h => by cases h)⟩
def ti108 : TI := ⟨.pointer 5, .pointer none, 1, 8⟩
theorem tok108 : TOk Tryd.prog (108, ti108) := ⟨Tryd.underlying108, by kernel_rfl, (fun h => by cases h)⟩
def ti109 : TI := ⟨.func #[73, 59] #[73] false, .nilFunc, 1, 8⟩
theorem tok109 : TOk Tryd.prog (109, ti109) := ⟨Tryd.underlying109, by kernel_rfl, (fun h => by cases h)⟩
def ti110 : TI := ⟨.func #[73, 73] #[4] false, .nilFunc, 1, 8⟩
theorem tok110 : TOk Tryd.prog (110, ti110) := ⟨Tryd.underlying110, by kernel_rfl, (fun h => by cases h)⟩
def ti112 : TI := ⟨.func #[111] #[111] false, .nilFunc, 1, 8⟩
theorem tok112 : TOk Tryd.prog (112, ti112) := ⟨Tryd.underlying112, by kernel_rfl, (fun h => by cases h)⟩
def ti114 : TI := ⟨.func #[75, 75] #[75, 75] false, .nilFunc, 1, 8⟩
theorem tok114 : TOk Tryd.prog (114, ti114) := ⟨Tryd.underlying114, by kernel_rfl, (fun h => by cases h)⟩
def ti116 : TI := ⟨.func #[59, 59] #[59, 59] false, .nilFunc, 1, 8⟩
theorem tok116 : TOk Tryd.prog (116, ti116) := ⟨Tryd.underlying116, by kernel_rfl, (fun h => by cases h)⟩
def ti117 : TI := ⟨.func #[73] #[73] false, .nilFunc, 1, 8⟩
theorem tok117 : TOk Tryd.prog (117, ti117) := ⟨Tryd.underlying117, by kernel_rfl, (fun h => by cases h)⟩
def ti118 : TI := ⟨.func #[73, 3, 59] #[] false, .nilFunc, 1, 8⟩
theorem tok118 : TOk Tryd.prog (118, ti118) := ⟨Tryd.underlying118, by kernel_rfl, (fun h => by cases h)⟩
def ti119 : TI := ⟨.func #[73, 3] #[59] false, .nilFunc, 1, 8⟩
theorem tok119 : TOk Tryd.prog (119, ti119) := ⟨Tryd.underlying119, by kernel_rfl, (fun h => by cases h)⟩
def ti120 : TI := ⟨.func #[3] #[77] false, .nilFunc, 1, 8⟩
theorem tok120 : TOk Tryd.prog (120, ti120) := ⟨Tryd.underlying120, by kernel_rfl, (fun h => by cases h)⟩
def ti128 : TI := ⟨.func #[111, 111] #[4] false, .nilFunc, 1, 8⟩
theorem tok128 : TOk Tryd.prog (128, ti128) := ⟨Tryd.underlying128, by kernel_rfl, (fun h => by cases h)⟩
def Γ : Ty := [(1, ti1), (2, ti2), (3, ti3), (4, ti4), (5, ti5), (9, ti9), (12, ti12), (21, ti21), (22, ti22), (23, ti23), (24, ti24), (25, ti25), (26, ti26), (27, ti27), (28, ti28), (29, ti29), (30, ti30), (31, ti31), (32, ti32), (33, ti33), (34, ti34), (35, ti35), (36, ti36), (37, ti37), (38, ti38), (39, ti39), (40, ti40), (41, ti41), (42, ti42), (43, ti43), (44, ti44), (45, ti45), (46, ti46), (47, ti47), (48, ti48), (49, ti49), (50, ti50), (52, ti52), (53, ti53), (54, ti54), (55, ti55), (56, ti56), (58, ti58), (59, ti59), (60, ti60), (61, ti61), (62, ti62), (63, ti63), (64, ti64), (65, ti65), (66, ti66), (67, ti67), (68, ti68), (69, ti69), (70, ti70), (71, ti71), (72, ti72), (73, ti73), (74, ti74), (75, ti75), (76, ti76), (77, ti77), (78, ti78), (79, ti79), (80, ti80), (81, ti81), (82, ti82), (83, ti83), (84, ti84), (85, ti85), (86, ti86), (87, ti87), (88, ti88), (91, ti91), (92, ti92), (93, ti93), (94, ti94), (95, ti95), (96, ti96), (97, ti97), (98, ti98), (99, ti99), (100, ti100), (102, ti102), (103, ti103), (104, ti104), (106, ti106), (107, ti107), (108, ti108), (109, ti109), (110, ti110), (112, ti112), (114, ti114), (116, ti116), (117, ti117), (118, ti118), (119, ti119), (120, ti120), (128, ti128)]
theorem Γok : TyOk Tryd.prog Γ :=
  TyOk.cons_ tok1 <| TyOk.cons_ tok2 <| TyOk.cons_ tok3 <| TyOk.cons_ tok4 <| TyOk.cons_ tok5 <| TyOk.cons_ tok9 <| TyOk.cons_ tok12 <| TyOk.cons_ tok21 <| TyOk.cons_ tok22 <| TyOk.cons_ tok23 <| TyOk.cons_ tok24 <| TyOk.cons_ tok25 <| TyOk.cons_ tok26 <| TyOk.cons_ tok27 <| TyOk.cons_ tok28 <| TyOk.cons_ tok29 <| TyOk.cons_ tok30 <| TyOk.cons_ tok31 <| TyOk.cons_ tok32 <| TyOk.cons_ tok33 <| TyOk.cons_ tok34 <| TyOk.cons_ tok35 <| TyOk.cons_ tok36 <| TyOk.cons_ tok37 <| TyOk.cons_ tok38 <| TyOk.cons_ tok39 <| TyOk.cons_ tok40 <| TyOk.cons_ tok41 <| TyOk.cons_ tok42 <| TyOk.cons_ tok43 <| TyOk.cons_ tok44 <| TyOk.cons_ tok45 <| TyOk.cons_ tok46 <| TyOk.cons_ tok47 <| TyOk.cons_ tok48 <| TyOk.cons_ tok49 <| TyOk.cons_ tok50 <| TyOk.cons_ tok52 <| TyOk.cons_ tok53 <| TyOk.cons_ tok54 <| TyOk.cons_ tok55 <| TyOk.cons_ tok56 <| TyOk.cons_ tok58 <| TyOk.cons_ tok59 <| TyOk.cons_ tok60 <| TyOk.cons_ tok61 <| TyOk.cons_ tok62 <| TyOk.cons_ tok63 <| TyOk.cons_ tok64 <| TyOk.cons_ tok65 <| TyOk.cons_ tok66 <| TyOk.cons_ tok67 <| TyOk.cons_ tok68 <| TyOk.cons_ tok69 <| TyOk.cons_ tok70 <| TyOk.cons_ tok71 <| TyOk.cons_ tok72 <| TyOk.cons_ tok73 <| TyOk.cons_ tok74 <| TyOk.cons_ tok75 <| TyOk.cons_ tok76 <| TyOk.cons_ tok77 <| TyOk.cons_ tok78 <| TyOk.cons_ tok79 <| TyOk.cons_ tok80 <| TyOk.cons_ tok81 <| TyOk.cons_ tok82 <| TyOk.cons_ tok83 <| TyOk.cons_ tok84 <| TyOk.cons_ tok85 <| TyOk.cons_ tok86 <| TyOk.cons_ tok87 <| TyOk.cons_ tok88 <| TyOk.cons_ tok91 <| TyOk.cons_ tok92 <| TyOk.cons_ tok93 <| TyOk.cons_ tok94 <| TyOk.cons_ tok95 <| TyOk.cons_ tok96 <| TyOk.cons_ tok97 <| TyOk.cons_ tok98 <| TyOk.cons_ tok99 <| TyOk.cons_ tok100 <| TyOk.cons_ tok102 <| TyOk.cons_ tok103 <| TyOk.cons_ tok104 <| TyOk.cons_ tok106 <| TyOk.cons_ tok107 <| TyOk.cons_ tok108 <| TyOk.cons_ tok109 <| TyOk.cons_ tok110 <| TyOk.cons_ tok112 <| TyOk.cons_ tok114 <| TyOk.cons_ tok116 <| TyOk.cons_ tok117 <| TyOk.cons_ tok118 <| TyOk.cons_ tok119 <| TyOk.cons_ tok120 <| TyOk.cons_ tok128 <| TyOk.nil_ _
end Go.LX
end
section
namespace Go.Proofs
open Go.Shelf
def Tryd.laysM316_ren : Go.Shelf.Ren := ⟨fun | 316 => 59 | n => n, fun | 9 => 9 | 3 => 3 | 4 => 4 | 37 => 77 | 0 => 0 | 127 => 108 | 5 => 5 | n => n, fun | n => n⟩
theorem Tryd.laysM316 : Go.Proofs.LaysM.n316 Tryd.prog Tryd.laysM316_ren := {
  mixed := by kernel_rfl
  f316 := Tryd.func59.trans (congrArg some (by kernel_rfl))
  t0 := Tryd.underlying0
  a0 := Tryd.isAgg0
  z0 := Tryd.sizeOf0
  v0 := Tryd.zeroValue0
  t3 := Tryd.underlying3
  a3 := Tryd.isAgg3
  z3 := Tryd.sizeOf3
  v3 := Tryd.zeroValue3
  t4 := Tryd.underlying4
  a4 := Tryd.isAgg4
  z4 := Tryd.sizeOf4
  v4 := Tryd.zeroValue4
  t9 := Tryd.underlying9
  a9 := Tryd.isAgg9
  z9 := Tryd.sizeOf9
  v9 := Tryd.zeroValue9
  t37 := Tryd.underlying77
  a37 := Tryd.isAgg77
  z37 := Tryd.sizeOf77
  v37 := Tryd.zeroValue77
  t127 := Tryd.underlying108
  a127 := Tryd.isAgg108
  z127 := Tryd.sizeOf108
  v127 := Tryd.zeroValue108
  t5 := Tryd.underlying5
  a5 := Tryd.isAgg5
  z5 := Tryd.sizeOf5
  v5 := Tryd.zeroValue5
  i0 := by kernel_rfl
  i3 := by kernel_rfl
  i4 := by kernel_rfl
  i5 := by kernel_rfl
  i9 := by kernel_rfl
  i37 := by kernel_rfl
  i127 := by kernel_rfl }
open Go.RowKit in
theorem Tryd.stringslite_Clone (s : ByteArray) (w : World) (hlim : s.size ≤ 281474976710656) :
    Calls Tryd.prog 59 #[.string s] w fun e w' => e = .returned (.string s) ∧ Below w.heap.size w w' := Any.stringslite_Clone Tryd.laysM316 s w hlim
def Tryd.lays105_ren : Go.Shelf.Ren := ⟨fun | 105 => 51 | 212 => 63 | 99 => 64 | 165 => 65 | 166 => 66 | 170 => 67 | 169 => 52 | 263 => 73 | 264 => 74 | 206 => 75 | 240 => 62 | 241 => 76 | 276 => 72 | 277 => 80 | n => n, fun | 9 => 9 | 3 => 3 | 4 => 4 | 20 => 20 | 0 => 0 | 46 => 79 | 109 => 101 | 5 => 5 | 72 => 88 | 76 => 105 | 51 => 75 | 146 => 113 | 53 => 59 | 148 => 115 | 70 => 86 | 37 => 77 | 75 => 90 | 127 => 108 | 164 => 111 | 80 => 72 | n => n, fun | n => n⟩
theorem Tryd.lays105 : Go.Proofs.Lays.n105 Tryd.prog Tryd.lays105_ren := {
  mixed := by kernel_rfl
  f99 := Tryd.func64.trans (congrArg some (by kernel_rfl))
  f105 := Tryd.func51.trans (congrArg some (by kernel_rfl))
  f165 := Tryd.func65.trans (congrArg some (by kernel_rfl))
  f166 := Tryd.func66.trans (congrArg some (by kernel_rfl))
  f169 := Tryd.func52.trans (congrArg some (by kernel_rfl))
  f170 := Tryd.func67.trans (congrArg some (by kernel_rfl))
  f206 := Tryd.func75.trans (congrArg some (by kernel_rfl))
  f212 := Tryd.func63.trans (congrArg some (by kernel_rfl))
  f240 := Tryd.func62.trans (congrArg some (by kernel_rfl))
  f241 := Tryd.func76.trans (congrArg some (by kernel_rfl))
  f263 := Tryd.func73.trans (congrArg some (by kernel_rfl))
  f264 := Tryd.func74.trans (congrArg some (by kernel_rfl))
  f276 := Tryd.func72.trans (congrArg some (by kernel_rfl))
  f277 := Tryd.func80.trans (congrArg some (by kernel_rfl))
  t0 := Tryd.underlying0
  a0 := Tryd.isAgg0
  z0 := Tryd.sizeOf0
  v0 := Tryd.zeroValue0
  t3 := Tryd.underlying3
  a3 := Tryd.isAgg3
  z3 := Tryd.sizeOf3
  v3 := Tryd.zeroValue3
  t4 := Tryd.underlying4
  a4 := Tryd.isAgg4
  z4 := Tryd.sizeOf4
  v4 := Tryd.zeroValue4
  t5 := Tryd.underlying5
  a5 := Tryd.isAgg5
  z5 := Tryd.sizeOf5
  v5 := Tryd.zeroValue5
  t9 := Tryd.underlying9
  a9 := Tryd.isAgg9
  z9 := Tryd.sizeOf9
  v9 := Tryd.zeroValue9
  t20 := Tryd.underlying20
  a20 := Tryd.isAgg20
  z20 := Tryd.sizeOf20
  v20 := Tryd.zeroValue20
  t37 := Tryd.underlying77
  a37 := Tryd.isAgg77
  z37 := Tryd.sizeOf77
  v37 := Tryd.zeroValue77
  t46 := Tryd.underlying79
  a46 := Tryd.isAgg79
  z46 := Tryd.sizeOf79
  v46 := Tryd.zeroValue79
  t51 := Tryd.underlying75
  a51 := Tryd.isAgg75
  z51 := Tryd.sizeOf75
  v51 := Tryd.zeroValue75
  t53 := Tryd.underlying59
  a53 := Tryd.isAgg59
  z53 := Tryd.sizeOf59
  v53 := Tryd.zeroValue59
  t70 := Tryd.underlying86
  a70 := Tryd.isAgg86
  z70 := Tryd.sizeOf86
  v70 := Tryd.zeroValue86
  t72 := Tryd.underlying88
  a72 := Tryd.isAgg88
  z72 := Tryd.sizeOf88
  v72 := Tryd.zeroValue88
  t75 := Tryd.underlying90
  a75 := Tryd.isAgg90
  z75 := Tryd.sizeOf90
  v75 := Tryd.zeroValue90
  t76 := Tryd.underlying105
  a76 := Tryd.isAgg105
  z76 := Tryd.sizeOf105
  v76 := Tryd.zeroValue105
  t109 := Tryd.underlying101
  a109 := Tryd.isAgg101
  z109 := Tryd.sizeOf101
  v109 := Tryd.zeroValue101
  t127 := Tryd.underlying108
  a127 := Tryd.isAgg108
  z127 := Tryd.sizeOf108
  v127 := Tryd.zeroValue108
  t146 := Tryd.underlying113
  a146 := Tryd.isAgg113
  z146 := Tryd.sizeOf113
  v146 := Tryd.zeroValue113
  t148 := Tryd.underlying115
  a148 := Tryd.isAgg115
  z148 := Tryd.sizeOf115
  v148 := Tryd.zeroValue115
  t164 := Tryd.underlying111
  a164 := Tryd.isAgg111
  z164 := Tryd.sizeOf111
  v164 := Tryd.zeroValue111 }
theorem Tryd.Builder_Extra_105 : Builder.Extra Tryd.prog Tryd.lays105_ren := {
  sizeBuilder := by kernel_rfl
  liesBuilder := by kernel_rfl
  t5 := Tryd.underlying5
  a5 := Tryd.isAgg5
  z5 := Tryd.sizeOf5
  v5 := Tryd.zeroValue5
  infoByte := by kernel_rfl
  cellsByte := by kernel_rfl
  sizeByte := by kernel_rfl
  neB5 := by decide }
open Go.RowKit Go.Lib in
theorem Tryd.strings_Repeat (s : ByteArray) (c : Nat) (w : World) (hc : c ≤ 9223372036854775807) (hlen : s.size * c ≤ 140737488355328) :
    Calls Tryd.prog 51 #[.string s, .int .i64 c] w fun e w' => e = .returned (.string ⟨(Lib.repeatL s.data.toList c).toArray⟩) ∧ Below w.heap.size w w' := Any.strings_Repeat Tryd.lays105 Tryd.Builder_Extra_105 s c w hc hlen
end Go.Proofs
end
section
set_option maxRecDepth 100000
set_option maxHeartbeats 400000
set_option autoImplicit false
set_option linter.unusedVariables false
set_option linter.unusedSimpArgs false
namespace Go.LX
open Go.Proofs

theorem repeatL_one (b : UInt8) : ∀ n : Nat, Lib.repeatL [b] n = List.replicate n b
  | 0 => rfl
  | n + 1 => by rw [Lib.repeatL, repeatL_one b n]; rfl
def repS : Spec := fun args H Q => match args, H with
  | [.str l, .int .i64 n], [] => Need (0 ≤ n ∧ n ≤ 9223372036854775807 ∧ l.length * n.toNat ≤ 140737488355328) (Q (.str (Lib.repeatL l n.toNat)) [])
  | _, _ => False
theorem rep_c : Meets Tryd.prog [] 51 repS := by
  refine meets_calls ?_
  intro args H Q h E w vs hv hr
  unfold repS at h
  split at h
  case h_2 => exact h.elim
  rename_i l n
  obtain ⟨⟨h0, h1, h2⟩, h⟩ := h
  obtain ⟨u, v, rfl, q1, q2⟩ := vrs_two hv
  cases q1
  cases q2
  refine ⟨.string ⟨(Lib.repeatL l n.toNat).toArray⟩, _, ?_, fun w' => .str _, h⟩
  have := Tryd.strings_Repeat ⟨l.toArray⟩ n.toNat w (by omega) (by rw [size_mk]; exact h2)
  have e : ((n.toNat : Nat) : Int) = n := by omega
  rw [e] at this
  exact this
theorem rep_k : Contract Tryd.prog [] 51 repS := ⟨⟨⟨_, rfl, rfl, rfl⟩⟩, rep_c⟩
def zeroS : Spec := fun args H Q => match args, H with
  | [.str [b], .int .i64 n], [] => Need (0 ≤ n ∧ n ≤ 140737488355328) (Q (.str (List.replicate n.toNat b)) [])
  | _, _ => False
theorem zero_k : Contract Tryd.prog [] 51 zeroS := rep_k.imp fun args H Q h => by
  unfold zeroS at h
  split at h
  case h_2 => exact h.elim
  obtain ⟨⟨h0, h1⟩, h⟩ := h
  refine ⟨⟨h0, by omega, by simp; omega⟩, ?_⟩
  rw [repeatL_one]
  exact h
end Go.LX
end
section
set_option maxRecDepth 100000
set_option maxHeartbeats 1000000
set_option autoImplicit false
set_option linter.unusedVariables false
set_option linter.unusedSimpArgs false
namespace Go.LX
open Go.Proofs

theorem Contract.gl {P : Program} {G : Gl} {f : FuncId} {S : Spec} (h : Contract P [] f S) : Contract P G f S :=
  ⟨h.ok, fun args H Q hs E w vs hv hr _ => h.meets args H Q hs E w vs hv hr ⟨fun g cs hm => by cases hm⟩⟩
theorem Weak.bld {G : Gl} {N : Nat} {s : LS} (i e : Nat) {et : TypeId} (hi : s.h[i]? = some (.cells [.nil, .nilsl] et)) :
    Weak G N s ⟨s.t, (s.h ++ [LObj.own e 1 0 [] true]).set i (.cells [.opt i 0, .own s.h.length] et)⟩ := by
  have hlt : i < (s.h ++ [LObj.own e 1 0 [] true]).length := by
    have := lt_of_get hi
    rw [List.length_append]
    omega
  have h1 := Weak.ownNil (G := G) (N := N) i 1 e 1 hi rfl
  have h2 := Weak.optNil (G := G) (N := N) (s := ⟨s.t, (s.h ++ [LObj.own e 1 0 [] true]).set i (.cells [.nil, .own s.h.length] et)⟩) i 0 i 0 (c := [.nil, .own s.h.length]) (et := et) (by
    show ((s.h ++ [LObj.own e 1 0 [] true]).set i _)[i]? = _
    rw [List.getElem?_set_self hlt]) rfl
  have h3 := h1.trans h2
  simp only [List.set_set] at h3
  exact h3
theorem bnoesc : ∀ (v : Value) (w : World), (callFunc 72 #[v]).run Tryd.prog w = .ok (.value v) w := by
  intro v w
  rw [Go.run_callFunc_extern Tryd.func72 (by kernel_rfl) (by kernel_rfl) (by kernel_rfl) (e := Extern.AbiNoEscape.same) (by kernel_rfl)]
  rfl
theorem binfo_bld : ∃ j, Tryd.prog.info? 88 = some j ∧ j.size ≠ 0 := by
  have h : (Tryd.prog.info? 88).map (·.size) = some 2 := by kernel_rfl
  cases hj : Tryd.prog.info? 88 with
  | none => rw [hj] at h; cases h
  | some j =>
    rw [hj] at h
    refine ⟨j, rfl, ?_⟩
    have h2 : j.size = 2 := by simpa using h
    omega
theorem bconv_to : PtrConv Tryd.prog 86 111 88 2 0 := by
  obtain ⟨j, h1, h2⟩ := binfo_bld
  exact .to Tryd.underlying86 (by kernel_rfl) h1 h2 (by decide)
theorem bconv_back : PtrConv Tryd.prog 111 86 88 2 0 := by
  obtain ⟨j, h1, h2⟩ := binfo_bld
  exact .back (by kernel_rfl) Tryd.underlying86 h1 (by kernel_rfl)
theorem bbys_one (l : List UInt8) (b : UInt8) : bys l ++ [CV.int .u8 (b.toNat : Int)] = bys (l ++ [b]) := by simp [bys]
def bcopyS : Spec := fun args H Q => match args, H with
  | [.ptr 0 0], [.cells [.opt 0 0, y] 88, o] => Q (.tuple []) [.cells [.ptr 0 0, y] 88, o]
  | _, _ => False
theorem bcopy_c : Meets Tryd.prog [] 62 bcopyS := by
  refine meets_of Γok Tryd.func62 rfl ?_
  intro args H Q h
  unfold bcopyS at h
  split at h
  case h_2 => exact h.elim
  refine Wp.opt 0 0 0 0 rfl rfl ?_ ?_
  · (refine sx_sound Γok _ ?_; conv => whnf)
    refine ⟨_, rfl, ?_⟩
    (conv => whnf)
    (repeat (first | (refine Both.lit_true ?_; conv => whnf) | (refine Both.lit_false ?_; conv => whnf) | (refine Need.mk ?_ ?_; (focus (first | omega | exact ⟨by omega, by omega⟩ | rfl | exact ⟨rfl, rfl⟩ | exact ⟨rfl, Nat.le_of_ble_eq_true rfl⟩ | exact Nat.le_of_ble_eq_true rfl | (refine ⟨rfl, rfl, ?_⟩; simp [isFar, ofV0, CV.up, SV.renL, SV.ren] <;> fail) | (refine ⟨rfl, Nat.le_of_ble_eq_true rfl, ?_⟩; simp [isFar, ofV0, CV.up, SV.renL, SV.ren] <;> fail) | (simp <;> fail))); conv => whnf)))
    refine Need.mk bconv_to ?_
    (conv => whnf)
    refine CallVC.same bnoesc ?_
    (conv => whnf)
    refine Need.mk bconv_back ?_
    (conv => whnf)
    (repeat (first | (refine Both.lit_true ?_; conv => whnf) | (refine Both.lit_false ?_; conv => whnf) | (refine Need.mk ?_ ?_; (focus (first | omega | exact ⟨by omega, by omega⟩ | rfl | exact ⟨rfl, rfl⟩ | exact ⟨rfl, Nat.le_of_ble_eq_true rfl⟩ | exact Nat.le_of_ble_eq_true rfl | (refine ⟨rfl, rfl, ?_⟩; simp [isFar, ofV0, CV.up, SV.renL, SV.ren] <;> fail) | (refine ⟨rfl, Nat.le_of_ble_eq_true rfl, ?_⟩; simp [isFar, ofV0, CV.up, SV.renL, SV.ren] <;> fail) | (simp <;> fail))); conv => whnf)))
    exact ⟨_, _, WeakV.refl _ _ _ _, h⟩
  · (refine sx_sound Γok _ ?_; conv => whnf)
    refine ⟨_, rfl, ?_⟩
    (conv => whnf)
    (repeat (first | (refine Both.lit_true ?_; conv => whnf) | (refine Both.lit_false ?_; conv => whnf) | (refine Need.mk ?_ ?_; (focus (first | omega | exact ⟨by omega, by omega⟩ | rfl | exact ⟨rfl, rfl⟩ | exact ⟨rfl, Nat.le_of_ble_eq_true rfl⟩ | exact Nat.le_of_ble_eq_true rfl | (refine ⟨rfl, rfl, ?_⟩; simp [isFar, ofV0, CV.up, SV.renL, SV.ren] <;> fail) | (refine ⟨rfl, Nat.le_of_ble_eq_true rfl, ?_⟩; simp [isFar, ofV0, CV.up, SV.renL, SV.ren] <;> fail) | (simp <;> fail))); conv => whnf)))
    refine ⟨_, rfl, ?_⟩
    (conv => whnf)
    (repeat (first | (refine Both.lit_true ?_; conv => whnf) | (refine Both.lit_false ?_; conv => whnf) | (refine Need.mk ?_ ?_; (focus (first | omega | exact ⟨by omega, by omega⟩ | rfl | exact ⟨rfl, rfl⟩ | exact ⟨rfl, Nat.le_of_ble_eq_true rfl⟩ | exact Nat.le_of_ble_eq_true rfl | (refine ⟨rfl, rfl, ?_⟩; simp [isFar, ofV0, CV.up, SV.renL, SV.ren] <;> fail) | (refine ⟨rfl, Nat.le_of_ble_eq_true rfl, ?_⟩; simp [isFar, ofV0, CV.up, SV.renL, SV.ren] <;> fail) | (simp <;> fail))); conv => whnf)))
    exact ⟨_, _, WeakV.refl _ _ _ _, h⟩
theorem bcopy_k : Contract Tryd.prog [] 62 bcopyS := ⟨⟨⟨_, rfl, rfl, rfl⟩⟩, bcopy_c⟩
def bwbS : Spec := fun args H Q => match args, H with
  | [.ptr 0 0, .int .u8 n], [.cells [.opt 0 0, .own 1] 88, .own 5 1 m xs true] => ∃ (l : List UInt8) (b : UInt8), n = (b.toNat : Int) ∧ xs = bys l ∧ m = l.length ∧ l.length < 1000000000 ∧ Q .any [.cells [.opt 0 0, .own 2] 88, .gone, .own 5 1 (l.length + 1) (bys (l ++ [b])) true]
  | _, _ => False
theorem bwb_c : Meets Tryd.prog [] 50 bwbS := by
  refine meets_of Γok Tryd.func50 rfl ?_
  intro args H Q h
  unfold bwbS at h
  split at h
  case h_2 => exact h.elim
  obtain ⟨l, b, rfl, rfl, rfl, hl, h⟩ := h
  (refine sx_sound Γok _ ?_; conv => whnf)
  all_goals
    refine CallVC.auto bcopy_k ?_
    (conv => whnf)
    (repeat (first | (refine Both.lit_true ?_; conv => whnf) | (refine Both.lit_false ?_; conv => whnf) | (refine Need.mk ?_ ?_; (focus (first | omega | exact ⟨by omega, by omega⟩ | rfl | exact ⟨rfl, rfl⟩ | exact ⟨rfl, Nat.le_of_ble_eq_true rfl⟩ | exact Nat.le_of_ble_eq_true rfl | (refine ⟨rfl, rfl, ?_⟩; simp [isFar, ofV0, CV.up, SV.renL, SV.ren] <;> fail) | (refine ⟨rfl, Nat.le_of_ble_eq_true rfl, ?_⟩; simp [isFar, ofV0, CV.up, SV.renL, SV.ren] <;> fail) | (simp <;> fail))); conv => whnf)))
    refine ⟨_, rfl, ?_⟩
    (conv => whnf)
    (repeat (first | (refine Both.lit_true ?_; conv => whnf) | (refine Both.lit_false ?_; conv => whnf) | (refine Need.mk ?_ ?_; (focus (first | omega | exact ⟨by omega, by omega⟩ | rfl | exact ⟨rfl, rfl⟩ | exact ⟨rfl, Nat.le_of_ble_eq_true rfl⟩ | exact Nat.le_of_ble_eq_true rfl | (refine ⟨rfl, rfl, ?_⟩; simp [isFar, ofV0, CV.up, SV.renL, SV.ren] <;> fail) | (refine ⟨rfl, Nat.le_of_ble_eq_true rfl, ?_⟩; simp [isFar, ofV0, CV.up, SV.renL, SV.ren] <;> fail) | (simp <;> fail))); conv => whnf)))
    refine Need.mk (by rw [show ti5.bytes = 1 from rfl]; omega) ?_
    (conv => whnf)
    (repeat (first | (refine Both.lit_true ?_; conv => whnf) | (refine Both.lit_false ?_; conv => whnf) | (refine Need.mk ?_ ?_; (focus (first | omega | exact ⟨by omega, by omega⟩ | rfl | exact ⟨rfl, rfl⟩ | exact ⟨rfl, Nat.le_of_ble_eq_true rfl⟩ | exact Nat.le_of_ble_eq_true rfl | (refine ⟨rfl, rfl, ?_⟩; simp [isFar, ofV0, CV.up, SV.renL, SV.ren] <;> fail) | (refine ⟨rfl, Nat.le_of_ble_eq_true rfl, ?_⟩; simp [isFar, ofV0, CV.up, SV.renL, SV.ren] <;> fail) | (simp <;> fail))); conv => whnf)))
    refine ⟨_, _, WeakV.to [0, 1, 2] rfl rfl rfl rfl ?_, h⟩
    (repeat' ((conv => whnf); first | exact True.intro | (refine And.intro ?_ ?_)))
    all_goals first | rfl | exact .eq rfl | exact .pt ⟨⟨rfl, rfl⟩, rfl, trivial⟩ | (rw [← bbys_one]; rfl)
theorem bwb_k : Contract Tryd.prog [] 50 bwbS := ⟨⟨⟨_, rfl, rfl, rfl⟩⟩, bwb_c⟩
def bstrS : Spec := fun args H Q => match args, H with
  | [.ptr 0 0], [.cells [.opt 0 0, .own 1] 88, .own 5 1 m xs true] => ∃ (l : List UInt8), xs = bys l ∧ m = l.length ∧ l.length < 1000000000000 ∧ Q (.str l) [.cells [.opt 0 0, .own 1] 88, .gone]
  | _, _ => False
theorem bstr_c : Meets Tryd.prog [] 52 bstrS := by
  refine meets_of Γok Tryd.func52 rfl ?_
  intro args H Q h
  unfold bstrS at h
  split at h
  case h_2 => exact h.elim
  obtain ⟨l, rfl, rfl, hl, h⟩ := h
  cases l with
  | nil =>
    all_goals
      (refine sx_sound Γok _ ?_; conv => whnf)
      refine DrawVC.all Γok (by kernel_rfl) (by kernel_rfl) ?_
      (conv => whnf)
      (repeat (first | (exact Out.same; conv => whnf) | (exact Out1.same; conv => whnf) | (refine QAnd.mk ?_ ?_; conv => whnf) | (apply QStepH.go; conv => whnf) | (refine Both.lit_true ?_; conv => whnf) | (refine Both.lit_false ?_; conv => whnf) | (apply QStep.go; conv => whnf) | (refine Need.mk ?_ ?_; (focus (first | omega | exact ⟨by omega, by omega⟩ | rfl | exact ⟨rfl, rfl⟩ | exact ⟨rfl, Nat.le_of_ble_eq_true rfl⟩ | exact Nat.le_of_ble_eq_true rfl | (refine ⟨rfl, rfl, ?_⟩; simp [isFar, ofV0, CV.up, SV.renL, SV.ren] <;> fail) | (refine ⟨rfl, Nat.le_of_ble_eq_true rfl, ?_⟩; simp [isFar, ofV0, CV.up, SV.renL, SV.ren] <;> fail) | (simp <;> fail))); conv => whnf)))
      (refine ⟨_, rfl, ?_⟩; conv => whnf)
      (repeat (first | (exact Out.same; conv => whnf) | (exact Out1.same; conv => whnf) | (refine QAnd.mk ?_ ?_; conv => whnf) | (apply QStepH.go; conv => whnf) | (refine Both.lit_true ?_; conv => whnf) | (refine Both.lit_false ?_; conv => whnf) | (apply QStep.go; conv => whnf) | (refine Need.mk ?_ ?_; (focus (first | omega | exact ⟨by omega, by omega⟩ | rfl | exact ⟨rfl, rfl⟩ | exact ⟨rfl, Nat.le_of_ble_eq_true rfl⟩ | exact Nat.le_of_ble_eq_true rfl | (refine ⟨rfl, rfl, ?_⟩; simp [isFar, ofV0, CV.up, SV.renL, SV.ren] <;> fail) | (refine ⟨rfl, Nat.le_of_ble_eq_true rfl, ?_⟩; simp [isFar, ofV0, CV.up, SV.renL, SV.ren] <;> fail) | (simp <;> fail))); conv => whnf)))
      (refine ⟨_, rfl, ?_⟩; conv => whnf)
      (repeat (first | (exact Out.same; conv => whnf) | (exact Out1.same; conv => whnf) | (refine QAnd.mk ?_ ?_; conv => whnf) | (apply QStepH.go; conv => whnf) | (refine Both.lit_true ?_; conv => whnf) | (refine Both.lit_false ?_; conv => whnf) | (apply QStep.go; conv => whnf) | (refine Need.mk ?_ ?_; (focus (first | omega | exact ⟨by omega, by omega⟩ | rfl | exact ⟨rfl, rfl⟩ | exact ⟨rfl, Nat.le_of_ble_eq_true rfl⟩ | exact Nat.le_of_ble_eq_true rfl | (refine ⟨rfl, rfl, ?_⟩; simp [isFar, ofV0, CV.up, SV.renL, SV.ren] <;> fail) | (refine ⟨rfl, Nat.le_of_ble_eq_true rfl, ?_⟩; simp [isFar, ofV0, CV.up, SV.renL, SV.ren] <;> fail) | (simp <;> fail))); conv => whnf)))
      refine ⟨_, _, WeakV.to [0, 1] rfl rfl rfl rfl ?_, h⟩
      (repeat' ((conv => whnf); first | exact True.intro | (refine And.intro ?_ ?_)))
      all_goals first | rfl | exact .eq rfl | exact .pt ⟨⟨rfl, rfl⟩, rfl, trivial⟩
  | cons b l =>
    all_goals
      (refine sx_sound Γok _ ?_; conv => whnf)
      refine DrawVC.tail Γok 10 (by kernel_rfl) (by kernel_rfl) ?_
      (conv => whnf)
      (repeat (first | (refine Both.lit_true ?_; conv => whnf) | (refine Both.lit_false ?_; conv => whnf) | (refine Need.mk ?_ ?_; (focus (first | omega | exact ⟨by omega, by omega⟩ | rfl | exact ⟨rfl, rfl⟩ | exact ⟨rfl, Nat.le_of_ble_eq_true rfl⟩ | exact Nat.le_of_ble_eq_true rfl | (refine ⟨rfl, rfl, ?_⟩; simp [isFar, ofV0, CV.up, SV.renL, SV.ren] <;> fail) | (refine ⟨rfl, Nat.le_of_ble_eq_true rfl, ?_⟩; simp [isFar, ofV0, CV.up, SV.renL, SV.ren] <;> fail) | (simp <;> fail))); conv => whnf)))
      (refine ⟨_, rfl, ?_⟩; conv => whnf)
      (repeat (first | (refine Both.lit_true ?_; conv => whnf) | (refine Both.lit_false ?_; conv => whnf) | (refine Need.mk ?_ ?_; (focus (first | omega | exact ⟨by omega, by omega⟩ | rfl | exact ⟨rfl, rfl⟩ | exact ⟨rfl, Nat.le_of_ble_eq_true rfl⟩ | exact Nat.le_of_ble_eq_true rfl | (refine ⟨rfl, rfl, ?_⟩; simp [isFar, ofV0, CV.up, SV.renL, SV.ren] <;> fail) | (refine ⟨rfl, Nat.le_of_ble_eq_true rfl, ?_⟩; simp [isFar, ofV0, CV.up, SV.renL, SV.ren] <;> fail) | (simp <;> fail))); conv => whnf)))
      try (refine Need.mk (Nat.succ_pos _) ?_; conv => whnf)
      (refine ⟨_, rfl, ?_⟩; conv => whnf)
      (repeat (first | (refine Both.lit_true ?_; conv => whnf) | (refine Both.lit_false ?_; conv => whnf) | (refine Need.mk ?_ ?_; (focus (first | omega | exact ⟨by omega, by omega⟩ | rfl | exact ⟨rfl, rfl⟩ | exact ⟨rfl, Nat.le_of_ble_eq_true rfl⟩ | exact Nat.le_of_ble_eq_true rfl | (refine ⟨rfl, rfl, ?_⟩; simp [isFar, ofV0, CV.up, SV.renL, SV.ren] <;> fail) | (refine ⟨rfl, Nat.le_of_ble_eq_true rfl, ?_⟩; simp [isFar, ofV0, CV.up, SV.renL, SV.ren] <;> fail) | (simp <;> fail))); conv => whnf)))
      refine ⟨b :: l, rfl, ?_⟩
      refine Need.mk ⟨rfl, rfl, rfl, rfl, Nat.succ_pos _, by omega, by kernel_rfl⟩ ?_
      (conv => whnf)
      (repeat (first | (refine Both.lit_true ?_; conv => whnf) | (refine Both.lit_false ?_; conv => whnf) | (refine Need.mk ?_ ?_; (focus (first | omega | exact ⟨by omega, by omega⟩ | rfl | exact ⟨rfl, rfl⟩ | exact ⟨rfl, Nat.le_of_ble_eq_true rfl⟩ | exact Nat.le_of_ble_eq_true rfl | (refine ⟨rfl, rfl, ?_⟩; simp [isFar, ofV0, CV.up, SV.renL, SV.ren] <;> fail) | (refine ⟨rfl, Nat.le_of_ble_eq_true rfl, ?_⟩; simp [isFar, ofV0, CV.up, SV.renL, SV.ren] <;> fail) | (simp <;> fail))); conv => whnf)))
      refine ⟨_, _, WeakV.to [0, 1] rfl rfl rfl rfl ?_, h⟩
      (repeat' ((conv => whnf); first | exact True.intro | (refine And.intro ?_ ?_)))
      all_goals first | rfl | exact .eq rfl | exact .pt ⟨⟨rfl, rfl⟩, rfl, trivial⟩
theorem bstr_k : Contract Tryd.prog [] 52 bstrS := ⟨⟨⟨_, rfl, rfl, rfl⟩⟩, bstr_c⟩
def cloneS : Spec := fun args H Q => match args, H with
  | [.str l], [] => Need (l.length ≤ 281474976710656) (Q (.str l) [])
  | _, _ => False
theorem slclone_c : Meets Tryd.prog [] 59 cloneS := by
  refine meets_calls ?_
  intro args H Q h E w vs hv hr
  unfold cloneS at h
  split at h
  case h_2 => exact h.elim
  rename_i l
  obtain ⟨hl, h⟩ := h
  obtain ⟨u, rfl, q1⟩ := vrs_one hv
  cases q1
  exact ⟨.string ⟨l.toArray⟩, _, Tryd.stringslite_Clone ⟨l.toArray⟩ w (by rw [size_mk]; exact hl), fun w' => .str _, h⟩
theorem slclone_k : Contract Tryd.prog [] 59 cloneS := ⟨⟨⟨_, rfl, rfl, rfl⟩⟩, slclone_c⟩
theorem clone_c : Meets Tryd.prog [] 48 cloneS := by
  refine meets_of Γok Tryd.func48 rfl ?_
  intro args H Q h
  unfold cloneS at h
  split at h
  case h_2 => exact h.elim
  obtain ⟨hl, h⟩ := h
  (refine sx_sound Γok _ ?_; conv => whnf)
  refine CallVC.auto slclone_k (Need.mk hl ?_)
  (conv => whnf)
  (repeat (first | (exact Out.same; conv => whnf) | (exact Out1.same; conv => whnf) | (refine QAnd.mk ?_ ?_; conv => whnf) | (apply QStepH.go; conv => whnf) | (refine Both.lit_true ?_; conv => whnf) | (refine Both.lit_false ?_; conv => whnf) | (apply QStep.go; conv => whnf) | (refine Need.au ?_; conv => whnf) | (refine ⟨_, rfl, ?_⟩; conv => whnf)))
  exact ⟨_, _, WeakV.drop rfl, h⟩
theorem clone_k : Contract Tryd.prog [] 48 cloneS := ⟨⟨⟨_, rfl, rfl, rfl⟩⟩, clone_c⟩
theorem shl_u32 (a : BitVec 32) (n : Nat) (h : n ≤ 32) : shlI .u32 (u32 a) (n : Int) = u32 (a <<< n) := by
  unfold shlI
  have : min (n : Int).toNat IntKind.u32.bits = n := by simp [IntKind.bits]; omega
  rw [this, wrap_u32_mod]
  unfold u32
  rw [BitVec.toNat_shiftLeft, Nat.shiftLeft_eq]
  simp
def rotr (x : BitVec 32) (n : Nat) : BitVec 32 := (x <<< (32 - n)) ||| (x >>> n)
theorem rot_k_at : ∀ n : Fin 32, 0 < n.val → bitAnd .u64 (IntKind.u64.wrap (IntKind.i64.wrap (0 - (n.val : Int)))) 31 = ((32 - n.val : Nat) : Int) ∧ IntKind.u64.wrap (32 - ((32 - n.val : Nat) : Int)) = (n.val : Int) := by decide
def rotlS : Spec := fun args H Q => match args, H with
  | [.int .u32 x, .int .i64 k], [] => ∃ (r : BitVec 32) (n : Nat), x = u32 r ∧ k = IntKind.i64.wrap (0 - (n : Int)) ∧ (0 < n ∧ n < 32) ∧ Q (.int .u32 (u32 (rotr r n))) []
  | _, _ => False
theorem rotl_c : Meets Tryd.prog [] 71 rotlS := by
  refine meets_of Γok Tryd.func71 rfl ?_
  intro args H Q h
  unfold rotlS at h
  split at h
  case h_2 => exact h.elim
  obtain ⟨r, n, rfl, rfl, ⟨h1, h2⟩, h⟩ := h
  obtain ⟨q1, q2⟩ := rot_k_at ⟨n, h2⟩ h1
  dsimp only at q1 q2
  have hq : 0 ≤ IntKind.u64.wrap (32 - bitAnd .u64 (IntKind.u64.wrap (IntKind.i64.wrap (0 - (n : Int)))) 31) := by rw [q1, q2]; omega
  have hq0 : 0 ≤ bitAnd .u64 (IntKind.u64.wrap (IntKind.i64.wrap (0 - (n : Int)))) 31 := by rw [q1]; omega
  have hv : bitOr .u32 (shlI .u32 (u32 r) (bitAnd .u64 (IntKind.u64.wrap (IntKind.i64.wrap (0 - (n : Int)))) 31)) (shrI .u32 (u32 r) (IntKind.u64.wrap (32 - bitAnd .u64 (IntKind.u64.wrap (IntKind.i64.wrap (0 - (n : Int)))) 31))) = u32 (rotr r n) := by
    rw [q1, q2, shl_u32 _ _ (by omega), shr_u32 _ _ (by omega), or_u32]
    rfl
  (refine sx_sound Γok _ ?_; conv => whnf)
  (repeat (first | (refine Need.mk hq ?_; conv => whnf) | (refine Need.mk hq0 ?_; conv => whnf) | (exact Out.same; conv => whnf) | (exact Out1.same; conv => whnf) | (refine QAnd.mk ?_ ?_; conv => whnf) | (apply QStepH.go; conv => whnf) | (refine Both.lit_true ?_; conv => whnf) | (refine Both.lit_false ?_; conv => whnf) | (apply QStep.go; conv => whnf) | (refine Need.au ?_; conv => whnf) | (refine ⟨_, rfl, ?_⟩; conv => whnf)))
  exact ⟨_, _, WeakV.drop (congrArg (SV.int .u32) hv), h⟩
theorem rotl_k : Contract Tryd.prog [] 71 rotlS := ⟨⟨⟨_, rfl, rfl, rfl⟩⟩, rotl_c⟩
def turnS : Spec := fun args H Q => match args, H with
  | [.int .u32 x, .int .i64 k], [] => ∃ (r : BitVec 32) (n : Nat), x = u32 r ∧ k = (n : Int) ∧ (0 < n ∧ n < 32) ∧ Q (.int .u32 (u32 (rotr r n))) []
  | _, _ => False
theorem turn_c : Meets Tryd.prog [] 61 turnS := by
  refine meets_of Γok Tryd.func61 rfl ?_
  intro args H Q h
  unfold turnS at h
  split at h
  case h_2 => exact h.elim
  obtain ⟨r, n, rfl, rfl, h1, h⟩ := h
  (refine sx_sound Γok _ ?_; conv => whnf)
  refine CallVC.auto rotl_k ⟨r, n, rfl, rfl, h1, ?_⟩
  (conv => whnf)
  (repeat (first | (exact Out.same; conv => whnf) | (exact Out1.same; conv => whnf) | (refine QAnd.mk ?_ ?_; conv => whnf) | (apply QStepH.go; conv => whnf) | (refine Both.lit_true ?_; conv => whnf) | (refine Both.lit_false ?_; conv => whnf) | (apply QStep.go; conv => whnf) | (refine Need.au ?_; conv => whnf) | (refine ⟨_, rfl, ?_⟩; conv => whnf)))
  exact ⟨_, _, WeakV.drop rfl, h⟩
theorem turn_k : Contract Tryd.prog [] 61 turnS := ⟨⟨⟨_, rfl, rfl, rfl⟩⟩, turn_c⟩
end Go.LX
end
section
set_option maxRecDepth 100000
set_option maxHeartbeats 1000000
set_option autoImplicit false
set_option linter.unusedVariables false
set_option linter.unusedSimpArgs false
namespace Go.LX
open Go.Proofs

abbrev W32 := BitVec 32
def uL (l : List W32) : List SV := l.map fun x => SV.int .u32 (u32 x)
def wd (b : UInt8) : W32 := b.toBitVec.setWidth 32
def be4 (b : List UInt8) : W32 := (((wd (b.getD 0 0) <<< 24) ||| (wd (b.getD 1 0) <<< 16)) ||| (wd (b.getD 2 0) <<< 8)) ||| wd (b.getD 3 0)
def ws0 (s : List UInt8) : Nat → List W32
  | 0 => List.replicate 64 0
  | t + 1 => (ws0 s t).set t (be4 (List.drop (4 * t) (List.take (4 * t + 4) s)))
def sg0 (x : W32) : W32 := (rotr x 7 ^^^ rotr x 18) ^^^ (x >>> 3)
def sg1 (x : W32) : W32 := (rotr x 17 ^^^ rotr x 19) ^^^ (x >>> 10)
def ws1 (s : List UInt8) : Nat → List W32
  | 0 => ws0 s 16
  | k + 1 => (ws1 s k).set (16 + k) (((ws1 s k).getD k 0 + sg0 ((ws1 s k).getD (k + 1) 0)) + (ws1 s k).getD (k + 9) 0 + sg1 ((ws1 s k).getD (k + 14) 0))
def words (s : List UInt8) : List W32 := ws1 s 48
theorem ws0_len (s : List UInt8) : ∀ t, (ws0 s t).length = 64
  | 0 => rfl
  | t + 1 => by rw [ws0, List.length_set, ws0_len s t]
theorem ws1_len (s : List UInt8) : ∀ t, (ws1 s t).length = 64
  | 0 => ws0_len s 16
  | t + 1 => by rw [ws1, List.length_set, ws1_len s t]
theorem uL_get {l : List W32} {i : Nat} (h : i < l.length) : (uL l)[i]? = some (.int .u32 (u32 (l.getD i 0))) := by
  rw [uL, List.getElem?_map, List.getElem?_eq_getElem h, List.getD_eq_getElem?_getD, List.getElem?_eq_getElem h]
  rfl
theorem uL_set (l : List W32) (i : Nat) (x : W32) : (uL l).set i (.int .u32 (u32 x)) = uL (l.set i x) := by
  unfold uL
  rw [List.map_set]
theorem uL_len (l : List W32) : (uL l).length = l.length := by rw [uL, List.length_map]
theorem uL_far (l : List W32) {y : SV} (hy : y ∈ uL l) : isFar y := by
  obtain ⟨x, _, rfl⟩ := List.mem_map.1 hy
  trivial
theorem uL_ren (f : Nat → Option Nat) : ∀ l, SV.renL f (uL l) = uL l
  | [] => rfl
  | x :: r => by
    show SV.renL f (.int .u32 (u32 x) :: uL r) = _
    rw [SV.renL, uL_ren f r]
    rfl
theorem agg_ren (f : Nat → Option Nat) (l : List W32) : SV.ren f (.agg (uL l)) = .agg (uL l) := by rw [SV.ren, uL_ren]
theorem wd_go (b : UInt8) : IntKind.u32.wrap (b.toNat : Int) = u32 (wd b) := by
  have := b.toNat_lt
  rw [wrap_u32_mod]
  unfold u32 wd
  rw [BitVec.toNat_setWidth]
  show _ = (((b.toNat) % 2 ^ 32 : Nat) : Int)
  omega
theorem be4_go (b : List UInt8) : bitOr .u32 (bitOr .u32 (bitOr .u32 (shlI .u32 (IntKind.u32.wrap ((b.getD 0 0).toNat : Int)) 24) (shlI .u32 (IntKind.u32.wrap ((b.getD 1 0).toNat : Int)) 16)) (shlI .u32 (IntKind.u32.wrap ((b.getD 2 0).toNat : Int)) 8)) (IntKind.u32.wrap ((b.getD 3 0).toNat : Int)) = u32 (be4 b) := by
  rw [wd_go, wd_go, wd_go, wd_go, show (24 : Int) = ((24 : Nat) : Int) from rfl, shl_u32 _ _ (by omega), show (16 : Int) = ((16 : Nat) : Int) from rfl, shl_u32 _ _ (by omega), show (8 : Int) = ((8 : Nat) : Int) from rfl, shl_u32 _ _ (by omega), or_u32, or_u32, or_u32]
  rfl
theorem uL_at {l : List W32} {i : Nat} {n : Int} (hn : n = (i : Int)) (h : i < l.length) : (uL l)[0 + n.toNat]? = some (.int .u32 (u32 (l.getD i 0))) := by
  rw [hn, Int.toNat_natCast, Nat.zero_add]
  exact uL_get h
theorem sg_go (x : W32) (a b : W32) (n : Nat) (hn : n ≤ 32) : bitXor .u32 (bitXor .u32 (u32 a) (u32 b)) (shrI .u32 (u32 x) (n : Int)) = u32 ((a ^^^ b) ^^^ (x >>> n)) := by
  rw [shr_u32 _ _ hn, xor_u32, xor_u32]
theorem w1_go (p q x y : W32) : IntKind.u32.wrap (IntKind.u32.wrap (IntKind.u32.wrap (u32 p + bitXor .u32 (bitXor .u32 (u32 (rotr x 7)) (u32 (rotr x 18))) (shrI .u32 (u32 x) 3)) + u32 q) + bitXor .u32 (bitXor .u32 (u32 (rotr y 17)) (u32 (rotr y 19))) (shrI .u32 (u32 y) 10)) = u32 ((p + sg0 x) + q + sg1 y) := by
  have h1 := sg_go x (rotr x 7) (rotr x 18) 3 (by omega)
  have h2 := sg_go y (rotr y 17) (rotr y 19) 10 (by omega)
  have e3 : ((3 : Nat) : Int) = 3 := rfl
  have e10 : ((10 : Nat) : Int) = 10 := rfl
  rw [e3] at h1
  rw [e10] at h2
  rw [h1, h2, add_u32, add_u32, add_u32]
  rfl
theorem normL_back {l : List SV} {k : List SV → Prop} (h : k l) : normL l k := by
  rw [normL_eq]
  exact h
def wordsS : Spec := fun args H Q => match args, H with
  | [.str s], [] => Need (s.length = 64) (Q (.agg (uL (words s))) [])
  | _, _ => False
theorem words_c : Meets Tryd.prog [] 60 wordsS := by
  refine meets_of Γok Tryd.func60 rfl ?_
  intro args H Q h
  unfold wordsS at h
  split at h
  case h_2 => exact h.elim
  rename_i s
  obtain ⟨hs, h⟩ := h
  obtain ⟨zs, hzs⟩ : ∃ zs, uL (List.replicate 64 0) = zs := ⟨_, rfl⟩
  have hzl : zs.length = 64 := by rw [← hzs, uL_len]; rfl
  (refine sx_sound Γok _ ?_; conv => whnf)
  (repeat (first | (exact Out.same; conv => whnf) | (exact Out1.same; conv => whnf) | (refine QAnd.mk ?_ ?_; conv => whnf) | (apply QStepH.go; conv => whnf) | (refine Both.lit_true ?_; conv => whnf) | (refine Both.lit_false ?_; conv => whnf) | (apply QStep.go; conv => whnf) | (refine Need.au ?_; conv => whnf) | (refine ⟨_, rfl, ?_⟩; conv => whnf)))
  refine loop_rule (fun t : Nat => ⟨[.str s, .any, .ptr 0 0, .ptr 1 0, .any, .any, .any, .any, .any, .int .i64 (t : Int), .any, .any, .any, .any, .any, .any, .any, .any, .any, .any, .any, .any, .any, .any, .any, .any, .any, .any, .any, .any, .any, .any, .any, .any, .any, .any, .any, .any, .any, .any, .any, .any, .any, .any, .any, .any, .any, .any, .any, .any, .any, .any, .any, .any, .any, .any, .any, .any, .any, .any, .any, .any, .any, .any, .any, .any, .any, .any, .any, .any, .any, .any, .any, .any, .any, .any, .any, .any, .any, .any, .any, .any], [.cells zs 98, .cells (uL (ws0 s t)) 98]⟩) (fun t => t ≤ 16) (fun t => 16 - t) 0 (by omega) (Weak.auto ?_) ?_
  · (repeat' ((conv => whnf); first | exact True.intro | (refine And.intro ?_ ?_)))
    all_goals first | rfl | exact .eq rfl | exact .eq hzs
  intro t ht
  have hwl := ws0_len s t
  (refine sx_sound Γok _ ?_; conv => whnf)
  (repeat (first | (exact Out.same; conv => whnf) | (exact Out1.same; conv => whnf) | (refine QAnd.mk ?_ ?_; conv => whnf) | (apply QStepH.go; conv => whnf) | (refine Both.lit_true ?_; conv => whnf) | (refine Both.lit_false ?_; conv => whnf) | (apply QStep.go; conv => whnf) | (refine Need.au ?_; conv => whnf) | (refine ⟨_, rfl, ?_⟩; conv => whnf)))
  refine Both.dec (fun hlt => ?_) (fun hge => ?_)
  · have ht16 : t < 16 := by omega
    have h4 : IntKind.i64.wrap (4 * (t : Int)) = ((4 * t : Nat) : Int) := by rw [wrap_i64 (by omega) (by omega)]; omega
    have h44 : IntKind.i64.wrap (((4 * t : Nat) : Int) + 4) = ((4 * t + 4 : Nat) : Int) := by rw [wrap_i64 (by omega) (by omega)]; omega
    have hwr : IntKind.i64.wrap ((t : Int) + 1) = ((t + 1 : Nat) : Int) := by rw [wrap_i64 (by omega) (by omega)]; rfl
    (conv => whnf)
    (repeat (first | (exact Out.same; conv => whnf) | (exact Out1.same; conv => whnf) | (refine QAnd.mk ?_ ?_; conv => whnf) | (apply QStepH.go; conv => whnf) | (refine Both.lit_true ?_; conv => whnf) | (refine Both.lit_false ?_; conv => whnf) | (apply QStep.go; conv => whnf) | (refine Need.au ?_; conv => whnf) | (refine ⟨_, rfl, ?_⟩; conv => whnf)))
    rw [h4, h44]
    (repeat (first | (exact Out.same; conv => whnf) | (exact Out1.same; conv => whnf) | (refine QAnd.mk ?_ ?_; conv => whnf) | (apply QStepH.go; conv => whnf) | (refine Both.lit_true ?_; conv => whnf) | (refine Both.lit_false ?_; conv => whnf) | (apply QStep.go; conv => whnf) | (refine Need.au ?_; conv => whnf) | (refine ⟨_, rfl, ?_⟩; conv => whnf)))
    obtain ⟨b, hb⟩ : ∃ b, List.drop (((4 * t : Nat) : Int)).toNat (List.take (((4 * t + 4 : Nat) : Int)).toNat s) = b := ⟨_, rfl⟩
    have hb' : List.drop (4 * t) (List.take (4 * t + 4) s) = b := hb
    have hbl : b.length = 4 := by rw [← hb', List.length_drop, List.length_take]; omega
    have hset : (uL (ws0 s t)).set (0 + ((t : Int)).toNat) (.int .u32 (bitOr .u32 (bitOr .u32 (bitOr .u32 (shlI .u32 (IntKind.u32.wrap ((b.getD 0 0).toNat : Int)) 24) (shlI .u32 (IntKind.u32.wrap ((b.getD 1 0).toNat : Int)) 16)) (shlI .u32 (IntKind.u32.wrap ((b.getD 2 0).toNat : Int)) 8)) (IntKind.u32.wrap ((b.getD 3 0).toNat : Int)))) = uL (ws0 s (t + 1)) := by
      rw [be4_go, ws0, hb', ← uL_set]
      congr 1
      omega
    have hul : 0 + ((t : Int)).toNat < (uL (ws0 s t)).length := by rw [uL_len, hwl]; omega
    have hul2 : (1 : Nat) = 1 ∧ 0 + ((t : Int)).toNat < (uL (ws0 s t)).length := ⟨rfl, hul⟩
    rw [hb]
    clear hb
    (refine DrawVC.any Γok (by kernel_rfl) (by kernel_rfl) (by kernel_rfl) (by rfl) ?_; conv => whnf)
    (repeat (first | (refine Need.mk hul ?_; conv => whnf) | (refine Need.mk hul2 ?_; conv => whnf) | (exact Out.same; conv => whnf) | (exact Out1.same; conv => whnf) | (refine QAnd.mk ?_ ?_; conv => whnf) | (apply QStepH.go; conv => whnf) | (refine Both.lit_true ?_; conv => whnf) | (refine Both.lit_false ?_; conv => whnf) | (apply QStep.go; conv => whnf) | (refine Need.au ?_; conv => whnf) | (refine ⟨_, rfl, ?_⟩; conv => whnf)))
    refine ⟨t + 1, by omega, by omega, Weak.le ?_ ?_⟩
    · (repeat' ((conv => whnf); first | exact True.intro | (refine And.intro ?_ ?_)))
      all_goals first | rfl | exact .eq rfl | exact congrArg (SV.int .i64) hwr | trace_state
    · (repeat' ((conv => whnf); first | exact True.intro | (refine And.intro ?_ ?_)))
      all_goals first | exact .eq hset | rfl | exact .eq rfl | trace_state
  have ht16 : t = 16 := by omega
  subst ht16
  (conv => whnf)
  (repeat (first | (exact Out.same; conv => whnf) | (exact Out1.same; conv => whnf) | (refine QAnd.mk ?_ ?_; conv => whnf) | (apply QStepH.go; conv => whnf) | (refine Both.lit_true ?_; conv => whnf) | (refine Both.lit_false ?_; conv => whnf) | (apply QStep.go; conv => whnf) | (refine Need.au ?_; conv => whnf) | (refine ⟨_, rfl, ?_⟩; conv => whnf)))
  refine loop_rule (fun k : Nat => ⟨[.any, .any, .ptr 0 0, .ptr 1 0, .any, .any, .int .i64 ((16 + k : Nat) : Int), .any, .any, .any, .any, .any, .any, .any, .any, .any, .any, .any, .any, .any, .any, .any, .any, .any, .any, .any, .any, .any, .any, .any, .any, .any, .any, .any, .any, .any, .any, .any, .any, .any, .any, .any, .any, .any, .any, .any, .any, .any, .any, .any, .any, .any, .any, .any, .any, .any, .any, .any, .any, .any, .any, .any, .any, .any, .any, .any, .any, .any, .any, .any, .any, .any, .any, .any, .any, .any, .any, .any, .any, .any, .any, .any], [.cells zs 98, .cells (uL (ws1 s k)) 98]⟩) (fun k => k ≤ 48) (fun k => 48 - k) 0 (by omega) (Weak.le ?_ ?_) ?_
  · (repeat' ((conv => whnf); first | exact True.intro | (refine And.intro ?_ ?_)))
    all_goals first | rfl | exact .eq rfl
  · (repeat' ((conv => whnf); first | exact True.intro | (refine And.intro ?_ ?_)))
    all_goals first | rfl | exact .eq rfl
  intro k hk
  have hwl := ws1_len s k
  (refine sx_sound Γok _ ?_; conv => whnf)
  (repeat (first | (exact Out.same; conv => whnf) | (exact Out1.same; conv => whnf) | (refine QAnd.mk ?_ ?_; conv => whnf) | (apply QStepH.go; conv => whnf) | (refine Both.lit_true ?_; conv => whnf) | (refine Both.lit_false ?_; conv => whnf) | (apply QStep.go; conv => whnf) | (refine Need.au ?_; conv => whnf) | (refine ⟨_, rfl, ?_⟩; conv => whnf)))
  refine Both.dec (fun hlt => ?_) (fun hge => ?_)
  · have hk48 : k < 48 := by omega
    have hwr : IntKind.i64.wrap (((16 + k : Nat) : Int) + 1) = ((16 + (k + 1) : Nat) : Int) := by rw [wrap_i64 (by omega) (by omega)]; omega
    have i15 : IntKind.i64.wrap (((16 + k : Nat) : Int) - 15) = ((k + 1 : Nat) : Int) := by rw [wrap_i64 (by omega) (by omega)]; omega
    have i2 : IntKind.i64.wrap (((16 + k : Nat) : Int) - 2) = ((k + 14 : Nat) : Int) := by rw [wrap_i64 (by omega) (by omega)]; omega
    have i16 : IntKind.i64.wrap (((16 + k : Nat) : Int) - 16) = ((k : Nat) : Int) := by rw [wrap_i64 (by omega) (by omega)]; omega
    have i7 : IntKind.i64.wrap (((16 + k : Nat) : Int) - 7) = ((k + 9 : Nat) : Int) := by rw [wrap_i64 (by omega) (by omega)]; omega
    (conv => whnf)
    (repeat (first | (exact Out.same; conv => whnf) | (exact Out1.same; conv => whnf) | (refine QAnd.mk ?_ ?_; conv => whnf) | (apply QStepH.go; conv => whnf) | (refine Both.lit_true ?_; conv => whnf) | (refine Both.lit_false ?_; conv => whnf) | (apply QStep.go; conv => whnf) | (refine Need.au ?_; conv => whnf) | (refine ⟨_, rfl, ?_⟩; conv => whnf)))
    have g15 := uL_at (l := ws1 s k) i15 (by omega)
    have g2 := uL_at (l := ws1 s k) i2 (by omega)
    have g16 := uL_at (l := ws1 s k) i16 (by omega)
    have g7 := uL_at (l := ws1 s k) i7 (by omega)
    have hws : ws1 s (k + 1) = (ws1 s k).set (16 + k) (((ws1 s k).getD k 0 + sg0 ((ws1 s k).getD (k + 1) 0)) + (ws1 s k).getD (k + 9) 0 + sg1 ((ws1 s k).getD (k + 14) 0)) := rfl
    have hix : 0 + (((16 + k : Nat) : Int)).toNat = 16 + k := by omega
    revert g15 g2 g16 g7 hws
    generalize (ws1 s k).getD (k + 1) 0 = x
    generalize (ws1 s k).getD (k + 14) 0 = y
    generalize (ws1 s k).getD k 0 = p
    generalize (ws1 s k).getD (k + 9) 0 = q
    generalize ws1 s k = ws at hwl ⊢
    intro g15 g2 g16 g7 hws
    have hul2 : (1 : Nat) = 1 ∧ 0 + (((16 + k : Nat) : Int)).toNat < (uL ws).length := ⟨rfl, by rw [uL_len, hwl]; omega⟩
    have hset : (uL ws).set (0 + (((16 + k : Nat) : Int)).toNat) (.int .u32 (IntKind.u32.wrap (IntKind.u32.wrap (IntKind.u32.wrap (u32 p + bitXor .u32 (bitXor .u32 (u32 (rotr x 7)) (u32 (rotr x 18))) (shrI .u32 (u32 x) 3)) + u32 q) + bitXor .u32 (bitXor .u32 (u32 (rotr y 17)) (u32 (rotr y 19))) (shrI .u32 (u32 y) 10)))) = uL (ws1 s (k + 1)) := by
      rw [w1_go, hix, uL_set, hws]
    (refine DrawVC.any Γok (by kernel_rfl) (by kernel_rfl) (by kernel_rfl) (by rfl) ?_; conv => whnf)
    (repeat (first | (refine ⟨_, g15, ?_⟩; conv => whnf) | (refine ⟨_, g2, ?_⟩; conv => whnf) | (exact Out.same; conv => whnf) | (exact Out1.same; conv => whnf) | (refine QAnd.mk ?_ ?_; conv => whnf) | (apply QStepH.go; conv => whnf) | (refine Both.lit_true ?_; conv => whnf) | (refine Both.lit_false ?_; conv => whnf) | (apply QStep.go; conv => whnf) | (refine Need.au ?_; conv => whnf) | (refine ⟨_, rfl, ?_⟩; conv => whnf)))
    (refine DrawVC.any Γok (by kernel_rfl) (by kernel_rfl) (by kernel_rfl) (by rfl) ?_; conv => whnf)
    (repeat (first | (refine normL_back ?_; conv => whnf) | (refine ⟨_, g16, ?_⟩; conv => whnf) | (refine ⟨_, g7, ?_⟩; conv => whnf) | (refine Need.mk hul2 ?_; conv => whnf) | (refine CallVC.auto turn_k ⟨_, 7, rfl, rfl, ⟨by decide, by decide⟩, ?_⟩; conv => whnf) | (refine CallVC.auto turn_k ⟨_, 18, rfl, rfl, ⟨by decide, by decide⟩, ?_⟩; conv => whnf) | (refine CallVC.auto turn_k ⟨_, 17, rfl, rfl, ⟨by decide, by decide⟩, ?_⟩; conv => whnf) | (refine CallVC.auto turn_k ⟨_, 19, rfl, rfl, ⟨by decide, by decide⟩, ?_⟩; conv => whnf) | (exact Out.same; conv => whnf) | (exact Out1.same; conv => whnf) | (refine QAnd.mk ?_ ?_; conv => whnf) | (apply QStepH.go; conv => whnf) | (refine Both.lit_true ?_; conv => whnf) | (refine Both.lit_false ?_; conv => whnf) | (apply QStep.go; conv => whnf) | (refine Need.au ?_; conv => whnf) | (refine ⟨_, rfl, ?_⟩; conv => whnf)))
    refine ⟨k + 1, by omega, by omega, Weak.le ?_ ?_⟩
    · (repeat' ((conv => whnf); first | exact True.intro | (refine And.intro ?_ ?_)))
      all_goals first | rfl | exact .eq rfl | exact congrArg (SV.int .i64) hwr | trace_state
    · (repeat' ((conv => whnf); first | exact True.intro | (refine And.intro ?_ ?_)))
      all_goals first | exact .eq hset | rfl | exact .eq rfl | trace_state
  have hk48 : k = 48 := by omega
  have h : Q (.agg (uL (ws1 s k))) [] := by rw [hk48]; exact h
  revert h hwl
  generalize ws1 s k = wf
  intro hwl h
  have hlw : (uL wf).length = ti98.size := by rw [uL_len]; exact hwl
  (conv => whnf)
  have hst : (uL wf).length = ti98.size ∧ zs.length = ti98.size ∧ ∀ y, y ∈ uL wf → isFar y := ⟨hlw, hzl, fun y hy => uL_far _ hy⟩
  (repeat (first | (refine Need.mk hlw ?_; conv => whnf) | (refine Need.mk hst ?_; conv => whnf) | (exact Out.same; conv => whnf) | (exact Out1.same; conv => whnf) | (refine QAnd.mk ?_ ?_; conv => whnf) | (apply QStepH.go; conv => whnf) | (refine Both.lit_true ?_; conv => whnf) | (refine Both.lit_false ?_; conv => whnf) | (apply QStep.go; conv => whnf) | (refine Need.au ?_; conv => whnf) | (refine ⟨_, rfl, ?_⟩; conv => whnf)))
  exact ⟨.agg (uL wf), _, WeakV.drop (agg_ren _ wf), h⟩
theorem words_k : Contract Tryd.prog [] 60 wordsS := ⟨⟨⟨_, rfl, rfl, rfl⟩⟩, words_c⟩
end Go.LX
end
section
set_option maxRecDepth 100000
set_option maxHeartbeats 1000000
set_option autoImplicit false
set_option linter.unusedVariables false
set_option linter.unusedSimpArgs false
namespace Go.LX
open Go.Proofs

theorem CallVC.pure {P : Program} {G : Gl} {N : Nat} {f : FuncId} {args : List Operand} {dst : Option Tmp} {s : LS} {k : LS → Prop} {S : Spec} (hc : Contract P G f S) (x : SV)
    (hS : ∀ Q : SV → List LObj → Prop, Q x [] → S (evL G s args) [] Q) (hr : SV.renL (fun i => pos [] i 0) (evL G s args) = evL G s args) (hx : ∀ g, x.ren g = x) (h : LS.put s dst x k) : CallVC P G N f args dst s k := by
  refine .of [] hc ?_
  unfold callK
  have h1 : nodupB [] = true := rfl
  have h2 : allLt s.h.length [] = true := rfl
  rw [h1, h2]
  show lenK' s.h 0 _
  rw [lenK'_eq, Nat.zero_add, litK_eq, normL_eq, normH_eq, hr]
  refine hS _ ?_
  rw [normH_eq, normK_eq, hx]
  have h3 : ∀ n, mergeN n s.h [] [] = s.h := fun n => by
    unfold mergeN
    simp [setAll]
  rw [h3]
  exact h
end Go.LX
end
section
set_option maxRecDepth 100000
set_option maxHeartbeats 2000000
set_option autoImplicit false
set_option linter.unusedVariables false
set_option linter.unusedSimpArgs false
namespace Go.LX
open Go.Proofs

def kT : List W32 := [0x428a2f98#32, 0x71374491#32, 0xb5c0fbcf#32, 0xe9b5dba5#32, 0x3956c25b#32, 0x59f111f1#32, 0x923f82a4#32, 0xab1c5ed5#32, 0xd807aa98#32, 0x12835b01#32, 0x243185be#32, 0x550c7dc3#32, 0x72be5d74#32, 0x80deb1fe#32, 0x9bdc06a7#32, 0xc19bf174#32, 0xe49b69c1#32, 0xefbe4786#32, 0x0fc19dc6#32, 0x240ca1cc#32, 0x2de92c6f#32, 0x4a7484aa#32, 0x5cb0a9dc#32, 0x76f988da#32, 0x983e5152#32, 0xa831c66d#32, 0xb00327c8#32, 0xbf597fc7#32, 0xc6e00bf3#32, 0xd5a79147#32, 0x06ca6351#32, 0x14292967#32, 0x27b70a85#32, 0x2e1b2138#32, 0x4d2c6dfc#32, 0x53380d13#32, 0x650a7354#32, 0x766a0abb#32, 0x81c2c92e#32, 0x92722c85#32, 0xa2bfe8a1#32, 0xa81a664b#32, 0xc24b8b70#32, 0xc76c51a3#32, 0xd192e819#32, 0xd6990624#32, 0xf40e3585#32, 0x106aa070#32, 0x19a4c116#32, 0x1e376c08#32, 0x2748774c#32, 0x34b0bcb5#32, 0x391c0cb3#32, 0x4ed8aa4a#32, 0x5b9cca4f#32, 0x682e6ff3#32, 0x748f82ee#32, 0x78a5636f#32, 0x84c87814#32, 0x8cc70208#32, 0x90befffa#32, 0xa4506ceb#32, 0xbef9a3f7#32, 0xc67178f2#32]
def kcs : List CV := kT.map fun x => CV.int .u32 (u32 x)
def KAt (y0 : CV) (cs0 : List CV) : Prop := ∀ t, t < 64 → (y0 :: cs0)[((t : Nat) : Int).toNat]? = some (.int .u32 (u32 (kT.getD t 0)))
structure St where
  a : W32
  b : W32
  c : W32
  d : W32
  e : W32
  f : W32
  g : W32
  h : W32
def rT1 (v : St) (k w : W32) : W32 := (((v.h + ((rotr v.e 6 ^^^ rotr v.e 11) ^^^ rotr v.e 25)) + ((v.e &&& v.f) ^^^ (~~~v.e &&& v.g))) + k) + w
def rT2 (v : St) : W32 := ((rotr v.a 2 ^^^ rotr v.a 13) ^^^ rotr v.a 22) + (((v.a &&& v.b) ^^^ (v.a &&& v.c)) ^^^ (v.b &&& v.c))
def St.round (v : St) (k w : W32) : St := ⟨rT1 v k w + rT2 v, v.a, v.b, v.c, v.d + rT1 v k w, v.e, v.f, v.g⟩
def St.rounds (v : St) (ws : List W32) : Nat → St
  | 0 => v
  | t + 1 => (v.rounds ws t).round (kT.getD t 0) (ws.getD t 0)
def St.plus (v x : St) : St := ⟨v.a + x.a, v.b + x.b, v.c + x.c, v.d + x.d, v.e + x.e, v.f + x.f, v.g + x.g, v.h + x.h⟩
def St.mix (v : St) (s : List UInt8) : St := v.plus (v.rounds (words s) 64)
theorem t1_go (e f g h k w : W32) : IntKind.u32.wrap (IntKind.u32.wrap (IntKind.u32.wrap (IntKind.u32.wrap (u32 h + bitXor .u32 (bitXor .u32 (u32 (rotr e 6)) (u32 (rotr e 11))) (u32 (rotr e 25))) + bitXor .u32 (bitAnd .u32 (u32 e) (u32 f)) (bitAnd .u32 (bitNot .u32 (u32 e)) (u32 g))) + u32 k) + u32 w) = u32 ((((h + ((rotr e 6 ^^^ rotr e 11) ^^^ rotr e 25)) + ((e &&& f) ^^^ (~~~e &&& g))) + k) + w) := by
  simp only [xor_u32, and_u32, not_u32, add_u32]
theorem t2_go (a b c : W32) : IntKind.u32.wrap (bitXor .u32 (bitXor .u32 (u32 (rotr a 2)) (u32 (rotr a 13))) (u32 (rotr a 22)) + bitXor .u32 (bitXor .u32 (bitAnd .u32 (u32 a) (u32 b)) (bitAnd .u32 (u32 a) (u32 c))) (bitAnd .u32 (u32 b) (u32 c))) = u32 (((rotr a 2 ^^^ rotr a 13) ^^^ rotr a 22) + (((a &&& b) ^^^ (a &&& c)) ^^^ (b &&& c))) := by
  simp only [xor_u32, and_u32, not_u32, add_u32]
theorem k_at {t : Nat} (h : t < 64) : kcs[((t : Nat) : Int).toNat]? = some (.int .u32 (u32 (kT.getD t 0))) := by
  rw [Int.toNat_natCast, kcs, List.getElem?_map, List.getD_eq_getElem?_getD, List.getElem?_eq_getElem (show t < kT.length from h)]
  rfl
def hsh (v : St) (r : List UInt8) (n : Int) : LObj := .cells [.int .u32 (u32 v.a), .int .u32 (u32 v.b), .int .u32 (u32 v.c), .int .u32 (u32 v.d), .int .u32 (u32 v.e), .int .u32 (u32 v.f), .int .u32 (u32 v.g), .int .u32 (u32 v.h), .str r, .int .i64 n] 85
def sel (i n : Nat) (x y : W32) : W32 := if i < n then x + y else x
theorem sel_go (i : Nat) (x y : W32) : IntKind.u32.wrap (u32 (sel i i x y) + u32 y) = u32 (sel i (i + 1) x y) := by
  rw [sel, if_neg (Nat.lt_irrefl i), sel, if_pos (Nat.lt_succ_self i), add_u32]
def mixS : Spec := fun args H Q => match args, H with
  | [.ptr 0 0, .str s], [.cells [.int .u32 x0, .int .u32 x1, .int .u32 x2, .int .u32 x3, .int .u32 x4, .int .u32 x5, .int .u32 x6, .int .u32 x7, .str r, .int .i64 n] 85] => ∃ v : St, (x0 = u32 v.a ∧ x1 = u32 v.b ∧ x2 = u32 v.c ∧ x3 = u32 v.d ∧ x4 = u32 v.e ∧ x5 = u32 v.f ∧ x6 = u32 v.g ∧ x7 = u32 v.h) ∧ s.length = 64 ∧ Q (.tuple []) [hsh (v.mix s) r n]
  | _, _ => False
theorem mix_c {y0 : CV} {cs0 : List CV} (hK : KAt y0 cs0) : Meets Tryd.prog [(0, y0 :: cs0)] 49 mixS := by
  refine meets_of Γok Tryd.func49 rfl ?_
  intro args H Q h
  unfold mixS at h
  split at h
  case h_2 => exact h.elim
  rename_i s x0 x1 x2 x3 x4 x5 x6 x7 r n
  obtain ⟨v, ⟨rfl, rfl, rfl, rfl, rfl, rfl, rfl, rfl⟩, hs, h⟩ := h
  have hwl : (words s).length = 64 := ws1_len s 48
  have hcut : s.length = 64 := hs
  unfold St.mix at h
  (refine sx_sound Γok _ ?_; conv => whnf)
  refine CallVC.auto (words_k.gl (G := [(0, y0 :: cs0)])) (Need.mk hs ?_)
  revert h hwl
  generalize words s = ws
  intro h hwl
  have hlw : (uL ws).length = ti98.size := by rw [uL_len]; exact hwl
  (conv => whnf)
  (repeat (first | (refine normL_back ?_; conv => whnf) | (exact Out.same; conv => whnf) | (exact Out1.same; conv => whnf) | (refine QAnd.mk ?_ ?_; conv => whnf) | (apply QStepH.go; conv => whnf) | (refine Both.lit_true ?_; conv => whnf) | (refine Both.lit_false ?_; conv => whnf) | (apply QStep.go; conv => whnf) | (refine Need.au ?_; conv => whnf) | (refine ⟨_, rfl, ?_⟩; conv => whnf)))
  rw [uL_ren]
  refine Need.mk ⟨hlw, rfl, fun y hy => uL_far _ hy⟩ ?_
  (conv => whnf)
  (repeat (first | (exact Out.same; conv => whnf) | (exact Out1.same; conv => whnf) | (refine QAnd.mk ?_ ?_; conv => whnf) | (apply QStepH.go; conv => whnf) | (refine Both.lit_true ?_; conv => whnf) | (refine Both.lit_false ?_; conv => whnf) | (apply QStep.go; conv => whnf) | (refine Need.au ?_; conv => whnf) | (refine ⟨_, rfl, ?_⟩; conv => whnf)))
  refine loop_rule (fun x : Nat × W32 × W32 × W32 × W32 × W32 × W32 × W32 × W32 => match x with | (t, a, b, c, d, e, f, g, hh) => ⟨[.ptr 0 0, .any, .any, .any, .ptr 1 0, .ptr 2 0, .any, .any, .any, .any, .any, .any, .any, .any, .any, .any, .any, .any, .int .i64 (t : Int), .any, .any, .any, .any, .any, .any, .any, .any, .any, .any, .any, .any, .any, .any, .any, .any, .any, .any, .any, .any, .any, .any, .any, .any, .any, .any, .any, .any, .any, .any, .any, .any, .any, .any, .any, .any, .any, .any, .any, .any, .any, .any, .any, .any, .any, .any, .any, .any, .any, .any, .any, .any, .any, .any, .any, .any, .any, .any, .any, .any, .any, .any, .any, .any, .any, .any, .any, .any, .any, .any, .any, .any, .any, .any, .any, .any, .any, .any, .any, .any, .any, .any, .any, .any, .any, .any, .any, .any, .any, .any], [hsh v r n, .cells (uL ws) 98, .cells [.int .u32 (u32 a), .int .u32 (u32 b), .int .u32 (u32 c), .int .u32 (u32 d), .int .u32 (u32 e), .int .u32 (u32 f), .int .u32 (u32 g), .int .u32 (u32 hh)] 80]⟩) (fun x => match x with | (t, a, b, c, d, e, f, g, hh) => t ≤ 64 ∧ (⟨a, b, c, d, e, f, g, hh⟩ : St) = v.rounds ws t) (fun x => 64 - x.1) (0, v.a, v.b, v.c, v.d, v.e, v.f, v.g, v.h) ⟨by omega, rfl⟩ (Weak.le ?_ ?_) ?_
  · (repeat' ((conv => whnf); first | exact True.intro | (refine And.intro ?_ ?_)))
    all_goals first | rfl | exact .eq rfl
  · (repeat' ((conv => whnf); first | exact True.intro | (refine And.intro ?_ ?_)))
    all_goals first | rfl | exact .eq rfl
  rintro ⟨t, a, b, c, d, e, f, g, hh⟩ ⟨ht, hq⟩

  (refine sx_sound Γok _ ?_; conv => whnf)
  (repeat (first | (exact Out.same; conv => whnf) | (exact Out1.same; conv => whnf) | (refine QAnd.mk ?_ ?_; conv => whnf) | (apply QStepH.go; conv => whnf) | (refine Both.lit_true ?_; conv => whnf) | (refine Both.lit_false ?_; conv => whnf) | (apply QStep.go; conv => whnf) | (refine Need.au ?_; conv => whnf) | (refine ⟨_, rfl, ?_⟩; conv => whnf)))
  refine Both.dec (fun hlt => ?_) (fun hge => ?_)
  · have ht64 : t < 64 := by omega
    have hwr : IntKind.i64.wrap ((t : Int) + 1) = ((t + 1 : Nat) : Int) := by rw [wrap_i64 (by omega) (by omega)]; rfl
    have hk := hK t ht64
    have hw := uL_at (l := ws) (n := (t : Int)) rfl (by omega)
    have hq1 : v.rounds ws (t + 1) = (⟨a, b, c, d, e, f, g, hh⟩ : St).round (kT.getD t 0) (ws.getD t 0) := by rw [hq]; rfl
    clear hq
    revert hk hw hq1
    generalize kT.getD t 0 = kk
    generalize ws.getD t 0 = ww
    intro hk hw hq1
    have c0 := t1_go e f g hh kk ww
    have c1 := t2_go a b c
    (conv => whnf)
    (repeat (first | (exact Out.same; conv => whnf) | (exact Out1.same; conv => whnf) | (refine QAnd.mk ?_ ?_; conv => whnf) | (apply QStepH.go; conv => whnf) | (refine Both.lit_true ?_; conv => whnf) | (refine Both.lit_false ?_; conv => whnf) | (apply QStep.go; conv => whnf) | (refine Need.au ?_; conv => whnf) | (refine ⟨_, rfl, ?_⟩; conv => whnf)))
    (refine DrawVC.any Γok (by kernel_rfl) (by kernel_rfl) (by kernel_rfl) (by rfl) ?_; conv => whnf)
    (repeat (first | (exact Out.same; conv => whnf) | (exact Out1.same; conv => whnf) | (refine QAnd.mk ?_ ?_; conv => whnf) | (apply QStepH.go; conv => whnf) | (refine Both.lit_true ?_; conv => whnf) | (refine Both.lit_false ?_; conv => whnf) | (apply QStep.go; conv => whnf) | (refine Need.au ?_; conv => whnf) | (refine ⟨_, rfl, ?_⟩; conv => whnf)))
    (refine DrawVC.any Γok (by kernel_rfl) (by kernel_rfl) (by kernel_rfl) (by rfl) ?_; conv => whnf)
    (repeat (first | (refine normL_back ?_; conv => whnf) | (refine ⟨_, hk, ?_⟩; conv => whnf) | (refine ⟨_, hw, ?_⟩; conv => whnf) | (refine CallVC.pure (turn_k.gl (G := [(0, y0 :: cs0)])) (.int .u32 (u32 (rotr _ 6))) (fun Q h => ⟨_, 6, rfl, rfl, ⟨by decide, by decide⟩, h⟩) rfl (fun g => rfl) ?_; conv => whnf) | (refine CallVC.pure (turn_k.gl (G := [(0, y0 :: cs0)])) (.int .u32 (u32 (rotr _ 11))) (fun Q h => ⟨_, 11, rfl, rfl, ⟨by decide, by decide⟩, h⟩) rfl (fun g => rfl) ?_; conv => whnf) | (refine CallVC.pure (turn_k.gl (G := [(0, y0 :: cs0)])) (.int .u32 (u32 (rotr _ 25))) (fun Q h => ⟨_, 25, rfl, rfl, ⟨by decide, by decide⟩, h⟩) rfl (fun g => rfl) ?_; conv => whnf) | (exact Out.same; conv => whnf) | (exact Out1.same; conv => whnf) | (refine QAnd.mk ?_ ?_; conv => whnf) | (apply QStepH.go; conv => whnf) | (refine Both.lit_true ?_; conv => whnf) | (refine Both.lit_false ?_; conv => whnf) | (apply QStep.go; conv => whnf) | (refine Need.au ?_; conv => whnf) | (refine ⟨_, rfl, ?_⟩; conv => whnf)))
    (refine DrawVC.any Γok (by kernel_rfl) (by kernel_rfl) (by kernel_rfl) (by rfl) ?_; conv => whnf)
    (repeat (first | (refine normL_back ?_; conv => whnf) | (refine CallVC.pure (turn_k.gl (G := [(0, y0 :: cs0)])) (.int .u32 (u32 (rotr _ 2))) (fun Q h => ⟨_, 2, rfl, rfl, ⟨by decide, by decide⟩, h⟩) rfl (fun g => rfl) ?_; conv => whnf) | (refine CallVC.pure (turn_k.gl (G := [(0, y0 :: cs0)])) (.int .u32 (u32 (rotr _ 13))) (fun Q h => ⟨_, 13, rfl, rfl, ⟨by decide, by decide⟩, h⟩) rfl (fun g => rfl) ?_; conv => whnf) | (refine CallVC.pure (turn_k.gl (G := [(0, y0 :: cs0)])) (.int .u32 (u32 (rotr _ 22))) (fun Q h => ⟨_, 22, rfl, rfl, ⟨by decide, by decide⟩, h⟩) rfl (fun g => rfl) ?_; conv => whnf) | (exact Out.same; conv => whnf) | (exact Out1.same; conv => whnf) | (refine QAnd.mk ?_ ?_; conv => whnf) | (apply QStepH.go; conv => whnf) | (refine Both.lit_true ?_; conv => whnf) | (refine Both.lit_false ?_; conv => whnf) | (apply QStep.go; conv => whnf) | (refine Need.au ?_; conv => whnf) | (refine ⟨_, rfl, ?_⟩; conv => whnf)))
    (refine DrawVC.any Γok (by kernel_rfl) (by kernel_rfl) (by kernel_rfl) (by rfl) ?_; conv => whnf)
    (repeat (first | (exact Out.same; conv => whnf) | (exact Out1.same; conv => whnf) | (refine QAnd.mk ?_ ?_; conv => whnf) | (apply QStepH.go; conv => whnf) | (refine Both.lit_true ?_; conv => whnf) | (refine Both.lit_false ?_; conv => whnf) | (apply QStep.go; conv => whnf) | (refine Need.au ?_; conv => whnf) | (refine ⟨_, rfl, ?_⟩; conv => whnf)))
    have c3 : IntKind.u32.wrap (IntKind.u32.wrap (IntKind.u32.wrap (IntKind.u32.wrap (IntKind.u32.wrap (u32 hh + bitXor .u32 (bitXor .u32 (u32 (rotr e 6)) (u32 (rotr e 11))) (u32 (rotr e 25))) + bitXor .u32 (bitAnd .u32 (u32 e) (u32 f)) (bitAnd .u32 (bitNot .u32 (u32 e)) (u32 g))) + u32 kk) + u32 ww) + IntKind.u32.wrap (bitXor .u32 (bitXor .u32 (u32 (rotr a 2)) (u32 (rotr a 13))) (u32 (rotr a 22)) + bitXor .u32 (bitXor .u32 (bitAnd .u32 (u32 a) (u32 b)) (bitAnd .u32 (u32 a) (u32 c))) (bitAnd .u32 (u32 b) (u32 c)))) = u32 (((((hh + ((rotr e 6 ^^^ rotr e 11) ^^^ rotr e 25)) + ((e &&& f) ^^^ (~~~e &&& g))) + kk) + ww) + (((rotr a 2 ^^^ rotr a 13) ^^^ rotr a 22) + (((a &&& b) ^^^ (a &&& c)) ^^^ (b &&& c)))) := (congr (congrArg (fun p q : Int => IntKind.u32.wrap (p + q)) c0) c1).trans (add_u32 _ _)
    have c4 : IntKind.u32.wrap (u32 d + IntKind.u32.wrap (IntKind.u32.wrap (IntKind.u32.wrap (IntKind.u32.wrap (u32 hh + bitXor .u32 (bitXor .u32 (u32 (rotr e 6)) (u32 (rotr e 11))) (u32 (rotr e 25))) + bitXor .u32 (bitAnd .u32 (u32 e) (u32 f)) (bitAnd .u32 (bitNot .u32 (u32 e)) (u32 g))) + u32 kk) + u32 ww)) = u32 (d + ((((hh + ((rotr e 6 ^^^ rotr e 11) ^^^ rotr e 25)) + ((e &&& f) ^^^ (~~~e &&& g))) + kk) + ww)) := (congrArg (fun p : Int => IntKind.u32.wrap (u32 d + p)) c0).trans (add_u32 _ _)
    have hcells := congr (congrArg (fun p q : Int => [SV.int .u32 p, .int .u32 (u32 a), .int .u32 (u32 b), .int .u32 (u32 c), .int .u32 q, .int .u32 (u32 e), .int .u32 (u32 f), .int .u32 (u32 g)]) c3) c4
    refine ⟨(t + 1, ((((hh + ((rotr e 6 ^^^ rotr e 11) ^^^ rotr e 25)) + ((e &&& f) ^^^ (~~~e &&& g))) + kk) + ww) + (((rotr a 2 ^^^ rotr a 13) ^^^ rotr a 22) + (((a &&& b) ^^^ (a &&& c)) ^^^ (b &&& c))), a, b, c, d + ((((hh + ((rotr e 6 ^^^ rotr e 11) ^^^ rotr e 25)) + ((e &&& f) ^^^ (~~~e &&& g))) + kk) + ww), e, f, g), ⟨by omega, by rw [hq1]; rfl⟩, by show 64 - (t + 1) < 64 - t; omega, Weak.le ?_ ?_⟩
    · (repeat' ((conv => whnf); first | exact True.intro | (refine And.intro ?_ ?_)))
      all_goals first | rfl | exact .eq rfl | exact congrArg (SV.int .i64) hwr
    · (repeat' ((conv => whnf); first | exact True.intro | (refine And.intro ?_ ?_)))
      all_goals first | exact .eq hcells | rfl | exact .eq rfl
  have ht64 : t = 64 := by omega
  have h : Q (.tuple []) [hsh (v.plus ⟨a, b, c, d, e, f, g, hh⟩) r n] := by rw [hq, ht64]; exact h
  clear hq
  (conv => whnf)
  (repeat (first | (exact Out.same; conv => whnf) | (exact Out1.same; conv => whnf) | (refine QAnd.mk ?_ ?_; conv => whnf) | (apply QStepH.go; conv => whnf) | (refine Both.lit_true ?_; conv => whnf) | (refine Both.lit_false ?_; conv => whnf) | (apply QStep.go; conv => whnf) | (refine Need.au ?_; conv => whnf) | (refine ⟨_, rfl, ?_⟩; conv => whnf)))
  refine loop_rule (fun m : Nat => ⟨[.ptr 0 0, .any, .any, .any, .any, .ptr 2 0, .any, .any, .any, .any, .any, .any, .any, .any, .any, .any, .any, .any, .any, .any, .any, .any, .any, .any, .any, .any, .any, .any, .any, .any, .any, .any, .any, .any, .any, .any, .any, .any, .any, .any, .any, .any, .any, .any, .any, .any, .any, .any, .any, .any, .any, .any, .any, .any, .any, .any, .any, .any, .any, .any, .any, .any, .any, .any, .any, .any, .any, .any, .any, .any, .any, .any, .any, .any, .any, .any, .any, .any, .any, .any, .any, .any, .any, .any, .any, .any, .any, .any, .any, .any, .any, .any, .int .i64 (m : Int), .any, .any, .any, .any, .any, .any, .any, .any, .any, .any, .any, .any, .any, .any, .any, .any], [.cells [.int .u32 (u32 (sel 0 m v.a a)), .int .u32 (u32 (sel 1 m v.b b)), .int .u32 (u32 (sel 2 m v.c c)), .int .u32 (u32 (sel 3 m v.d d)), .int .u32 (u32 (sel 4 m v.e e)), .int .u32 (u32 (sel 5 m v.f f)), .int .u32 (u32 (sel 6 m v.g g)), .int .u32 (u32 (sel 7 m v.h hh)), .str r, .int .i64 n] 85, .cells (uL ws) 98, .cells [.int .u32 (u32 a), .int .u32 (u32 b), .int .u32 (u32 c), .int .u32 (u32 d), .int .u32 (u32 e), .int .u32 (u32 f), .int .u32 (u32 g), .int .u32 (u32 hh)] 80]⟩) (fun m => m ≤ 8) (fun m => 8 - m) 0 (by omega) (Weak.le ?_ ?_) ?_
  · (repeat' ((conv => whnf); first | exact True.intro | (refine And.intro ?_ ?_)))
    all_goals first | rfl | exact .eq rfl
  · (repeat' ((conv => whnf); first | exact True.intro | (refine And.intro ?_ ?_)))
    all_goals first | rfl | exact .eq rfl
  intro m hm
  (refine sx_sound Γok _ ?_; conv => whnf)
  (repeat (first | (exact Out.same; conv => whnf) | (exact Out1.same; conv => whnf) | (refine QAnd.mk ?_ ?_; conv => whnf) | (apply QStepH.go; conv => whnf) | (refine Both.lit_true ?_; conv => whnf) | (refine Both.lit_false ?_; conv => whnf) | (apply QStep.go; conv => whnf) | (refine Need.au ?_; conv => whnf) | (refine ⟨_, rfl, ?_⟩; conv => whnf)))
  refine Both.dec (fun hlt => ?_) (fun hge => ?_)
  rotate_left
  · have hm8 : m = 8 := by omega
    subst hm8
    (conv => whnf)
    (repeat (first | (exact Out.same; conv => whnf) | (exact Out1.same; conv => whnf) | (refine QAnd.mk ?_ ?_; conv => whnf) | (apply QStepH.go; conv => whnf) | (refine Both.lit_true ?_; conv => whnf) | (refine Both.lit_false ?_; conv => whnf) | (apply QStep.go; conv => whnf) | (refine Need.au ?_; conv => whnf) | (refine ⟨_, rfl, ?_⟩; conv => whnf)))
    exact ⟨_, _, WeakV.to [0] rfl rfl rfl rfl (by
      (repeat' ((conv => whnf); first | exact True.intro | (refine And.intro ?_ ?_)))
      all_goals first | rfl | exact .eq rfl), h⟩
  have hm8 : m = 0 ∨ m = 1 ∨ m = 2 ∨ m = 3 ∨ m = 4 ∨ m = 5 ∨ m = 6 ∨ m = 7 := by omega
  rcases hm8 with rfl | rfl | rfl | rfl | rfl | rfl | rfl | rfl
  · have hc : [SV.int .u32 (IntKind.u32.wrap (u32 (sel 0 0 v.a a) + u32 a)), .int .u32 (u32 (sel 1 0 v.b b)), .int .u32 (u32 (sel 2 0 v.c c)), .int .u32 (u32 (sel 3 0 v.d d)), .int .u32 (u32 (sel 4 0 v.e e)), .int .u32 (u32 (sel 5 0 v.f f)), .int .u32 (u32 (sel 6 0 v.g g)), .int .u32 (u32 (sel 7 0 v.h hh)), SV.str r, .int .i64 n] = [.int .u32 (u32 (sel 0 1 v.a a)), .int .u32 (u32 (sel 1 1 v.b b)), .int .u32 (u32 (sel 2 1 v.c c)), .int .u32 (u32 (sel 3 1 v.d d)), .int .u32 (u32 (sel 4 1 v.e e)), .int .u32 (u32 (sel 5 1 v.f f)), .int .u32 (u32 (sel 6 1 v.g g)), .int .u32 (u32 (sel 7 1 v.h hh)), .str r, .int .i64 n] := congrArg (fun p : Int => [SV.int .u32 p, .int .u32 (u32 (sel 1 0 v.b b)), .int .u32 (u32 (sel 2 0 v.c c)), .int .u32 (u32 (sel 3 0 v.d d)), .int .u32 (u32 (sel 4 0 v.e e)), .int .u32 (u32 (sel 5 0 v.f f)), .int .u32 (u32 (sel 6 0 v.g g)), .int .u32 (u32 (sel 7 0 v.h hh)), SV.str r, .int .i64 n]) (sel_go 0 v.a a)
    (conv => whnf)
    (repeat (first | (exact Out.same; conv => whnf) | (exact Out1.same; conv => whnf) | (refine QAnd.mk ?_ ?_; conv => whnf) | (apply QStepH.go; conv => whnf) | (refine Both.lit_true ?_; conv => whnf) | (refine Both.lit_false ?_; conv => whnf) | (apply QStep.go; conv => whnf) | (refine Need.au ?_; conv => whnf) | (refine ⟨_, rfl, ?_⟩; conv => whnf)))
    (refine DrawVC.any Γok (by kernel_rfl) (by kernel_rfl) (by kernel_rfl) (by rfl) ?_; conv => whnf)
    (repeat (first | (exact Out.same; conv => whnf) | (exact Out1.same; conv => whnf) | (refine QAnd.mk ?_ ?_; conv => whnf) | (apply QStepH.go; conv => whnf) | (refine Both.lit_true ?_; conv => whnf) | (refine Both.lit_false ?_; conv => whnf) | (apply QStep.go; conv => whnf) | (refine Need.au ?_; conv => whnf) | (refine ⟨_, rfl, ?_⟩; conv => whnf)))
    refine ⟨1, by omega, by omega, Weak.le ?_ ?_⟩
    · (repeat' ((conv => whnf); first | exact True.intro | (refine And.intro ?_ ?_)))
      all_goals first | rfl | exact .eq rfl
    · (repeat' ((conv => whnf); first | exact True.intro | (refine And.intro ?_ ?_)))
      all_goals first | exact .eq hc | rfl | exact .eq rfl
  · have hc : [SV.int .u32 (u32 (sel 0 1 v.a a)), .int .u32 (IntKind.u32.wrap (u32 (sel 1 1 v.b b) + u32 b)), .int .u32 (u32 (sel 2 1 v.c c)), .int .u32 (u32 (sel 3 1 v.d d)), .int .u32 (u32 (sel 4 1 v.e e)), .int .u32 (u32 (sel 5 1 v.f f)), .int .u32 (u32 (sel 6 1 v.g g)), .int .u32 (u32 (sel 7 1 v.h hh)), SV.str r, .int .i64 n] = [.int .u32 (u32 (sel 0 2 v.a a)), .int .u32 (u32 (sel 1 2 v.b b)), .int .u32 (u32 (sel 2 2 v.c c)), .int .u32 (u32 (sel 3 2 v.d d)), .int .u32 (u32 (sel 4 2 v.e e)), .int .u32 (u32 (sel 5 2 v.f f)), .int .u32 (u32 (sel 6 2 v.g g)), .int .u32 (u32 (sel 7 2 v.h hh)), .str r, .int .i64 n] := congrArg (fun p : Int => [SV.int .u32 (u32 (sel 0 1 v.a a)), .int .u32 p, .int .u32 (u32 (sel 2 1 v.c c)), .int .u32 (u32 (sel 3 1 v.d d)), .int .u32 (u32 (sel 4 1 v.e e)), .int .u32 (u32 (sel 5 1 v.f f)), .int .u32 (u32 (sel 6 1 v.g g)), .int .u32 (u32 (sel 7 1 v.h hh)), SV.str r, .int .i64 n]) (sel_go 1 v.b b)
    (conv => whnf)
    (repeat (first | (exact Out.same; conv => whnf) | (exact Out1.same; conv => whnf) | (refine QAnd.mk ?_ ?_; conv => whnf) | (apply QStepH.go; conv => whnf) | (refine Both.lit_true ?_; conv => whnf) | (refine Both.lit_false ?_; conv => whnf) | (apply QStep.go; conv => whnf) | (refine Need.au ?_; conv => whnf) | (refine ⟨_, rfl, ?_⟩; conv => whnf)))
    (refine DrawVC.any Γok (by kernel_rfl) (by kernel_rfl) (by kernel_rfl) (by rfl) ?_; conv => whnf)
    (repeat (first | (exact Out.same; conv => whnf) | (exact Out1.same; conv => whnf) | (refine QAnd.mk ?_ ?_; conv => whnf) | (apply QStepH.go; conv => whnf) | (refine Both.lit_true ?_; conv => whnf) | (refine Both.lit_false ?_; conv => whnf) | (apply QStep.go; conv => whnf) | (refine Need.au ?_; conv => whnf) | (refine ⟨_, rfl, ?_⟩; conv => whnf)))
    refine ⟨2, by omega, by omega, Weak.le ?_ ?_⟩
    · (repeat' ((conv => whnf); first | exact True.intro | (refine And.intro ?_ ?_)))
      all_goals first | rfl | exact .eq rfl
    · (repeat' ((conv => whnf); first | exact True.intro | (refine And.intro ?_ ?_)))
      all_goals first | exact .eq hc | rfl | exact .eq rfl
  · have hc : [SV.int .u32 (u32 (sel 0 2 v.a a)), .int .u32 (u32 (sel 1 2 v.b b)), .int .u32 (IntKind.u32.wrap (u32 (sel 2 2 v.c c) + u32 c)), .int .u32 (u32 (sel 3 2 v.d d)), .int .u32 (u32 (sel 4 2 v.e e)), .int .u32 (u32 (sel 5 2 v.f f)), .int .u32 (u32 (sel 6 2 v.g g)), .int .u32 (u32 (sel 7 2 v.h hh)), SV.str r, .int .i64 n] = [.int .u32 (u32 (sel 0 3 v.a a)), .int .u32 (u32 (sel 1 3 v.b b)), .int .u32 (u32 (sel 2 3 v.c c)), .int .u32 (u32 (sel 3 3 v.d d)), .int .u32 (u32 (sel 4 3 v.e e)), .int .u32 (u32 (sel 5 3 v.f f)), .int .u32 (u32 (sel 6 3 v.g g)), .int .u32 (u32 (sel 7 3 v.h hh)), .str r, .int .i64 n] := congrArg (fun p : Int => [SV.int .u32 (u32 (sel 0 2 v.a a)), .int .u32 (u32 (sel 1 2 v.b b)), .int .u32 p, .int .u32 (u32 (sel 3 2 v.d d)), .int .u32 (u32 (sel 4 2 v.e e)), .int .u32 (u32 (sel 5 2 v.f f)), .int .u32 (u32 (sel 6 2 v.g g)), .int .u32 (u32 (sel 7 2 v.h hh)), SV.str r, .int .i64 n]) (sel_go 2 v.c c)
    (conv => whnf)
    (repeat (first | (exact Out.same; conv => whnf) | (exact Out1.same; conv => whnf) | (refine QAnd.mk ?_ ?_; conv => whnf) | (apply QStepH.go; conv => whnf) | (refine Both.lit_true ?_; conv => whnf) | (refine Both.lit_false ?_; conv => whnf) | (apply QStep.go; conv => whnf) | (refine Need.au ?_; conv => whnf) | (refine ⟨_, rfl, ?_⟩; conv => whnf)))
    (refine DrawVC.any Γok (by kernel_rfl) (by kernel_rfl) (by kernel_rfl) (by rfl) ?_; conv => whnf)
    (repeat (first | (exact Out.same; conv => whnf) | (exact Out1.same; conv => whnf) | (refine QAnd.mk ?_ ?_; conv => whnf) | (apply QStepH.go; conv => whnf) | (refine Both.lit_true ?_; conv => whnf) | (refine Both.lit_false ?_; conv => whnf) | (apply QStep.go; conv => whnf) | (refine Need.au ?_; conv => whnf) | (refine ⟨_, rfl, ?_⟩; conv => whnf)))
    refine ⟨3, by omega, by omega, Weak.le ?_ ?_⟩
    · (repeat' ((conv => whnf); first | exact True.intro | (refine And.intro ?_ ?_)))
      all_goals first | rfl | exact .eq rfl
    · (repeat' ((conv => whnf); first | exact True.intro | (refine And.intro ?_ ?_)))
      all_goals first | exact .eq hc | rfl | exact .eq rfl
  · have hc : [SV.int .u32 (u32 (sel 0 3 v.a a)), .int .u32 (u32 (sel 1 3 v.b b)), .int .u32 (u32 (sel 2 3 v.c c)), .int .u32 (IntKind.u32.wrap (u32 (sel 3 3 v.d d) + u32 d)), .int .u32 (u32 (sel 4 3 v.e e)), .int .u32 (u32 (sel 5 3 v.f f)), .int .u32 (u32 (sel 6 3 v.g g)), .int .u32 (u32 (sel 7 3 v.h hh)), SV.str r, .int .i64 n] = [.int .u32 (u32 (sel 0 4 v.a a)), .int .u32 (u32 (sel 1 4 v.b b)), .int .u32 (u32 (sel 2 4 v.c c)), .int .u32 (u32 (sel 3 4 v.d d)), .int .u32 (u32 (sel 4 4 v.e e)), .int .u32 (u32 (sel 5 4 v.f f)), .int .u32 (u32 (sel 6 4 v.g g)), .int .u32 (u32 (sel 7 4 v.h hh)), .str r, .int .i64 n] := congrArg (fun p : Int => [SV.int .u32 (u32 (sel 0 3 v.a a)), .int .u32 (u32 (sel 1 3 v.b b)), .int .u32 (u32 (sel 2 3 v.c c)), .int .u32 p, .int .u32 (u32 (sel 4 3 v.e e)), .int .u32 (u32 (sel 5 3 v.f f)), .int .u32 (u32 (sel 6 3 v.g g)), .int .u32 (u32 (sel 7 3 v.h hh)), SV.str r, .int .i64 n]) (sel_go 3 v.d d)
    (conv => whnf)
    (repeat (first | (exact Out.same; conv => whnf) | (exact Out1.same; conv => whnf) | (refine QAnd.mk ?_ ?_; conv => whnf) | (apply QStepH.go; conv => whnf) | (refine Both.lit_true ?_; conv => whnf) | (refine Both.lit_false ?_; conv => whnf) | (apply QStep.go; conv => whnf) | (refine Need.au ?_; conv => whnf) | (refine ⟨_, rfl, ?_⟩; conv => whnf)))
    (refine DrawVC.any Γok (by kernel_rfl) (by kernel_rfl) (by kernel_rfl) (by rfl) ?_; conv => whnf)
    (repeat (first | (exact Out.same; conv => whnf) | (exact Out1.same; conv => whnf) | (refine QAnd.mk ?_ ?_; conv => whnf) | (apply QStepH.go; conv => whnf) | (refine Both.lit_true ?_; conv => whnf) | (refine Both.lit_false ?_; conv => whnf) | (apply QStep.go; conv => whnf) | (refine Need.au ?_; conv => whnf) | (refine ⟨_, rfl, ?_⟩; conv => whnf)))
    refine ⟨4, by omega, by omega, Weak.le ?_ ?_⟩
    · (repeat' ((conv => whnf); first | exact True.intro | (refine And.intro ?_ ?_)))
      all_goals first | rfl | exact .eq rfl
    · (repeat' ((conv => whnf); first | exact True.intro | (refine And.intro ?_ ?_)))
      all_goals first | exact .eq hc | rfl | exact .eq rfl
  · have hc : [SV.int .u32 (u32 (sel 0 4 v.a a)), .int .u32 (u32 (sel 1 4 v.b b)), .int .u32 (u32 (sel 2 4 v.c c)), .int .u32 (u32 (sel 3 4 v.d d)), .int .u32 (IntKind.u32.wrap (u32 (sel 4 4 v.e e) + u32 e)), .int .u32 (u32 (sel 5 4 v.f f)), .int .u32 (u32 (sel 6 4 v.g g)), .int .u32 (u32 (sel 7 4 v.h hh)), SV.str r, .int .i64 n] = [.int .u32 (u32 (sel 0 5 v.a a)), .int .u32 (u32 (sel 1 5 v.b b)), .int .u32 (u32 (sel 2 5 v.c c)), .int .u32 (u32 (sel 3 5 v.d d)), .int .u32 (u32 (sel 4 5 v.e e)), .int .u32 (u32 (sel 5 5 v.f f)), .int .u32 (u32 (sel 6 5 v.g g)), .int .u32 (u32 (sel 7 5 v.h hh)), .str r, .int .i64 n] := congrArg (fun p : Int => [SV.int .u32 (u32 (sel 0 4 v.a a)), .int .u32 (u32 (sel 1 4 v.b b)), .int .u32 (u32 (sel 2 4 v.c c)), .int .u32 (u32 (sel 3 4 v.d d)), .int .u32 p, .int .u32 (u32 (sel 5 4 v.f f)), .int .u32 (u32 (sel 6 4 v.g g)), .int .u32 (u32 (sel 7 4 v.h hh)), SV.str r, .int .i64 n]) (sel_go 4 v.e e)
    (conv => whnf)
    (repeat (first | (exact Out.same; conv => whnf) | (exact Out1.same; conv => whnf) | (refine QAnd.mk ?_ ?_; conv => whnf) | (apply QStepH.go; conv => whnf) | (refine Both.lit_true ?_; conv => whnf) | (refine Both.lit_false ?_; conv => whnf) | (apply QStep.go; conv => whnf) | (refine Need.au ?_; conv => whnf) | (refine ⟨_, rfl, ?_⟩; conv => whnf)))
    (refine DrawVC.any Γok (by kernel_rfl) (by kernel_rfl) (by kernel_rfl) (by rfl) ?_; conv => whnf)
    (repeat (first | (exact Out.same; conv => whnf) | (exact Out1.same; conv => whnf) | (refine QAnd.mk ?_ ?_; conv => whnf) | (apply QStepH.go; conv => whnf) | (refine Both.lit_true ?_; conv => whnf) | (refine Both.lit_false ?_; conv => whnf) | (apply QStep.go; conv => whnf) | (refine Need.au ?_; conv => whnf) | (refine ⟨_, rfl, ?_⟩; conv => whnf)))
    refine ⟨5, by omega, by omega, Weak.le ?_ ?_⟩
    · (repeat' ((conv => whnf); first | exact True.intro | (refine And.intro ?_ ?_)))
      all_goals first | rfl | exact .eq rfl
    · (repeat' ((conv => whnf); first | exact True.intro | (refine And.intro ?_ ?_)))
      all_goals first | exact .eq hc | rfl | exact .eq rfl
  · have hc : [SV.int .u32 (u32 (sel 0 5 v.a a)), .int .u32 (u32 (sel 1 5 v.b b)), .int .u32 (u32 (sel 2 5 v.c c)), .int .u32 (u32 (sel 3 5 v.d d)), .int .u32 (u32 (sel 4 5 v.e e)), .int .u32 (IntKind.u32.wrap (u32 (sel 5 5 v.f f) + u32 f)), .int .u32 (u32 (sel 6 5 v.g g)), .int .u32 (u32 (sel 7 5 v.h hh)), SV.str r, .int .i64 n] = [.int .u32 (u32 (sel 0 6 v.a a)), .int .u32 (u32 (sel 1 6 v.b b)), .int .u32 (u32 (sel 2 6 v.c c)), .int .u32 (u32 (sel 3 6 v.d d)), .int .u32 (u32 (sel 4 6 v.e e)), .int .u32 (u32 (sel 5 6 v.f f)), .int .u32 (u32 (sel 6 6 v.g g)), .int .u32 (u32 (sel 7 6 v.h hh)), .str r, .int .i64 n] := congrArg (fun p : Int => [SV.int .u32 (u32 (sel 0 5 v.a a)), .int .u32 (u32 (sel 1 5 v.b b)), .int .u32 (u32 (sel 2 5 v.c c)), .int .u32 (u32 (sel 3 5 v.d d)), .int .u32 (u32 (sel 4 5 v.e e)), .int .u32 p, .int .u32 (u32 (sel 6 5 v.g g)), .int .u32 (u32 (sel 7 5 v.h hh)), SV.str r, .int .i64 n]) (sel_go 5 v.f f)
    (conv => whnf)
    (repeat (first | (exact Out.same; conv => whnf) | (exact Out1.same; conv => whnf) | (refine QAnd.mk ?_ ?_; conv => whnf) | (apply QStepH.go; conv => whnf) | (refine Both.lit_true ?_; conv => whnf) | (refine Both.lit_false ?_; conv => whnf) | (apply QStep.go; conv => whnf) | (refine Need.au ?_; conv => whnf) | (refine ⟨_, rfl, ?_⟩; conv => whnf)))
    (refine DrawVC.any Γok (by kernel_rfl) (by kernel_rfl) (by kernel_rfl) (by rfl) ?_; conv => whnf)
    (repeat (first | (exact Out.same; conv => whnf) | (exact Out1.same; conv => whnf) | (refine QAnd.mk ?_ ?_; conv => whnf) | (apply QStepH.go; conv => whnf) | (refine Both.lit_true ?_; conv => whnf) | (refine Both.lit_false ?_; conv => whnf) | (apply QStep.go; conv => whnf) | (refine Need.au ?_; conv => whnf) | (refine ⟨_, rfl, ?_⟩; conv => whnf)))
    refine ⟨6, by omega, by omega, Weak.le ?_ ?_⟩
    · (repeat' ((conv => whnf); first | exact True.intro | (refine And.intro ?_ ?_)))
      all_goals first | rfl | exact .eq rfl
    · (repeat' ((conv => whnf); first | exact True.intro | (refine And.intro ?_ ?_)))
      all_goals first | exact .eq hc | rfl | exact .eq rfl
  · have hc : [SV.int .u32 (u32 (sel 0 6 v.a a)), .int .u32 (u32 (sel 1 6 v.b b)), .int .u32 (u32 (sel 2 6 v.c c)), .int .u32 (u32 (sel 3 6 v.d d)), .int .u32 (u32 (sel 4 6 v.e e)), .int .u32 (u32 (sel 5 6 v.f f)), .int .u32 (IntKind.u32.wrap (u32 (sel 6 6 v.g g) + u32 g)), .int .u32 (u32 (sel 7 6 v.h hh)), SV.str r, .int .i64 n] = [.int .u32 (u32 (sel 0 7 v.a a)), .int .u32 (u32 (sel 1 7 v.b b)), .int .u32 (u32 (sel 2 7 v.c c)), .int .u32 (u32 (sel 3 7 v.d d)), .int .u32 (u32 (sel 4 7 v.e e)), .int .u32 (u32 (sel 5 7 v.f f)), .int .u32 (u32 (sel 6 7 v.g g)), .int .u32 (u32 (sel 7 7 v.h hh)), .str r, .int .i64 n] := congrArg (fun p : Int => [SV.int .u32 (u32 (sel 0 6 v.a a)), .int .u32 (u32 (sel 1 6 v.b b)), .int .u32 (u32 (sel 2 6 v.c c)), .int .u32 (u32 (sel 3 6 v.d d)), .int .u32 (u32 (sel 4 6 v.e e)), .int .u32 (u32 (sel 5 6 v.f f)), .int .u32 p, .int .u32 (u32 (sel 7 6 v.h hh)), SV.str r, .int .i64 n]) (sel_go 6 v.g g)
    (conv => whnf)
    (repeat (first | (exact Out.same; conv => whnf) | (exact Out1.same; conv => whnf) | (refine QAnd.mk ?_ ?_; conv => whnf) | (apply QStepH.go; conv => whnf) | (refine Both.lit_true ?_; conv => whnf) | (refine Both.lit_false ?_; conv => whnf) | (apply QStep.go; conv => whnf) | (refine Need.au ?_; conv => whnf) | (refine ⟨_, rfl, ?_⟩; conv => whnf)))
    (refine DrawVC.any Γok (by kernel_rfl) (by kernel_rfl) (by kernel_rfl) (by rfl) ?_; conv => whnf)
    (repeat (first | (exact Out.same; conv => whnf) | (exact Out1.same; conv => whnf) | (refine QAnd.mk ?_ ?_; conv => whnf) | (apply QStepH.go; conv => whnf) | (refine Both.lit_true ?_; conv => whnf) | (refine Both.lit_false ?_; conv => whnf) | (apply QStep.go; conv => whnf) | (refine Need.au ?_; conv => whnf) | (refine ⟨_, rfl, ?_⟩; conv => whnf)))
    refine ⟨7, by omega, by omega, Weak.le ?_ ?_⟩
    · (repeat' ((conv => whnf); first | exact True.intro | (refine And.intro ?_ ?_)))
      all_goals first | rfl | exact .eq rfl
    · (repeat' ((conv => whnf); first | exact True.intro | (refine And.intro ?_ ?_)))
      all_goals first | exact .eq hc | rfl | exact .eq rfl
  · have hc : [SV.int .u32 (u32 (sel 0 7 v.a a)), .int .u32 (u32 (sel 1 7 v.b b)), .int .u32 (u32 (sel 2 7 v.c c)), .int .u32 (u32 (sel 3 7 v.d d)), .int .u32 (u32 (sel 4 7 v.e e)), .int .u32 (u32 (sel 5 7 v.f f)), .int .u32 (u32 (sel 6 7 v.g g)), .int .u32 (IntKind.u32.wrap (u32 (sel 7 7 v.h hh) + u32 hh)), SV.str r, .int .i64 n] = [.int .u32 (u32 (sel 0 8 v.a a)), .int .u32 (u32 (sel 1 8 v.b b)), .int .u32 (u32 (sel 2 8 v.c c)), .int .u32 (u32 (sel 3 8 v.d d)), .int .u32 (u32 (sel 4 8 v.e e)), .int .u32 (u32 (sel 5 8 v.f f)), .int .u32 (u32 (sel 6 8 v.g g)), .int .u32 (u32 (sel 7 8 v.h hh)), .str r, .int .i64 n] := congrArg (fun p : Int => [SV.int .u32 (u32 (sel 0 7 v.a a)), .int .u32 (u32 (sel 1 7 v.b b)), .int .u32 (u32 (sel 2 7 v.c c)), .int .u32 (u32 (sel 3 7 v.d d)), .int .u32 (u32 (sel 4 7 v.e e)), .int .u32 (u32 (sel 5 7 v.f f)), .int .u32 (u32 (sel 6 7 v.g g)), .int .u32 p, SV.str r, .int .i64 n]) (sel_go 7 v.h hh)
    (conv => whnf)
    (repeat (first | (exact Out.same; conv => whnf) | (exact Out1.same; conv => whnf) | (refine QAnd.mk ?_ ?_; conv => whnf) | (apply QStepH.go; conv => whnf) | (refine Both.lit_true ?_; conv => whnf) | (refine Both.lit_false ?_; conv => whnf) | (apply QStep.go; conv => whnf) | (refine Need.au ?_; conv => whnf) | (refine ⟨_, rfl, ?_⟩; conv => whnf)))
    (refine DrawVC.any Γok (by kernel_rfl) (by kernel_rfl) (by kernel_rfl) (by rfl) ?_; conv => whnf)
    (repeat (first | (exact Out.same; conv => whnf) | (exact Out1.same; conv => whnf) | (refine QAnd.mk ?_ ?_; conv => whnf) | (apply QStepH.go; conv => whnf) | (refine Both.lit_true ?_; conv => whnf) | (refine Both.lit_false ?_; conv => whnf) | (apply QStep.go; conv => whnf) | (refine Need.au ?_; conv => whnf) | (refine ⟨_, rfl, ?_⟩; conv => whnf)))
    refine ⟨8, by omega, by omega, Weak.le ?_ ?_⟩
    · (repeat' ((conv => whnf); first | exact True.intro | (refine And.intro ?_ ?_)))
      all_goals first | rfl | exact .eq rfl
    · (repeat' ((conv => whnf); first | exact True.intro | (refine And.intro ?_ ?_)))
      all_goals first | exact .eq hc | rfl | exact .eq rfl
theorem mix_k {y0 : CV} {cs0 : List CV} (hK : KAt y0 cs0) : Contract Tryd.prog [(0, y0 :: cs0)] 49 mixS := ⟨⟨⟨_, rfl, rfl, rfl⟩⟩, mix_c hK⟩
end Go.LX
end
section
set_option maxRecDepth 100000
set_option maxHeartbeats 1000000
set_option autoImplicit false
set_option linter.unusedVariables false
set_option linter.unusedSimpArgs false
namespace Go.LX
open Go.Proofs

def St.init : St := ⟨1779033703#32, 3144134277#32, 1013904242#32, 2773480762#32, 1359893119#32, 2600822924#32, 528734635#32, 1541459225#32⟩
def beginS : Spec := fun args H Q => match args, H with
  | [], [] => Q (.agg [.int .u32 1779033703, .int .u32 3144134277, .int .u32 1013904242, .int .u32 2773480762, .int .u32 1359893119, .int .u32 2600822924, .int .u32 528734635, .int .u32 1541459225]) []
  | _, _ => False
theorem begin_c : Meets Tryd.prog [] 47 beginS := by
  refine meets_of Γok Tryd.func47 rfl ?_
  intro args H Q h
  unfold beginS at h
  split at h
  case h_2 => exact h.elim
  (refine sx_sound Γok _ ?_; conv => whnf)
  (repeat (first | (exact Out.same; conv => whnf) | (exact Out1.same; conv => whnf) | (refine QAnd.mk ?_ ?_; conv => whnf) | (apply QStepH.go; conv => whnf) | (refine Both.lit_true ?_; conv => whnf) | (refine Both.lit_false ?_; conv => whnf) | (apply QStep.go; conv => whnf) | (refine Need.au ?_; conv => whnf) | (refine ⟨_, rfl, ?_⟩; conv => whnf)))
  exact ⟨_, _, WeakV.drop rfl, h⟩
theorem begin_k : Contract Tryd.prog [] 47 beginS := ⟨⟨⟨_, rfl, rfl, rfl⟩⟩, begin_c⟩
def newHS : Spec := fun args H Q => match args, H with
  | [], [] => Q (.ptr 0 0) [hsh St.init [] 0]
  | _, _ => False
theorem newH_c : Meets Tryd.prog [] 40 newHS := by
  refine meets_of Γok Tryd.func40 rfl ?_
  intro args H Q h
  unfold newHS at h
  split at h
  case h_2 => exact h.elim
  (refine sx_sound Γok _ ?_; conv => whnf)
  refine CallVC.auto begin_k ?_
  (conv => whnf)
  (repeat (first | (exact Out.same; conv => whnf) | (exact Out1.same; conv => whnf) | (refine QAnd.mk ?_ ?_; conv => whnf) | (apply QStepH.go; conv => whnf) | (refine Both.lit_true ?_; conv => whnf) | (refine Both.lit_false ?_; conv => whnf) | (apply QStep.go; conv => whnf) | (refine Need.au ?_; conv => whnf) | (refine ⟨_, rfl, ?_⟩; conv => whnf)))
  refine ⟨_, _, WeakV.auto ?_, h⟩
  (repeat' ((conv => whnf); first | exact True.intro | (refine And.intro ?_ ?_)))
  all_goals first | rfl | exact .eq rfl
theorem newH_k : Contract Tryd.prog [] 40 newHS := ⟨⟨⟨_, rfl, rfl, rfl⟩⟩, newH_c⟩
end Go.LX
end
section
set_option maxRecDepth 100000
set_option maxHeartbeats 1000000
set_option autoImplicit false
set_option linter.unusedVariables false
set_option linter.unusedSimpArgs false
namespace Go.LX
open Go.Proofs

def byt (x : W32) (k : Nat) : UInt8 := ⟨(x >>> k).setWidth 8⟩
def be4b (x : W32) : List UInt8 := [byt x 24, byt x 16, byt x 8, byt x 0]
def St.ws (v : St) : List W32 := [v.a, v.b, v.c, v.d, v.e, v.f, v.g, v.h]
def St.dig (v : St) : List UInt8 := v.ws.flatMap be4b
theorem byt_go (x : W32) (k : Nat) (h : k ≤ 32) : IntKind.u8.wrap (shrI .u32 (u32 x) (k : Int)) = ((byt x k).toNat : Int) := by
  rw [shr_u32 _ _ h, u8_of_u32]
  rfl
theorem be4b_take (x : W32) {j : Nat} (h : j < 4) : (be4b x).take (j + 1) = (be4b x).take j ++ [byt x (24 - 8 * j)] := by
  match j, h with
  | 0, _ => rfl
  | 1, _ => rfl
  | 2, _ => rfl
  | 3, _ => rfl
theorem ws_at (v : St) {m : Nat} (h : m < 8) : [SV.int .u32 (u32 v.a), .int .u32 (u32 v.b), .int .u32 (u32 v.c), .int .u32 (u32 v.d), .int .u32 (u32 v.e), .int .u32 (u32 v.f), .int .u32 (u32 v.g), .int .u32 (u32 v.h)][((m : Nat) : Int).toNat]? = some (.int .u32 (u32 (v.ws.getD m 0))) := by
  match m, h with
  | 0, _ => rfl
  | 1, _ => rfl
  | 2, _ => rfl
  | 3, _ => rfl
  | 4, _ => rfl
  | 5, _ => rfl
  | 6, _ => rfl
  | 7, _ => rfl
theorem dig_take (v : St) {m : Nat} (h : m < 8) : (v.ws.take (m + 1)).flatMap be4b = (v.ws.take m).flatMap be4b ++ be4b (v.ws.getD m 0) := by
  match m, h with
  | 0, _ => simp [St.ws]
  | 1, _ => simp [St.ws]
  | 2, _ => simp [St.ws]
  | 3, _ => simp [St.ws]
  | 4, _ => simp [St.ws]
  | 5, _ => simp [St.ws]
  | 6, _ => simp [St.ws]
  | 7, _ => simp [St.ws]
def digS : Spec := fun args H Q => match args, H with
  | [.ptr 0 0], [.cells [.int .u32 x0, .int .u32 x1, .int .u32 x2, .int .u32 x3, .int .u32 x4, .int .u32 x5, .int .u32 x6, .int .u32 x7, .str r, .int .i64 n] 85] => ∃ v : St, (x0 = u32 v.a ∧ x1 = u32 v.b ∧ x2 = u32 v.c ∧ x3 = u32 v.d ∧ x4 = u32 v.e ∧ x5 = u32 v.f ∧ x6 = u32 v.g ∧ x7 = u32 v.h) ∧ Q (.str v.dig) [hsh v r n]
  | _, _ => False
theorem dig_c : Meets Tryd.prog [] 53 digS := by
  refine meets_of Γok Tryd.func53 rfl ?_
  intro args H Q h
  unfold digS at h
  split at h
  case h_2 => exact h.elim
  rename_i x0 x1 x2 x3 x4 x5 x6 x7 r n
  obtain ⟨v, ⟨rfl, rfl, rfl, rfl, rfl, rfl, rfl, rfl⟩, h⟩ := h
  (refine sx_sound Γok _ ?_; conv => whnf)
  (repeat (first | (exact Out.same; conv => whnf) | (exact Out1.same; conv => whnf) | (refine QAnd.mk ?_ ?_; conv => whnf) | (apply QStepH.go; conv => whnf) | (refine Both.lit_true ?_; conv => whnf) | (refine Both.lit_false ?_; conv => whnf) | (apply QStep.go; conv => whnf) | (refine Need.au ?_; conv => whnf) | (refine ⟨_, rfl, ?_⟩; conv => whnf)))
  refine loop_rule (fun m : Nat => ⟨[.ptr 0 0, .any, .any, .ptr 1 0, .any, .any, .any, .any, .any, .any, .agg [.int .u32 (u32 v.a), .int .u32 (u32 v.b), .int .u32 (u32 v.c), .int .u32 (u32 v.d), .int .u32 (u32 v.e), .int .u32 (u32 v.f), .int .u32 (u32 v.g), .int .u32 (u32 v.h)], .int .i64 (m : Int), .any, .any, .any, .any, .any, .any, .any, .any, .any, .any, .any, .any, .any], [hsh v r n, .cells [.opt 1 0, .own 2] 88, .own 5 1 ((v.ws.take m).flatMap be4b).length (bys ((v.ws.take m).flatMap be4b)) true]⟩) (fun m => m ≤ 8) (fun m => 8 - m) 0 (by omega) ((Weak.bld 1 5 rfl).trans (Weak.auto ?_)) ?_
  · (repeat' ((conv => whnf); first | exact True.intro | (refine And.intro ?_ ?_)))
    all_goals first | rfl | exact .eq rfl
  intro m hm
  (refine sx_sound Γok _ ?_; conv => whnf)
  (repeat (first | (exact Out.same; conv => whnf) | (exact Out1.same; conv => whnf) | (refine QAnd.mk ?_ ?_; conv => whnf) | (apply QStepH.go; conv => whnf) | (refine Both.lit_true ?_; conv => whnf) | (refine Both.lit_false ?_; conv => whnf) | (apply QStep.go; conv => whnf) | (refine Need.au ?_; conv => whnf) | (refine ⟨_, rfl, ?_⟩; conv => whnf)))
  refine Both.dec (fun hlt => ?_) (fun hge => ?_)
  · have hm8 : m < 8 := by omega
    have hat := ws_at v hm8
    have hdt := dig_take v hm8
    have hwr : IntKind.i64.wrap ((m : Int) + 1) = ((m + 1 : Nat) : Int) := by rw [wrap_i64 (by omega) (by omega)]; rfl
    have hll : ((v.ws.take m).flatMap be4b).length ≤ 1000 := by
      have : ∀ l : List W32, (l.flatMap be4b).length = 4 * l.length := fun l => by
        induction l with
        | nil => rfl
        | cons a l ih => rw [List.flatMap_cons, List.length_append, ih]; simp [be4b]; omega
      rw [this, List.length_take]
      omega
    revert hat hdt hll
    generalize v.ws.getD m 0 = x
    generalize (v.ws.take m).flatMap be4b = l
    intro hat hdt hll
    (conv => whnf)
    (repeat (first | (refine ⟨_, hat, ?_⟩; conv => whnf) | (exact Out.same; conv => whnf) | (exact Out1.same; conv => whnf) | (refine QAnd.mk ?_ ?_; conv => whnf) | (apply QStepH.go; conv => whnf) | (refine Both.lit_true ?_; conv => whnf) | (refine Both.lit_false ?_; conv => whnf) | (apply QStep.go; conv => whnf) | (refine Need.au ?_; conv => whnf) | (refine ⟨_, rfl, ?_⟩; conv => whnf)))
    have hen : LObj.own 5 1 l.length (bys l) true = LObj.own 5 1 (l ++ (be4b x).take 0).length (bys (l ++ (be4b x).take 0)) true := by
      rw [List.take_zero, List.append_nil]
    refine loop_rule (fun j : Nat => ⟨[.ptr 0 0, .any, .any, .ptr 1 0, .any, .int .u32 (u32 x), .int .i64 (24 - 8 * (j : Int)), .any, .any, .any, .agg [.int .u32 (u32 v.a), .int .u32 (u32 v.b), .int .u32 (u32 v.c), .int .u32 (u32 v.d), .int .u32 (u32 v.e), .int .u32 (u32 v.f), .int .u32 (u32 v.g), .int .u32 (u32 v.h)], .int .i64 (m : Int), .any, .any, .any, .any, .any, .any, .any, .any, .any, .any, .any, .any, .any], [hsh v r n, .cells [.opt 1 0, .own 2] 88, .own 5 1 (l ++ (be4b x).take j).length (bys (l ++ (be4b x).take j)) true]⟩) (fun j => j ≤ 4) (fun j => 4 - j) 0 (by omega) (Weak.auto ?_) ?_
    · (repeat' ((conv => whnf); first | exact True.intro | (refine And.intro ?_ ?_)))
      all_goals first | exact hen | rfl | exact .eq rfl
    intro j hj
    (refine sx_sound Γok _ ?_; conv => whnf)
    (repeat (first | (exact Out.same; conv => whnf) | (exact Out1.same; conv => whnf) | (refine QAnd.mk ?_ ?_; conv => whnf) | (apply QStepH.go; conv => whnf) | (refine Both.lit_true ?_; conv => whnf) | (refine Both.lit_false ?_; conv => whnf) | (apply QStep.go; conv => whnf) | (refine Need.au ?_; conv => whnf) | (refine ⟨_, rfl, ?_⟩; conv => whnf)))
    refine Both.dec (fun hlt2 => ?_) (fun hge2 => ?_)
    · have hj4 : j < 4 := by omega
      have hn : (24 - 8 * (j : Int)) = ((24 - 8 * j : Nat) : Int) := by omega
      have hb : IntKind.u8.wrap (shrI .u32 (u32 x) (24 - 8 * (j : Int))) = ((byt x (24 - 8 * j)).toNat : Int) := by rw [hn]; exact byt_go x _ (by omega)
      have hw6 : IntKind.i64.wrap (24 - 8 * (j : Int) - 8) = 24 - 8 * ((j + 1 : Nat) : Int) := by rw [wrap_i64 (by omega) (by omega)]; omega
      have hbl : (l ++ (be4b x).take j).length < 1000000000 := by rw [List.length_append, List.length_take]; omega
      have hown : (l ++ (be4b x).take j) ++ [byt x (24 - 8 * j)] = l ++ (be4b x).take (j + 1) := by rw [be4b_take x hj4, List.append_assoc]
      have hobj : LObj.own 5 1 ((l ++ (be4b x).take j).length + 1) (bys ((l ++ (be4b x).take j) ++ [byt x (24 - 8 * j)])) true = LObj.own 5 1 (l ++ (be4b x).take (j + 1)).length (bys (l ++ (be4b x).take (j + 1))) true := by
        rw [← hown, List.length_append (bs := [byt x (24 - 8 * j)])]
        rfl
      (conv => whnf)
      (repeat (first | (exact Out.same; conv => whnf) | (exact Out1.same; conv => whnf) | (refine QAnd.mk ?_ ?_; conv => whnf) | (apply QStepH.go; conv => whnf) | (refine Both.lit_true ?_; conv => whnf) | (refine Both.lit_false ?_; conv => whnf) | (apply QStep.go; conv => whnf) | (refine Need.au ?_; conv => whnf) | (refine ⟨_, rfl, ?_⟩; conv => whnf)))
      refine CallVC.auto bwb_k ⟨_, _, hb, rfl, rfl, hbl, ?_⟩
      (conv => whnf)
      (repeat (first | (exact Out.same; conv => whnf) | (exact Out1.same; conv => whnf) | (refine QAnd.mk ?_ ?_; conv => whnf) | (apply QStepH.go; conv => whnf) | (refine Both.lit_true ?_; conv => whnf) | (refine Both.lit_false ?_; conv => whnf) | (apply QStep.go; conv => whnf) | (refine Need.au ?_; conv => whnf) | (refine ⟨_, rfl, ?_⟩; conv => whnf)))
      refine ⟨j + 1, by omega, by omega, Weak.auto ?_⟩
      (repeat' ((conv => whnf); first | exact True.intro | (refine And.intro ?_ ?_)))
      all_goals first | exact hobj | rfl | exact .eq rfl | exact congrArg (SV.int .i64) hw6
    · have hj4 : j = 4 := by omega
      have hobj : LObj.own 5 1 (l ++ (be4b x).take j).length (bys (l ++ (be4b x).take j)) true = LObj.own 5 1 ((v.ws.take (m + 1)).flatMap be4b).length (bys ((v.ws.take (m + 1)).flatMap be4b)) true := by
        rw [hdt, hj4]
        rfl
      (conv => whnf)
      (repeat (first | (exact Out.same; conv => whnf) | (exact Out1.same; conv => whnf) | (refine QAnd.mk ?_ ?_; conv => whnf) | (apply QStepH.go; conv => whnf) | (refine Both.lit_true ?_; conv => whnf) | (refine Both.lit_false ?_; conv => whnf) | (apply QStep.go; conv => whnf) | (refine Need.au ?_; conv => whnf) | (refine ⟨_, rfl, ?_⟩; conv => whnf)))
      refine ⟨m + 1, by omega, by omega, Weak.auto ?_⟩
      (repeat' ((conv => whnf); first | exact True.intro | (refine And.intro ?_ ?_)))
      all_goals first | exact hobj | rfl | exact .eq rfl | exact congrArg (SV.int .i64) hwr
  · have hm8 : m = 8 := by omega
    have hd : (v.ws.take m).flatMap be4b = v.dig := by rw [hm8]; rfl
    have hl : v.dig.length < 1000000000000 := by
      show (be4b v.a ++ (be4b v.b ++ (be4b v.c ++ (be4b v.d ++ (be4b v.e ++ (be4b v.f ++ (be4b v.g ++ (be4b v.h ++ [])))))))).length < _
      simp [be4b]
    rw [hd]
    (conv => whnf)
    (repeat (first | (exact Out.same; conv => whnf) | (exact Out1.same; conv => whnf) | (refine QAnd.mk ?_ ?_; conv => whnf) | (apply QStepH.go; conv => whnf) | (refine Both.lit_true ?_; conv => whnf) | (refine Both.lit_false ?_; conv => whnf) | (apply QStep.go; conv => whnf) | (refine Need.au ?_; conv => whnf) | (refine ⟨_, rfl, ?_⟩; conv => whnf)))
    refine CallVC.auto bstr_k ⟨_, rfl, rfl, hl, ?_⟩
    (conv => whnf)
    (repeat (first | (exact Out.same; conv => whnf) | (exact Out1.same; conv => whnf) | (refine QAnd.mk ?_ ?_; conv => whnf) | (apply QStepH.go; conv => whnf) | (refine Both.lit_true ?_; conv => whnf) | (refine Both.lit_false ?_; conv => whnf) | (apply QStep.go; conv => whnf) | (refine Need.au ?_; conv => whnf) | (refine ⟨_, rfl, ?_⟩; conv => whnf)))
    refine ⟨_, _, WeakV.auto ?_, h⟩
    (repeat' ((conv => whnf); first | exact True.intro | (refine And.intro ?_ ?_)))
    all_goals first | rfl | exact .eq rfl
theorem dig_k : Contract Tryd.prog [] 53 digS := ⟨⟨⟨_, rfl, rfl, rfl⟩⟩, dig_c⟩
end Go.LX
end
section
set_option maxRecDepth 100000
set_option maxHeartbeats 1000000
set_option autoImplicit false
set_option linter.unusedVariables false
set_option linter.unusedSimpArgs false
namespace Go.LX
open Go.Proofs

def absorb : Nat → St → List UInt8 → St × List UInt8
  | 0, v, r => (v, r)
  | k + 1, v, r => absorb k (v.mix (r.take 64)) (r.drop 64)
def St.put (v : St) (r : List UInt8) : St × List UInt8 := absorb (r.length / 64) v r
def hwrS : Spec := fun args H Q => match args, H with
  | [.ptr 0 0, .str s], [.cells [.int .u32 x0, .int .u32 x1, .int .u32 x2, .int .u32 x3, .int .u32 x4, .int .u32 x5, .int .u32 x6, .int .u32 x7, .str r, .int .i64 n] 85] => ∃ v : St, (x0 = u32 v.a ∧ x1 = u32 v.b ∧ x2 = u32 v.c ∧ x3 = u32 v.d ∧ x4 = u32 v.e ∧ x5 = u32 v.f ∧ x6 = u32 v.g ∧ x7 = u32 v.h) ∧
      (r.length < 1000000 ∧ s.length < 1000000 ∧ 0 ≤ n ∧ n < 1000000000000) ∧ Q (.tuple []) [hsh (v.put (r ++ s)).1 (v.put (r ++ s)).2 (n + s.length)]
  | _, _ => False
theorem hwr_c {y0 : CV} {cs0 : List CV} (hK : KAt y0 cs0) : Meets Tryd.prog [(0, y0 :: cs0)] 41 hwrS := by
  refine meets_of Γok Tryd.func41 rfl ?_
  intro args H Q h
  unfold hwrS at h
  split at h
  case h_2 => exact h.elim
  rename_i s x0 x1 x2 x3 x4 x5 x6 x7 r n
  obtain ⟨v, ⟨rfl, rfl, rfl, rfl, rfl, rfl, rfl, rfl⟩, ⟨hr, hs, hn0, hn1⟩, h⟩ := h
  have hw : IntKind.i64.wrap (n + (s.length : Int)) = n + (s.length : Int) := wrap_i64 (by omega) (by omega)
  have hcat : r.length + s.length ≤ 9223372036854775807 := by omega
  have hcl : (r ++ s).length ≤ 281474976710656 := by rw [List.length_append]; omega
  (refine sx_sound Γok _ ?_; conv => whnf)
  (repeat (first | (refine Need.mk hcat ?_; conv => whnf) | (exact Out.same; conv => whnf) | (exact Out1.same; conv => whnf) | (refine QAnd.mk ?_ ?_; conv => whnf) | (apply QStepH.go; conv => whnf) | (refine Both.lit_true ?_; conv => whnf) | (refine Both.lit_false ?_; conv => whnf) | (apply QStep.go; conv => whnf) | (refine Need.au ?_; conv => whnf) | (refine ⟨_, rfl, ?_⟩; conv => whnf)))
  refine CallVC.auto (clone_k.gl (G := [(0, y0 :: cs0)])) (Need.mk hcl ?_)
  (conv => whnf)
  (repeat (first | (exact Out.same; conv => whnf) | (exact Out1.same; conv => whnf) | (refine QAnd.mk ?_ ?_; conv => whnf) | (apply QStepH.go; conv => whnf) | (refine Both.lit_true ?_; conv => whnf) | (refine Both.lit_false ?_; conv => whnf) | (apply QStep.go; conv => whnf) | (refine Need.au ?_; conv => whnf) | (refine ⟨_, rfl, ?_⟩; conv => whnf)))
  refine loop_rule (fun x : St × List UInt8 => match x with | (q, t) => ⟨[.ptr 0 0, .any, .any, .any, .any, .any, .any, .any, .any, .any, .any, .any, .any, .any, .any, .any, .any, .any, .any, .any, .any, .any, .any, .any, .any, .any, .any, .any, .any, .any, .any, .any, .any, .any, .any, .any, .any, .any, .any, .any, .any, .any, .any, .any, .any, .any], [hsh q t (n + (s.length : Int))]⟩) (fun x => x.1.put x.2 = v.put (r ++ s) ∧ x.2.length < 3000000) (fun x => x.2.length) (v, r ++ s) ⟨rfl, by show (r ++ s).length < 3000000; rw [List.length_append]; omega⟩ (Weak.auto ?_) ?_
  · (repeat' ((conv => whnf); first | exact True.intro | (refine And.intro ?_ ?_)))
    all_goals first | rfl | exact .eq rfl | exact congrArg (SV.int .i64) hw | (refine .eq ?_; rw [hw]; rfl)
  rintro ⟨q, t⟩ ⟨hp, htl⟩
  dsimp only at hp htl
  (refine sx_sound Γok _ ?_; conv => whnf)
  (repeat (first | (exact Out.same; conv => whnf) | (exact Out1.same; conv => whnf) | (refine QAnd.mk ?_ ?_; conv => whnf) | (apply QStepH.go; conv => whnf) | (refine Both.lit_true ?_; conv => whnf) | (refine Both.lit_false ?_; conv => whnf) | (apply QStep.go; conv => whnf) | (refine Need.au ?_; conv => whnf) | (refine ⟨_, rfl, ?_⟩; conv => whnf)))
  refine Both.dec (fun hlt => ?_) (fun hge => ?_)
  · have h64 : 64 ≤ t.length := by omega
    have hcut : 0 ≤ (0 : Int) ∧ (0 : Int) ≤ 64 ∧ (64 : Int) ≤ ((t.length : Nat) : Int) := by omega
    have hput : (q.mix (t.take 64)).put (t.drop 64) = q.put t := by
      unfold St.put
      rw [List.length_drop, show t.length / 64 = (t.length - 64) / 64 + 1 by omega, absorb]
    have htk : (List.drop (Int.toNat 0) (List.take (Int.toNat 64) t)).length = 64 := by
      show (List.take 64 t).length = 64
      rw [List.length_take]
      omega
    have htk2 : List.drop (Int.toNat 0) (List.take (Int.toNat 64) t) = t.take 64 := rfl
    have hdr : List.drop (Int.toNat 64) (List.take (((t.length : Nat) : Int)).toNat t) = t.drop 64 := by
      show List.drop 64 (List.take t.length t) = _
      rw [List.take_length]
    have hcd : 0 ≤ (64 : Int) ∧ (64 : Int) ≤ ((t.length : Nat) : Int) ∧ ((t.length : Nat) : Int) ≤ ((t.length : Nat) : Int) := by omega
    have hst : SV.str (List.drop (Int.toNat 64) (List.take (((t.length : Nat) : Int)).toNat t)) = SV.str (t.drop 64) := congrArg SV.str hdr
    (conv => whnf)
    (refine DrawVC.any Γok (by kernel_rfl) (by kernel_rfl) (by kernel_rfl) (by rfl) ?_; conv => whnf)
    (repeat (first | (refine Need.mk hcut ?_; conv => whnf) | (refine CallVC.auto (mix_k hK) ⟨q, ⟨rfl, rfl, rfl, rfl, rfl, rfl, rfl, rfl⟩, htk, ?_⟩; conv => whnf) | (exact Out.same; conv => whnf) | (exact Out1.same; conv => whnf) | (refine QAnd.mk ?_ ?_; conv => whnf) | (apply QStepH.go; conv => whnf) | (refine Both.lit_true ?_; conv => whnf) | (refine Both.lit_false ?_; conv => whnf) | (apply QStep.go; conv => whnf) | (refine Need.au ?_; conv => whnf) | (refine ⟨_, rfl, ?_⟩; conv => whnf)))
    (repeat (first | (refine Need.mk hcd ?_; conv => whnf) | (exact Out.same; conv => whnf) | (exact Out1.same; conv => whnf) | (refine QAnd.mk ?_ ?_; conv => whnf) | (apply QStepH.go; conv => whnf) | (refine Both.lit_true ?_; conv => whnf) | (refine Both.lit_false ?_; conv => whnf) | (apply QStep.go; conv => whnf) | (refine Need.au ?_; conv => whnf) | (refine ⟨_, rfl, ?_⟩; conv => whnf)))
    rw [hdr]
    refine ⟨(q.mix (t.take 64), t.drop 64), ⟨hput.trans hp, by show (t.drop 64).length < 3000000; rw [List.length_drop]; omega⟩, by show (t.drop 64).length < t.length; rw [List.length_drop]; omega, Weak.auto ?_⟩
    (repeat' ((conv => whnf); first | exact True.intro | (refine And.intro ?_ ?_)))
    all_goals first | rfl | exact .eq rfl
  · have hz : t.length / 64 = 0 := by omega
    have hpt : q.put t = (q, t) := by rw [St.put, hz]; rfl
    rw [hpt] at hp
    rw [← hp] at h
    (conv => whnf)
    (repeat (first | (exact Out.same; conv => whnf) | (exact Out1.same; conv => whnf) | (refine QAnd.mk ?_ ?_; conv => whnf) | (apply QStepH.go; conv => whnf) | (refine Both.lit_true ?_; conv => whnf) | (refine Both.lit_false ?_; conv => whnf) | (apply QStep.go; conv => whnf) | (refine Need.au ?_; conv => whnf) | (refine ⟨_, rfl, ?_⟩; conv => whnf)))
    refine ⟨_, _, WeakV.auto ?_, h⟩
    (repeat' ((conv => whnf); first | exact True.intro | (refine And.intro ?_ ?_)))
    all_goals first | rfl | exact .eq rfl
theorem hwr_k {y0 : CV} {cs0 : List CV} (hK : KAt y0 cs0) : Contract Tryd.prog [(0, y0 :: cs0)] 41 hwrS := ⟨⟨⟨_, rfl, rfl, rfl⟩⟩, hwr_c hK⟩
end Go.LX
end
section
set_option maxRecDepth 100000
set_option maxHeartbeats 1000000
set_option autoImplicit false
set_option linter.unusedVariables false
set_option linter.unusedSimpArgs false
namespace Go.LX
open Go.Proofs

def dg (n : Nat) : UInt8 := ([48, 49, 50, 51, 52, 53, 54, 55, 56, 57, 97, 98, 99, 100, 101, 102] : List UInt8).getD n 0
def hx (b : UInt8) : List UInt8 := [dg (b.toNat / 16), dg (b.toNat % 16)]
end Go.LX
end
section
set_option maxRecDepth 100000
set_option maxHeartbeats 1000000
set_option autoImplicit false
set_option linter.unusedVariables false
set_option linter.unusedSimpArgs false
namespace Go.LX
open Go.Proofs

def beL (n k : Nat) : List UInt8 := (List.range k).map fun j => UInt8.ofNat (n / 256 ^ (7 - j))
theorem beL_len (n k : Nat) : (beL n k).length = k := by simp [beL]
theorem beL_one (n k : Nat) : beL n (k + 1) = beL n k ++ [UInt8.ofNat (n / 256 ^ (7 - k))] := by
  simp [beL, List.range_succ]
theorem byteS_go (v k : Nat) (hk : k ≤ 7) : IntKind.u8.wrap (shrI .u64 (v : Int) (8 * (k : Int))) = ((UInt8.ofNat (v / 256 ^ k)).toNat : Int) := by
  unfold shrI
  have : min (8 * (k : Int)).toNat IntKind.u64.bits = 8 * k := by
    simp only [IntKind.bits]
    omega
  rw [this, Int.fdiv_eq_ediv_of_nonneg _ (by exact Int.pow_nonneg (by decide)), wrap_u8_mod, show ((2 : Int) ^ (8 * k)) = ((256 ^ k : Nat) : Int) by rw [show (256 : Nat) = 2 ^ 8 from rfl, ← Nat.pow_mul]; simp]
  simp
def pad (n : Nat) : List UInt8 := [128] ++ List.replicate ((119 - n % 64) % 64) 0 ++ beL (n * 8) 8
def St.end_ (v : St) (r : List UInt8) (n : Nat) : List UInt8 := (v.put (r ++ pad n)).1.dig
def sumHS : Spec := fun args H Q => match args, H with
  | [.ptr 0 0], [.cells [.int .u32 x0, .int .u32 x1, .int .u32 x2, .int .u32 x3, .int .u32 x4, .int .u32 x5, .int .u32 x6, .int .u32 x7, .str r, .int .i64 n] 85] => ∃ (v : St) (m : Nat), (x0 = u32 v.a ∧ x1 = u32 v.b ∧ x2 = u32 v.c ∧ x3 = u32 v.d ∧ x4 = u32 v.e ∧ x5 = u32 v.f ∧ x6 = u32 v.g ∧ x7 = u32 v.h) ∧
      (r.length < 1000 ∧ n = (m : Int) ∧ m < 1000000000) ∧ Q (.str (v.end_ r m)) [hsh v r n]
  | _, _ => False
theorem sumH_c {y0 : CV} {cs0 : List CV} (hK : KAt y0 cs0) : Meets Tryd.prog [(0, y0 :: cs0)] 42 sumHS := by
  refine meets_of Γok Tryd.func42 rfl ?_
  intro args H Q h
  unfold sumHS at h
  split at h
  case h_2 => exact h.elim
  rename_i x0 x1 x2 x3 x4 x5 x6 x7 r n
  obtain ⟨v, m, ⟨rfl, rfl, rfl, rfl, rfl, rfl, rfl, rfl⟩, ⟨hr, rfl, hm⟩, h⟩ := h
  (refine sx_sound Γok _ ?_; conv => whnf)
  (repeat (first | (exact Out.same; conv => whnf) | (exact Out1.same; conv => whnf) | (refine QAnd.mk ?_ ?_; conv => whnf) | (apply QStepH.go; conv => whnf) | (refine Both.lit_true ?_; conv => whnf) | (refine Both.lit_false ?_; conv => whnf) | (apply QStep.go; conv => whnf) | (refine Need.au ?_; conv => whnf) | (refine ⟨_, rfl, ?_⟩; conv => whnf)))
  refine loop_rule (fun j : Nat => ⟨[.ptr 0 0, .any, .any, .ptr 1 0, .ptr 2 0, .int .i64 (56 - 8 * (j : Int)), .any, .any, .any, .any, .any, .any, .any, .any, .any, .any, .any, .any, .any, .any, .any, .any, .any, .any, .any, .any, .any, .any, .any, .any, .any, .any, .any, .any, .any, .any, .any], [hsh v r (m : Int), hsh v r (m : Int), .cells [.opt 2 0, .own 3] 88, .own 5 1 (beL (m * 8) j).length (bys (beL (m * 8) j)) true]⟩) (fun j => j ≤ 8) (fun j => 8 - j) 0 (by omega) ((Weak.bld 2 5 rfl).trans (Weak.auto ?_)) ?_
  · (repeat' ((conv => whnf); first | exact True.intro | (refine And.intro ?_ ?_)))
    all_goals first | rfl | exact .eq rfl
  intro j hj
  (refine sx_sound Γok _ ?_; conv => whnf)
  (repeat (first | (exact Out.same; conv => whnf) | (exact Out1.same; conv => whnf) | (refine QAnd.mk ?_ ?_; conv => whnf) | (apply QStepH.go; conv => whnf) | (refine Both.lit_true ?_; conv => whnf) | (refine Both.lit_false ?_; conv => whnf) | (apply QStep.go; conv => whnf) | (refine Need.au ?_; conv => whnf) | (refine ⟨_, rfl, ?_⟩; conv => whnf)))
  refine Both.dec (fun hlt => ?_) (fun hge => ?_)
  · have hj8 : j < 8 := by omega
    have hw : IntKind.u64.wrap (IntKind.u64.wrap (m : Int) * 8) = ((m * 8 : Nat) : Int) := by rw [wrap_u64 (n := (m : Int)) (by omega) (by omega), wrap_u64 (by omega) (by omega)]; rfl
    have hb : IntKind.u8.wrap (shrI .u64 (IntKind.u64.wrap (IntKind.u64.wrap (m : Int) * 8)) (56 - 8 * (j : Int))) = ((UInt8.ofNat (m * 8 / 256 ^ (7 - j))).toNat : Int) := by
      rw [hw, show 56 - 8 * (j : Int) = 8 * ((7 - j : Nat) : Int) by omega, byteS_go _ _ (by omega)]
    have hw6 : IntKind.i64.wrap (56 - 8 * (j : Int) - 8) = 56 - 8 * ((j + 1 : Nat) : Int) := by rw [wrap_i64 (by omega) (by omega)]; omega
    have hbl : (beL (m * 8) j).length < 1000000000 := by rw [beL_len]; omega
    have hobj : LObj.own 5 1 ((beL (m * 8) j).length + 1) (bys ((beL (m * 8) j) ++ [UInt8.ofNat (m * 8 / 256 ^ (7 - j))])) true = LObj.own 5 1 (beL (m * 8) (j + 1)).length (bys (beL (m * 8) (j + 1))) true := by
      rw [beL_one, List.length_append (bs := [_])]
      rfl
    (conv => whnf)
    (repeat (first | (exact Out.same; conv => whnf) | (exact Out1.same; conv => whnf) | (refine QAnd.mk ?_ ?_; conv => whnf) | (apply QStepH.go; conv => whnf) | (refine Both.lit_true ?_; conv => whnf) | (refine Both.lit_false ?_; conv => whnf) | (apply QStep.go; conv => whnf) | (refine Need.au ?_; conv => whnf) | (refine ⟨_, rfl, ?_⟩; conv => whnf)))
    refine CallVC.auto (bwb_k.gl (G := [(0, y0 :: cs0)])) ⟨_, _, hb, rfl, rfl, hbl, ?_⟩
    (conv => whnf)
    (repeat (first | (exact Out.same; conv => whnf) | (exact Out1.same; conv => whnf) | (refine QAnd.mk ?_ ?_; conv => whnf) | (apply QStepH.go; conv => whnf) | (refine Both.lit_true ?_; conv => whnf) | (refine Both.lit_false ?_; conv => whnf) | (apply QStep.go; conv => whnf) | (refine Need.au ?_; conv => whnf) | (refine ⟨_, rfl, ?_⟩; conv => whnf)))
    refine ⟨j + 1, by omega, by omega, Weak.auto ?_⟩
    (repeat' ((conv => whnf); first | exact True.intro | (refine And.intro ?_ ?_)))
    all_goals first | exact hobj | rfl | exact .eq rfl | exact congrArg (SV.int .i64) hw6
  · have hj8 : j = 8 := by omega
    subst hj8
    obtain ⟨z, hz⟩ : ∃ z, (119 - m % 64) % 64 = z := ⟨_, rfl⟩
    have hr1 : (IntKind.i64.wrap (119 - (m : Int).tmod 64)).tmod 64 = ((z : Nat) : Int) := by
      have h1 : (m : Int).tmod 64 = ((m % 64 : Nat) : Int) := by rw [Int.tmod_eq_emod_of_nonneg (by omega)]; omega
      rw [h1, wrap_i64 (by omega) (by omega), Int.tmod_eq_emod_of_nonneg (by omega)]
      omega
    have hz64 : z < 64 := by omega
    have hbz : (beL (m * 8) 8).length = 8 := beL_len _ _
    have hnz : 0 ≤ (IntKind.i64.wrap (119 - (m : Int).tmod 64)).tmod 64 ∧ (IntKind.i64.wrap (119 - (m : Int).tmod 64)).tmod 64 ≤ 140737488355328 := by rw [hr1]; omega
    have hend : v.end_ r m = (v.put (r ++ (([128] ++ List.replicate ((z : Nat) : Int).toNat 0) ++ beL (m * 8) 8))).1.dig := by
      unfold St.end_ pad
      rw [hz]
      rfl
    rw [hend] at h
    revert hbz h
    generalize beL (m * 8) 8 = bs
    intro h hbz
    have hl1 : ([128] : List UInt8).length + (List.replicate ((z : Nat) : Int).toNat (0 : UInt8)).length ≤ 9223372036854775807 := by
      rw [List.length_replicate]
      show 1 + z ≤ _
      omega
    have hl2 : ([128] ++ List.replicate ((z : Nat) : Int).toNat (0 : UInt8)).length + bs.length ≤ 9223372036854775807 := by
      rw [List.length_append, List.length_replicate]
      show 1 + z + _ ≤ _
      omega
    have hl3 : bs.length < 1000000000000 := by omega
    have hl4 : (([128] ++ List.replicate ((z : Nat) : Int).toNat (0 : UInt8)) ++ bs).length < 1000000 := by
      rw [List.length_append, List.length_append, List.length_replicate]
      show 1 + z + _ < _
      omega
    (conv => whnf)
    (repeat (first | (exact Out.same; conv => whnf) | (exact Out1.same; conv => whnf) | (refine QAnd.mk ?_ ?_; conv => whnf) | (apply QStepH.go; conv => whnf) | (refine Both.lit_true ?_; conv => whnf) | (refine Both.lit_false ?_; conv => whnf) | (apply QStep.go; conv => whnf) | (refine Need.au ?_; conv => whnf) | (refine ⟨_, rfl, ?_⟩; conv => whnf)))
    refine CallVC.auto (zero_k.gl (G := [(0, y0 :: cs0)])) (Need.mk hnz ?_)
    rw [hr1]
    (conv => whnf)
    (repeat (first | (refine Need.mk hl1 ?_; conv => whnf) | (exact Out.same; conv => whnf) | (exact Out1.same; conv => whnf) | (refine QAnd.mk ?_ ?_; conv => whnf) | (apply QStepH.go; conv => whnf) | (refine Both.lit_true ?_; conv => whnf) | (refine Both.lit_false ?_; conv => whnf) | (apply QStep.go; conv => whnf) | (refine Need.au ?_; conv => whnf) | (refine ⟨_, rfl, ?_⟩; conv => whnf)))
    refine CallVC.auto (bstr_k.gl (G := [(0, y0 :: cs0)])) ⟨_, rfl, rfl, hl3, ?_⟩
    (conv => whnf)
    (repeat (first | (refine Need.mk hl2 ?_; conv => whnf) | (exact Out.same; conv => whnf) | (exact Out1.same; conv => whnf) | (refine QAnd.mk ?_ ?_; conv => whnf) | (apply QStepH.go; conv => whnf) | (refine Both.lit_true ?_; conv => whnf) | (refine Both.lit_false ?_; conv => whnf) | (apply QStep.go; conv => whnf) | (refine Need.au ?_; conv => whnf) | (refine ⟨_, rfl, ?_⟩; conv => whnf)))
    refine CallVC.auto (hwr_k hK) ⟨v, ⟨rfl, rfl, rfl, rfl, rfl, rfl, rfl, rfl⟩, ⟨by omega, hl4, by omega, by omega⟩, ?_⟩
    (conv => whnf)
    (repeat (first | (exact Out.same; conv => whnf) | (exact Out1.same; conv => whnf) | (refine QAnd.mk ?_ ?_; conv => whnf) | (apply QStepH.go; conv => whnf) | (refine Both.lit_true ?_; conv => whnf) | (refine Both.lit_false ?_; conv => whnf) | (apply QStep.go; conv => whnf) | (refine Need.au ?_; conv => whnf) | (refine ⟨_, rfl, ?_⟩; conv => whnf)))
    refine CallVC.auto (dig_k.gl (G := [(0, y0 :: cs0)])) ⟨_, ⟨rfl, rfl, rfl, rfl, rfl, rfl, rfl, rfl⟩, ?_⟩
    (conv => whnf)
    (repeat (first | (exact Out.same; conv => whnf) | (exact Out1.same; conv => whnf) | (refine QAnd.mk ?_ ?_; conv => whnf) | (apply QStepH.go; conv => whnf) | (refine Both.lit_true ?_; conv => whnf) | (refine Both.lit_false ?_; conv => whnf) | (apply QStep.go; conv => whnf) | (refine Need.au ?_; conv => whnf) | (refine ⟨_, rfl, ?_⟩; conv => whnf)))
    refine ⟨_, _, WeakV.auto ?_, h⟩
    (repeat' ((conv => whnf); first | exact True.intro | (refine And.intro ?_ ?_)))
    all_goals first | rfl | exact .eq rfl
theorem sumH_k {y0 : CV} {cs0 : List CV} (hK : KAt y0 cs0) : Contract Tryd.prog [(0, y0 :: cs0)] 42 sumHS := ⟨⟨⟨_, rfl, rfl, rfl⟩⟩, sumH_c hK⟩
end Go.LX
end
section
set_option maxRecDepth 100000
set_option maxHeartbeats 1000000
set_option autoImplicit false
set_option linter.unusedVariables false
set_option linter.unusedSimpArgs false
namespace Go.LX
open Go.Proofs

theorem absorb_app : ∀ (k : Nat) (v : St) (r s : List UInt8), 64 * k ≤ r.length → absorb k v (r ++ s) = ((absorb k v r).1, (absorb k v r).2 ++ s)
  | 0, v, r, s, _ => rfl
  | k + 1, v, r, s, h => by
    rw [absorb, absorb, List.take_append_of_le_length (by omega), List.drop_append_of_le_length (by omega), absorb_app k _ _ _ (by rw [List.length_drop]; omega)]
theorem absorb_len : ∀ (k : Nat) (v : St) (r : List UInt8), (absorb k v r).2.length = r.length - 64 * k
  | 0, v, r => rfl
  | k + 1, v, r => by rw [absorb, absorb_len k, List.length_drop]; omega
theorem absorb_add : ∀ (j k : Nat) (v : St) (r : List UInt8), absorb (j + k) v r = absorb k (absorb j v r).1 (absorb j v r).2
  | 0, k, v, r => by rw [Nat.zero_add]; rfl
  | j + 1, k, v, r => by rw [show j + 1 + k = (j + k) + 1 by omega, absorb, absorb_add j k, absorb]
theorem put_len (v : St) (r : List UInt8) : (v.put r).2.length = r.length % 64 := by
  rw [St.put, absorb_len]
  omega
theorem put_app (v : St) (r s : List UInt8) : (v.put r).1.put ((v.put r).2 ++ s) = v.put (r ++ s) := by
  have h1 : (r ++ s).length / 64 = r.length / 64 + ((v.put r).2 ++ s).length / 64 := by
    rw [List.length_append, List.length_append, put_len]
    omega
  have h2 : v.put (r ++ s) = absorb ((r ++ s).length / 64) v (r ++ s) := rfl
  rw [h2, h1, absorb_add, absorb_app (r.length / 64) v r s (by omega)]
  rfl
def hcs (v : St) (r : List UInt8) (n : Int) : List SV := [.int .u32 (u32 v.a), .int .u32 (u32 v.b), .int .u32 (u32 v.c), .int .u32 (u32 v.d), .int .u32 (u32 v.e), .int .u32 (u32 v.f), .int .u32 (u32 v.g), .int .u32 (u32 v.h), .str r, .int .i64 n]
def shaD (s : List UInt8) : List UInt8 := St.end_ (St.init.put s).1 (St.init.put s).2 s.length
theorem shaD_eq (s : List UInt8) : shaD s = (St.init.put (s ++ pad s.length)).1.dig := by
  unfold shaD St.end_
  rw [put_app]
theorem dig_len (v : St) : v.dig.length = 32 := rfl
theorem shaD_len (s : List UInt8) : (shaD s).length = 32 := dig_len _
theorem parts_at (l : List (List UInt8)) (k : Nat) (h : k < l.length) : (l.map CV.str)[((k : Nat) : Int).toNat]? = some (CV.str (l.getD k [])) := by
  rw [Int.toNat_natCast, List.getElem?_map, List.getD_eq_getElem?_getD, List.getElem?_eq_getElem h]
  rfl
theorem pflat_take (l : List (List UInt8)) {k : Nat} (h : k < l.length) : (l.take (k + 1)).flatten = (l.take k).flatten ++ l.getD k [] := by
  rw [List.take_add_one, List.getD_eq_getElem?_getD, List.getElem?_eq_getElem h, List.flatten_append]
  simp
theorem flat_take_le (l : List (List UInt8)) (k : Nat) : (l.take k).flatten.length ≤ l.flatten.length := by
  have := congrArg (fun l => (List.flatten l).length) (List.take_append_drop k l)
  simp only [List.flatten_append, List.length_append] at this
  omega
def shaSumS : Spec := fun args H Q => match args, H with
  | [.nilsl], [] => Q (.str (shaD [])) []
  | [.sl 1 n cs f], [] => ∃ l : List (List UInt8), n = l.length ∧ cs = l.map CV.str ∧ l.length < 1000000000 ∧ l.flatten.length < 500000 ∧ Q (.str (shaD l.flatten)) []
  | _, _ => False
theorem shaSum_c {y0 : CV} {cs0 : List CV} (hK : KAt y0 cs0) : Meets Tryd.prog [(0, y0 :: cs0)] 26 shaSumS := by
  refine meets_of Γok Tryd.func26 rfl ?_
  intro args H Q h
  unfold shaSumS at h
  split at h
  case h_3 => exact h.elim
  · (refine sx_sound Γok _ ?_; conv => whnf)
    refine CallVC.auto (newH_k.gl (G := [(0, y0 :: cs0)])) ?_
    (conv => whnf)
    (repeat (first | (exact Out.same; conv => whnf) | (exact Out1.same; conv => whnf) | (refine QAnd.mk ?_ ?_; conv => whnf) | (apply QStepH.go; conv => whnf) | (refine Both.lit_true ?_; conv => whnf) | (refine Both.lit_false ?_; conv => whnf) | (apply QStep.go; conv => whnf) | (refine Need.au ?_; conv => whnf) | (refine ⟨_, rfl, ?_⟩; conv => whnf)))
    refine loop_rule (fun k : Nat => ⟨[.any, .any, .any, .ptr 0 0, .any, .any, .any, .any, .int .i64 0, .int .i64 0, .any, .any, .any, .any, .any, .any, .any, .any, .any], [hsh St.init [] 0]⟩) (fun k => True) (fun k => 0) 0 trivial (Weak.auto ?_) ?_
    · (repeat' ((conv => whnf); first | exact True.intro | (refine And.intro ?_ ?_)))
      all_goals first | rfl | exact .eq rfl
    intro k hk
    (refine sx_sound Γok _ ?_; conv => whnf)
    (repeat (first | (exact Out.same; conv => whnf) | (exact Out1.same; conv => whnf) | (refine QAnd.mk ?_ ?_; conv => whnf) | (apply QStepH.go; conv => whnf) | (refine Both.lit_true ?_; conv => whnf) | (refine Both.lit_false ?_; conv => whnf) | (apply QStep.go; conv => whnf) | (refine Need.au ?_; conv => whnf) | (refine ⟨_, rfl, ?_⟩; conv => whnf) | (refine Both.of_false ?_ ?_; (focus (first | rfl | (simp <;> fail))); conv => whnf) | (refine Both.of_true ?_ ?_; (focus (first | rfl | (simp <;> fail))); conv => whnf)))
    refine CallVC.auto (sumH_k hK) ⟨St.init, 0, ⟨rfl, rfl, rfl, rfl, rfl, rfl, rfl, rfl⟩, ⟨by decide, rfl, by decide⟩, ?_⟩
    (conv => whnf)
    (repeat (first | (exact Out.same; conv => whnf) | (exact Out1.same; conv => whnf) | (refine QAnd.mk ?_ ?_; conv => whnf) | (apply QStepH.go; conv => whnf) | (refine Both.lit_true ?_; conv => whnf) | (refine Both.lit_false ?_; conv => whnf) | (apply QStep.go; conv => whnf) | (refine Need.au ?_; conv => whnf) | (refine ⟨_, rfl, ?_⟩; conv => whnf)))
    exact ⟨_, _, WeakV.drop rfl, h⟩
  rename_i n cs f
  obtain ⟨l, rfl, rfl, hlc, hll, h⟩ := h
  (refine sx_sound Γok _ ?_; conv => whnf)
  refine CallVC.auto (newH_k.gl (G := [(0, y0 :: cs0)])) ?_
  (conv => whnf)
  (repeat (first | (exact Out.same; conv => whnf) | (exact Out1.same; conv => whnf) | (refine QAnd.mk ?_ ?_; conv => whnf) | (apply QStepH.go; conv => whnf) | (refine Both.lit_true ?_; conv => whnf) | (refine Both.lit_false ?_; conv => whnf) | (apply QStep.go; conv => whnf) | (refine Need.au ?_; conv => whnf) | (refine ⟨_, rfl, ?_⟩; conv => whnf)))
  refine loop_rule (fun k : Nat => ⟨[.any, .any, .any, .ptr 0 0, .any, .any, .any, .sl 1 l.length (l.map CV.str) f, .int .i64 (l.length : Int), .int .i64 (k : Int), .any, .any, .any, .any, .any, .any, .any, .any, .any], [hsh (St.init.put (l.take k).flatten).1 (St.init.put (l.take k).flatten).2 ((l.take k).flatten.length : Int)]⟩) (fun k => k ≤ l.length) (fun k => l.length - k) 0 (Nat.zero_le _) (Weak.auto ?_) ?_
  · have h0 : hcs St.init [] 0 = hcs (St.init.put (l.take 0).flatten).1 (St.init.put (l.take 0).flatten).2 ((l.take 0).flatten.length : Int) := by rw [List.take_zero]; rfl
    (repeat' ((conv => whnf); first | exact True.intro | (refine And.intro ?_ ?_)))
    all_goals first | rfl | exact .eq h0 | exact .eq rfl
  intro k hk
  have htl := flat_take_le l k
  (refine sx_sound Γok _ ?_; conv => whnf)
  (repeat (first | (exact Out.same; conv => whnf) | (exact Out1.same; conv => whnf) | (refine QAnd.mk ?_ ?_; conv => whnf) | (apply QStepH.go; conv => whnf) | (refine Both.lit_true ?_; conv => whnf) | (refine Both.lit_false ?_; conv => whnf) | (apply QStep.go; conv => whnf) | (refine Need.au ?_; conv => whnf) | (refine ⟨_, rfl, ?_⟩; conv => whnf)))
  refine Both.dec (fun hlt => ?_) (fun hge => ?_)
  · have hkl : k < l.length := by omega
    have hx := parts_at l k hkl
    have hft := pflat_take l hkl
    have htl1 := flat_take_le l (k + 1)
    have hpa := put_app St.init (l.take k).flatten (l.getD k [])
    have hwr : IntKind.i64.wrap ((k : Int) + 1) = ((k + 1 : Nat) : Int) := by rw [wrap_i64 (by omega) (by omega)]; rfl
    have hrl := put_len St.init (l.take k).flatten
    rw [hft, List.length_append] at htl1
    have hobj : hcs ((St.init.put (l.take k).flatten).1.put ((St.init.put (l.take k).flatten).2 ++ l.getD k [])).1 ((St.init.put (l.take k).flatten).1.put ((St.init.put (l.take k).flatten).2 ++ l.getD k [])).2 (((l.take k).flatten.length : Int) + ((l.getD k []).length : Int)) = hcs (St.init.put (l.take (k + 1)).flatten).1 (St.init.put (l.take (k + 1)).flatten).2 ((l.take (k + 1)).flatten.length : Int) := by
      rw [hpa, hft, List.length_append]
      rfl
    revert hx htl1 hobj
    generalize l.getD k [] = p
    intro hx htl1 hobj
    clear hft hpa
    (conv => whnf)
    (repeat (first | (refine ⟨_, hx, ?_⟩; conv => whnf) | (exact Out.same; conv => whnf) | (exact Out1.same; conv => whnf) | (refine QAnd.mk ?_ ?_; conv => whnf) | (apply QStepH.go; conv => whnf) | (refine Both.lit_true ?_; conv => whnf) | (refine Both.lit_false ?_; conv => whnf) | (apply QStep.go; conv => whnf) | (refine Need.au ?_; conv => whnf) | (refine ⟨_, rfl, ?_⟩; conv => whnf)))
    refine CallVC.auto (hwr_k hK) ⟨_, ⟨rfl, rfl, rfl, rfl, rfl, rfl, rfl, rfl⟩, ⟨by omega, by omega, by omega, by omega⟩, ?_⟩
    (conv => whnf)
    (repeat (first | (exact Out.same; conv => whnf) | (exact Out1.same; conv => whnf) | (refine QAnd.mk ?_ ?_; conv => whnf) | (apply QStepH.go; conv => whnf) | (refine Both.lit_true ?_; conv => whnf) | (refine Both.lit_false ?_; conv => whnf) | (apply QStep.go; conv => whnf) | (refine Need.au ?_; conv => whnf) | (refine ⟨_, rfl, ?_⟩; conv => whnf)))
    refine ⟨k + 1, by omega, by omega, Weak.auto ?_⟩
    (repeat' ((conv => whnf); first | exact True.intro | (refine And.intro ?_ ?_)))
    all_goals first | exact .eq hobj | rfl | exact .eq rfl | exact congrArg (SV.int .i64) hwr
  have hke : k = l.length := by omega
  have hrl := put_len St.init l.flatten
  subst hke
  rw [List.take_length]
  (conv => whnf)
  (repeat (first | (exact Out.same; conv => whnf) | (exact Out1.same; conv => whnf) | (refine QAnd.mk ?_ ?_; conv => whnf) | (apply QStepH.go; conv => whnf) | (refine Both.lit_true ?_; conv => whnf) | (refine Both.lit_false ?_; conv => whnf) | (apply QStep.go; conv => whnf) | (refine Need.au ?_; conv => whnf) | (refine ⟨_, rfl, ?_⟩; conv => whnf)))
  refine CallVC.auto (sumH_k hK) ⟨_, _, ⟨rfl, rfl, rfl, rfl, rfl, rfl, rfl, rfl⟩, ⟨by omega, rfl, by omega⟩, ?_⟩
  (conv => whnf)
  (repeat (first | (exact Out.same; conv => whnf) | (exact Out1.same; conv => whnf) | (refine QAnd.mk ?_ ?_; conv => whnf) | (apply QStepH.go; conv => whnf) | (refine Both.lit_true ?_; conv => whnf) | (refine Both.lit_false ?_; conv => whnf) | (apply QStep.go; conv => whnf) | (refine Need.au ?_; conv => whnf) | (refine ⟨_, rfl, ?_⟩; conv => whnf)))
  exact ⟨_, _, WeakV.drop rfl, h⟩
theorem shaSum_k {y0 : CV} {cs0 : List CV} (hK : KAt y0 cs0) : Contract Tryd.prog [(0, y0 :: cs0)] 26 shaSumS := ⟨⟨⟨_, rfl, rfl, rfl⟩⟩, shaSum_c hK⟩
end Go.LX
end
section
set_option maxRecDepth 100000
set_option maxHeartbeats 1000000
set_option autoImplicit false
set_option linter.unusedVariables false
set_option linter.unusedSimpArgs false
namespace Go.LX
open Go.Proofs

end Go.LX
end
section
set_option maxRecDepth 100000
set_option maxHeartbeats 1000000
set_option autoImplicit false
set_option linter.unusedVariables false
set_option linter.unusedSimpArgs false
namespace Go.LX
open Go.Proofs

def yesS : Spec := fun args H Q => match args, H with
  | [], [] => Q (.bool true) []
  | _, _ => False
end Go.LX
end
section
set_option maxRecDepth 100000
set_option maxHeartbeats 1000000
set_option autoImplicit false
set_option linter.unusedVariables false
set_option linter.unusedSimpArgs false
namespace Go.LX
open Go.Proofs Go.RowKit

theorem Weak.ownNilT {G : Gl} {N : Nat} {s : LS} (k e sz : Nat) (hk : s.t[k]? = some .nilsl) : Weak G N s ⟨s.t.set k (.own s.h.length), s.h ++ [LObj.own e sz 0 [] true]⟩ := by
  intro A E w a hA hs
  obtain ⟨r1, r2, r3⟩ := Rel.push (w' := w) hs.rel none 0 (.slice none 0 0) (.own e sz 0 [] true) ⟨Nat.le_refl _, rfl, rfl, rfl⟩ (fun b _ _ => rfl) (fun b hb => by simp [foot, Env.add_v, Value.blk] at hb) (fun hkI => by
    show OwnR _ _ ((E.add 0 (.slice none 0 0)).v E.n) _ _ _ _ _
    rw [Env.add_v]
    exact ⟨by simp, .inl ⟨rfl, rfl⟩⟩)
  obtain ⟨v, hv1, hv2⟩ := hs.vals.get hk
  cases hv2
  refine ⟨E.add 0 (.slice none 0 0), ⟨hs.anc.trans (E.le_add _ _), ?_, r1, ⟨hs.gl.ok⟩, hs.nod⟩, r2⟩
  refine (hs.vals.kept (E.le_add _ _) (fun _ h => h) (fun _ _ => rfl)).same hv1 ?_
  have := VR.own (E := E.add 0 (.slice none 0 0)) (w := w) E.n (Nat.lt_succ_self _)
  rw [Env.add_v] at this
  rw [hs.rel.len]
  exact this
def n64 (n : Nat) : Nat := n % 18446744073709551616
def us (l : List Nat) : List CV := l.map fun (n : Nat) => CV.int .u64 (n : Int)
theorem wrap64 (n : Nat) : IntKind.u64.wrap (n : Int) = ((n64 n : Nat) : Int) := by rw [wrap_u64_mod]; rfl
theorem wrap64_add (a b : Nat) : IntKind.u64.wrap ((a : Int) + (b : Int)) = ((n64 (a + b) : Nat) : Int) := by rw [← wrap64]; rfl
theorem wrap64_mul (a b : Nat) : IntKind.u64.wrap ((a : Int) * (b : Int)) = ((n64 (a * b) : Nat) : Int) := by rw [← wrap64]; rfl
theorem n64_of {n : Nat} (h : n < 18446744073709551616) : n64 n = n := Nat.mod_eq_of_lt h
theorem n64_lt (n : Nat) : n64 n < 18446744073709551616 := Nat.mod_lt _ (by decide)
theorem us_len (l : List Nat) : (us l).length = l.length := List.length_map _
theorem us_at {l : List Nat} {k : Nat} (h : k < l.length) : (us l)[((k : Nat) : Int).toNat]? = some (CV.int .u64 ((l.getD k 0 : Nat) : Int)) := by
  rw [Int.toNat_natCast, us, List.getElem?_map, List.getD_eq_getElem?_getD, List.getElem?_eq_getElem h]
  rfl
theorem us_set (l : List Nat) (k n : Nat) : (us l).set ((k : Nat) : Int).toNat (CV.int .u64 (n : Int)) = us (l.set k n) := by
  rw [Int.toNat_natCast, us, us, List.map_set]
theorem us_app (l m : List Nat) : us l ++ us m = us (l ++ m) := by rw [us, us, us, List.map_append]
end Go.LX
end
section
set_option maxRecDepth 100000
set_option maxHeartbeats 1000000
set_option autoImplicit false
set_option linter.unusedVariables false
set_option linter.unusedSimpArgs false
namespace Go.LX
open Go.Proofs

def addY (l : List Nat) (a x : Nat) : Nat := n64 (n64 (x % 4294967296 + l.getD a 0) + n64 (x / 4294967296 * 4294967296))
def addL : Nat → List Nat → Nat → Nat → List Nat
  | 0, l, _, _ => l
  | f + 1, l, a, x => if 0 < x then addL f (l.set a (addY l a x % 4294967296)) (a + 1) (addY l a x / 4294967296) else l
theorem addL_len : ∀ (f : Nat) (l : List Nat) (a x : Nat), (addL f l a x).length = l.length
  | 0, _, _, _ => rfl
  | f + 1, l, a, x => by
    rw [addL]
    split
    · rw [addL_len f, List.length_set]
    · rfl
def addS : Spec := fun args H Q => match args, H with
  | [.own 0, .int .i64 k, .int .u64 y], [.own 59 1 n xs true] => ∃ (l : List Nat) (a x : Nat), xs = us l ∧ n = l.length ∧ l.length < 1000 ∧ k = a ∧ a ≤ l.length ∧ y = x ∧ x < 18446744073709551616 ∧
      Q (.tuple []) [.own 59 1 l.length (us (addL (l.length - a) l a x)) true]
  | _, _ => False
theorem add_c : Meets Tryd.prog [] 78 addS := by
  refine meets_of Γok Tryd.func78 rfl ?_
  intro args H Q h
  unfold addS at h
  split at h
  case h_2 => exact h.elim
  obtain ⟨l, a, x, rfl, rfl, hl, rfl, ha, rfl, hx, h⟩ := h
  obtain ⟨R, hR⟩ : ∃ R, addL (l.length - a) l a x = R := ⟨_, rfl⟩
  obtain ⟨L, hL⟩ : ∃ L, l.length = L := ⟨_, rfl⟩
  rw [hR] at h
  rw [hL] at h hR ha hl
  rw [hL]
  (refine sx_sound Γok _ ?_; conv => whnf)
  (repeat (first | (exact Out.same; conv => whnf) | (exact Out1.same; conv => whnf) | (refine QAnd.mk ?_ ?_; conv => whnf) | (apply QStepH.go; conv => whnf) | (refine Both.lit_true ?_; conv => whnf) | (refine Both.lit_false ?_; conv => whnf) | (apply QStep.go; conv => whnf) | (refine Need.au ?_; conv => whnf) | (refine ⟨_, rfl, ?_⟩; conv => whnf)))
  refine loop_rule (fun s : List Nat × Nat × Nat => match s with | (l, a, x) => ⟨[.own 0, .int .i64 (a : Int), .int .u64 (x : Int), .any, .any, .any, .any, .any, .any, .any, .any, .any, .any, .any, .any, .any, .any, .any, .any, .any, .any, .any, .any, .any, .any, .any, .any, .any, .any, .any, .any, .any, .any, .any], [.own 59 1 L (us l) true]⟩) (fun s => s.1.length = L ∧ s.2.1 ≤ L ∧ s.2.2 < 18446744073709551616 ∧ addL (L - s.2.1) s.1 s.2.1 s.2.2 = R) (fun s => L - s.2.1) (l, a, x) ⟨hL, ha, hx, hR⟩ (Weak.auto ?_) ?_
  · (repeat' ((conv => whnf); first | exact True.intro | (refine And.intro ?_ ?_)))
    all_goals first | rfl | exact .eq rfl
  clear hR hx ha
  rintro ⟨l, a, x⟩ ⟨hl1, ha, hx, hR⟩
  dsimp only at hl1 ha hx hR
  (refine sx_sound Γok _ ?_; conv => whnf)
  (repeat (first | (exact Out.same; conv => whnf) | (exact Out1.same; conv => whnf) | (refine QAnd.mk ?_ ?_; conv => whnf) | (apply QStepH.go; conv => whnf) | (refine Both.lit_true ?_; conv => whnf) | (refine Both.lit_false ?_; conv => whnf) | (apply QStep.go; conv => whnf) | (refine Need.au ?_; conv => whnf) | (refine ⟨_, rfl, ?_⟩; conv => whnf)))
  refine Both.dec (fun hlt => ?_) (fun hge => ?_)
  · (conv => whnf)
    (repeat (first | (exact Out.same; conv => whnf) | (exact Out1.same; conv => whnf) | (refine QAnd.mk ?_ ?_; conv => whnf) | (apply QStepH.go; conv => whnf) | (refine Both.lit_true ?_; conv => whnf) | (refine Both.lit_false ?_; conv => whnf) | (apply QStep.go; conv => whnf) | (refine Need.au ?_; conv => whnf) | (refine ⟨_, rfl, ?_⟩; conv => whnf)))
    refine Both.dec (fun hlt2 => ?_) (fun hge2 => ?_)
    · have haL : a < l.length := by omega
      have hat := us_at haL
      obtain ⟨y, hy⟩ : ∃ y, addY l a x = y := ⟨_, rfl⟩
      have hyv : IntKind.u64.wrap (IntKind.u64.wrap ((x : Int).tmod 4294967296 + ((l.getD a 0 : Nat) : Int)) + IntKind.u64.wrap (IntKind.u64.wrap ((x : Int).tdiv 4294967296) * 4294967296)) = (y : Int) := by
        have e1 : (x : Int).tmod 4294967296 = ((x % 4294967296 : Nat) : Int) := rfl
        have e2 : (x : Int).tdiv 4294967296 = ((x / 4294967296 : Nat) : Int) := rfl
        have e3 : (4294967296 : Int) = ((4294967296 : Nat) : Int) := rfl
        rw [e1, e2, wrap64 (x / 4294967296), n64_of (by omega), wrap64_add, e3, wrap64_mul, wrap64_add, ← hy]
        rfl
      have hy64 : y < 18446744073709551616 := by rw [← hy]; exact n64_lt _
      have hdv : IntKind.u64.wrap ((y : Int).tdiv 4294967296) = ((y / 4294967296 : Nat) : Int) := by
        rw [show (y : Int).tdiv 4294967296 = ((y / 4294967296 : Nat) : Int) from rfl, wrap64, n64_of (by omega)]
      have hset : (us l).set ((a : Int)).toNat (CV.int .u64 ((y : Int).tmod 4294967296)) = us (l.set a (y % 4294967296)) := us_set l a (y % 4294967296)
      have hwr : IntKind.i64.wrap ((a : Int) + 1) = ((a + 1 : Nat) : Int) := by rw [wrap_i64 (by omega) (by omega)]; rfl
      have hst : ti59.size = 1 ∧ ((a : Int)).toNat < (us l).length := ⟨rfl, by rw [us_len, Int.toNat_natCast]; exact haL⟩
      have hobj : LObj.own 59 1 L ((us l).set ((a : Int)).toNat (CV.int .u64 ((y : Int).tmod 4294967296))) true = LObj.own 59 1 L (us (l.set a (y % 4294967296))) true := by rw [hset]
      have hR2 : addL (L - (a + 1)) (l.set a (y % 4294967296)) (a + 1) (y / 4294967296) = R := by
        rw [← hR, show L - a = (L - (a + 1)) + 1 by omega, addL, if_pos (by omega), hy]
      (conv => whnf)
      (repeat (first | (refine ⟨_, hat, ?_⟩; conv => whnf) | (exact Out.same; conv => whnf) | (exact Out1.same; conv => whnf) | (refine QAnd.mk ?_ ?_; conv => whnf) | (apply QStepH.go; conv => whnf) | (refine Both.lit_true ?_; conv => whnf) | (refine Both.lit_false ?_; conv => whnf) | (apply QStep.go; conv => whnf) | (refine Need.au ?_; conv => whnf) | (refine ⟨_, rfl, ?_⟩; conv => whnf)))
      rw [hyv]
      (repeat (first | (refine Need.mk hst ?_; conv => whnf) | (exact Out.same; conv => whnf) | (exact Out1.same; conv => whnf) | (refine QAnd.mk ?_ ?_; conv => whnf) | (apply QStepH.go; conv => whnf) | (refine Both.lit_true ?_; conv => whnf) | (refine Both.lit_false ?_; conv => whnf) | (apply QStep.go; conv => whnf) | (refine Need.au ?_; conv => whnf) | (refine ⟨_, rfl, ?_⟩; conv => whnf)))
      refine ⟨(l.set a (y % 4294967296), a + 1, y / 4294967296), ⟨by rw [List.length_set]; exact hl1, by show a + 1 ≤ L; omega, by show y / 4294967296 < _; omega, hR2⟩, by show L - (a + 1) < L - a; omega, Weak.auto ?_⟩
      (repeat' ((conv => whnf); first | exact True.intro | (refine And.intro ?_ ?_)))
      all_goals first | rfl | exact .eq rfl | exact hobj | exact congrArg (SV.int .i64) hwr | exact congrArg (SV.int .u64) hdv
    · have h0 : L - a = 0 := by omega
      rw [h0] at hR
      have hR : l = R := hR
      (conv => whnf)
      (repeat (first | (exact Out.same; conv => whnf) | (exact Out1.same; conv => whnf) | (refine QAnd.mk ?_ ?_; conv => whnf) | (apply QStepH.go; conv => whnf) | (refine Both.lit_true ?_; conv => whnf) | (refine Both.lit_false ?_; conv => whnf) | (apply QStep.go; conv => whnf) | (refine Need.au ?_; conv => whnf) | (refine ⟨_, rfl, ?_⟩; conv => whnf) | (refine Both.of_false ?_ ?_; (focus (first | rfl | (simp <;> fail))); conv => whnf) | (refine Both.of_true ?_ ?_; (focus (first | rfl | (simp <;> fail))); conv => whnf)))
      rw [hR]
      refine ⟨_, _, WeakV.auto ?_, h⟩
      (repeat' ((conv => whnf); first | exact True.intro | (refine And.intro ?_ ?_)))
      all_goals first | rfl | exact .eq rfl
  · have hx0 : x = 0 := by omega
    have hR : l = R := by
      rw [hx0] at hR
      rw [← hR]
      cases L - a with
      | zero => rfl
      | succ f => rw [addL, if_neg (by omega)]
    (conv => whnf)
    (repeat (first | (exact Out.same; conv => whnf) | (exact Out1.same; conv => whnf) | (refine QAnd.mk ?_ ?_; conv => whnf) | (apply QStepH.go; conv => whnf) | (refine Both.lit_true ?_; conv => whnf) | (refine Both.lit_false ?_; conv => whnf) | (apply QStep.go; conv => whnf) | (refine Need.au ?_; conv => whnf) | (refine ⟨_, rfl, ?_⟩; conv => whnf) | (refine Both.of_false ?_ ?_; (focus (first | rfl | (simp <;> fail))); conv => whnf) | (refine Both.of_true ?_ ?_; (focus (first | rfl | (simp <;> fail))); conv => whnf)))
    rw [hR]
    refine ⟨_, _, WeakV.auto ?_, h⟩
    (repeat' ((conv => whnf); first | exact True.intro | (refine And.intro ?_ ?_)))
    all_goals first | rfl | exact .eq rfl
theorem add_k : Contract Tryd.prog [] 78 addS := ⟨⟨⟨_, rfl, rfl, rfl⟩⟩, add_c⟩
end Go.LX
end
section
set_option maxRecDepth 100000
set_option maxHeartbeats 1000000
set_option autoImplicit false
set_option linter.unusedVariables false
set_option linter.unusedSimpArgs false
namespace Go.LX
open Go.Proofs

def sprL (l : List Nat) : Nat → List Nat
  | 0 => List.replicate (l.length + 1) 0
  | k + 1 => addL (l.length + 1 - k) (sprL l k) k (l.getD k 0)
def mulR (p : List Nat) (lo hi : Nat) : Nat → List Nat
  | 0 => List.replicate (p.length + 3) 0
  | k + 1 => addL (p.length + 3 - (k + 1)) (addL (p.length + 3 - k) (mulR p lo hi k) k (n64 (p.getD k 0 * lo))) (k + 1) (n64 (p.getD k 0 * hi))
def mulL (l : List Nat) (x : Nat) : List Nat := mulR (sprL l l.length) (x % 4294967296) (x / 4294967296) (sprL l l.length).length
def abL (a b : List Nat) : Nat → Bool
  | 0 => false
  | k + 1 => if a.getD k 0 = b.getD k 0 then abL a b k else decide (b.getD k 0 < a.getD k 0)
def mulsL (x : Nat) : Nat → List Nat
  | 0 => [x]
  | k + 1 => mulL (mulsL x k) x
def leastL (x n t : Nat) : Bool := !abL (mulsL x t) (List.replicate (t + 1) 0 ++ [n]) ((mulsL x t).length + (t + 2) + 1)
def bis (n t : Nat) : Nat → Nat → Nat → Nat
  | 0, lo, hi => lo
  | f + 1, lo, hi => if 1 < hi - lo then (if leastL ((lo + hi) / 2) n t then bis n t f ((lo + hi) / 2) hi else bis n t f lo ((lo + hi) / 2)) else lo
def rootL (n t : Nat) : Nat := bis n t 36 0 68719476736 % 4294967296
theorem addL_bd : ∀ (f : Nat) (l : List Nat) (a x : Nat), (∀ d ∈ l, d < 18446744073709551616) → ∀ d ∈ addL f l a x, d < 18446744073709551616
  | 0, l, a, x, h => h
  | f + 1, l, a, x, h => by
    rw [addL]
    split
    · refine addL_bd f _ _ _ fun d hd => ?_
      rcases List.mem_or_eq_of_mem_set hd with h1 | h1
      · exact h d h1
      · rw [h1]
        exact Nat.lt_trans (Nat.mod_lt _ (by decide)) (by decide)
    · exact h
theorem sprL_len (l : List Nat) : ∀ k, (sprL l k).length = l.length + 1
  | 0 => List.length_replicate
  | k + 1 => by rw [sprL, addL_len, sprL_len l k]
theorem sprL_bd (l : List Nat) : ∀ k, ∀ d ∈ sprL l k, d < 18446744073709551616
  | 0, d, hd => by rw [List.eq_of_mem_replicate hd]; decide
  | k + 1, d, hd => addL_bd _ _ _ _ (sprL_bd l k) d hd
theorem mulR_len (p : List Nat) (lo hi : Nat) : ∀ k, (mulR p lo hi k).length = p.length + 3
  | 0 => List.length_replicate
  | k + 1 => by rw [mulR, addL_len, addL_len, mulR_len p lo hi k]
theorem mulR_bd (p : List Nat) (lo hi : Nat) : ∀ k, ∀ d ∈ mulR p lo hi k, d < 18446744073709551616
  | 0, d, hd => by rw [List.eq_of_mem_replicate hd]; decide
  | k + 1, d, hd => addL_bd _ _ _ _ (addL_bd _ _ _ _ (mulR_bd p lo hi k)) d hd
theorem mulL_len (l : List Nat) (x : Nat) : (mulL l x).length = l.length + 4 := by rw [mulL, mulR_len, sprL_len]
theorem mulL_bd (l : List Nat) (x : Nat) : ∀ d ∈ mulL l x, d < 18446744073709551616 := mulR_bd _ _ _ _
theorem getD_bd {l : List Nat} (h : ∀ d ∈ l, d < 18446744073709551616) (k : Nat) : l.getD k 0 < 18446744073709551616 := by
  rw [List.getD_eq_getElem?_getD]
  cases hk : l[k]? with
  | none => decide
  | some d => exact h d (List.mem_of_getElem? hk)
theorem zer_us (n : Nat) : zerosOf 1 n [CV.int .u64 0] = us (List.replicate n 0) := by
  unfold zerosOf us
  rw [List.map_replicate]
  rfl
def sprS : Spec := fun args H Q => match args, H with
  | [.sl 1 n cs f], [] => ∃ l : List Nat, cs = us l ∧ n = l.length ∧ l.length < 900 ∧ (∀ d ∈ l, d < 18446744073709551616) ∧
      Q (.own 0) [.own 59 1 (l.length + 1) (us (sprL l l.length)) true]
  | _, _ => False
theorem spr_c : Meets Tryd.prog [] 77 sprS := by
  refine meets_of Γok Tryd.func77 rfl ?_
  intro args H Q h
  unfold sprS at h
  split at h
  case h_2 => exact h.elim
  rename_i n cs f
  obtain ⟨l, rfl, rfl, hl, hb, h⟩ := h
  have hw1 : IntKind.i64.wrap ((l.length : Int) + 1) = ((l.length + 1 : Nat) : Int) := by rw [wrap_i64 (by omega) (by omega)]; rfl
  have hmk : ((l.length + 1 : Nat) : Int) = ((l.length + 1 : Nat) : Int) ∧ 0 ≤ ((l.length + 1 : Nat) : Int) ∧ (ti59.bytes : Int) * ((l.length + 1 : Nat) : Int) ≤ 140737488355328 ∧ ((l.length + 1 : Nat) : Int) ≤ 140737488355328 := by
    have : (ti59.bytes : Int) = 8 := rfl
    rw [this]
    omega
  have hobj0 : LObj.own 59 ti59.size (((l.length + 1 : Nat) : Int)).toNat (zerosOf ti59.size (((l.length + 1 : Nat) : Int)).toNat [CV.int .u64 0]) true = LObj.own 59 1 (l.length + 1) (us (sprL l 0)) true := by
    rw [show ti59.size = 1 from rfl, zer_us]
    rfl
  (refine sx_sound Γok _ ?_; conv => whnf)
  (repeat (first | (exact Out.same; conv => whnf) | (exact Out1.same; conv => whnf) | (refine QAnd.mk ?_ ?_; conv => whnf) | (apply QStepH.go; conv => whnf) | (refine Both.lit_true ?_; conv => whnf) | (refine Both.lit_false ?_; conv => whnf) | (apply QStep.go; conv => whnf) | (refine Need.au ?_; conv => whnf) | (refine ⟨_, rfl, ?_⟩; conv => whnf)))
  rw [hw1]
  (repeat (first | (refine Need.mk hmk ?_; conv => whnf) | (exact Out.same; conv => whnf) | (exact Out1.same; conv => whnf) | (refine QAnd.mk ?_ ?_; conv => whnf) | (apply QStepH.go; conv => whnf) | (refine Both.lit_true ?_; conv => whnf) | (refine Both.lit_false ?_; conv => whnf) | (apply QStep.go; conv => whnf) | (refine Need.au ?_; conv => whnf) | (refine ⟨_, rfl, ?_⟩; conv => whnf)))
  refine loop_rule (fun k : Nat => ⟨[.sl 1 l.length (us l) f, .any, .any, .own 0, .int .i64 (k : Int), .any, .any, .any, .any, .any, .any, .any, .any, .any, .any, .any, .any, .any, .any, .any, .any, .any, .any], [.own 59 1 (l.length + 1) (us (sprL l k)) true]⟩) (fun k => k ≤ l.length) (fun k => l.length - k) 0 (Nat.zero_le _) (Weak.auto ?_) ?_
  · (repeat' ((conv => whnf); first | exact True.intro | (refine And.intro ?_ ?_)))
    all_goals first | exact hobj0 | rfl | exact .eq rfl
  clear hobj0 hmk hw1
  intro k hk
  (refine sx_sound Γok _ ?_; conv => whnf)
  (repeat (first | (exact Out.same; conv => whnf) | (exact Out1.same; conv => whnf) | (refine QAnd.mk ?_ ?_; conv => whnf) | (apply QStepH.go; conv => whnf) | (refine Both.lit_true ?_; conv => whnf) | (refine Both.lit_false ?_; conv => whnf) | (apply QStep.go; conv => whnf) | (refine Need.au ?_; conv => whnf) | (refine ⟨_, rfl, ?_⟩; conv => whnf)))
  refine Both.dec (fun hlt => ?_) (fun hge => ?_)
  · have hkl : k < l.length := by omega
    have hat := us_at hkl
    have hbd := getD_bd hb k
    have hsl := sprL_len l k
    have hwr : IntKind.i64.wrap ((k : Int) + 1) = ((k + 1 : Nat) : Int) := by rw [wrap_i64 (by omega) (by omega)]; rfl
    have hobj : LObj.own 59 1 (sprL l k).length (us (addL ((sprL l k).length - k) (sprL l k) k (l.getD k 0))) true = LObj.own 59 1 (l.length + 1) (us (sprL l (k + 1))) true := by
      rw [hsl]
      rfl
    (conv => whnf)
    (repeat (first | (refine ⟨_, hat, ?_⟩; conv => whnf) | (exact Out.same; conv => whnf) | (exact Out1.same; conv => whnf) | (refine QAnd.mk ?_ ?_; conv => whnf) | (apply QStepH.go; conv => whnf) | (refine Both.lit_true ?_; conv => whnf) | (refine Both.lit_false ?_; conv => whnf) | (apply QStep.go; conv => whnf) | (refine Need.au ?_; conv => whnf) | (refine ⟨_, rfl, ?_⟩; conv => whnf)))
    refine CallVC.auto add_k ⟨sprL l k, k, l.getD k 0, rfl, hsl.symm, by omega, rfl, by omega, rfl, hbd, ?_⟩
    (conv => whnf)
    (repeat (first | (exact Out.same; conv => whnf) | (exact Out1.same; conv => whnf) | (refine QAnd.mk ?_ ?_; conv => whnf) | (apply QStepH.go; conv => whnf) | (refine Both.lit_true ?_; conv => whnf) | (refine Both.lit_false ?_; conv => whnf) | (apply QStep.go; conv => whnf) | (refine Need.au ?_; conv => whnf) | (refine ⟨_, rfl, ?_⟩; conv => whnf)))
    refine ⟨k + 1, by omega, by omega, Weak.auto ?_⟩
    (repeat' ((conv => whnf); first | exact True.intro | (refine And.intro ?_ ?_)))
    all_goals first | rfl | exact .eq rfl | exact hobj | exact congrArg (SV.int .i64) hwr
  have hke : k = l.length := by omega
  subst hke
  (conv => whnf)
  (repeat (first | (exact Out.same; conv => whnf) | (exact Out1.same; conv => whnf) | (refine QAnd.mk ?_ ?_; conv => whnf) | (apply QStepH.go; conv => whnf) | (refine Both.lit_true ?_; conv => whnf) | (refine Both.lit_false ?_; conv => whnf) | (apply QStep.go; conv => whnf) | (refine Need.au ?_; conv => whnf) | (refine ⟨_, rfl, ?_⟩; conv => whnf)))
  refine ⟨_, _, WeakV.auto ?_, h⟩
  (repeat' ((conv => whnf); first | exact True.intro | (refine And.intro ?_ ?_)))
  all_goals first | rfl | exact .eq rfl
theorem spr_k : Contract Tryd.prog [] 77 sprS := ⟨⟨⟨_, rfl, rfl, rfl⟩⟩, spr_c⟩
def mulS : Spec := fun args H Q => match args, H with
  | [.sl 1 n cs f, .int .u64 y], [] => ∃ (l : List Nat) (x : Nat), cs = us l ∧ n = l.length ∧ l.length < 800 ∧ (∀ d ∈ l, d < 18446744073709551616) ∧ y = x ∧ x < 18446744073709551616 ∧
      Q (.own 0) [.own 59 1 (l.length + 4) (us (mulL l x)) true]
  | _, _ => False
theorem mul_c : Meets Tryd.prog [] 68 mulS := by
  refine meets_of Γok Tryd.func68 rfl ?_
  intro args H Q h
  unfold mulS at h
  split at h
  case h_2 => exact h.elim
  rename_i n cs f y
  obtain ⟨l, x, rfl, rfl, hl, hb, rfl, hx, h⟩ := h
  have hpl : (sprL l l.length).length = l.length + 1 := sprL_len l _
  have hpb := sprL_bd l l.length
  unfold mulL at h
  (refine sx_sound Γok _ ?_; conv => whnf)
  (repeat (first | (exact Out.same; conv => whnf) | (exact Out1.same; conv => whnf) | (refine QAnd.mk ?_ ?_; conv => whnf) | (apply QStepH.go; conv => whnf) | (refine Both.lit_true ?_; conv => whnf) | (refine Both.lit_false ?_; conv => whnf) | (apply QStep.go; conv => whnf) | (refine Need.au ?_; conv => whnf) | (refine ⟨_, rfl, ?_⟩; conv => whnf)))
  refine CallVC.auto spr_k ⟨l, rfl, rfl, by omega, hb, ?_⟩
  revert h hpl hpb
  generalize sprL l l.length = p
  intro h hpl hpb
  rw [← hpl]
  have e1 : (x : Int).tmod 4294967296 = ((x % 4294967296 : Nat) : Int) := rfl
  have e2 : IntKind.u64.wrap ((x : Int).tdiv 4294967296) = ((x / 4294967296 : Nat) : Int) := by
    rw [show (x : Int).tdiv 4294967296 = ((x / 4294967296 : Nat) : Int) from rfl, wrap64, n64_of (by omega)]
  have hlo : x % 4294967296 < 4294967296 := Nat.mod_lt _ (by decide)
  have hhi : x / 4294967296 < 4294967296 := by omega
  revert h e1 e2 hlo hhi
  generalize x % 4294967296 = lo
  generalize x / 4294967296 = hi
  intro h e1 e2 hlo hhi
  have hw1 : IntKind.i64.wrap ((p.length : Int) + 3) = ((p.length + 3 : Nat) : Int) := by rw [wrap_i64 (by omega) (by omega)]; rfl
  have hmk : ((p.length + 3 : Nat) : Int) = ((p.length + 3 : Nat) : Int) ∧ 0 ≤ ((p.length + 3 : Nat) : Int) ∧ (ti59.bytes : Int) * ((p.length + 3 : Nat) : Int) ≤ 140737488355328 ∧ ((p.length + 3 : Nat) : Int) ≤ 140737488355328 := by
    have : (ti59.bytes : Int) = 8 := rfl
    rw [this]
    omega
  have hobj0 : LObj.own 59 ti59.size (((p.length + 3 : Nat) : Int)).toNat (zerosOf ti59.size (((p.length + 3 : Nat) : Int)).toNat [CV.int .u64 0]) true = LObj.own 59 1 (p.length + 3) (us (mulR p lo hi 0)) true := by
    rw [show ti59.size = 1 from rfl, zer_us]
    rfl
  (conv => whnf)
  (repeat (first | (exact Out.same; conv => whnf) | (exact Out1.same; conv => whnf) | (refine QAnd.mk ?_ ?_; conv => whnf) | (apply QStepH.go; conv => whnf) | (refine Both.lit_true ?_; conv => whnf) | (refine Both.lit_false ?_; conv => whnf) | (apply QStep.go; conv => whnf) | (refine Need.au ?_; conv => whnf) | (refine ⟨_, rfl, ?_⟩; conv => whnf)))
  rw [e1, e2, hw1]
  (repeat (first | (refine Need.mk hmk ?_; conv => whnf) | (exact Out.same; conv => whnf) | (exact Out1.same; conv => whnf) | (refine QAnd.mk ?_ ?_; conv => whnf) | (apply QStepH.go; conv => whnf) | (refine Both.lit_true ?_; conv => whnf) | (refine Both.lit_false ?_; conv => whnf) | (apply QStep.go; conv => whnf) | (refine Need.au ?_; conv => whnf) | (refine ⟨_, rfl, ?_⟩; conv => whnf)))
  refine loop_rule (fun k : Nat => ⟨[.own 0, .any, .any, .any, .any, .int .u64 (lo : Int), .int .u64 (hi : Int), .own 1, .int .i64 (k : Int), .any, .any, .any, .any, .any, .any, .any, .any, .any, .any, .any, .any, .any, .any, .any, .any, .any, .any, .any, .any, .any, .any, .any, .any, .any, .any, .any, .any, .any, .any, .any, .any, .any, .any, .any, .any], [.own 59 1 p.length (us p) true, .own 59 1 (p.length + 3) (us (mulR p lo hi k)) true]⟩) (fun k => k ≤ p.length) (fun k => p.length - k) 0 (Nat.zero_le _) (Weak.auto ?_) ?_
  · (repeat' ((conv => whnf); first | exact True.intro | (refine And.intro ?_ ?_)))
    all_goals first | exact hobj0 | rfl | exact .eq rfl
  clear hobj0 hmk hw1 e1 e2
  intro k hk
  (refine sx_sound Γok _ ?_; conv => whnf)
  (repeat (first | (exact Out.same; conv => whnf) | (exact Out1.same; conv => whnf) | (refine QAnd.mk ?_ ?_; conv => whnf) | (apply QStepH.go; conv => whnf) | (refine Both.lit_true ?_; conv => whnf) | (refine Both.lit_false ?_; conv => whnf) | (apply QStep.go; conv => whnf) | (refine Need.au ?_; conv => whnf) | (refine ⟨_, rfl, ?_⟩; conv => whnf)))
  refine Both.dec (fun hlt => ?_) (fun hge => ?_)
  · have hkl : k < p.length := by omega
    have hat := us_at hkl
    have hsl := mulR_len p lo hi k
    have hwr : IntKind.i64.wrap ((k : Int) + 1) = ((k + 1 : Nat) : Int) := by rw [wrap_i64 (by omega) (by omega)]; rfl
    have hm1 := wrap64_mul (p.getD k 0) lo
    have hm2 := wrap64_mul (p.getD k 0) hi
    obtain ⟨q, hq⟩ : ∃ q, addL ((mulR p lo hi k).length - k) (mulR p lo hi k) k (n64 (p.getD k 0 * lo)) = q := ⟨_, rfl⟩
    have hql : q.length = p.length + 3 := by rw [← hq, addL_len, hsl]
    have hobj : LObj.own 59 1 q.length (us (addL (q.length - (k + 1)) q (k + 1) (n64 (p.getD k 0 * hi)))) true = LObj.own 59 1 (p.length + 3) (us (mulR p lo hi (k + 1))) true := by
      rw [hql, ← hq, hsl]
      rfl
    (conv => whnf)
    (repeat (first | (refine ⟨_, hat, ?_⟩; conv => whnf) | (exact Out.same; conv => whnf) | (exact Out1.same; conv => whnf) | (refine QAnd.mk ?_ ?_; conv => whnf) | (apply QStepH.go; conv => whnf) | (refine Both.lit_true ?_; conv => whnf) | (refine Both.lit_false ?_; conv => whnf) | (apply QStep.go; conv => whnf) | (refine Need.au ?_; conv => whnf) | (refine ⟨_, rfl, ?_⟩; conv => whnf)))
    refine CallVC.auto add_k ⟨mulR p lo hi k, k, n64 (p.getD k 0 * lo), rfl, hsl.symm, by omega, rfl, by omega, hm1, n64_lt _, ?_⟩
    rw [hq, hsl]
    (conv => whnf)
    (repeat (first | (refine ⟨_, hat, ?_⟩; conv => whnf) | (exact Out.same; conv => whnf) | (exact Out1.same; conv => whnf) | (refine QAnd.mk ?_ ?_; conv => whnf) | (apply QStepH.go; conv => whnf) | (refine Both.lit_true ?_; conv => whnf) | (refine Both.lit_false ?_; conv => whnf) | (apply QStep.go; conv => whnf) | (refine Need.au ?_; conv => whnf) | (refine ⟨_, rfl, ?_⟩; conv => whnf)))
    refine CallVC.auto add_k ⟨q, k + 1, n64 (p.getD k 0 * hi), rfl, hql.symm, by omega, hwr, by omega, hm2, n64_lt _, ?_⟩
    (conv => whnf)
    (repeat (first | (exact Out.same; conv => whnf) | (exact Out1.same; conv => whnf) | (refine QAnd.mk ?_ ?_; conv => whnf) | (apply QStepH.go; conv => whnf) | (refine Both.lit_true ?_; conv => whnf) | (refine Both.lit_false ?_; conv => whnf) | (apply QStep.go; conv => whnf) | (refine Need.au ?_; conv => whnf) | (refine ⟨_, rfl, ?_⟩; conv => whnf)))
    refine ⟨k + 1, by omega, by omega, Weak.auto ?_⟩
    (repeat' ((conv => whnf); first | exact True.intro | (refine And.intro ?_ ?_)))
    all_goals first | rfl | exact .eq rfl | exact hobj | exact congrArg (SV.int .i64) hwr
  have hke : k = p.length := by omega
  subst hke
  rw [hpl] at h
  (conv => whnf)
  (repeat (first | (exact Out.same; conv => whnf) | (exact Out1.same; conv => whnf) | (refine QAnd.mk ?_ ?_; conv => whnf) | (apply QStepH.go; conv => whnf) | (refine Both.lit_true ?_; conv => whnf) | (refine Both.lit_false ?_; conv => whnf) | (apply QStep.go; conv => whnf) | (refine Need.au ?_; conv => whnf) | (refine ⟨_, rfl, ?_⟩; conv => whnf)))
  rw [hpl]
  refine ⟨_, _, WeakV.auto ?_, h⟩
  (repeat' ((conv => whnf); first | exact True.intro | (refine And.intro ?_ ?_)))
  all_goals first | rfl | exact .eq rfl
theorem mul_k : Contract Tryd.prog [] 68 mulS := ⟨⟨⟨_, rfl, rfl, rfl⟩⟩, mul_c⟩
def digitS : Spec := fun args H Q => match args, H with
  | [.sl 1 n cs f, .int .i64 y], [] => ∃ (l : List Nat) (k : Nat), cs = us l ∧ n = l.length ∧ y = k ∧ Q (.int .u64 ((l.getD k 0 : Nat) : Int)) []
  | _, _ => False
theorem digit_c : Meets Tryd.prog [] 79 digitS := by
  refine meets_of Γok Tryd.func79 rfl ?_
  intro args H Q h
  unfold digitS at h
  split at h
  case h_2 => exact h.elim
  rename_i n cs f y
  obtain ⟨l, k, rfl, rfl, rfl, h⟩ := h
  (refine sx_sound Γok _ ?_; conv => whnf)
  (repeat (first | (exact Out.same; conv => whnf) | (exact Out1.same; conv => whnf) | (refine QAnd.mk ?_ ?_; conv => whnf) | (apply QStepH.go; conv => whnf) | (refine Both.lit_true ?_; conv => whnf) | (refine Both.lit_false ?_; conv => whnf) | (apply QStep.go; conv => whnf) | (refine Need.au ?_; conv => whnf) | (refine ⟨_, rfl, ?_⟩; conv => whnf)))
  refine Both.dec (fun hlt => ?_) (fun hge => ?_)
  · have hkl : k < l.length := by omega
    have hat := us_at hkl
    (conv => whnf)
    (repeat (first | (refine ⟨_, hat, ?_⟩; conv => whnf) | (exact Out.same; conv => whnf) | (exact Out1.same; conv => whnf) | (refine QAnd.mk ?_ ?_; conv => whnf) | (apply QStepH.go; conv => whnf) | (refine Both.lit_true ?_; conv => whnf) | (refine Both.lit_false ?_; conv => whnf) | (apply QStep.go; conv => whnf) | (refine Need.au ?_; conv => whnf) | (refine ⟨_, rfl, ?_⟩; conv => whnf)))
    exact ⟨_, _, WeakV.drop rfl, h⟩
  · have hz : l.getD k 0 = 0 := by
      rw [List.getD_eq_getElem?_getD, List.getElem?_eq_none (by omega)]
      rfl
    rw [hz] at h
    (conv => whnf)
    (repeat (first | (exact Out.same; conv => whnf) | (exact Out1.same; conv => whnf) | (refine QAnd.mk ?_ ?_; conv => whnf) | (apply QStepH.go; conv => whnf) | (refine Both.lit_true ?_; conv => whnf) | (refine Both.lit_false ?_; conv => whnf) | (apply QStep.go; conv => whnf) | (refine Need.au ?_; conv => whnf) | (refine ⟨_, rfl, ?_⟩; conv => whnf)))
    exact ⟨_, _, WeakV.drop rfl, h⟩
theorem digit_k : Contract Tryd.prog [] 79 digitS := ⟨⟨⟨_, rfl, rfl, rfl⟩⟩, digit_c⟩
def aboveS : Spec := fun args H Q => match args, H with
  | [.sl 1 n cs f, .sl 1 n' cs' f'], [] => ∃ a b : List Nat, cs = us a ∧ n = a.length ∧ cs' = us b ∧ n' = b.length ∧ a.length < 1000 ∧ b.length < 1000 ∧ Q (.bool (abL a b (a.length + b.length + 1))) []
  | _, _ => False
theorem above_c : Meets Tryd.prog [] 69 aboveS := by
  refine meets_of Γok Tryd.func69 rfl ?_
  intro args H Q h
  unfold aboveS at h
  split at h
  case h_2 => exact h.elim
  rename_i n cs f n' cs' f'
  obtain ⟨a, b, rfl, rfl, rfl, rfl, ha, hb, h⟩ := h
  have hw0 : IntKind.i64.wrap ((a.length : Int) + (b.length : Int)) = ((a.length + b.length + 1 : Nat) : Int) - 1 := by rw [wrap_i64 (by omega) (by omega)]; omega
  obtain ⟨R, hR⟩ : ∃ R, abL a b (a.length + b.length + 1) = R := ⟨_, rfl⟩
  rw [hR] at h
  (refine sx_sound Γok _ ?_; conv => whnf)
  (repeat (first | (exact Out.same; conv => whnf) | (exact Out1.same; conv => whnf) | (refine QAnd.mk ?_ ?_; conv => whnf) | (apply QStepH.go; conv => whnf) | (refine Both.lit_true ?_; conv => whnf) | (refine Both.lit_false ?_; conv => whnf) | (apply QStep.go; conv => whnf) | (refine Need.au ?_; conv => whnf) | (refine ⟨_, rfl, ?_⟩; conv => whnf)))
  refine loop_rule (fun k : Nat => ⟨[.sl 1 a.length (us a) f, .sl 1 b.length (us b) f', .any, .any, .any, .int .i64 ((k : Int) - 1), .any, .any, .any, .any, .any, .any, .any, .any, .any, .any, .any, .any, .any, .any, .any, .any, .any, .any, .any, .any, .any, .any, .any], []⟩) (fun k => k ≤ a.length + b.length + 1 ∧ abL a b k = R) (fun k => k) (a.length + b.length + 1) ⟨Nat.le_refl _, hR⟩ (Weak.auto ?_) ?_
  · (repeat' ((conv => whnf); first | exact True.intro | (refine And.intro ?_ ?_)))
    all_goals first | rfl | exact .eq rfl | exact congrArg (SV.int .i64) hw0
  clear hR
  rintro k ⟨hk, hR⟩
  (refine sx_sound Γok _ ?_; conv => whnf)
  (repeat (first | (exact Out.same; conv => whnf) | (exact Out1.same; conv => whnf) | (refine QAnd.mk ?_ ?_; conv => whnf) | (apply QStepH.go; conv => whnf) | (refine Both.lit_true ?_; conv => whnf) | (refine Both.lit_false ?_; conv => whnf) | (apply QStep.go; conv => whnf) | (refine Need.au ?_; conv => whnf) | (refine ⟨_, rfl, ?_⟩; conv => whnf)))
  refine Both.dec (fun hlt => ?_) (fun hge => ?_)
  · obtain ⟨j, rfl⟩ : ∃ j, k = j + 1 := ⟨k - 1, by omega⟩
    have hj : ((j + 1 : Nat) : Int) - 1 = ((j : Nat) : Int) := by omega
    have hwr : IntKind.i64.wrap ((((j + 1 : Nat) : Int) - 1) - 1) = ((j : Nat) : Int) - 1 := by rw [wrap_i64 (by omega) (by omega)]; omega
    rw [abL] at hR
    (conv => whnf)
    (repeat (first | (refine CallVC.auto digit_k ⟨a, j, rfl, rfl, hj, ?_⟩; conv => whnf) | (refine CallVC.auto digit_k ⟨b, j, rfl, rfl, hj, ?_⟩; conv => whnf) | (exact Out.same; conv => whnf) | (exact Out1.same; conv => whnf) | (refine QAnd.mk ?_ ?_; conv => whnf) | (apply QStepH.go; conv => whnf) | (refine Both.lit_true ?_; conv => whnf) | (refine Both.lit_false ?_; conv => whnf) | (apply QStep.go; conv => whnf) | (refine Need.au ?_; conv => whnf) | (refine ⟨_, rfl, ?_⟩; conv => whnf)))
    refine Both.dec_not (fun hne => ?_) (fun heq => ?_)
    · have hne2 : ¬ a.getD j 0 = b.getD j 0 := by omega
      rw [if_neg hne2] at hR
      have hres : decide (((b.getD j 0 : Nat) : Int) < ((a.getD j 0 : Nat) : Int)) = R := by
        rw [← hR]
        by_cases h9 : b.getD j 0 < a.getD j 0
        · rw [decide_eq_true h9, decide_eq_true (by omega)]
        · rw [decide_eq_false h9, decide_eq_false (by omega)]
      (conv => whnf)
      (repeat (first | (exact Out.same; conv => whnf) | (exact Out1.same; conv => whnf) | (refine QAnd.mk ?_ ?_; conv => whnf) | (apply QStepH.go; conv => whnf) | (refine Both.lit_true ?_; conv => whnf) | (refine Both.lit_false ?_; conv => whnf) | (apply QStep.go; conv => whnf) | (refine Need.au ?_; conv => whnf) | (refine ⟨_, rfl, ?_⟩; conv => whnf)))
      exact ⟨_, _, WeakV.drop (congrArg SV.bool hres), h⟩
    · have heq2 : a.getD j 0 = b.getD j 0 := by omega
      rw [if_pos heq2] at hR
      (conv => whnf)
      (repeat (first | (exact Out.same; conv => whnf) | (exact Out1.same; conv => whnf) | (refine QAnd.mk ?_ ?_; conv => whnf) | (apply QStepH.go; conv => whnf) | (refine Both.lit_true ?_; conv => whnf) | (refine Both.lit_false ?_; conv => whnf) | (apply QStep.go; conv => whnf) | (refine Need.au ?_; conv => whnf) | (refine ⟨_, rfl, ?_⟩; conv => whnf)))
      refine ⟨j, ⟨by omega, hR⟩, by omega, Weak.auto ?_⟩
      (repeat' ((conv => whnf); first | exact True.intro | (refine And.intro ?_ ?_)))
      all_goals first | rfl | exact .eq rfl | exact congrArg (SV.int .i64) hwr
  have hk0 : k = 0 := by omega
  rw [hk0] at hR
  have hR : false = R := hR
  rw [← hR] at h
  (conv => whnf)
  (repeat (first | (exact Out.same; conv => whnf) | (exact Out1.same; conv => whnf) | (refine QAnd.mk ?_ ?_; conv => whnf) | (apply QStepH.go; conv => whnf) | (refine Both.lit_true ?_; conv => whnf) | (refine Both.lit_false ?_; conv => whnf) | (apply QStep.go; conv => whnf) | (refine Need.au ?_; conv => whnf) | (refine ⟨_, rfl, ?_⟩; conv => whnf)))
  exact ⟨_, _, WeakV.drop rfl, h⟩
theorem above_k : Contract Tryd.prog [] 69 aboveS := ⟨⟨⟨_, rfl, rfl, rfl⟩⟩, above_c⟩
end Go.LX
end
section
set_option maxRecDepth 100000
set_option maxHeartbeats 1000000
set_option autoImplicit false
set_option linter.unusedVariables false
set_option linter.unusedSimpArgs false
namespace Go.LX
open Go.Proofs

def pr64 : List Nat := [2, 3, 5, 7, 11, 13, 17, 19, 23, 29, 31, 37, 41, 43, 47, 53, 59, 61, 67, 71, 73, 79, 83, 89, 97, 101, 103, 107, 109, 113, 127, 131, 137, 139, 149, 151, 157, 163, 167, 173, 179, 181, 191, 193, 197, 199, 211, 223, 227, 229, 233, 239, 241, 251, 257, 263, 269, 271, 277, 281, 283, 293, 307, 311]
def hT : List W32 := St.init.ws
theorem rk0 : ∀ i : Fin 8, rootL (pr64.getD (0 + i.val) 0) 2 = (kT.getD (0 + i.val) 0).toNat := by decide +kernel
theorem rk1 : ∀ i : Fin 8, rootL (pr64.getD (8 + i.val) 0) 2 = (kT.getD (8 + i.val) 0).toNat := by decide +kernel
theorem rk2 : ∀ i : Fin 8, rootL (pr64.getD (16 + i.val) 0) 2 = (kT.getD (16 + i.val) 0).toNat := by decide +kernel
theorem rk3 : ∀ i : Fin 8, rootL (pr64.getD (24 + i.val) 0) 2 = (kT.getD (24 + i.val) 0).toNat := by decide +kernel
theorem rh0 : ∀ i : Fin 8, rootL (pr64.getD i.val 0) 1 = (hT.getD i.val 0).toNat := by decide +kernel
end Go.LX
end
section
set_option maxRecDepth 100000
set_option maxHeartbeats 1000000
set_option autoImplicit false
set_option linter.unusedVariables false
set_option linter.unusedSimpArgs false
namespace Go.LX
open Go.Proofs

theorem rk4 : ∀ i : Fin 8, rootL (pr64.getD (32 + i.val) 0) 2 = (kT.getD (32 + i.val) 0).toNat := by decide +kernel
theorem rk5 : ∀ i : Fin 8, rootL (pr64.getD (40 + i.val) 0) 2 = (kT.getD (40 + i.val) 0).toNat := by decide +kernel
theorem rk6 : ∀ i : Fin 8, rootL (pr64.getD (48 + i.val) 0) 2 = (kT.getD (48 + i.val) 0).toNat := by decide +kernel
theorem rk7 : ∀ i : Fin 8, rootL (pr64.getD (56 + i.val) 0) 2 = (kT.getD (56 + i.val) 0).toNat := by decide +kernel
theorem roots_ok (i : Nat) (h : i < 64) : rootL (pr64.getD i 0) 2 = (kT.getD i 0).toNat := by
  have e : i = 8 * (i / 8) + i % 8 := by omega
  have hm : i % 8 < 8 := Nat.mod_lt _ (by decide)
  have hd : i / 8 < 8 := by omega
  rw [e]
  generalize i / 8 = q at hd ⊢
  generalize i % 8 = r at hm ⊢
  match q, hd with
  | 0, _ => exact rk0 ⟨r, hm⟩
  | 1, _ => exact rk1 ⟨r, hm⟩
  | 2, _ => exact rk2 ⟨r, hm⟩
  | 3, _ => exact rk3 ⟨r, hm⟩
  | 4, _ => exact rk4 ⟨r, hm⟩
  | 5, _ => exact rk5 ⟨r, hm⟩
  | 6, _ => exact rk6 ⟨r, hm⟩
  | 7, _ => exact rk7 ⟨r, hm⟩
theorem roots_h (i : Nat) (h : i < 8) : rootL (pr64.getD i 0) 1 = (hT.getD i 0).toNat := rh0 ⟨i, h⟩
end Go.LX
end
section
set_option maxRecDepth 100000
set_option maxHeartbeats 1000000
set_option autoImplicit false
set_option linter.unusedVariables false
set_option linter.unusedSimpArgs false
namespace Go.LX
open Go.Proofs

theorem mulsL_len (x : Nat) : ∀ k, (mulsL x k).length = 1 + 4 * k
  | 0 => rfl
  | k + 1 => by rw [mulsL, mulL_len, mulsL_len x k]; omega
theorem mulsL_bd {x : Nat} (h : x < 18446744073709551616) : ∀ k, ∀ d ∈ mulsL x k, d < 18446744073709551616
  | 0, d, hd => by rw [List.mem_singleton.1 hd]; exact h
  | k + 1, d, hd => mulL_bd _ _ d hd
def thr (b : Bool) : Nat := if b then 2 else 1
def leastS : Spec := fun args H Q => match args, H with
  | [.int .u64 y, .int .u64 m, .bool b], [] => ∃ (x n : Nat), y = x ∧ m = n ∧ x < 18446744073709551616 ∧ n < 18446744073709551616 ∧ Q (.bool (leastL x n (thr b))) []
  | _, _ => False
theorem least_c : Meets Tryd.prog [] 54 leastS := by
  refine meets_of Γok Tryd.func54 rfl ?_
  intro args H Q h
  unfold leastS at h
  split at h
  case h_2 => exact h.elim
  rename_i y m b
  obtain ⟨x, n, rfl, rfl, hx, hn, h⟩ := h
  cases b with
  | false =>
    have hmk : (((1 : Nat) + 2 : Nat) : Int) = (((1 : Nat) + 2 : Nat) : Int) ∧ 0 ≤ (((1 : Nat) + 2 : Nat) : Int) ∧ (ti59.bytes : Int) * (((1 : Nat) + 2 : Nat) : Int) ≤ 140737488355328 ∧ (((1 : Nat) + 2 : Nat) : Int) ≤ 140737488355328 := by decide
    have hobj0 : ((zerosOf 1 3 [CV.int .u64 0]).set 2 (CV.int .u64 (n : Int))) = us (List.replicate (1 + 1) 0 ++ [n]) := rfl
    (refine sx_sound Γok _ ?_; conv => whnf)
    (repeat (first | (exact Out.same; conv => whnf) | (exact Out1.same; conv => whnf) | (refine QAnd.mk ?_ ?_; conv => whnf) | (apply QStepH.go; conv => whnf) | (refine Both.lit_true ?_; conv => whnf) | (refine Both.lit_false ?_; conv => whnf) | (apply QStep.go; conv => whnf) | (refine Need.au ?_; conv => whnf) | (refine ⟨_, rfl, ?_⟩; conv => whnf)))
    refine loop_rule (fun k : Nat => ⟨[.int .u64 (x : Int), .int .u64 (n : Int), .any, .any, .any, .any, .any, .sl 1 (mulsL x k).length (us (mulsL x k)) (Nat.beq k 0), .int .i64 1, .int .i64 (k : Int), .any, .any, .any, .any, .any, .any, .any, .any, .any, .any, .any, .any, .any, .any, .any, .any, .any, .any, .any, .any, .any, .any, .any, .any], []⟩) (fun k => k ≤ 1) (fun k => 1 - k) 0 (Nat.zero_le _) (Weak.auto ?_) ?_
    · (repeat' ((conv => whnf); first | exact True.intro | (refine And.intro ?_ ?_)))
      all_goals first | rfl | exact .eq rfl
    intro k hk
    (refine sx_sound Γok _ ?_; conv => whnf)
    (repeat (first | (exact Out.same; conv => whnf) | (exact Out1.same; conv => whnf) | (refine QAnd.mk ?_ ?_; conv => whnf) | (apply QStepH.go; conv => whnf) | (refine Both.lit_true ?_; conv => whnf) | (refine Both.lit_false ?_; conv => whnf) | (apply QStep.go; conv => whnf) | (refine Need.au ?_; conv => whnf) | (refine ⟨_, rfl, ?_⟩; conv => whnf)))
    refine Both.dec (fun hlt => ?_) (fun hge => ?_)
    · have hl : (mulsL x k).length + 4 = (mulsL x (k + 1)).length := by rw [mulsL_len, mulsL_len]; omega
      have hm : mulL (mulsL x k) x = mulsL x (k + 1) := rfl
      have hwr : IntKind.i64.wrap ((k : Int) + 1) = ((k + 1 : Nat) : Int) := by rw [wrap_i64 (by omega) (by omega)]; rfl
      have hkl : (mulsL x k).length < 800 := by rw [mulsL_len]; omega
      (conv => whnf)
      (repeat (first | (exact Out.same; conv => whnf) | (exact Out1.same; conv => whnf) | (refine QAnd.mk ?_ ?_; conv => whnf) | (apply QStepH.go; conv => whnf) | (refine Both.lit_true ?_; conv => whnf) | (refine Both.lit_false ?_; conv => whnf) | (apply QStep.go; conv => whnf) | (refine Need.au ?_; conv => whnf) | (refine ⟨_, rfl, ?_⟩; conv => whnf)))
      refine CallVC.auto mul_k ⟨mulsL x k, x, rfl, rfl, hkl, mulsL_bd hx k, rfl, hx, ?_⟩
      rw [hm, hl]
      (conv => whnf)
      (repeat (first | (exact Out.same; conv => whnf) | (exact Out1.same; conv => whnf) | (refine QAnd.mk ?_ ?_; conv => whnf) | (apply QStepH.go; conv => whnf) | (refine Both.lit_true ?_; conv => whnf) | (refine Both.lit_false ?_; conv => whnf) | (apply QStep.go; conv => whnf) | (refine Need.au ?_; conv => whnf) | (refine ⟨_, rfl, ?_⟩; conv => whnf)))
      refine ⟨k + 1, by omega, by omega, (Weak.pubT 0 rfl).trans (Weak.auto ?_)⟩
      (repeat' ((conv => whnf); first | exact True.intro | (refine And.intro ?_ ?_)))
      all_goals first | rfl | exact .eq rfl | exact congrArg (SV.int .i64) hwr
    have hk1 : k = 1 := by omega
    subst hk1
    have hl5 : (mulsL x 1).length = 1 + 4 * 1 := mulsL_len x 1
    unfold leastL thr at h
    simp only [if_true, Bool.false_eq_true, if_false] at h
    revert hl5 h
    generalize mulsL x 1 = p
    intro hl5 h
    have hix : ti59.size = ti59.size ∧ 0 ≤ IntKind.i64.wrap (1 + 1) ∧ IntKind.i64.wrap (1 + 1) < ((IntKind.i64.wrap (1 + 2)).toNat : Int) := ⟨rfl, by decide, by decide⟩
    have hst : ti59.size = 1 ∧ 2 < (zerosOf 1 3 [CV.int .u64 0]).length := ⟨rfl, by decide⟩
    (conv => whnf)
    (repeat (first | (refine Need.mk hmk ?_; conv => whnf) | (refine Need.mk hix ?_; conv => whnf) | (refine Need.mk hst ?_; conv => whnf) | (exact Out.same; conv => whnf) | (exact Out1.same; conv => whnf) | (refine QAnd.mk ?_ ?_; conv => whnf) | (apply QStepH.go; conv => whnf) | (refine Both.lit_true ?_; conv => whnf) | (refine Both.lit_false ?_; conv => whnf) | (apply QStep.go; conv => whnf) | (refine Need.au ?_; conv => whnf) | (refine ⟨_, rfl, ?_⟩; conv => whnf)))
    refine CallVC.autoW _ (Weak.pubT 0 rfl) above_k ⟨p, List.replicate (1 + 1) 0 ++ [n], rfl, rfl, hobj0, rfl, by omega, (by rw [List.length_append, List.length_replicate]; exact (by decide : 1 + 1 + 1 < 1000)), ?_⟩
    (conv => whnf)
    (repeat (first | (exact Out.same; conv => whnf) | (exact Out1.same; conv => whnf) | (refine QAnd.mk ?_ ?_; conv => whnf) | (apply QStepH.go; conv => whnf) | (refine Both.lit_true ?_; conv => whnf) | (refine Both.lit_false ?_; conv => whnf) | (apply QStep.go; conv => whnf) | (refine Need.au ?_; conv => whnf) | (refine ⟨_, rfl, ?_⟩; conv => whnf)))
    exact ⟨_, _, WeakV.drop rfl, h⟩
  | true =>
    have hmk : (((2 : Nat) + 2 : Nat) : Int) = (((2 : Nat) + 2 : Nat) : Int) ∧ 0 ≤ (((2 : Nat) + 2 : Nat) : Int) ∧ (ti59.bytes : Int) * (((2 : Nat) + 2 : Nat) : Int) ≤ 140737488355328 ∧ (((2 : Nat) + 2 : Nat) : Int) ≤ 140737488355328 := by decide
    have hobj0 : ((zerosOf 1 4 [CV.int .u64 0]).set 3 (CV.int .u64 (n : Int))) = us (List.replicate (2 + 1) 0 ++ [n]) := rfl
    (refine sx_sound Γok _ ?_; conv => whnf)
    (repeat (first | (exact Out.same; conv => whnf) | (exact Out1.same; conv => whnf) | (refine QAnd.mk ?_ ?_; conv => whnf) | (apply QStepH.go; conv => whnf) | (refine Both.lit_true ?_; conv => whnf) | (refine Both.lit_false ?_; conv => whnf) | (apply QStep.go; conv => whnf) | (refine Need.au ?_; conv => whnf) | (refine ⟨_, rfl, ?_⟩; conv => whnf)))
    refine loop_rule (fun k : Nat => ⟨[.int .u64 (x : Int), .int .u64 (n : Int), .any, .any, .any, .any, .any, .sl 1 (mulsL x k).length (us (mulsL x k)) (Nat.beq k 0), .int .i64 2, .int .i64 (k : Int), .any, .any, .any, .any, .any, .any, .any, .any, .any, .any, .any, .any, .any, .any, .any, .any, .any, .any, .any, .any, .any, .any, .any, .any], []⟩) (fun k => k ≤ 2) (fun k => 2 - k) 0 (Nat.zero_le _) (Weak.auto ?_) ?_
    · (repeat' ((conv => whnf); first | exact True.intro | (refine And.intro ?_ ?_)))
      all_goals first | rfl | exact .eq rfl
    intro k hk
    (refine sx_sound Γok _ ?_; conv => whnf)
    (repeat (first | (exact Out.same; conv => whnf) | (exact Out1.same; conv => whnf) | (refine QAnd.mk ?_ ?_; conv => whnf) | (apply QStepH.go; conv => whnf) | (refine Both.lit_true ?_; conv => whnf) | (refine Both.lit_false ?_; conv => whnf) | (apply QStep.go; conv => whnf) | (refine Need.au ?_; conv => whnf) | (refine ⟨_, rfl, ?_⟩; conv => whnf)))
    refine Both.dec (fun hlt => ?_) (fun hge => ?_)
    · have hl : (mulsL x k).length + 4 = (mulsL x (k + 1)).length := by rw [mulsL_len, mulsL_len]; omega
      have hm : mulL (mulsL x k) x = mulsL x (k + 1) := rfl
      have hwr : IntKind.i64.wrap ((k : Int) + 1) = ((k + 1 : Nat) : Int) := by rw [wrap_i64 (by omega) (by omega)]; rfl
      have hkl : (mulsL x k).length < 800 := by rw [mulsL_len]; omega
      (conv => whnf)
      (repeat (first | (exact Out.same; conv => whnf) | (exact Out1.same; conv => whnf) | (refine QAnd.mk ?_ ?_; conv => whnf) | (apply QStepH.go; conv => whnf) | (refine Both.lit_true ?_; conv => whnf) | (refine Both.lit_false ?_; conv => whnf) | (apply QStep.go; conv => whnf) | (refine Need.au ?_; conv => whnf) | (refine ⟨_, rfl, ?_⟩; conv => whnf)))
      refine CallVC.auto mul_k ⟨mulsL x k, x, rfl, rfl, hkl, mulsL_bd hx k, rfl, hx, ?_⟩
      rw [hm, hl]
      (conv => whnf)
      (repeat (first | (exact Out.same; conv => whnf) | (exact Out1.same; conv => whnf) | (refine QAnd.mk ?_ ?_; conv => whnf) | (apply QStepH.go; conv => whnf) | (refine Both.lit_true ?_; conv => whnf) | (refine Both.lit_false ?_; conv => whnf) | (apply QStep.go; conv => whnf) | (refine Need.au ?_; conv => whnf) | (refine ⟨_, rfl, ?_⟩; conv => whnf)))
      refine ⟨k + 1, by omega, by omega, (Weak.pubT 0 rfl).trans (Weak.auto ?_)⟩
      (repeat' ((conv => whnf); first | exact True.intro | (refine And.intro ?_ ?_)))
      all_goals first | rfl | exact .eq rfl | exact congrArg (SV.int .i64) hwr
    have hk1 : k = 2 := by omega
    subst hk1
    have hl5 : (mulsL x 2).length = 1 + 4 * 2 := mulsL_len x 2
    unfold leastL thr at h
    simp only [if_true, Bool.false_eq_true, if_false] at h
    revert hl5 h
    generalize mulsL x 2 = p
    intro hl5 h
    have hix : ti59.size = ti59.size ∧ 0 ≤ IntKind.i64.wrap (2 + 1) ∧ IntKind.i64.wrap (2 + 1) < ((IntKind.i64.wrap (2 + 2)).toNat : Int) := ⟨rfl, by decide, by decide⟩
    have hst : ti59.size = 1 ∧ 3 < (zerosOf 1 4 [CV.int .u64 0]).length := ⟨rfl, by decide⟩
    (conv => whnf)
    (repeat (first | (refine Need.mk hmk ?_; conv => whnf) | (refine Need.mk hix ?_; conv => whnf) | (refine Need.mk hst ?_; conv => whnf) | (exact Out.same; conv => whnf) | (exact Out1.same; conv => whnf) | (refine QAnd.mk ?_ ?_; conv => whnf) | (apply QStepH.go; conv => whnf) | (refine Both.lit_true ?_; conv => whnf) | (refine Both.lit_false ?_; conv => whnf) | (apply QStep.go; conv => whnf) | (refine Need.au ?_; conv => whnf) | (refine ⟨_, rfl, ?_⟩; conv => whnf)))
    refine CallVC.autoW _ (Weak.pubT 0 rfl) above_k ⟨p, List.replicate (2 + 1) 0 ++ [n], rfl, rfl, hobj0, rfl, by omega, (by rw [List.length_append, List.length_replicate]; exact (by decide : 2 + 1 + 1 < 1000)), ?_⟩
    (conv => whnf)
    (repeat (first | (exact Out.same; conv => whnf) | (exact Out1.same; conv => whnf) | (refine QAnd.mk ?_ ?_; conv => whnf) | (apply QStepH.go; conv => whnf) | (refine Both.lit_true ?_; conv => whnf) | (refine Both.lit_false ?_; conv => whnf) | (apply QStep.go; conv => whnf) | (refine Need.au ?_; conv => whnf) | (refine ⟨_, rfl, ?_⟩; conv => whnf)))
    exact ⟨_, _, WeakV.drop rfl, h⟩
theorem least_k : Contract Tryd.prog [] 54 leastS := ⟨⟨⟨_, rfl, rfl, rfl⟩⟩, least_c⟩
def rootS : Spec := fun args H Q => match args, H with
  | [.int .u64 m, .bool b], [] => ∃ n : Nat, m = n ∧ n < 18446744073709551616 ∧ Q (.int .u32 ((rootL n (thr b) : Nat) : Int)) []
  | _, _ => False
theorem root_c : Meets Tryd.prog [] 44 rootS := by
  refine meets_of Γok Tryd.func44 rfl ?_
  intro args H Q h
  unfold rootS at h
  split at h
  case h_2 => exact h.elim
  rename_i m b
  obtain ⟨n, rfl, hn, h⟩ := h
  obtain ⟨R, hR⟩ : ∃ R, bis n (thr b) 36 0 68719476736 = R := ⟨_, rfl⟩
  unfold rootL at h
  rw [hR] at h
  (refine sx_sound Γok _ ?_; conv => whnf)
  (repeat (first | (exact Out.same; conv => whnf) | (exact Out1.same; conv => whnf) | (refine QAnd.mk ?_ ?_; conv => whnf) | (apply QStepH.go; conv => whnf) | (refine Both.lit_true ?_; conv => whnf) | (refine Both.lit_false ?_; conv => whnf) | (apply QStep.go; conv => whnf) | (refine Need.au ?_; conv => whnf) | (refine ⟨_, rfl, ?_⟩; conv => whnf)))
  refine loop_rule (fun s : Nat × Nat => match s with | (lo, hi) => ⟨[.int .u64 (n : Int), .bool b, .any, .any, .any, .int .u64 (lo : Int), .int .u64 (hi : Int), .any, .any, .any, .any, .any, .any, .any, .any, .any, .any, .any, .any, .any, .any, .any, .any, .any], []⟩) (fun s => s.1 < s.2 ∧ s.2 ≤ 68719476736 ∧ ∃ f, s.2 - s.1 ≤ 2 ^ f ∧ bis n (thr b) f s.1 s.2 = R) (fun s => s.2 - s.1) (0, 68719476736) ⟨by decide, by decide, 36, by decide, hR⟩ (Weak.auto ?_) ?_
  · (repeat' ((conv => whnf); first | exact True.intro | (refine And.intro ?_ ?_)))
    all_goals first | rfl | exact .eq rfl
  clear hR
  rintro ⟨lo, hi⟩ ⟨h1, h2, f, h3, hR⟩
  dsimp only at h1 h2 h3 hR
  have hwd : IntKind.u64.wrap ((hi : Int) - (lo : Int)) = ((hi - lo : Nat) : Int) := by rw [wrap_u64 (by omega) (by omega)]; omega
  (refine sx_sound Γok _ ?_; conv => whnf)
  (repeat (first | (exact Out.same; conv => whnf) | (exact Out1.same; conv => whnf) | (refine QAnd.mk ?_ ?_; conv => whnf) | (apply QStepH.go; conv => whnf) | (refine Both.lit_true ?_; conv => whnf) | (refine Both.lit_false ?_; conv => whnf) | (apply QStep.go; conv => whnf) | (refine Need.au ?_; conv => whnf) | (refine ⟨_, rfl, ?_⟩; conv => whnf)))
  refine Both.dec (fun hlt => ?_) (fun hge => ?_)
  · rw [hwd] at hlt
    obtain ⟨g, rfl⟩ : ∃ g, f = g + 1 := by
      cases f with
      | zero => simp at h3; omega
      | succ g => exact ⟨g, rfl⟩
    rw [bis, if_pos (by omega)] at hR
    have hwa : IntKind.u64.wrap ((lo : Int) + (hi : Int)) = ((lo + hi : Nat) : Int) := by rw [wrap64_add, n64_of (by omega)]
    have hwm : IntKind.u64.wrap ((((lo + hi : Nat) : Int)).tdiv 2) = (((lo + hi) / 2 : Nat) : Int) := by
      rw [show (((lo + hi : Nat) : Int)).tdiv 2 = (((lo + hi) / 2 : Nat) : Int) from rfl, wrap64, n64_of (by omega)]
    have hp : (2 : Nat) ^ (g + 1) = 2 * 2 ^ g := by rw [Nat.pow_succ]; omega
    (conv => whnf)
    (repeat (first | (exact Out.same; conv => whnf) | (exact Out1.same; conv => whnf) | (refine QAnd.mk ?_ ?_; conv => whnf) | (apply QStepH.go; conv => whnf) | (refine Both.lit_true ?_; conv => whnf) | (refine Both.lit_false ?_; conv => whnf) | (apply QStep.go; conv => whnf) | (refine Need.au ?_; conv => whnf) | (refine ⟨_, rfl, ?_⟩; conv => whnf)))
    rw [hwa]
    (repeat (first | (exact Out.same; conv => whnf) | (exact Out1.same; conv => whnf) | (refine QAnd.mk ?_ ?_; conv => whnf) | (apply QStepH.go; conv => whnf) | (refine Both.lit_true ?_; conv => whnf) | (refine Both.lit_false ?_; conv => whnf) | (apply QStep.go; conv => whnf) | (refine Need.au ?_; conv => whnf) | (refine ⟨_, rfl, ?_⟩; conv => whnf)))
    rw [hwm]
    refine CallVC.auto least_k ⟨(lo + hi) / 2, n, rfl, rfl, by omega, hn, ?_⟩
    (conv => whnf)
    refine Both.cases (fun hy => ?_) (fun hno => ?_)
    · rw [if_pos hy] at hR
      (conv => whnf)
      (repeat (first | (exact Out.same; conv => whnf) | (exact Out1.same; conv => whnf) | (refine QAnd.mk ?_ ?_; conv => whnf) | (apply QStepH.go; conv => whnf) | (refine Both.lit_true ?_; conv => whnf) | (refine Both.lit_false ?_; conv => whnf) | (apply QStep.go; conv => whnf) | (refine Need.au ?_; conv => whnf) | (refine ⟨_, rfl, ?_⟩; conv => whnf)))
      refine ⟨((lo + hi) / 2, hi), ⟨by show (lo + hi) / 2 < hi; omega, h2, g, by show hi - (lo + hi) / 2 ≤ _; omega, hR⟩, by show hi - (lo + hi) / 2 < hi - lo; omega, Weak.auto ?_⟩
      (repeat' ((conv => whnf); first | exact True.intro | (refine And.intro ?_ ?_)))
      all_goals first | rfl | exact .eq rfl
    · rw [if_neg (by rw [hno]; decide)] at hR
      (conv => whnf)
      (repeat (first | (exact Out.same; conv => whnf) | (exact Out1.same; conv => whnf) | (refine QAnd.mk ?_ ?_; conv => whnf) | (apply QStepH.go; conv => whnf) | (refine Both.lit_true ?_; conv => whnf) | (refine Both.lit_false ?_; conv => whnf) | (apply QStep.go; conv => whnf) | (refine Need.au ?_; conv => whnf) | (refine ⟨_, rfl, ?_⟩; conv => whnf)))
      refine ⟨(lo, (lo + hi) / 2), ⟨by show lo < (lo + hi) / 2; omega, by show (lo + hi) / 2 ≤ _; omega, g, by show (lo + hi) / 2 - lo ≤ _; omega, hR⟩, by show (lo + hi) / 2 - lo < hi - lo; omega, Weak.auto ?_⟩
      (repeat' ((conv => whnf); first | exact True.intro | (refine And.intro ?_ ?_)))
      all_goals first | rfl | exact .eq rfl
  · rw [hwd] at hge
    have hl : lo = R := by
      rw [← hR]
      cases f with
      | zero => rfl
      | succ g => rw [bis, if_neg (by omega)]
    have hw32 : IntKind.u32.wrap (lo : Int) = ((R % 4294967296 : Nat) : Int) := by rw [wrap_u32_mod, hl]; rfl
    (conv => whnf)
    (repeat (first | (exact Out.same; conv => whnf) | (exact Out1.same; conv => whnf) | (refine QAnd.mk ?_ ?_; conv => whnf) | (apply QStepH.go; conv => whnf) | (refine Both.lit_true ?_; conv => whnf) | (refine Both.lit_false ?_; conv => whnf) | (apply QStep.go; conv => whnf) | (refine Need.au ?_; conv => whnf) | (refine ⟨_, rfl, ?_⟩; conv => whnf)))
    exact ⟨_, _, WeakV.drop (congrArg (SV.int .u32) hw32), h⟩
theorem root_k : Contract Tryd.prog [] 44 rootS := ⟨⟨⟨_, rfl, rfl, rfl⟩⟩, root_c⟩
end Go.LX
end
section
set_option maxRecDepth 100000
set_option maxHeartbeats 1000000
set_option autoImplicit false
set_option linter.unusedVariables false
set_option linter.unusedSimpArgs false
namespace Go.LX
open Go.Proofs

def npr (x : Nat) (d : Nat) : Bool := !decide (x % d = 0)
def prs : Nat → List Nat
  | 0 => []
  | x + 1 => if 2 ≤ x ∧ (prs x).all (npr x) = true then prs x ++ [x] else prs x
theorem prs_end : prs 312 = pr64 := by decide +kernel
theorem prs_few : ∀ x : Fin 312, (prs x.val).length < 64 := by decide +kernel
theorem prs_pos : ∀ (x : Nat), ∀ d ∈ prs x, 2 ≤ d
  | 0, d, h => by cases h
  | x + 1, d, h => by
    rw [prs] at h
    split at h
    · rename_i h2
      rcases List.mem_append.1 h with h1 | h1
      · exact prs_pos x d h1
      · rw [List.mem_singleton.1 h1]
        exact h2.1
    · exact prs_pos x d h
theorem all_take (p : Nat → Bool) (l : List Nat) {k : Nat} (h : k < l.length) : (l.take (k + 1)).all p = ((l.take k).all p && p (l.getD k 0)) := by
  rw [List.take_add_one, List.getD_eq_getElem?_getD, List.getElem?_eq_getElem h, List.all_append]
  simp
def primesS : Spec := fun args H Q => match args, H with
  | [.int .i64 64], [] => Q (.own 0) [.own 59 1 64 (us pr64) true]
  | _, _ => False
theorem primes_c : Meets Tryd.prog [] 43 primesS := by
  refine meets_of Γok Tryd.func43 rfl ?_
  intro args H Q h
  unfold primesS at h
  split at h
  case h_2 => exact h.elim
  (refine sx_sound Γok _ ?_; conv => whnf)
  (repeat (first | (exact Out.same; conv => whnf) | (exact Out1.same; conv => whnf) | (refine QAnd.mk ?_ ?_; conv => whnf) | (apply QStepH.go; conv => whnf) | (refine Both.lit_true ?_; conv => whnf) | (refine Both.lit_false ?_; conv => whnf) | (apply QStep.go; conv => whnf) | (refine Need.au ?_; conv => whnf) | (refine ⟨_, rfl, ?_⟩; conv => whnf)))
  refine loop_rule (fun x : Nat => ⟨[.int .i64 64, .any, .any, .own 0, .int .u64 (x : Int), .any, .any, .any, .any, .any, .any, .any, .any, .any, .any, .any, .any, .any, .any, .any, .any, .any, .any, .any, .any, .any, .any, .any, .any, .any, .any, .any], [.own 59 1 (prs x).length (us (prs x)) true]⟩) (fun x => 2 ≤ x ∧ x ≤ 312) (fun x => 312 - x) 2 ⟨by decide, by decide⟩ ((Weak.ownNilT 3 59 1 rfl).trans (Weak.auto ?_)) ?_
  · (repeat' ((conv => whnf); first | exact True.intro | (refine And.intro ?_ ?_)))
    all_goals first | rfl | exact .eq rfl
  rintro x ⟨hx2, hx⟩
  have hpos := prs_pos x
  have hfew : x < 312 → (prs x).length < 64 := fun h => prs_few ⟨x, h⟩
  have hend : x = 312 → prs x = pr64 := fun h => by rw [h]; exact prs_end
  have hstep : prs (x + 1) = if 2 ≤ x ∧ (prs x).all (npr x) = true then prs x ++ [x] else prs x := rfl
  revert hpos hfew hend hstep
  generalize hnx : prs (x + 1) = nx
  generalize prs x = l
  intro hpos hfew hend hstep
  (refine sx_sound Γok _ ?_; conv => whnf)
  (repeat (first | (exact Out.same; conv => whnf) | (exact Out1.same; conv => whnf) | (refine QAnd.mk ?_ ?_; conv => whnf) | (apply QStepH.go; conv => whnf) | (refine Both.lit_true ?_; conv => whnf) | (refine Both.lit_false ?_; conv => whnf) | (apply QStep.go; conv => whnf) | (refine Need.au ?_; conv => whnf) | (refine ⟨_, rfl, ?_⟩; conv => whnf)))
  refine Both.dec (fun hlt => ?_) (fun hge => ?_)
  · have hx3 : x < 312 := by
      rcases Nat.lt_or_ge x 312 with h1 | h1
      · exact h1
      · have := hend (by omega)
        rw [this] at hlt
        exact absurd hlt (by decide)
    have hl64 : l.length < 64 := hfew hx3
    have hwx : IntKind.u64.wrap ((x : Int) + 1) = ((x + 1 : Nat) : Int) := by
      rw [wrap_u64 (by omega) (by omega)]
      rfl
    (conv => whnf)
    (repeat (first | (exact Out.same; conv => whnf) | (exact Out1.same; conv => whnf) | (refine QAnd.mk ?_ ?_; conv => whnf) | (apply QStepH.go; conv => whnf) | (refine Both.lit_true ?_; conv => whnf) | (refine Both.lit_false ?_; conv => whnf) | (apply QStep.go; conv => whnf) | (refine Need.au ?_; conv => whnf) | (refine ⟨_, rfl, ?_⟩; conv => whnf)))
    refine loop_rule (fun k : Nat => ⟨[.int .i64 64, .any, .any, .own 0, .int .u64 (x : Int), .bool ((l.take k).all (npr x)), .int .i64 (k : Int), .any, .any, .any, .any, .any, .any, .any, .any, .any, .any, .any, .any, .any, .any, .any, .any, .any, .any, .any, .any, .any, .any, .any, .any, .any], [.own 59 1 l.length (us l) true]⟩) (fun k => k ≤ l.length) (fun k => l.length - k) 0 (Nat.zero_le _) (Weak.auto ?_) ?_
    · (repeat' ((conv => whnf); first | exact True.intro | (refine And.intro ?_ ?_)))
      all_goals first | rfl | exact .eq rfl
    intro k hk
    (refine sx_sound Γok _ ?_; conv => whnf)
    (repeat (first | (exact Out.same; conv => whnf) | (exact Out1.same; conv => whnf) | (refine QAnd.mk ?_ ?_; conv => whnf) | (apply QStepH.go; conv => whnf) | (refine Both.lit_true ?_; conv => whnf) | (refine Both.lit_false ?_; conv => whnf) | (apply QStep.go; conv => whnf) | (refine Need.au ?_; conv => whnf) | (refine ⟨_, rfl, ?_⟩; conv => whnf)))
    refine Both.dec (fun hlt2 => ?_) (fun hge2 => ?_)
    · have hkl : k < l.length := by omega
      have hat := us_at hkl
      have hall := all_take (npr x) l hkl
      have hd2 : 2 ≤ l.getD k 0 := by
        rw [List.getD_eq_getElem?_getD, List.getElem?_eq_getElem hkl]
        exact hpos _ (List.getElem_mem hkl)
      have hwr : IntKind.i64.wrap ((k : Int) + 1) = ((k + 1 : Nat) : Int) := by rw [wrap_i64 (by omega) (by omega)]; rfl
      revert hat hall hd2
      generalize l.getD k 0 = d
      intro hat hall hd2
      have hd0 : (d : Int) ≠ 0 := by omega
      have hmd : (x : Int).tmod (d : Int) = ((x % d : Nat) : Int) := rfl
      (conv => whnf)
      (repeat (first | (refine ⟨_, hat, ?_⟩; conv => whnf) | (refine Need.mk hd0 ?_; conv => whnf) | (exact Out.same; conv => whnf) | (exact Out1.same; conv => whnf) | (refine QAnd.mk ?_ ?_; conv => whnf) | (apply QStepH.go; conv => whnf) | (refine Both.lit_true ?_; conv => whnf) | (refine Both.lit_false ?_; conv => whnf) | (apply QStep.go; conv => whnf) | (refine Need.au ?_; conv => whnf) | (refine ⟨_, rfl, ?_⟩; conv => whnf)))
      rw [hmd]
      refine Both.dec (fun hz => ?_) (fun hnz => ?_)
      · have hb : SV.bool false = SV.bool ((l.take (k + 1)).all (npr x)) := by
          rw [hall, npr, decide_eq_true (show x % d = 0 by omega)]
          simp
        (conv => whnf)
        (repeat (first | (exact Out.same; conv => whnf) | (exact Out1.same; conv => whnf) | (refine QAnd.mk ?_ ?_; conv => whnf) | (apply QStepH.go; conv => whnf) | (refine Both.lit_true ?_; conv => whnf) | (refine Both.lit_false ?_; conv => whnf) | (apply QStep.go; conv => whnf) | (refine Need.au ?_; conv => whnf) | (refine ⟨_, rfl, ?_⟩; conv => whnf)))
        refine ⟨k + 1, by omega, by omega, Weak.auto ?_⟩
        (repeat' ((conv => whnf); first | exact True.intro | (refine And.intro ?_ ?_)))
        all_goals first | rfl | exact .eq rfl | exact congrArg (SV.int .i64) hwr | exact hb
      · have hb : SV.bool ((l.take k).all (npr x)) = SV.bool ((l.take (k + 1)).all (npr x)) := by
          rw [hall, npr, decide_eq_false (show ¬ x % d = 0 by omega)]
          simp
        (conv => whnf)
        (repeat (first | (exact Out.same; conv => whnf) | (exact Out1.same; conv => whnf) | (refine QAnd.mk ?_ ?_; conv => whnf) | (apply QStepH.go; conv => whnf) | (refine Both.lit_true ?_; conv => whnf) | (refine Both.lit_false ?_; conv => whnf) | (apply QStep.go; conv => whnf) | (refine Need.au ?_; conv => whnf) | (refine ⟨_, rfl, ?_⟩; conv => whnf)))
        refine ⟨k + 1, by omega, by omega, Weak.auto ?_⟩
        (repeat' ((conv => whnf); first | exact True.intro | (refine And.intro ?_ ?_)))
        all_goals first | rfl | exact .eq rfl | exact congrArg (SV.int .i64) hwr | exact hb
    have hke : k = l.length := by omega
    subst hke
    rw [List.take_length]
    (conv => whnf)
    (repeat (first | (exact Out.same; conv => whnf) | (exact Out1.same; conv => whnf) | (refine QAnd.mk ?_ ?_; conv => whnf) | (apply QStepH.go; conv => whnf) | (refine Both.lit_true ?_; conv => whnf) | (refine Both.lit_false ?_; conv => whnf) | (apply QStep.go; conv => whnf) | (refine Need.au ?_; conv => whnf) | (refine ⟨_, rfl, ?_⟩; conv => whnf)))
    refine Both.cases (fun hy => ?_) (fun hno => ?_)
    · have hnl : l ++ [x] = nx := by rw [hstep, if_pos ⟨hx2, hy⟩]
      have hobj : LObj.own 59 1 (l.length + 1) (us l ++ [CV.int .u64 (x : Int)]) true = LObj.own 59 1 (prs (x + 1)).length (us (prs (x + 1))) true := by
        rw [hnx, ← hnl, ← us_app, List.length_append]
        rfl
      have hap : (l.length + 1) * ti59.bytes ≤ 140737488355328 := by
        have : ti59.bytes = 8 := rfl
        rw [this]
        omega
      (conv => whnf)
      (repeat (first | (refine Need.mk hap ?_; conv => whnf) | (exact Out.same; conv => whnf) | (exact Out1.same; conv => whnf) | (refine QAnd.mk ?_ ?_; conv => whnf) | (apply QStepH.go; conv => whnf) | (refine Both.lit_true ?_; conv => whnf) | (refine Both.lit_false ?_; conv => whnf) | (apply QStep.go; conv => whnf) | (refine Need.au ?_; conv => whnf) | (refine ⟨_, rfl, ?_⟩; conv => whnf)))
      refine ⟨x + 1, ⟨by omega, by omega⟩, by omega, Weak.auto ?_⟩
      (repeat' ((conv => whnf); first | exact True.intro | (refine And.intro ?_ ?_)))
      all_goals first | rfl | exact .eq rfl | exact congrArg (SV.int .u64) hwx | exact hobj
    · have hnl : l = nx := by rw [hstep, if_neg (by rw [hno]; simp)]
      have hobj : LObj.own 59 1 l.length (us l) true = LObj.own 59 1 (prs (x + 1)).length (us (prs (x + 1))) true := by
        rw [hnx, ← hnl]
      (conv => whnf)
      (repeat (first | (exact Out.same; conv => whnf) | (exact Out1.same; conv => whnf) | (refine QAnd.mk ?_ ?_; conv => whnf) | (apply QStepH.go; conv => whnf) | (refine Both.lit_true ?_; conv => whnf) | (refine Both.lit_false ?_; conv => whnf) | (apply QStep.go; conv => whnf) | (refine Need.au ?_; conv => whnf) | (refine ⟨_, rfl, ?_⟩; conv => whnf)))
      refine ⟨x + 1, ⟨by omega, by omega⟩, by omega, Weak.auto ?_⟩
      (repeat' ((conv => whnf); first | exact True.intro | (refine And.intro ?_ ?_)))
      all_goals first | rfl | exact .eq rfl | exact congrArg (SV.int .u64) hwx | exact hobj
  have hx3 : x = 312 := by
    rcases Nat.lt_or_ge x 312 with h1 | h1
    · have := hfew h1
      omega
    · omega
  have hl : l = pr64 := hend hx3
  clear hstep hpos hfew hend hnx
  subst hl
  (conv => whnf)
  (repeat (first | (exact Out.same; conv => whnf) | (exact Out1.same; conv => whnf) | (refine QAnd.mk ?_ ?_; conv => whnf) | (apply QStepH.go; conv => whnf) | (refine Both.lit_true ?_; conv => whnf) | (refine Both.lit_false ?_; conv => whnf) | (apply QStep.go; conv => whnf) | (refine Need.au ?_; conv => whnf) | (refine ⟨_, rfl, ?_⟩; conv => whnf)))
  refine ⟨_, _, WeakV.auto ?_, h⟩
  (repeat' ((conv => whnf); first | exact True.intro | (refine And.intro ?_ ?_)))
  all_goals first | rfl | exact .eq rfl
theorem primes_k : Contract Tryd.prog [] 43 primesS := ⟨⟨⟨_, rfl, rfl, rfl⟩⟩, primes_c⟩
end Go.LX
end
section
set_option maxRecDepth 100000
set_option maxHeartbeats 1000000
set_option autoImplicit false
set_option linter.unusedVariables false
set_option linter.unusedSimpArgs false
namespace Go.LX
open Go.Proofs

def ks (l : List W32) : List CV := l.map fun x => CV.int .u32 (u32 x)
theorem ks_len (l : List W32) : (ks l).length = l.length := List.length_map _
theorem ks_at {l : List W32} {k : Nat} (h : k < l.length) : (ks l)[((k : Nat) : Int).toNat]? = some (CV.int .u32 (u32 (l.getD k 0))) := by
  rw [Int.toNat_natCast, ks, List.getElem?_map, List.getD_eq_getElem?_getD, List.getElem?_eq_getElem h]
  rfl
theorem ks_app (l m : List W32) : ks l ++ ks m = ks (l ++ m) := by rw [ks, ks, ks, List.map_append]
theorem take_one {α : Type} (l : List α) (z : α) {k : Nat} (h : k < l.length) : l.take (k + 1) = l.take k ++ [l.getD k z] := by
  rw [List.take_add_one, List.getD_eq_getElem?_getD, List.getElem?_eq_getElem h]
  rfl
def constS : Spec := fun args H Q => match args, H with
  | [], [] => Q (.tuple [.own 0, .own 1]) [.own 75 1 64 (ks kT) true, .own 75 1 8 (ks hT) true]
  | _, _ => False
theorem const_c : Meets Tryd.prog [] 28 constS := by
  refine meets_of Γok Tryd.func28 rfl ?_
  intro args H Q h
  unfold constS at h
  split at h
  case h_2 => exact h.elim
  have hkl : kT.length = 64 := rfl
  have hhl : hT.length = 8 := rfl
  have hpl : pr64.length = 64 := rfl
  have hpb : ∀ d ∈ pr64, d < 18446744073709551616 := by decide
  have hrk := roots_ok
  have hrh := roots_h
  revert hkl hhl hpl hpb hrk hrh
  generalize hK : kT = K
  generalize hH : hT = Hh
  generalize hP : pr64 = P
  intro hkl hhl hpl hpb hrk hrh
  rw [hK, hH] at h
  (refine sx_sound Γok _ ?_; conv => whnf)
  (repeat (first | (exact Out.same; conv => whnf) | (exact Out1.same; conv => whnf) | (refine QAnd.mk ?_ ?_; conv => whnf) | (apply QStepH.go; conv => whnf) | (refine Both.lit_true ?_; conv => whnf) | (refine Both.lit_false ?_; conv => whnf) | (apply QStep.go; conv => whnf) | (refine Need.au ?_; conv => whnf) | (refine ⟨_, rfl, ?_⟩; conv => whnf)))
  refine CallVC.auto primes_k ?_
  (conv => whnf)
  rw [hP]
  (repeat (first | (exact Out.same; conv => whnf) | (exact Out1.same; conv => whnf) | (refine QAnd.mk ?_ ?_; conv => whnf) | (apply QStepH.go; conv => whnf) | (refine Both.lit_true ?_; conv => whnf) | (refine Both.lit_false ?_; conv => whnf) | (apply QStep.go; conv => whnf) | (refine Need.au ?_; conv => whnf) | (refine ⟨_, rfl, ?_⟩; conv => whnf)))
  refine loop_rule (fun i : Nat => ⟨[.any, .any, .own 0, .own 1, .own 2, .int .i64 (i : Int), .any, .any, .any, .any, .any, .any, .any, .any, .any, .any, .any, .any, .any, .any, .any, .any, .any, .any, .any, .any, .any, .any, .any, .any, .any], [.own 75 1 i (ks (K.take i)) true, .own 75 1 (min i 8) (ks (Hh.take i)) true, .own 59 1 64 (us P) true]⟩) (fun i => i ≤ 64) (fun i => 64 - i) 0 (Nat.zero_le _) ((Weak.ownNilT 2 75 1 rfl).trans ((Weak.ownNilT 3 75 1 rfl).trans (Weak.auto ?_))) ?_
  · (repeat' ((conv => whnf); first | exact True.intro | (refine And.intro ?_ ?_)))
    all_goals first | rfl | exact .eq rfl
  intro i hi
  (refine sx_sound Γok _ ?_; conv => whnf)
  (repeat (first | (exact Out.same; conv => whnf) | (exact Out1.same; conv => whnf) | (refine QAnd.mk ?_ ?_; conv => whnf) | (apply QStepH.go; conv => whnf) | (refine Both.lit_true ?_; conv => whnf) | (refine Both.lit_false ?_; conv => whnf) | (apply QStep.go; conv => whnf) | (refine Need.au ?_; conv => whnf) | (refine ⟨_, rfl, ?_⟩; conv => whnf)))
  refine Both.dec (fun hlt => ?_) (fun hge => ?_)
  · have hi64 : i < 64 := by omega
    have hat := us_at (l := P) (k := i) (by omega)
    have hbd := getD_bd hpb i
    have hk1 : ((rootL (P.getD i 0) (thr true) : Nat) : Int) = u32 (K.getD i 0) := congrArg Nat.cast (hrk i hi64)
    have hwr : IntKind.i64.wrap ((i : Int) + 1) = ((i + 1 : Nat) : Int) := by rw [wrap_i64 (by omega) (by omega)]; rfl
    have htk := take_one K 0 (k := i) (by omega)
    have hobj : LObj.own 75 1 (i + 1) (ks (K.take i) ++ [CV.int .u32 (u32 (K.getD i 0))]) true = LObj.own 75 1 (i + 1) (ks (K.take (i + 1))) true := by
      rw [htk, ← ks_app]
      rfl
    have hap : (i + 1) * ti75.bytes ≤ 140737488355328 := by
      have : ti75.bytes = 4 := rfl
      rw [this]
      omega
    have hh1 : i < 8 → ((rootL (P.getD i 0) (thr false) : Nat) : Int) = u32 (Hh.getD i 0) := fun h => congrArg Nat.cast (hrh i h)
    revert hat hbd hk1 hobj hh1
    generalize P.getD i 0 = p
    generalize K.getD i 0 = kk
    intro hat hbd hk1 hobj hh1
    clear htk hrk hrh
    (conv => whnf)
    (repeat (first | (refine ⟨_, hat, ?_⟩; conv => whnf) | (exact Out.same; conv => whnf) | (exact Out1.same; conv => whnf) | (refine QAnd.mk ?_ ?_; conv => whnf) | (apply QStepH.go; conv => whnf) | (refine Both.lit_true ?_; conv => whnf) | (refine Both.lit_false ?_; conv => whnf) | (apply QStep.go; conv => whnf) | (refine Need.au ?_; conv => whnf) | (refine ⟨_, rfl, ?_⟩; conv => whnf)))
    refine CallVC.auto root_k ⟨p, rfl, hbd, ?_⟩
    rw [hk1]
    (conv => whnf)
    (repeat (first | (refine Need.mk hap ?_; conv => whnf) | (exact Out.same; conv => whnf) | (exact Out1.same; conv => whnf) | (refine QAnd.mk ?_ ?_; conv => whnf) | (apply QStepH.go; conv => whnf) | (refine Both.lit_true ?_; conv => whnf) | (refine Both.lit_false ?_; conv => whnf) | (apply QStep.go; conv => whnf) | (refine Need.au ?_; conv => whnf) | (refine ⟨_, rfl, ?_⟩; conv => whnf)))
    refine Both.dec (fun h8 => ?_) (fun h8 => ?_)
    · have hi8 : i < 8 := by omega
      have hh2 := hh1 hi8
      have hmin : min i 8 = i := by omega
      have hth := take_one Hh 0 (k := i) (by omega)
      have hobj2 : LObj.own 75 1 (min i 8 + 1) (ks (Hh.take i) ++ [CV.int .u32 (u32 (Hh.getD i 0))]) true = LObj.own 75 1 (min (i + 1) 8) (ks (Hh.take (i + 1))) true := by
        rw [hth, ← ks_app, hmin, show min (i + 1) 8 = i + 1 by omega]
        rfl
      have hap2 : (min i 8 + 1) * ti75.bytes ≤ 140737488355328 := by
        have : ti75.bytes = 4 := rfl
        rw [this]
        omega
      revert hh2 hobj2
      generalize Hh.getD i 0 = hh
      intro hh2 hobj2
      clear hth hh1 hmin
      (conv => whnf)
      (repeat (first | (refine ⟨_, hat, ?_⟩; conv => whnf) | (exact Out.same; conv => whnf) | (exact Out1.same; conv => whnf) | (refine QAnd.mk ?_ ?_; conv => whnf) | (apply QStepH.go; conv => whnf) | (refine Both.lit_true ?_; conv => whnf) | (refine Both.lit_false ?_; conv => whnf) | (apply QStep.go; conv => whnf) | (refine Need.au ?_; conv => whnf) | (refine ⟨_, rfl, ?_⟩; conv => whnf)))
      refine CallVC.auto root_k ⟨p, rfl, hbd, ?_⟩
      rw [hh2]
      (conv => whnf)
      (repeat (first | (refine Need.mk hap2 ?_; conv => whnf) | (exact Out.same; conv => whnf) | (exact Out1.same; conv => whnf) | (refine QAnd.mk ?_ ?_; conv => whnf) | (apply QStepH.go; conv => whnf) | (refine Both.lit_true ?_; conv => whnf) | (refine Both.lit_false ?_; conv => whnf) | (apply QStep.go; conv => whnf) | (refine Need.au ?_; conv => whnf) | (refine ⟨_, rfl, ?_⟩; conv => whnf)))
      refine ⟨i + 1, by omega, by omega, Weak.auto ?_⟩
      (repeat' ((conv => whnf); first | exact True.intro | (refine And.intro ?_ ?_)))
      all_goals first | exact hobj | exact hobj2 | rfl | exact .eq rfl | exact congrArg (SV.int .i64) hwr
    · have hobj2 : LObj.own 75 1 (min i 8) (ks (Hh.take i)) true = LObj.own 75 1 (min (i + 1) 8) (ks (Hh.take (i + 1))) true := by
        rw [List.take_of_length_le (by omega), List.take_of_length_le (by omega), show min i 8 = 8 by omega, show min (i + 1) 8 = 8 by omega]
      (conv => whnf)
      (repeat (first | (exact Out.same; conv => whnf) | (exact Out1.same; conv => whnf) | (refine QAnd.mk ?_ ?_; conv => whnf) | (apply QStepH.go; conv => whnf) | (refine Both.lit_true ?_; conv => whnf) | (refine Both.lit_false ?_; conv => whnf) | (apply QStep.go; conv => whnf) | (refine Need.au ?_; conv => whnf) | (refine ⟨_, rfl, ?_⟩; conv => whnf)))
      refine ⟨i + 1, by omega, by omega, Weak.auto ?_⟩
      (repeat' ((conv => whnf); first | exact True.intro | (refine And.intro ?_ ?_)))
      all_goals first | exact hobj | exact hobj2 | rfl | exact .eq rfl | exact congrArg (SV.int .i64) hwr
  have hie : i = 64 := by omega
  subst hie
  rw [List.take_of_length_le (by omega), List.take_of_length_le (by omega)]
  clear hrk hrh
  (conv => whnf)
  (repeat (first | (exact Out.same; conv => whnf) | (exact Out1.same; conv => whnf) | (refine QAnd.mk ?_ ?_; conv => whnf) | (apply QStepH.go; conv => whnf) | (refine Both.lit_true ?_; conv => whnf) | (refine Both.lit_false ?_; conv => whnf) | (apply QStep.go; conv => whnf) | (refine Need.au ?_; conv => whnf) | (refine ⟨_, rfl, ?_⟩; conv => whnf)))
  refine ⟨_, _, WeakV.auto ?_, h⟩
  (repeat' ((conv => whnf); first | exact True.intro | (refine And.intro ?_ ?_)))
  all_goals first | rfl | exact .eq rfl
theorem const_k : Contract Tryd.prog [] 28 constS := ⟨⟨⟨_, rfl, rfl, rfl⟩⟩, const_c⟩
def bkc (K Hh : List W32) (cl : Bool) (i : Nat) : List SV := [.sl 1 64 (ks K) false, .sl 1 8 (ks Hh) false, .mp i, .bool cl]
def newbS : Spec := fun args H Q => match args, H with
  | [], [] => Q (.ptr 0 0) [.cells (bkc kT hT false 1) 35, .map 2 []]
  | _, _ => False
theorem newb_c : Meets Tryd.prog [] 13 newbS := by
  refine meets_of Γok Tryd.func13 rfl ?_
  intro args H Q h
  unfold newbS at h
  split at h
  case h_2 => exact h.elim
  have hkl : kT.length = 64 := rfl
  have hhl : hT.length = 8 := rfl
  revert hkl hhl
  generalize hK : kT = K
  generalize hH : hT = Hh
  intro hkl hhl
  rw [hK, hH] at h
  (refine sx_sound Γok _ ?_; conv => whnf)
  (repeat (first | (exact Out.same; conv => whnf) | (exact Out1.same; conv => whnf) | (refine QAnd.mk ?_ ?_; conv => whnf) | (apply QStepH.go; conv => whnf) | (refine Both.lit_true ?_; conv => whnf) | (refine Both.lit_false ?_; conv => whnf) | (apply QStep.go; conv => whnf) | (refine Need.au ?_; conv => whnf) | (refine ⟨_, rfl, ?_⟩; conv => whnf)))
  refine CallVC.auto const_k ?_
  (conv => whnf)
  rw [hK, hH]
  (repeat (first | (exact Out.same; conv => whnf) | (exact Out1.same; conv => whnf) | (refine QAnd.mk ?_ ?_; conv => whnf) | (apply QStepH.go; conv => whnf) | (refine Both.lit_true ?_; conv => whnf) | (refine Both.lit_false ?_; conv => whnf) | (apply QStep.go; conv => whnf) | (refine Need.au ?_; conv => whnf) | (refine ⟨_, rfl, ?_⟩; conv => whnf)))
  refine ⟨_, _, WeakV.of ((Weak.pub 0 3 rfl rfl).trans ((Weak.pub 1 3 rfl rfl).trans (Weak.auto ?_))), h⟩
  (repeat' ((conv => whnf); first | exact True.intro | (refine And.intro ?_ ?_)))
  all_goals first | rfl | exact .eq rfl
theorem newb_k : Contract Tryd.prog [] 13 newbS := ⟨⟨⟨_, rfl, rfl, rfl⟩⟩, newb_c⟩
end Go.LX
end
section
set_option maxRecDepth 100000
set_option maxHeartbeats 2000000
set_option autoImplicit false
set_option linter.unusedVariables false
set_option linter.unusedSimpArgs false
namespace Go.LX
open Go.Proofs

theorem dRight_go (r : W32) (n : Nat) (h : n ≤ 32) : bitOr .u32 (shrI .u32 (u32 r) (n : Int)) (shlI .u32 (u32 r) ((32 - n : Nat) : Int)) = u32 (rotr r n) := by
  rw [shr_u32 _ _ h, shl_u32 _ _ (by omega), or_u32, rotr, BitVec.or_comm]
def dRightS : Spec := fun args H Q => match args, H with
  | [.int .u32 x, .int .i64 k], [] => ∃ (r : W32) (n : Nat), x = u32 r ∧ k = (n : Int) ∧ (0 < n ∧ n < 32) ∧ Q (.int .u32 (u32 (rotr r n))) []
  | _, _ => False
theorem dRight_c : Meets Tryd.prog [] 70 dRightS := by
  refine meets_of Γok Tryd.func70 rfl ?_
  intro args H Q h
  unfold dRightS at h
  split at h
  case h_2 => exact h.elim
  obtain ⟨r, n, rfl, rfl, ⟨h1, h2⟩, h⟩ := h
  have hw : IntKind.i64.wrap (32 - (n : Int)) = ((32 - n : Nat) : Int) := by rw [wrap_i64 (by omega) (by omega)]; omega
  have hv : bitOr .u32 (shrI .u32 (u32 r) (n : Int)) (shlI .u32 (u32 r) (IntKind.i64.wrap (32 - (n : Int)))) = u32 (rotr r n) := by rw [hw]; exact dRight_go r n (by omega)
  have hn0 : 0 ≤ (n : Int) := by omega
  have hn1 : 0 ≤ IntKind.i64.wrap (32 - (n : Int)) := by rw [hw]; omega
  (refine sx_sound Γok _ ?_; conv => whnf)
  (refine DrawVC.any Γok (by kernel_rfl) (by kernel_rfl) (by kernel_rfl) (by rfl) ?_; conv => whnf)
  (repeat (first | (refine Need.mk hn0 ?_; conv => whnf) | (refine Need.mk hn1 ?_; conv => whnf) | (exact Out.same; conv => whnf) | (exact Out1.same; conv => whnf) | (refine QAnd.mk ?_ ?_; conv => whnf) | (apply QStepH.go; conv => whnf) | (refine Both.lit_true ?_; conv => whnf) | (refine Both.lit_false ?_; conv => whnf) | (apply QStep.go; conv => whnf) | (refine Need.au ?_; conv => whnf) | (refine ⟨_, rfl, ?_⟩; conv => whnf)))
  exact ⟨_, _, WeakV.drop (congrArg (SV.int .u32) hv), h⟩
theorem dRight_k : Contract Tryd.prog [] 70 dRightS := ⟨⟨⟨_, rfl, rfl, rfl⟩⟩, dRight_c⟩
theorem be4_nat (x0 x1 x2 x3 : Nat) (h1 : x1 < 256) (h2 : x2 < 256) (h3 : x3 < 256) :
    ((x0 <<< 24 ||| x1 <<< 16) ||| x2 <<< 8) ||| x3 = x0 * 16777216 + x1 * 65536 + x2 * 256 + x3 := by
  have e1 : x0 <<< 24 ||| x1 <<< 16 = (x0 * 256 + x1) <<< 16 := by
    rw [← Nat.shiftLeft_add_eq_or_of_lt (by rw [Nat.shiftLeft_eq]; omega), Nat.shiftLeft_eq, Nat.shiftLeft_eq, Nat.shiftLeft_eq]
    omega
  have e2 : (x0 * 256 + x1) <<< 16 ||| x2 <<< 8 = ((x0 * 256 + x1) * 256 + x2) <<< 8 := by
    rw [← Nat.shiftLeft_add_eq_or_of_lt (by rw [Nat.shiftLeft_eq]; omega), Nat.shiftLeft_eq, Nat.shiftLeft_eq, Nat.shiftLeft_eq]
    omega
  rw [e1, e2, ← Nat.shiftLeft_add_eq_or_of_lt (by omega), Nat.shiftLeft_eq]
  omega
theorem be4_num (b : List UInt8) : (be4 b).toNat = (b.getD 0 0).toNat * 16777216 + (b.getD 1 0).toNat * 65536 + (b.getD 2 0).toNat * 256 + (b.getD 3 0).toNat := by
  unfold be4 wd
  have h0 := (b.getD 0 0).toNat_lt
  have h1 := (b.getD 1 0).toNat_lt
  have h2 := (b.getD 2 0).toNat_lt
  have h3 := (b.getD 3 0).toNat_lt
  simp only [BitVec.toNat_or, BitVec.toNat_shiftLeft, BitVec.toNat_setWidth, UInt8.toNat_toBitVec]
  revert h0 h1 h2 h3
  generalize (b.getD 0 0).toNat = x0
  generalize (b.getD 1 0).toNat = x1
  generalize (b.getD 2 0).toNat = x2
  generalize (b.getD 3 0).toNat = x3
  intro h0 h1 h2 h3
  have q : ∀ (x k : Nat), x < 256 → k ≤ 24 → ((x % 2 ^ 32) <<< k) % 2 ^ 32 = x <<< k := by
    intro x k hx hk
    rw [Nat.shiftLeft_eq, Nat.shiftLeft_eq, Nat.mod_eq_of_lt (show x < 2 ^ 32 by omega)]
    refine Nat.mod_eq_of_lt ?_
    calc x * 2 ^ k ≤ 255 * 2 ^ 24 := Nat.mul_le_mul (by omega) (Nat.pow_le_pow_right (by decide) hk)
      _ < 2 ^ 32 := by decide
  rw [q x0 24 h0 (by decide), q x1 16 h1 (by decide), q x2 8 h2 (by decide), Nat.mod_eq_of_lt (show x3 < 2 ^ 32 by omega), be4_nat x0 x1 x2 x3 h1 h2 h3]
theorem byte_at {s : List UInt8} {t j : Nat} (h : 4 * t + 4 ≤ s.length) (hj : j < 4) : (List.drop (4 * t) (List.take (4 * t + 4) s)).getD j 0 = s.getD (4 * t + j) 0 := by
  rw [List.getD_eq_getElem?_getD, List.getElem?_drop, List.getElem?_take, if_pos (by omega), List.getD_eq_getElem?_getD]
theorem word_go {s : List UInt8} {t : Nat} (h : 4 * t + 4 ≤ s.length) :
    IntKind.u32.wrap (IntKind.u32.wrap (IntKind.u32.wrap (IntKind.u32.wrap (IntKind.u32.wrap ((s.getD (4 * t) 0).toNat : Int) * 16777216) + IntKind.u32.wrap (IntKind.u32.wrap ((s.getD (4 * t + 1) 0).toNat : Int) * 65536)) + IntKind.u32.wrap (IntKind.u32.wrap ((s.getD (4 * t + 2) 0).toNat : Int) * 256)) + IntKind.u32.wrap ((s.getD (4 * t + 3) 0).toNat : Int)) = u32 (be4 (List.drop (4 * t) (List.take (4 * t + 4) s))) := by
  have hb := be4_num (List.drop (4 * t) (List.take (4 * t + 4) s))
  rw [byte_at h (by decide), byte_at h (by decide), byte_at h (by decide), byte_at h (by decide), show 4 * t + 0 = 4 * t from rfl] at hb
  unfold u32
  rw [hb]
  have h0 := (s.getD (4 * t) 0).toNat_lt
  have h1 := (s.getD (4 * t + 1) 0).toNat_lt
  have h2 := (s.getD (4 * t + 2) 0).toNat_lt
  have h3 := (s.getD (4 * t + 3) 0).toNat_lt
  revert h0 h1 h2 h3
  generalize (s.getD (4 * t) 0).toNat = x0
  generalize (s.getD (4 * t + 1) 0).toNat = x1
  generalize (s.getD (4 * t + 2) 0).toNat = x2
  generalize (s.getD (4 * t + 3) 0).toNat = x3
  intro h0 h1 h2 h3
  simp only [wrap_u32_mod]
  omega
theorem rw1_go (p q x y : W32) : IntKind.u32.wrap (IntKind.u32.wrap (IntKind.u32.wrap (bitXor .u32 (bitXor .u32 (u32 (rotr y 17)) (u32 (rotr y 19))) (shrI .u32 (u32 y) 10) + u32 q) + bitXor .u32 (bitXor .u32 (u32 (rotr x 7)) (u32 (rotr x 18))) (shrI .u32 (u32 x) 3)) + u32 p) = u32 ((p + sg0 x) + q + sg1 y) := by
  have h1 := sg_go x (rotr x 7) (rotr x 18) 3 (by omega)
  have h2 := sg_go y (rotr y 17) (rotr y 19) 10 (by omega)
  have e3 : ((3 : Nat) : Int) = 3 := rfl
  have e10 : ((10 : Nat) : Int) = 10 := rfl
  rw [e3] at h1
  rw [e10] at h2
  rw [h1, h2, add_u32, add_u32, add_u32]
  show u32 (((sg1 y + q) + sg0 x) + p) = _
  congr 1
  ac_rfl
theorem ks_set (l : List W32) (k : Nat) (x : W32) : (ks l).set k (CV.int .u32 (u32 x)) = ks (l.set k x) := by rw [ks, ks, List.map_set]
theorem zer_ks (n : Nat) : zerosOf 1 n [CV.int .u32 0] = ks (List.replicate n 0) := by
  unfold zerosOf ks
  rw [List.map_replicate]
  rfl
theorem not_go (e : W32) : IntKind.u32.wrap (4294967295 - u32 e) = u32 (~~~ e) := by
  have h : ∀ e : W32, 4294967295#32 - e = ~~~ e := fun e => by
    rw [show (4294967295#32) = BitVec.allOnes 32 from rfl, BitVec.allOnes_sub_eq_not]
  rw [show (4294967295 : Int) = u32 4294967295#32 from rfl, sub_u32, h]
end Go.LX
end
