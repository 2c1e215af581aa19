import Derived.Test.YtiokggkoidiicaaDoorProg
import Derived.Test.YtiokggkoidiicaaDoorLX
import Derived.KernelRfl
set_option maxRecDepth 100000
namespace Go.LX
open Go.Proofs

def ti1 : TI := ⟨.func #[] #[] false, .nilFunc, 1, 8⟩
theorem tok1 : TOk Tryd.prog (1, ti1) := ⟨Tryd.underlying1, by kernel_rfl, (fun h => by cases h)⟩
def ti2 : TI := ⟨.int .i64, .int .i64 0, 1, 8⟩
theorem tok2 : TOk Tryd.prog (2, ti2) := ⟨Tryd.underlying2, by kernel_rfl, (fun h => by cases h)⟩
def ti3 : TI := ⟨.int .i64, .int .i64 0, 1, 8⟩
theorem tok3 : TOk Tryd.prog (3, ti3) := ⟨Tryd.underlying3, by kernel_rfl, (fun h => by cases h)⟩
def ti4 : TI := ⟨.bool, .bool false, 1, 1⟩
theorem tok4 : TOk Tryd.prog (4, ti4) := ⟨Tryd.underlying4, by kernel_rfl, (fun h => by cases h)⟩
def ti5 : TI := ⟨.int .u8, .int .u8 0, 1, 1⟩
theorem tok5 : TOk Tryd.prog (5, ti5) := ⟨Tryd.underlying5, by kernel_rfl, (fun h => by cases h)⟩
def ti9 : TI := ⟨.string, .string ⟨#[]⟩, 1, 16⟩
theorem tok9 : TOk Tryd.prog (9, ti9) := ⟨Tryd.underlying9, by kernel_rfl, (fun h => by cases h)⟩
def ti12 : TI := ⟨.int .u64, .int .u64 0, 1, 8⟩
theorem tok12 : TOk Tryd.prog (12, ti12) := ⟨Tryd.underlying12, by kernel_rfl, (fun h => by cases h)⟩
def ti21 : TI := ⟨.int .i32, .int .i32 0, 1, 4⟩
theorem tok21 : TOk Tryd.prog (21, ti21) := ⟨Tryd.underlying21, by kernel_rfl, (fun h => by cases h)⟩
def ti22 : TI := ⟨.int .u64, .int .u64 0, 1, 8⟩
theorem tok22 : TOk Tryd.prog (22, ti22) := ⟨Tryd.underlying22, by kernel_rfl, (fun h => by cases h)⟩
def ti23 : TI := ⟨.func #[] #[4] false, .nilFunc, 1, 8⟩
theorem tok23 : TOk Tryd.prog (23, ti23) := ⟨Tryd.underlying23, by kernel_rfl, (fun h => by cases h)⟩
def ti24 : TI := ⟨.slice 9, .slice none 0 0, 1, 24⟩
theorem tok24 : TOk Tryd.prog (24, ti24) := ⟨Tryd.underlying24, by kernel_rfl, (fun h => by cases h)⟩
def ti26 : TI := ⟨.func #[3, 22, 9] #[24, 3] false, .nilFunc, 1, 8⟩
theorem tok26 : TOk Tryd.prog (26, ti26) := ⟨Tryd.underlying26, by kernel_rfl, (fun h => by cases h)⟩
def ti27 : TI := ⟨.func #[24, 24] #[4] false, .nilFunc, 1, 8⟩
theorem tok27 : TOk Tryd.prog (27, ti27) := ⟨Tryd.underlying27, by kernel_rfl, (fun h => by cases h)⟩
def ti28 : TI := ⟨.func #[3, 22, 9] #[4] false, .nilFunc, 1, 8⟩
theorem tok28 : TOk Tryd.prog (28, ti28) := ⟨Tryd.underlying28, by kernel_rfl, (fun h => by cases h)⟩
def ti29 : TI := ⟨.int .i64, .int .i64 0, 1, 8⟩
theorem tok29 : TOk Tryd.prog (29, ti29) := ⟨Tryd.underlying29, by kernel_rfl, (fun h => by cases h)⟩
def ti31 : TI := ⟨.func #[3, 22, 22, 9] #[24, 29] false, .nilFunc, 1, 8⟩
theorem tok31 : TOk Tryd.prog (31, ti31) := ⟨Tryd.underlying31, by kernel_rfl, (fun h => by cases h)⟩
def ti32 : TI := ⟨.func #[3, 3] #[3] false, .nilFunc, 1, 8⟩
theorem tok32 : TOk Tryd.prog (32, ti32) := ⟨Tryd.underlying32, by kernel_rfl, (fun h => by cases h)⟩
def ti33 : TI := ⟨.struct #[{ name := "Gen", type := 22, offset := 0, embedded := false, tag := "", pkgPath := "", byteOffset := 0 }, { name := "Serial", type := 22, offset := 1, embedded := false, tag := "", pkgPath := "", byteOffset := 8 }, { name := "Part", type := 3, offset := 2, embedded := false, tag := "", pkgPath := "", byteOffset := 16 }, { name := "Parts", type := 3, offset := 3, embedded := false, tag := "", pkgPath := "", byteOffset := 24 }, { name := "Bytes", type := 9, offset := 4, embedded := false, tag := "", pkgPath := "", byteOffset := 32 }], .agg #[.int .u64 0, .int .u64 0, .int .i64 0, .int .i64 0, .string ⟨#[]⟩], 5, 48⟩
theorem tok33 : TOk Tryd.prog (33, ti33) := ⟨Tryd.underlying33, by kernel_rfl, fun _ => ⟨by kernel_rfl, by kernel_rfl⟩⟩
def ti34 : TI := ⟨.struct #[{ name := "Gen", type := 22, offset := 0, embedded := false, tag := "", pkgPath := "", byteOffset := 0 }, { name := "Serial", type := 22, offset := 1, embedded := false, tag := "", pkgPath := "", byteOffset := 8 }, { name := "Part", type := 3, offset := 2, embedded := false, tag := "", pkgPath := "", byteOffset := 16 }, { name := "Parts", type := 3, offset := 3, embedded := false, tag := "", pkgPath := "", byteOffset := 24 }, { name := "Bytes", type := 9, offset := 4, embedded := false, tag := "", pkgPath := "", byteOffset := 32 }], .agg #[.int .u64 0, .int .u64 0, .int .i64 0, .int .i64 0, .string ⟨#[]⟩], 5, 48⟩
theorem tok34 : TOk Tryd.prog (34, ti34) := ⟨Tryd.underlying34, by kernel_rfl, fun _ => ⟨by kernel_rfl, by kernel_rfl⟩⟩
def ti36 : TI := ⟨.func #[3, 9] #[34, 29] false, .nilFunc, 1, 8⟩
theorem tok36 : TOk Tryd.prog (36, ti36) := ⟨Tryd.underlying36, by kernel_rfl, (fun h => by cases h)⟩
def ti37 : TI := ⟨.func #[3, 22, 22, 22, 22, 9, 9] #[4] false, .nilFunc, 1, 8⟩
theorem tok37 : TOk Tryd.prog (37, ti37) := ⟨Tryd.underlying37, by kernel_rfl, (fun h => by cases h)⟩
def ti38 : TI := ⟨.int .u32, .int .u32 0, 1, 4⟩
theorem tok38 : TOk Tryd.prog (38, ti38) := ⟨Tryd.underlying38, by kernel_rfl, (fun h => by cases h)⟩
def ti39 : TI := ⟨.slice 3, .slice none 0 0, 1, 24⟩
theorem tok39 : TOk Tryd.prog (39, ti39) := ⟨Tryd.underlying39, by kernel_rfl, (fun h => by cases h)⟩
def ti40 : TI := ⟨.slice 5, .slice none 0 0, 1, 24⟩
theorem tok40 : TOk Tryd.prog (40, ti40) := ⟨Tryd.underlying40, by kernel_rfl, (fun h => by cases h)⟩
def ti41 : TI := ⟨.func #[3, 22, 24, 3, 38, 9] #[4] false, .nilFunc, 1, 8⟩
theorem tok41 : TOk Tryd.prog (41, ti41) := ⟨Tryd.underlying41, by kernel_rfl, (fun h => by cases h)⟩
def ti42 : TI := ⟨.func #[3, 22, 22, 22, 9] #[4] false, .nilFunc, 1, 8⟩
theorem tok42 : TOk Tryd.prog (42, ti42) := ⟨Tryd.underlying42, by kernel_rfl, (fun h => by cases h)⟩
def ti43 : TI := ⟨.func #[3] #[4] false, .nilFunc, 1, 8⟩
theorem tok43 : TOk Tryd.prog (43, ti43) := ⟨Tryd.underlying43, by kernel_rfl, (fun h => by cases h)⟩
def ti45 : TI := ⟨.func #[3, 22, 22, 9] #[9, 3] false, .nilFunc, 1, 8⟩
theorem tok45 : TOk Tryd.prog (45, ti45) := ⟨Tryd.underlying45, by kernel_rfl, (fun h => by cases h)⟩
def ti46 : TI := ⟨.func #[77] #[] false, .nilFunc, 1, 8⟩
theorem tok46 : TOk Tryd.prog (46, ti46) := ⟨Tryd.underlying46, by kernel_rfl, (fun h => by cases h)⟩
def ti47 : TI := ⟨.func #[77] #[] false, .nilFunc, 1, 8⟩
theorem tok47 : TOk Tryd.prog (47, ti47) := ⟨Tryd.underlying47, by kernel_rfl, (fun h => by cases h)⟩
def ti48 : TI := ⟨.func #[9, 3] #[47] false, .nilFunc, 1, 8⟩
theorem tok48 : TOk Tryd.prog (48, ti48) := ⟨Tryd.underlying48, by kernel_rfl, (fun h => by cases h)⟩
def ti49 : TI := ⟨.struct #[{ name := "e", type := 29, offset := 0, embedded := false, tag := "", pkgPath := "carrack/wire", byteOffset := 0 }], .agg #[.int .i64 0], 1, 8⟩
theorem tok49 : TOk Tryd.prog (49, ti49) := ⟨Tryd.underlying49, by kernel_rfl, fun _ => ⟨by kernel_rfl, by kernel_rfl⟩⟩
def ti50 : TI := ⟨.struct #[{ name := "e", type := 29, offset := 0, embedded := false, tag := "", pkgPath := "carrack/wire", byteOffset := 0 }], .agg #[.int .i64 0], 1, 8⟩
theorem tok50 : TOk Tryd.prog (50, ti50) := ⟨Tryd.underlying50, by kernel_rfl, fun _ => ⟨by kernel_rfl, by kernel_rfl⟩⟩
def ti51 : TI := ⟨.pointer 53, .pointer none, 1, 8⟩
theorem tok51 : TOk Tryd.prog (51, ti51) := ⟨Tryd.underlying51, by kernel_rfl, (fun h => by cases h)⟩
def ti52 : TI := ⟨.struct #[{ name := "addr", type := 51, offset := 0, embedded := false, tag := "", pkgPath := "strings", byteOffset := 0 }, { name := "buf", type := 40, offset := 1, embedded := false, tag := "", pkgPath := "strings", byteOffset := 8 }], .agg #[.pointer none, .slice none 0 0], 2, 32⟩
theorem tok52 : TOk Tryd.prog (52, ti52) := ⟨Tryd.underlying52, by kernel_rfl, fun _ => ⟨by kernel_rfl, by kernel_rfl⟩⟩
def ti53 : TI := ⟨.struct #[{ name := "addr", type := 51, offset := 0, embedded := false, tag := "", pkgPath := "strings", byteOffset := 0 }, { name := "buf", type := 40, offset := 1, embedded := false, tag := "", pkgPath := "strings", byteOffset := 8 }], .agg #[.pointer none, .slice none 0 0], 2, 32⟩
theorem tok53 : TOk Tryd.prog (53, ti53) := ⟨Tryd.underlying53, by kernel_rfl, fun _ => ⟨by kernel_rfl, by kernel_rfl⟩⟩
def ti54 : TI := ⟨.struct #[{ name := "m", type := 50, offset := 0, embedded := false, tag := "", pkgPath := "carrack/wire", byteOffset := 0 }, { name := "b", type := 53, offset := 1, embedded := false, tag := "", pkgPath := "carrack/wire", byteOffset := 8 }], .agg #[.int .i64 0, .pointer none, .slice none 0 0], 3, 40⟩
theorem tok54 : TOk Tryd.prog (54, ti54) := ⟨Tryd.underlying54, by kernel_rfl, fun _ => ⟨by kernel_rfl, by kernel_rfl⟩⟩
def ti55 : TI := ⟨.struct #[{ name := "m", type := 50, offset := 0, embedded := false, tag := "", pkgPath := "carrack/wire", byteOffset := 0 }, { name := "b", type := 53, offset := 1, embedded := false, tag := "", pkgPath := "carrack/wire", byteOffset := 8 }], .agg #[.int .i64 0, .pointer none, .slice none 0 0], 3, 40⟩
theorem tok55 : TOk Tryd.prog (55, ti55) := ⟨Tryd.underlying55, by kernel_rfl, fun _ => ⟨by kernel_rfl, by kernel_rfl⟩⟩
def ti56 : TI := ⟨.func #[9] #[] false, .nilFunc, 1, 8⟩
theorem tok56 : TOk Tryd.prog (56, ti56) := ⟨Tryd.underlying56, by kernel_rfl, (fun h => by cases h)⟩
def ti57 : TI := ⟨.func #[22] #[] false, .nilFunc, 1, 8⟩
theorem tok57 : TOk Tryd.prog (57, ti57) := ⟨Tryd.underlying57, by kernel_rfl, (fun h => by cases h)⟩
def ti58 : TI := ⟨.func #[3] #[] false, .nilFunc, 1, 8⟩
theorem tok58 : TOk Tryd.prog (58, ti58) := ⟨Tryd.underlying58, by kernel_rfl, (fun h => by cases h)⟩
def ti59 : TI := ⟨.func #[9, 3] #[9] false, .nilFunc, 1, 8⟩
theorem tok59 : TOk Tryd.prog (59, ti59) := ⟨Tryd.underlying59, by kernel_rfl, (fun h => by cases h)⟩
def ti61 : TI := ⟨.func #[] #[9, 29] false, .nilFunc, 1, 8⟩
theorem tok61 : TOk Tryd.prog (61, ti61) := ⟨Tryd.underlying61, by kernel_rfl, (fun h => by cases h)⟩
def ti62 : TI := ⟨.func #[9] #[9] false, .nilFunc, 1, 8⟩
theorem tok62 : TOk Tryd.prog (62, ti62) := ⟨Tryd.underlying62, by kernel_rfl, (fun h => by cases h)⟩
def ti63 : TI := ⟨.func #[9] #[4] false, .nilFunc, 1, 8⟩
theorem tok63 : TOk Tryd.prog (63, ti63) := ⟨Tryd.underlying63, by kernel_rfl, (fun h => by cases h)⟩
def ti64 : TI := ⟨.pointer 72, .pointer none, 1, 8⟩
theorem tok64 : TOk Tryd.prog (64, ti64) := ⟨Tryd.underlying64, by kernel_rfl, (fun h => by cases h)⟩
def ti65 : TI := ⟨.func #[9] #[64] false, .nilFunc, 1, 8⟩
theorem tok65 : TOk Tryd.prog (65, ti65) := ⟨Tryd.underlying65, by kernel_rfl, (fun h => by cases h)⟩
def ti66 : TI := ⟨.func #[3] #[9] false, .nilFunc, 1, 8⟩
theorem tok66 : TOk Tryd.prog (66, ti66) := ⟨Tryd.underlying66, by kernel_rfl, (fun h => by cases h)⟩
def ti67 : TI := ⟨.func #[] #[22] false, .nilFunc, 1, 8⟩
theorem tok67 : TOk Tryd.prog (67, ti67) := ⟨Tryd.underlying67, by kernel_rfl, (fun h => by cases h)⟩
def ti68 : TI := ⟨.func #[] #[3] false, .nilFunc, 1, 8⟩
theorem tok68 : TOk Tryd.prog (68, ti68) := ⟨Tryd.underlying68, by kernel_rfl, (fun h => by cases h)⟩
def ti69 : TI := ⟨.func #[] #[9] false, .nilFunc, 1, 8⟩
theorem tok69 : TOk Tryd.prog (69, ti69) := ⟨Tryd.underlying69, by kernel_rfl, (fun h => by cases h)⟩
def ti70 : TI := ⟨.func #[] #[29] false, .nilFunc, 1, 8⟩
theorem tok70 : TOk Tryd.prog (70, ti70) := ⟨Tryd.underlying70, by kernel_rfl, (fun h => by cases h)⟩
def ti71 : TI := ⟨.struct #[{ name := "memory", type := 50, offset := 0, embedded := true, tag := "", pkgPath := "carrack/wire", byteOffset := 0 }, { name := "s", type := 9, offset := 1, embedded := false, tag := "", pkgPath := "carrack/wire", byteOffset := 8 }], .agg #[.int .i64 0, .string ⟨#[]⟩], 2, 24⟩
theorem tok71 : TOk Tryd.prog (71, ti71) := ⟨Tryd.underlying71, by kernel_rfl, fun _ => ⟨by kernel_rfl, by kernel_rfl⟩⟩
def ti72 : TI := ⟨.struct #[{ name := "memory", type := 50, offset := 0, embedded := true, tag := "", pkgPath := "carrack/wire", byteOffset := 0 }, { name := "s", type := 9, offset := 1, embedded := false, tag := "", pkgPath := "carrack/wire", byteOffset := 8 }], .agg #[.int .i64 0, .string ⟨#[]⟩], 2, 24⟩
theorem tok72 : TOk Tryd.prog (72, ti72) := ⟨Tryd.underlying72, by kernel_rfl, fun _ => ⟨by kernel_rfl, by kernel_rfl⟩⟩
def ti73 : TI := ⟨.func #[9, 9] #[9] false, .nilFunc, 1, 8⟩
theorem tok73 : TOk Tryd.prog (73, ti73) := ⟨Tryd.underlying73, by kernel_rfl, (fun h => by cases h)⟩
def ti74 : TI := ⟨.struct #[{ name := "Gen", type := 22, offset := 0, embedded := false, tag := "", pkgPath := "", byteOffset := 0 }, { name := "Serial", type := 22, offset := 1, embedded := false, tag := "", pkgPath := "", byteOffset := 8 }, { name := "Part", type := 3, offset := 2, embedded := false, tag := "", pkgPath := "", byteOffset := 16 }, { name := "Parts", type := 3, offset := 3, embedded := false, tag := "", pkgPath := "", byteOffset := 24 }, { name := "Bytes", type := 9, offset := 4, embedded := false, tag := "", pkgPath := "", byteOffset := 32 }], .agg #[.int .u64 0, .int .u64 0, .int .i64 0, .int .i64 0, .string ⟨#[]⟩], 5, 48⟩
theorem tok74 : TOk Tryd.prog (74, ti74) := ⟨Tryd.underlying74, by kernel_rfl, fun _ => ⟨by kernel_rfl, by kernel_rfl⟩⟩
def ti76 : TI := ⟨.func #[3, 9] #[74, 3] false, .nilFunc, 1, 8⟩
theorem tok76 : TOk Tryd.prog (76, ti76) := ⟨Tryd.underlying76, by kernel_rfl, (fun h => by cases h)⟩
def ti77 : TI := ⟨.func #[3, 9] #[4] false, .nilFunc, 1, 8⟩
theorem tok77 : TOk Tryd.prog (77, ti77) := ⟨Tryd.underlying77, by kernel_rfl, (fun h => by cases h)⟩
def ti78 : TI := ⟨.pointer 55, .pointer none, 1, 8⟩
theorem tok78 : TOk Tryd.prog (78, ti78) := ⟨Tryd.underlying78, by kernel_rfl, (fun h => by cases h)⟩
def ti82 : TI := ⟨.func #[9] #[3, 80] false, .nilFunc, 1, 8⟩
theorem tok82 : TOk Tryd.prog (82, ti82) := ⟨Tryd.underlying82, by kernel_rfl, (fun h => by cases h)⟩
def ti83 : TI := ⟨.func #[22, 3] #[] false, .nilFunc, 1, 8⟩
theorem tok83 : TOk Tryd.prog (83, ti83) := ⟨Tryd.underlying83, by kernel_rfl, (fun h => by cases h)⟩
def ti84 : TI := ⟨.func #[29] #[] false, .nilFunc, 1, 8⟩
theorem tok84 : TOk Tryd.prog (84, ti84) := ⟨Tryd.underlying84, by kernel_rfl, (fun h => by cases h)⟩
def ti85 : TI := ⟨.int .u64, .int .u64 0, 1, 8⟩
theorem tok85 : TOk Tryd.prog (85, ti85) := ⟨Tryd.underlying85, by kernel_rfl, (fun h => by cases h)⟩
def ti87 : TI := ⟨.func #[85, 85] #[85, 85] false, .nilFunc, 1, 8⟩
theorem tok87 : TOk Tryd.prog (87, ti87) := ⟨Tryd.underlying87, by kernel_rfl, (fun h => by cases h)⟩
def ti88 : TI := ⟨.func #[9, 9] #[4] false, .nilFunc, 1, 8⟩
theorem tok88 : TOk Tryd.prog (88, ti88) := ⟨Tryd.underlying88, by kernel_rfl, (fun h => by cases h)⟩
def ti89 : TI := ⟨.func #[38] #[9] false, .nilFunc, 1, 8⟩
theorem tok89 : TOk Tryd.prog (89, ti89) := ⟨Tryd.underlying89, by kernel_rfl, (fun h => by cases h)⟩
def ti90 : TI := ⟨.func #[24] #[38] true, .nilFunc, 1, 8⟩
theorem tok90 : TOk Tryd.prog (90, ti90) := ⟨Tryd.underlying90, by kernel_rfl, (fun h => by cases h)⟩
def ti91 : TI := ⟨.func #[3] #[22] false, .nilFunc, 1, 8⟩
theorem tok91 : TOk Tryd.prog (91, ti91) := ⟨Tryd.underlying91, by kernel_rfl, (fun h => by cases h)⟩
def ti92 : TI := ⟨.pointer 50, .pointer none, 1, 8⟩
theorem tok92 : TOk Tryd.prog (92, ti92) := ⟨Tryd.underlying92, by kernel_rfl, (fun h => by cases h)⟩
def ti93 : TI := ⟨.func #[9, 5] #[9] false, .nilFunc, 1, 8⟩
theorem tok93 : TOk Tryd.prog (93, ti93) := ⟨Tryd.underlying93, by kernel_rfl, (fun h => by cases h)⟩
def ti94 : TI := ⟨.array 256 4, .agg ⟨List.replicate 256 (.bool false)⟩, 256, 256⟩
theorem tok94 : TOk Tryd.prog (94, ti94) := ⟨Tryd.underlying94, by kernel_rfl, (fun h => by cases h)⟩
def ti95 : TI := ⟨.array 256 4, .agg ⟨List.replicate 256 (.bool false)⟩, 256, 256⟩
theorem tok95 : TOk Tryd.prog (95, ti95) := ⟨Tryd.underlying95, by kernel_rfl, (fun h => by cases h)⟩
def ti97 : TI := ⟨.func #[9] #[95, 4] false, .nilFunc, 1, 8⟩
theorem tok97 : TOk Tryd.prog (97, ti97) := ⟨Tryd.underlying97, by kernel_rfl, (fun h => by cases h)⟩
def ti98 : TI := ⟨.func #[9, 99] #[9] false, .nilFunc, 1, 8⟩
theorem tok98 : TOk Tryd.prog (98, ti98) := ⟨Tryd.underlying98, by kernel_rfl, (fun h => by cases h)⟩
def ti99 : TI := ⟨.pointer 95, .pointer none, 1, 8⟩
theorem tok99 : TOk Tryd.prog (99, ti99) := ⟨Tryd.underlying99, by kernel_rfl, (fun h => by cases h)⟩
def ti100 : TI := ⟨.func #[9] #[22] false, .nilFunc, 1, 8⟩
theorem tok100 : TOk Tryd.prog (100, ti100) := ⟨Tryd.underlying100, by kernel_rfl, (fun h => by cases h)⟩
def ti101 : TI := ⟨.func #[3, 22, 22, 3, 3, 9] #[9] false, .nilFunc, 1, 8⟩
theorem tok101 : TOk Tryd.prog (101, ti101) := ⟨Tryd.underlying101, by kernel_rfl, (fun h => by cases h)⟩
def ti102 : TI := ⟨.func #[5] #[80] false, .nilFunc, 1, 8⟩
theorem tok102 : TOk Tryd.prog (102, ti102) := ⟨Tryd.underlying102, by kernel_rfl, (fun h => by cases h)⟩
def ti104 : TI := ⟨.func #[38, 38] #[38, 38] false, .nilFunc, 1, 8⟩
theorem tok104 : TOk Tryd.prog (104, ti104) := ⟨Tryd.underlying104, by kernel_rfl, (fun h => by cases h)⟩
def ti106 : TI := ⟨.func #[22, 22] #[22, 22] false, .nilFunc, 1, 8⟩
theorem tok106 : TOk Tryd.prog (106, ti106) := ⟨Tryd.underlying106, by kernel_rfl, (fun h => by cases h)⟩
def ti107 : TI := ⟨.pointer 5, .pointer none, 1, 8⟩
theorem tok107 : TOk Tryd.prog (107, ti107) := ⟨Tryd.underlying107, by kernel_rfl, (fun h => by cases h)⟩
def ti108 : TI := ⟨.array 4 5, .agg #[.int .u8 0, .int .u8 0, .int .u8 0, .int .u8 0], 4, 4⟩
theorem tok108 : TOk Tryd.prog (108, ti108) := ⟨Tryd.underlying108, by kernel_rfl, (fun h => by cases h)⟩
def ti109 : TI := ⟨.func #[38, 9] #[38] false, .nilFunc, 1, 8⟩
theorem tok109 : TOk Tryd.prog (109, ti109) := ⟨Tryd.underlying109, by kernel_rfl, (fun h => by cases h)⟩
def ti110 : TI := ⟨.func #[5] #[4] false, .nilFunc, 1, 8⟩
theorem tok110 : TOk Tryd.prog (110, ti110) := ⟨Tryd.underlying110, by kernel_rfl, (fun h => by cases h)⟩
def ti112 : TI := ⟨.func #[9] #[21, 3] false, .nilFunc, 1, 8⟩
theorem tok112 : TOk Tryd.prog (112, ti112) := ⟨Tryd.underlying112, by kernel_rfl, (fun h => by cases h)⟩
def ti113 : TI := ⟨.func #[9, 21] #[4] false, .nilFunc, 1, 8⟩
theorem tok113 : TOk Tryd.prog (113, ti113) := ⟨Tryd.underlying113, by kernel_rfl, (fun h => by cases h)⟩
def ti114 : TI := ⟨.func #[22, 3] #[9] false, .nilFunc, 1, 8⟩
theorem tok114 : TOk Tryd.prog (114, ti114) := ⟨Tryd.underlying114, by kernel_rfl, (fun h => by cases h)⟩
def ti116 : TI := ⟨.func #[115] #[115] false, .nilFunc, 1, 8⟩
theorem tok116 : TOk Tryd.prog (116, ti116) := ⟨Tryd.underlying116, by kernel_rfl, (fun h => by cases h)⟩
def ti117 : TI := ⟨.func #[3] #[40] false, .nilFunc, 1, 8⟩
theorem tok117 : TOk Tryd.prog (117, ti117) := ⟨Tryd.underlying117, by kernel_rfl, (fun h => by cases h)⟩
def ti118 : TI := ⟨.array 256 38, .agg ⟨List.replicate 256 (.int .u32 0)⟩, 256, 1024⟩
theorem tok118 : TOk Tryd.prog (118, ti118) := ⟨Tryd.underlying118, by kernel_rfl, (fun h => by cases h)⟩
def ti119 : TI := ⟨.func #[] #[118] false, .nilFunc, 1, 8⟩
theorem tok119 : TOk Tryd.prog (119, ti119) := ⟨Tryd.underlying119, by kernel_rfl, (fun h => by cases h)⟩
def ti120 : TI := ⟨.func #[9, 21] #[3] false, .nilFunc, 1, 8⟩
theorem tok120 : TOk Tryd.prog (120, ti120) := ⟨Tryd.underlying120, by kernel_rfl, (fun h => by cases h)⟩
def ti121 : TI := ⟨.func #[9] #[38] false, .nilFunc, 1, 8⟩
theorem tok121 : TOk Tryd.prog (121, ti121) := ⟨Tryd.underlying121, by kernel_rfl, (fun h => by cases h)⟩
def ti122 : TI := ⟨.array 256 5, .agg ⟨List.replicate 256 (.int .u8 0)⟩, 256, 256⟩
theorem tok122 : TOk Tryd.prog (122, ti122) := ⟨Tryd.underlying122, by kernel_rfl, (fun h => by cases h)⟩
def ti123 : TI := ⟨.struct #[{ name := "lo", type := 5, offset := 0, embedded := false, tag := "", pkgPath := "unicode/utf8", byteOffset := 0 }, { name := "hi", type := 5, offset := 1, embedded := false, tag := "", pkgPath := "unicode/utf8", byteOffset := 1 }], .agg #[.int .u8 0, .int .u8 0], 2, 2⟩
theorem tok123 : TOk Tryd.prog (123, ti123) := ⟨Tryd.underlying123, by kernel_rfl, fun _ => ⟨by kernel_rfl, by kernel_rfl⟩⟩
def ti124 : TI := ⟨.struct #[{ name := "lo", type := 5, offset := 0, embedded := false, tag := "", pkgPath := "unicode/utf8", byteOffset := 0 }, { name := "hi", type := 5, offset := 1, embedded := false, tag := "", pkgPath := "unicode/utf8", byteOffset := 1 }], .agg #[.int .u8 0, .int .u8 0], 2, 2⟩
theorem tok124 : TOk Tryd.prog (124, ti124) := ⟨Tryd.underlying124, by kernel_rfl, fun _ => ⟨by kernel_rfl, by kernel_rfl⟩⟩
def ti125 : TI := ⟨.array 16 124, .agg ⟨List.replicate 32 (.int .u8 0)⟩, 32, 32⟩
theorem tok125 : TOk Tryd.prog (125, ti125) := ⟨Tryd.underlying125, by kernel_rfl, (fun h => by cases h)⟩
def ti126 : TI := ⟨.func #[9, 5] #[3] false, .nilFunc, 1, 8⟩
theorem tok126 : TOk Tryd.prog (126, ti126) := ⟨Tryd.underlying126, by kernel_rfl, (fun h => by cases h)⟩
def ti127 : TI := ⟨.func #[21] #[4] false, .nilFunc, 1, 8⟩
theorem tok127 : TOk Tryd.prog (127, ti127) := ⟨Tryd.underlying127, by kernel_rfl, (fun h => by cases h)⟩
def ti128 : TI := ⟨.func #[3] #[3] false, .nilFunc, 1, 8⟩
theorem tok128 : TOk Tryd.prog (128, ti128) := ⟨Tryd.underlying128, by kernel_rfl, (fun h => by cases h)⟩
def ti129 : TI := ⟨.func #[9, 9] #[3] false, .nilFunc, 1, 8⟩
theorem tok129 : TOk Tryd.prog (129, ti129) := ⟨Tryd.underlying129, by kernel_rfl, (fun h => by cases h)⟩
def ti130 : TI := ⟨.func #[38] #[38] false, .nilFunc, 1, 8⟩
theorem tok130 : TOk Tryd.prog (130, ti130) := ⟨Tryd.underlying130, by kernel_rfl, (fun h => by cases h)⟩
def ti138 : TI := ⟨.func #[115, 115] #[4] false, .nilFunc, 1, 8⟩
theorem tok138 : TOk Tryd.prog (138, ti138) := ⟨Tryd.underlying138, by kernel_rfl, (fun h => by cases h)⟩
def Γ : Ty := [(1, ti1), (2, ti2), (3, ti3), (4, ti4), (5, ti5), (9, ti9), (12, ti12), (21, ti21), (22, ti22), (23, ti23), (24, ti24), (26, ti26), (27, ti27), (28, ti28), (29, ti29), (31, ti31), (32, ti32), (33, ti33), (34, ti34), (36, ti36), (37, ti37), (38, ti38), (39, ti39), (40, ti40), (41, ti41), (42, ti42), (43, ti43), (45, ti45), (46, ti46), (47, ti47), (48, ti48), (49, ti49), (50, ti50), (51, ti51), (52, ti52), (53, ti53), (54, ti54), (55, ti55), (56, ti56), (57, ti57), (58, ti58), (59, ti59), (61, ti61), (62, ti62), (63, ti63), (64, ti64), (65, ti65), (66, ti66), (67, ti67), (68, ti68), (69, ti69), (70, ti70), (71, ti71), (72, ti72), (73, ti73), (74, ti74), (76, ti76), (77, ti77), (78, ti78), (82, ti82), (83, ti83), (84, ti84), (85, ti85), (87, ti87), (88, ti88), (89, ti89), (90, ti90), (91, ti91), (92, ti92), (93, ti93), (94, ti94), (95, ti95), (97, ti97), (98, ti98), (99, ti99), (100, ti100), (101, ti101), (102, ti102), (104, ti104), (106, ti106), (107, ti107), (108, ti108), (109, ti109), (110, ti110), (112, ti112), (113, ti113), (114, ti114), (116, ti116), (117, ti117), (118, ti118), (119, ti119), (120, ti120), (121, ti121), (122, ti122), (123, ti123), (124, ti124), (125, ti125), (126, ti126), (127, ti127), (128, ti128), (129, ti129), (130, ti130), (138, ti138)]
theorem Γok : TyOk Tryd.prog Γ :=
  TyOk.cons_ tok1 <| TyOk.cons_ tok2 <| TyOk.cons_ tok3 <| TyOk.cons_ tok4 <| TyOk.cons_ tok5 <| TyOk.cons_ tok9 <| TyOk.cons_ tok12 <| TyOk.cons_ tok21 <| TyOk.cons_ tok22 <| TyOk.cons_ tok23 <| TyOk.cons_ tok24 <| TyOk.cons_ tok26 <| TyOk.cons_ tok27 <| TyOk.cons_ tok28 <| TyOk.cons_ tok29 <| TyOk.cons_ tok31 <| TyOk.cons_ tok32 <| TyOk.cons_ tok33 <| TyOk.cons_ tok34 <| TyOk.cons_ tok36 <| TyOk.cons_ tok37 <| TyOk.cons_ tok38 <| TyOk.cons_ tok39 <| TyOk.cons_ tok40 <| TyOk.cons_ tok41 <| TyOk.cons_ tok42 <| TyOk.cons_ tok43 <| TyOk.cons_ tok45 <| TyOk.cons_ tok46 <| TyOk.cons_ tok47 <| TyOk.cons_ tok48 <| TyOk.cons_ tok49 <| TyOk.cons_ tok50 <| TyOk.cons_ tok51 <| TyOk.cons_ tok52 <| TyOk.cons_ tok53 <| TyOk.cons_ tok54 <| TyOk.cons_ tok55 <| TyOk.cons_ tok56 <| TyOk.cons_ tok57 <| TyOk.cons_ tok58 <| TyOk.cons_ tok59 <| TyOk.cons_ tok61 <| TyOk.cons_ tok62 <| TyOk.cons_ tok63 <| TyOk.cons_ tok64 <| TyOk.cons_ tok65 <| TyOk.cons_ tok66 <| TyOk.cons_ tok67 <| TyOk.cons_ tok68 <| TyOk.cons_ tok69 <| TyOk.cons_ tok70 <| TyOk.cons_ tok71 <| TyOk.cons_ tok72 <| TyOk.cons_ tok73 <| TyOk.cons_ tok74 <| TyOk.cons_ tok76 <| TyOk.cons_ tok77 <| TyOk.cons_ tok78 <| TyOk.cons_ tok82 <| TyOk.cons_ tok83 <| TyOk.cons_ tok84 <| TyOk.cons_ tok85 <| TyOk.cons_ tok87 <| TyOk.cons_ tok88 <| TyOk.cons_ tok89 <| TyOk.cons_ tok90 <| TyOk.cons_ tok91 <| TyOk.cons_ tok92 <| TyOk.cons_ tok93 <| TyOk.cons_ tok94 <| TyOk.cons_ tok95 <| TyOk.cons_ tok97 <| TyOk.cons_ tok98 <| TyOk.cons_ tok99 <| TyOk.cons_ tok100 <| TyOk.cons_ tok101 <| TyOk.cons_ tok102 <| TyOk.cons_ tok104 <| TyOk.cons_ tok106 <| TyOk.cons_ tok107 <| TyOk.cons_ tok108 <| TyOk.cons_ tok109 <| TyOk.cons_ tok110 <| TyOk.cons_ tok112 <| TyOk.cons_ tok113 <| TyOk.cons_ tok114 <| TyOk.cons_ tok116 <| TyOk.cons_ tok117 <| TyOk.cons_ tok118 <| TyOk.cons_ tok119 <| TyOk.cons_ tok120 <| TyOk.cons_ tok121 <| TyOk.cons_ tok122 <| TyOk.cons_ tok123 <| TyOk.cons_ tok124 <| TyOk.cons_ tok125 <| TyOk.cons_ tok126 <| TyOk.cons_ tok127 <| TyOk.cons_ tok128 <| TyOk.cons_ tok129 <| TyOk.cons_ tok130 <| TyOk.cons_ tok138 <| TyOk.nil_ _
end Go.LX
