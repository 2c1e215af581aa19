import Derived.Test.YtiokggkoidiicaaProg
import Derived.Test.YtiokggkoidiicaaLX
import Derived.KernelRfl
set_option maxRecDepth 100000
namespace Go.LX
open Go.Proofs

def ti1 : TI := ⟨.func #[] #[] false, .nilFunc, 1, 8⟩
theorem tok1 : TOk Try.prog (1, ti1) := ⟨Try.underlying1, by kernel_rfl, (fun h => by cases h)⟩
def ti2 : TI := ⟨.int .i64, .int .i64 0, 1, 8⟩
theorem tok2 : TOk Try.prog (2, ti2) := ⟨Try.underlying2, by kernel_rfl, (fun h => by cases h)⟩
def ti3 : TI := ⟨.int .i64, .int .i64 0, 1, 8⟩
theorem tok3 : TOk Try.prog (3, ti3) := ⟨Try.underlying3, by kernel_rfl, (fun h => by cases h)⟩
def ti4 : TI := ⟨.bool, .bool false, 1, 1⟩
theorem tok4 : TOk Try.prog (4, ti4) := ⟨Try.underlying4, by kernel_rfl, (fun h => by cases h)⟩
def ti5 : TI := ⟨.int .u8, .int .u8 0, 1, 1⟩
theorem tok5 : TOk Try.prog (5, ti5) := ⟨Try.underlying5, by kernel_rfl, (fun h => by cases h)⟩
def ti9 : TI := ⟨.string, .string ⟨#[]⟩, 1, 16⟩
theorem tok9 : TOk Try.prog (9, ti9) := ⟨Try.underlying9, by kernel_rfl, (fun h => by cases h)⟩
def ti12 : TI := ⟨.int .u64, .int .u64 0, 1, 8⟩
theorem tok12 : TOk Try.prog (12, ti12) := ⟨Try.underlying12, by kernel_rfl, (fun h => by cases h)⟩
def ti21 : TI := ⟨.int .i32, .int .i32 0, 1, 4⟩
theorem tok21 : TOk Try.prog (21, ti21) := ⟨Try.underlying21, by kernel_rfl, (fun h => by cases h)⟩
def ti22 : TI := ⟨.int .u64, .int .u64 0, 1, 8⟩
theorem tok22 : TOk Try.prog (22, ti22) := ⟨Try.underlying22, by kernel_rfl, (fun h => by cases h)⟩
def ti23 : TI := ⟨.func #[] #[4] false, .nilFunc, 1, 8⟩
theorem tok23 : TOk Try.prog (23, ti23) := ⟨Try.underlying23, by kernel_rfl, (fun h => by cases h)⟩
def ti24 : TI := ⟨.slice 9, .slice none 0 0, 1, 24⟩
theorem tok24 : TOk Try.prog (24, ti24) := ⟨Try.underlying24, by kernel_rfl, (fun h => by cases h)⟩
def ti25 : TI := ⟨.int .i64, .int .i64 0, 1, 8⟩
theorem tok25 : TOk Try.prog (25, ti25) := ⟨Try.underlying25, by kernel_rfl, (fun h => by cases h)⟩
def ti27 : TI := ⟨.func #[3, 22, 22, 9] #[24, 25] false, .nilFunc, 1, 8⟩
theorem tok27 : TOk Try.prog (27, ti27) := ⟨Try.underlying27, by kernel_rfl, (fun h => by cases h)⟩
def ti29 : TI := ⟨.func #[3, 22, 22, 9] #[24, 3] false, .nilFunc, 1, 8⟩
theorem tok29 : TOk Try.prog (29, ti29) := ⟨Try.underlying29, by kernel_rfl, (fun h => by cases h)⟩
def ti30 : TI := ⟨.func #[24, 24] #[4] false, .nilFunc, 1, 8⟩
theorem tok30 : TOk Try.prog (30, ti30) := ⟨Try.underlying30, by kernel_rfl, (fun h => by cases h)⟩
def ti31 : TI := ⟨.func #[3, 3] #[3] false, .nilFunc, 1, 8⟩
theorem tok31 : TOk Try.prog (31, ti31) := ⟨Try.underlying31, by kernel_rfl, (fun h => by cases h)⟩
def ti32 : TI := ⟨.func #[3, 22, 22, 9] #[4] false, .nilFunc, 1, 8⟩
theorem tok32 : TOk Try.prog (32, ti32) := ⟨Try.underlying32, by kernel_rfl, (fun h => by cases h)⟩
def ti33 : TI := ⟨.func #[53] #[] false, .nilFunc, 1, 8⟩
theorem tok33 : TOk Try.prog (33, ti33) := ⟨Try.underlying33, by kernel_rfl, (fun h => by cases h)⟩
def ti34 : TI := ⟨.func #[53] #[] false, .nilFunc, 1, 8⟩
theorem tok34 : TOk Try.prog (34, ti34) := ⟨Try.underlying34, by kernel_rfl, (fun h => by cases h)⟩
def ti35 : TI := ⟨.func #[9, 3] #[34] false, .nilFunc, 1, 8⟩
theorem tok35 : TOk Try.prog (35, ti35) := ⟨Try.underlying35, by kernel_rfl, (fun h => by cases h)⟩
def ti36 : TI := ⟨.struct #[{ name := "e", type := 25, offset := 0, embedded := false, tag := "", pkgPath := "carrack/wire", byteOffset := 0 }], .agg #[.int .i64 0], 1, 8⟩
theorem tok36 : TOk Try.prog (36, ti36) := ⟨Try.underlying36, by kernel_rfl, fun _ => ⟨by kernel_rfl, by kernel_rfl⟩⟩
def ti37 : TI := ⟨.struct #[{ name := "e", type := 25, offset := 0, embedded := false, tag := "", pkgPath := "carrack/wire", byteOffset := 0 }], .agg #[.int .i64 0], 1, 8⟩
theorem tok37 : TOk Try.prog (37, ti37) := ⟨Try.underlying37, by kernel_rfl, fun _ => ⟨by kernel_rfl, by kernel_rfl⟩⟩
def ti38 : TI := ⟨.pointer 41, .pointer none, 1, 8⟩
theorem tok38 : TOk Try.prog (38, ti38) := ⟨Try.underlying38, by kernel_rfl, (fun h => by cases h)⟩
def ti39 : TI := ⟨.slice 5, .slice none 0 0, 1, 24⟩
theorem tok39 : TOk Try.prog (39, ti39) := ⟨Try.underlying39, by kernel_rfl, (fun h => by cases h)⟩
def ti40 : TI := ⟨.struct #[{ name := "addr", type := 38, offset := 0, embedded := false, tag := "", pkgPath := "strings", byteOffset := 0 }, { name := "buf", type := 39, offset := 1, embedded := false, tag := "", pkgPath := "strings", byteOffset := 8 }], .agg #[.pointer none, .slice none 0 0], 2, 32⟩
theorem tok40 : TOk Try.prog (40, ti40) := ⟨Try.underlying40, by kernel_rfl, fun _ => ⟨by kernel_rfl, by kernel_rfl⟩⟩
def ti41 : TI := ⟨.struct #[{ name := "addr", type := 38, offset := 0, embedded := false, tag := "", pkgPath := "strings", byteOffset := 0 }, { name := "buf", type := 39, offset := 1, embedded := false, tag := "", pkgPath := "strings", byteOffset := 8 }], .agg #[.pointer none, .slice none 0 0], 2, 32⟩
theorem tok41 : TOk Try.prog (41, ti41) := ⟨Try.underlying41, by kernel_rfl, fun _ => ⟨by kernel_rfl, by kernel_rfl⟩⟩
def ti42 : TI := ⟨.struct #[{ name := "m", type := 37, offset := 0, embedded := false, tag := "", pkgPath := "carrack/wire", byteOffset := 0 }, { name := "b", type := 41, offset := 1, embedded := false, tag := "", pkgPath := "carrack/wire", byteOffset := 8 }], .agg #[.int .i64 0, .pointer none, .slice none 0 0], 3, 40⟩
theorem tok42 : TOk Try.prog (42, ti42) := ⟨Try.underlying42, by kernel_rfl, fun _ => ⟨by kernel_rfl, by kernel_rfl⟩⟩
def ti43 : TI := ⟨.struct #[{ name := "m", type := 37, offset := 0, embedded := false, tag := "", pkgPath := "carrack/wire", byteOffset := 0 }, { name := "b", type := 41, offset := 1, embedded := false, tag := "", pkgPath := "carrack/wire", byteOffset := 8 }], .agg #[.int .i64 0, .pointer none, .slice none 0 0], 3, 40⟩
theorem tok43 : TOk Try.prog (43, ti43) := ⟨Try.underlying43, by kernel_rfl, fun _ => ⟨by kernel_rfl, by kernel_rfl⟩⟩
def ti44 : TI := ⟨.func #[9] #[] false, .nilFunc, 1, 8⟩
theorem tok44 : TOk Try.prog (44, ti44) := ⟨Try.underlying44, by kernel_rfl, (fun h => by cases h)⟩
def ti45 : TI := ⟨.func #[22] #[] false, .nilFunc, 1, 8⟩
theorem tok45 : TOk Try.prog (45, ti45) := ⟨Try.underlying45, by kernel_rfl, (fun h => by cases h)⟩
def ti46 : TI := ⟨.func #[3] #[] false, .nilFunc, 1, 8⟩
theorem tok46 : TOk Try.prog (46, ti46) := ⟨Try.underlying46, by kernel_rfl, (fun h => by cases h)⟩
def ti47 : TI := ⟨.func #[9, 3] #[9] false, .nilFunc, 1, 8⟩
theorem tok47 : TOk Try.prog (47, ti47) := ⟨Try.underlying47, by kernel_rfl, (fun h => by cases h)⟩
def ti49 : TI := ⟨.func #[] #[9, 25] false, .nilFunc, 1, 8⟩
theorem tok49 : TOk Try.prog (49, ti49) := ⟨Try.underlying49, by kernel_rfl, (fun h => by cases h)⟩
def ti50 : TI := ⟨.func #[9] #[9] false, .nilFunc, 1, 8⟩
theorem tok50 : TOk Try.prog (50, ti50) := ⟨Try.underlying50, by kernel_rfl, (fun h => by cases h)⟩
def ti51 : TI := ⟨.func #[3, 22, 22, 3, 3, 9] #[9] false, .nilFunc, 1, 8⟩
theorem tok51 : TOk Try.prog (51, ti51) := ⟨Try.underlying51, by kernel_rfl, (fun h => by cases h)⟩
def ti52 : TI := ⟨.func #[3] #[4] false, .nilFunc, 1, 8⟩
theorem tok52 : TOk Try.prog (52, ti52) := ⟨Try.underlying52, by kernel_rfl, (fun h => by cases h)⟩
def ti53 : TI := ⟨.func #[3, 9] #[4] false, .nilFunc, 1, 8⟩
theorem tok53 : TOk Try.prog (53, ti53) := ⟨Try.underlying53, by kernel_rfl, (fun h => by cases h)⟩
def ti54 : TI := ⟨.pointer 43, .pointer none, 1, 8⟩
theorem tok54 : TOk Try.prog (54, ti54) := ⟨Try.underlying54, by kernel_rfl, (fun h => by cases h)⟩
def ti58 : TI := ⟨.func #[9] #[3, 56] false, .nilFunc, 1, 8⟩
theorem tok58 : TOk Try.prog (58, ti58) := ⟨Try.underlying58, by kernel_rfl, (fun h => by cases h)⟩
def ti59 : TI := ⟨.func #[22, 3] #[] false, .nilFunc, 1, 8⟩
theorem tok59 : TOk Try.prog (59, ti59) := ⟨Try.underlying59, by kernel_rfl, (fun h => by cases h)⟩
def ti60 : TI := ⟨.func #[25] #[] false, .nilFunc, 1, 8⟩
theorem tok60 : TOk Try.prog (60, ti60) := ⟨Try.underlying60, by kernel_rfl, (fun h => by cases h)⟩
def ti61 : TI := ⟨.int .u64, .int .u64 0, 1, 8⟩
theorem tok61 : TOk Try.prog (61, ti61) := ⟨Try.underlying61, by kernel_rfl, (fun h => by cases h)⟩
def ti63 : TI := ⟨.func #[61, 61] #[61, 61] false, .nilFunc, 1, 8⟩
theorem tok63 : TOk Try.prog (63, ti63) := ⟨Try.underlying63, by kernel_rfl, (fun h => by cases h)⟩
def ti64 : TI := ⟨.func #[9, 9] #[4] false, .nilFunc, 1, 8⟩
theorem tok64 : TOk Try.prog (64, ti64) := ⟨Try.underlying64, by kernel_rfl, (fun h => by cases h)⟩
def ti65 : TI := ⟨.func #[] #[3] false, .nilFunc, 1, 8⟩
theorem tok65 : TOk Try.prog (65, ti65) := ⟨Try.underlying65, by kernel_rfl, (fun h => by cases h)⟩
def ti66 : TI := ⟨.func #[] #[9] false, .nilFunc, 1, 8⟩
theorem tok66 : TOk Try.prog (66, ti66) := ⟨Try.underlying66, by kernel_rfl, (fun h => by cases h)⟩
def ti67 : TI := ⟨.func #[] #[25] false, .nilFunc, 1, 8⟩
theorem tok67 : TOk Try.prog (67, ti67) := ⟨Try.underlying67, by kernel_rfl, (fun h => by cases h)⟩
def ti68 : TI := ⟨.func #[69] #[9] false, .nilFunc, 1, 8⟩
theorem tok68 : TOk Try.prog (68, ti68) := ⟨Try.underlying68, by kernel_rfl, (fun h => by cases h)⟩
def ti69 : TI := ⟨.int .u32, .int .u32 0, 1, 4⟩
theorem tok69 : TOk Try.prog (69, ti69) := ⟨Try.underlying69, by kernel_rfl, (fun h => by cases h)⟩
def ti70 : TI := ⟨.func #[24] #[69] true, .nilFunc, 1, 8⟩
theorem tok70 : TOk Try.prog (70, ti70) := ⟨Try.underlying70, by kernel_rfl, (fun h => by cases h)⟩
def ti71 : TI := ⟨.func #[22, 3] #[9] false, .nilFunc, 1, 8⟩
theorem tok71 : TOk Try.prog (71, ti71) := ⟨Try.underlying71, by kernel_rfl, (fun h => by cases h)⟩
def ti72 : TI := ⟨.func #[5] #[56] false, .nilFunc, 1, 8⟩
theorem tok72 : TOk Try.prog (72, ti72) := ⟨Try.underlying72, by kernel_rfl, (fun h => by cases h)⟩
def ti73 : TI := ⟨.pointer 37, .pointer none, 1, 8⟩
theorem tok73 : TOk Try.prog (73, ti73) := ⟨Try.underlying73, by kernel_rfl, (fun h => by cases h)⟩
def ti75 : TI := ⟨.func #[69, 69] #[69, 69] false, .nilFunc, 1, 8⟩
theorem tok75 : TOk Try.prog (75, ti75) := ⟨Try.underlying75, by kernel_rfl, (fun h => by cases h)⟩
def ti77 : TI := ⟨.func #[22, 22] #[22, 22] false, .nilFunc, 1, 8⟩
theorem tok77 : TOk Try.prog (77, ti77) := ⟨Try.underlying77, by kernel_rfl, (fun h => by cases h)⟩
def ti78 : TI := ⟨.pointer 5, .pointer none, 1, 8⟩
theorem tok78 : TOk Try.prog (78, ti78) := ⟨Try.underlying78, by kernel_rfl, (fun h => by cases h)⟩
def ti79 : TI := ⟨.array 4 5, .agg #[.int .u8 0, .int .u8 0, .int .u8 0, .int .u8 0], 4, 4⟩
theorem tok79 : TOk Try.prog (79, ti79) := ⟨Try.underlying79, by kernel_rfl, (fun h => by cases h)⟩
def ti80 : TI := ⟨.func #[69, 9] #[69] false, .nilFunc, 1, 8⟩
theorem tok80 : TOk Try.prog (80, ti80) := ⟨Try.underlying80, by kernel_rfl, (fun h => by cases h)⟩
def ti81 : TI := ⟨.func #[9] #[69] false, .nilFunc, 1, 8⟩
theorem tok81 : TOk Try.prog (81, ti81) := ⟨Try.underlying81, by kernel_rfl, (fun h => by cases h)⟩
def ti83 : TI := ⟨.func #[82] #[82] false, .nilFunc, 1, 8⟩
theorem tok83 : TOk Try.prog (83, ti83) := ⟨Try.underlying83, by kernel_rfl, (fun h => by cases h)⟩
def ti84 : TI := ⟨.func #[3] #[39] false, .nilFunc, 1, 8⟩
theorem tok84 : TOk Try.prog (84, ti84) := ⟨Try.underlying84, by kernel_rfl, (fun h => by cases h)⟩
def ti85 : TI := ⟨.array 256 69, .agg ⟨List.replicate 256 (.int .u32 0)⟩, 256, 1024⟩
theorem tok85 : TOk Try.prog (85, ti85) := ⟨Try.underlying85, by kernel_rfl, (fun h => by cases h)⟩
def ti86 : TI := ⟨.func #[] #[85] false, .nilFunc, 1, 8⟩
theorem tok86 : TOk Try.prog (86, ti86) := ⟨Try.underlying86, by kernel_rfl, (fun h => by cases h)⟩
def ti87 : TI := ⟨.func #[69] #[69] false, .nilFunc, 1, 8⟩
theorem tok87 : TOk Try.prog (87, ti87) := ⟨Try.underlying87, by kernel_rfl, (fun h => by cases h)⟩
def ti95 : TI := ⟨.func #[82, 82] #[4] false, .nilFunc, 1, 8⟩
theorem tok95 : TOk Try.prog (95, ti95) := ⟨Try.underlying95, by kernel_rfl, (fun h => by cases h)⟩
def Γ : Ty := [(1, ti1), (2, ti2), (3, ti3), (4, ti4), (5, ti5), (9, ti9), (12, ti12), (21, ti21), (22, ti22), (23, ti23), (24, ti24), (25, ti25), (27, ti27), (29, ti29), (30, ti30), (31, ti31), (32, ti32), (33, ti33), (34, ti34), (35, ti35), (36, ti36), (37, ti37), (38, ti38), (39, ti39), (40, ti40), (41, ti41), (42, ti42), (43, ti43), (44, ti44), (45, ti45), (46, ti46), (47, ti47), (49, ti49), (50, ti50), (51, ti51), (52, ti52), (53, ti53), (54, ti54), (58, ti58), (59, ti59), (60, ti60), (61, ti61), (63, ti63), (64, ti64), (65, ti65), (66, ti66), (67, ti67), (68, ti68), (69, ti69), (70, ti70), (71, ti71), (72, ti72), (73, ti73), (75, ti75), (77, ti77), (78, ti78), (79, ti79), (80, ti80), (81, ti81), (83, ti83), (84, ti84), (85, ti85), (86, ti86), (87, ti87), (95, ti95)]
theorem Γok : TyOk Try.prog Γ :=
  TyOk.cons_ tok1 <| TyOk.cons_ tok2 <| TyOk.cons_ tok3 <| TyOk.cons_ tok4 <| TyOk.cons_ tok5 <| TyOk.cons_ tok9 <| TyOk.cons_ tok12 <| TyOk.cons_ tok21 <| TyOk.cons_ tok22 <| TyOk.cons_ tok23 <| TyOk.cons_ tok24 <| TyOk.cons_ tok25 <| TyOk.cons_ tok27 <| TyOk.cons_ tok29 <| TyOk.cons_ tok30 <| TyOk.cons_ tok31 <| TyOk.cons_ tok32 <| TyOk.cons_ tok33 <| TyOk.cons_ tok34 <| TyOk.cons_ tok35 <| TyOk.cons_ tok36 <| TyOk.cons_ tok37 <| TyOk.cons_ tok38 <| TyOk.cons_ tok39 <| TyOk.cons_ tok40 <| TyOk.cons_ tok41 <| TyOk.cons_ tok42 <| TyOk.cons_ tok43 <| TyOk.cons_ tok44 <| TyOk.cons_ tok45 <| TyOk.cons_ tok46 <| TyOk.cons_ tok47 <| TyOk.cons_ tok49 <| TyOk.cons_ tok50 <| TyOk.cons_ tok51 <| TyOk.cons_ tok52 <| TyOk.cons_ tok53 <| TyOk.cons_ tok54 <| TyOk.cons_ tok58 <| TyOk.cons_ tok59 <| TyOk.cons_ tok60 <| TyOk.cons_ tok61 <| TyOk.cons_ tok63 <| TyOk.cons_ tok64 <| TyOk.cons_ tok65 <| TyOk.cons_ tok66 <| TyOk.cons_ tok67 <| TyOk.cons_ tok68 <| TyOk.cons_ tok69 <| TyOk.cons_ tok70 <| TyOk.cons_ tok71 <| TyOk.cons_ tok72 <| TyOk.cons_ tok73 <| TyOk.cons_ tok75 <| TyOk.cons_ tok77 <| TyOk.cons_ tok78 <| TyOk.cons_ tok79 <| TyOk.cons_ tok80 <| TyOk.cons_ tok81 <| TyOk.cons_ tok83 <| TyOk.cons_ tok84 <| TyOk.cons_ tok85 <| TyOk.cons_ tok86 <| TyOk.cons_ tok87 <| TyOk.cons_ tok95 <| TyOk.nil_ _
end Go.LX
