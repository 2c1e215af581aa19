import Derived.Test.YtgglchlppomkcaaProg
import Derived.Test.YtgglchlppomkcaaLX
import Derived.KernelRfl
set_option maxRecDepth 100000
namespace Go.LX
open Go.Proofs

def ti2 : TI := ⟨.int .i64, .int .i64 0, 1, 8⟩
theorem tok2 : TOk Try.prog (2, ti2) := ⟨Try.underlying2, by kernel_rfl, (fun h => by cases h)⟩
def ti3 : TI := ⟨.int .i64, .int .i64 0, 1, 8⟩
theorem tok3 : TOk Try.prog (3, ti3) := ⟨Try.underlying3, by kernel_rfl, (fun h => by cases h)⟩
def ti4 : TI := ⟨.bool, .bool false, 1, 1⟩
theorem tok4 : TOk Try.prog (4, ti4) := ⟨Try.underlying4, by kernel_rfl, (fun h => by cases h)⟩
def ti5 : TI := ⟨.int .u8, .int .u8 0, 1, 1⟩
theorem tok5 : TOk Try.prog (5, ti5) := ⟨Try.underlying5, by kernel_rfl, (fun h => by cases h)⟩
def ti9 : TI := ⟨.string, .string ⟨#[]⟩, 1, 16⟩
theorem tok9 : TOk Try.prog (9, ti9) := ⟨Try.underlying9, by kernel_rfl, (fun h => by cases h)⟩
def ti12 : TI := ⟨.int .u64, .int .u64 0, 1, 8⟩
theorem tok12 : TOk Try.prog (12, ti12) := ⟨Try.underlying12, by kernel_rfl, (fun h => by cases h)⟩
def ti21 : TI := ⟨.int .i32, .int .i32 0, 1, 4⟩
theorem tok21 : TOk Try.prog (21, ti21) := ⟨Try.underlying21, by kernel_rfl, (fun h => by cases h)⟩
def ti22 : TI := ⟨.slice 32, .slice none 0 0, 1, 24⟩
theorem tok22 : TOk Try.prog (22, ti22) := ⟨Try.underlying22, by kernel_rfl, (fun h => by cases h)⟩
def ti25 : TI := ⟨.pointer 46, .pointer none, 1, 8⟩
theorem tok25 : TOk Try.prog (25, ti25) := ⟨Try.underlying25, by kernel_rfl, (fun h => by cases h)⟩
def ti26 : TI := ⟨.int .i64, .int .i64 0, 1, 8⟩
theorem tok26 : TOk Try.prog (26, ti26) := ⟨Try.underlying26, by kernel_rfl, (fun h => by cases h)⟩
def ti29 : TI := ⟨.map 3 9, .map none, 1, 8⟩
theorem tok29 : TOk Try.prog (29, ti29) := ⟨Try.underlying29, by kernel_rfl, (fun h => by cases h)⟩
def ti30 : TI := ⟨.slice 51, .slice none 0 0, 1, 24⟩
theorem tok30 : TOk Try.prog (30, ti30) := ⟨Try.underlying30, by kernel_rfl, (fun h => by cases h)⟩
def ti31 : TI := ⟨.struct #[{ name := "Kind", type := 3, offset := 0, embedded := false, tag := "", pkgPath := "", byteOffset := 0 }, { name := "N", type := 3, offset := 1, embedded := false, tag := "", pkgPath := "", byteOffset := 8 }, { name := "Long", type := 3, offset := 2, embedded := false, tag := "", pkgPath := "", byteOffset := 16 }, { name := "S", type := 9, offset := 3, embedded := false, tag := "", pkgPath := "", byteOffset := 24 }, { name := "L", type := 30, offset := 4, embedded := false, tag := "", pkgPath := "", byteOffset := 40 }], .agg #[.int .i64 0, .int .i64 0, .int .i64 0, .string ⟨#[]⟩, .slice none 0 0], 5, 64⟩
theorem tok31 : TOk Try.prog (31, ti31) := ⟨Try.underlying31, by kernel_rfl, fun _ => ⟨by kernel_rfl, by kernel_rfl⟩⟩
def ti32 : TI := ⟨.struct #[{ name := "Kind", type := 3, offset := 0, embedded := false, tag := "", pkgPath := "", byteOffset := 0 }, { name := "N", type := 3, offset := 1, embedded := false, tag := "", pkgPath := "", byteOffset := 8 }, { name := "Long", type := 3, offset := 2, embedded := false, tag := "", pkgPath := "", byteOffset := 16 }, { name := "S", type := 9, offset := 3, embedded := false, tag := "", pkgPath := "", byteOffset := 24 }, { name := "L", type := 30, offset := 4, embedded := false, tag := "", pkgPath := "", byteOffset := 40 }], .agg #[.int .i64 0, .int .i64 0, .int .i64 0, .string ⟨#[]⟩, .slice none 0 0], 5, 64⟩
theorem tok32 : TOk Try.prog (32, ti32) := ⟨Try.underlying32, by kernel_rfl, fun _ => ⟨by kernel_rfl, by kernel_rfl⟩⟩
def ti36 : TI := ⟨.slice 5, .slice none 0 0, 1, 24⟩
theorem tok36 : TOk Try.prog (36, ti36) := ⟨Try.underlying36, by kernel_rfl, (fun h => by cases h)⟩
def ti41 : TI := ⟨.struct #[{ name := "size", type := 3, offset := 0, embedded := false, tag := "", pkgPath := "carrack/disk", byteOffset := 0 }, { name := "sectors", type := 3, offset := 1, embedded := false, tag := "", pkgPath := "carrack/disk", byteOffset := 8 }], .agg #[.int .i64 0, .int .i64 0], 2, 16⟩
theorem tok41 : TOk Try.prog (41, ti41) := ⟨Try.underlying41, by kernel_rfl, fun _ => ⟨by kernel_rfl, by kernel_rfl⟩⟩
def ti42 : TI := ⟨.struct #[{ name := "size", type := 3, offset := 0, embedded := false, tag := "", pkgPath := "carrack/disk", byteOffset := 0 }, { name := "sectors", type := 3, offset := 1, embedded := false, tag := "", pkgPath := "carrack/disk", byteOffset := 8 }], .agg #[.int .i64 0, .int .i64 0], 2, 16⟩
theorem tok42 : TOk Try.prog (42, ti42) := ⟨Try.underlying42, by kernel_rfl, fun _ => ⟨by kernel_rfl, by kernel_rfl⟩⟩
def ti43 : TI := ⟨.slice 9, .slice none 0 0, 1, 24⟩
theorem tok43 : TOk Try.prog (43, ti43) := ⟨Try.underlying43, by kernel_rfl, (fun h => by cases h)⟩
def ti44 : TI := ⟨.slice 67, .slice none 0 0, 1, 24⟩
theorem tok44 : TOk Try.prog (44, ti44) := ⟨Try.underlying44, by kernel_rfl, (fun h => by cases h)⟩
def ti45 : TI := ⟨.struct #[{ name := "geometry", type := 42, offset := 0, embedded := true, tag := "", pkgPath := "carrack/disk", byteOffset := 0 }, { name := "stable", type := 43, offset := 2, embedded := false, tag := "", pkgPath := "carrack/disk", byteOffset := 16 }, { name := "buffer", type := 44, offset := 3, embedded := false, tag := "", pkgPath := "carrack/disk", byteOffset := 40 }, { name := "armed", type := 3, offset := 4, embedded := false, tag := "", pkgPath := "carrack/disk", byteOffset := 64 }], .agg #[.int .i64 0, .int .i64 0, .slice none 0 0, .slice none 0 0, .int .i64 0], 5, 72⟩
theorem tok45 : TOk Try.prog (45, ti45) := ⟨Try.underlying45, by kernel_rfl, fun _ => ⟨by kernel_rfl, by kernel_rfl⟩⟩
def ti46 : TI := ⟨.struct #[{ name := "geometry", type := 42, offset := 0, embedded := true, tag := "", pkgPath := "carrack/disk", byteOffset := 0 }, { name := "stable", type := 43, offset := 2, embedded := false, tag := "", pkgPath := "carrack/disk", byteOffset := 16 }, { name := "buffer", type := 44, offset := 3, embedded := false, tag := "", pkgPath := "carrack/disk", byteOffset := 40 }, { name := "armed", type := 3, offset := 4, embedded := false, tag := "", pkgPath := "carrack/disk", byteOffset := 64 }], .agg #[.int .i64 0, .int .i64 0, .slice none 0 0, .slice none 0 0, .int .i64 0], 5, 72⟩
theorem tok46 : TOk Try.prog (46, ti46) := ⟨Try.underlying46, by kernel_rfl, fun _ => ⟨by kernel_rfl, by kernel_rfl⟩⟩
def ti50 : TI := ⟨.struct #[{ name := "Lasts", type := 4, offset := 0, embedded := false, tag := "", pkgPath := "", byteOffset := 0 }, { name := "Torn", type := 3, offset := 1, embedded := false, tag := "", pkgPath := "", byteOffset := 8 }], .agg #[.bool false, .int .i64 0], 2, 16⟩
theorem tok50 : TOk Try.prog (50, ti50) := ⟨Try.underlying50, by kernel_rfl, fun _ => ⟨by kernel_rfl, by kernel_rfl⟩⟩
def ti51 : TI := ⟨.struct #[{ name := "Lasts", type := 4, offset := 0, embedded := false, tag := "", pkgPath := "", byteOffset := 0 }, { name := "Torn", type := 3, offset := 1, embedded := false, tag := "", pkgPath := "", byteOffset := 8 }], .agg #[.bool false, .int .i64 0], 2, 16⟩
theorem tok51 : TOk Try.prog (51, ti51) := ⟨Try.underlying51, by kernel_rfl, fun _ => ⟨by kernel_rfl, by kernel_rfl⟩⟩
def ti53 : TI := ⟨.pointer 58, .pointer none, 1, 8⟩
theorem tok53 : TOk Try.prog (53, ti53) := ⟨Try.underlying53, by kernel_rfl, (fun h => by cases h)⟩
def ti56 : TI := ⟨.slice 72, .slice none 0 0, 1, 24⟩
theorem tok56 : TOk Try.prog (56, ti56) := ⟨Try.underlying56, by kernel_rfl, (fun h => by cases h)⟩
def ti57 : TI := ⟨.struct #[{ name := "Size", type := 3, offset := 0, embedded := false, tag := "", pkgPath := "", byteOffset := 0 }, { name := "Sectors", type := 3, offset := 1, embedded := false, tag := "", pkgPath := "", byteOffset := 8 }, { name := "Stable", type := 9, offset := 2, embedded := false, tag := "", pkgPath := "", byteOffset := 16 }, { name := "Buffer", type := 56, offset := 3, embedded := false, tag := "", pkgPath := "", byteOffset := 32 }, { name := "Armed", type := 3, offset := 4, embedded := false, tag := "", pkgPath := "", byteOffset := 56 }], .agg #[.int .i64 0, .int .i64 0, .string ⟨#[]⟩, .slice none 0 0, .int .i64 0], 5, 64⟩
theorem tok57 : TOk Try.prog (57, ti57) := ⟨Try.underlying57, by kernel_rfl, fun _ => ⟨by kernel_rfl, by kernel_rfl⟩⟩
def ti58 : TI := ⟨.struct #[{ name := "Size", type := 3, offset := 0, embedded := false, tag := "", pkgPath := "", byteOffset := 0 }, { name := "Sectors", type := 3, offset := 1, embedded := false, tag := "", pkgPath := "", byteOffset := 8 }, { name := "Stable", type := 9, offset := 2, embedded := false, tag := "", pkgPath := "", byteOffset := 16 }, { name := "Buffer", type := 56, offset := 3, embedded := false, tag := "", pkgPath := "", byteOffset := 32 }, { name := "Armed", type := 3, offset := 4, embedded := false, tag := "", pkgPath := "", byteOffset := 56 }], .agg #[.int .i64 0, .int .i64 0, .string ⟨#[]⟩, .slice none 0 0, .int .i64 0], 5, 64⟩
theorem tok58 : TOk Try.prog (58, ti58) := ⟨Try.underlying58, by kernel_rfl, fun _ => ⟨by kernel_rfl, by kernel_rfl⟩⟩
def ti66 : TI := ⟨.struct #[{ name := "sector", type := 3, offset := 0, embedded := false, tag := "", pkgPath := "carrack/disk", byteOffset := 0 }, { name := "s", type := 9, offset := 1, embedded := false, tag := "", pkgPath := "carrack/disk", byteOffset := 8 }], .agg #[.int .i64 0, .string ⟨#[]⟩], 2, 24⟩
theorem tok66 : TOk Try.prog (66, ti66) := ⟨Try.underlying66, by kernel_rfl, fun _ => ⟨by kernel_rfl, by kernel_rfl⟩⟩
def ti67 : TI := ⟨.struct #[{ name := "sector", type := 3, offset := 0, embedded := false, tag := "", pkgPath := "carrack/disk", byteOffset := 0 }, { name := "s", type := 9, offset := 1, embedded := false, tag := "", pkgPath := "carrack/disk", byteOffset := 8 }], .agg #[.int .i64 0, .string ⟨#[]⟩], 2, 24⟩
theorem tok67 : TOk Try.prog (67, ti67) := ⟨Try.underlying67, by kernel_rfl, fun _ => ⟨by kernel_rfl, by kernel_rfl⟩⟩
def ti71 : TI := ⟨.struct #[{ name := "Sector", type := 3, offset := 0, embedded := false, tag := "", pkgPath := "", byteOffset := 0 }, { name := "S", type := 9, offset := 1, embedded := false, tag := "", pkgPath := "", byteOffset := 8 }], .agg #[.int .i64 0, .string ⟨#[]⟩], 2, 24⟩
theorem tok71 : TOk Try.prog (71, ti71) := ⟨Try.underlying71, by kernel_rfl, fun _ => ⟨by kernel_rfl, by kernel_rfl⟩⟩
def ti72 : TI := ⟨.struct #[{ name := "Sector", type := 3, offset := 0, embedded := false, tag := "", pkgPath := "", byteOffset := 0 }, { name := "S", type := 9, offset := 1, embedded := false, tag := "", pkgPath := "", byteOffset := 8 }], .agg #[.int .i64 0, .string ⟨#[]⟩], 2, 24⟩
theorem tok72 : TOk Try.prog (72, ti72) := ⟨Try.underlying72, by kernel_rfl, fun _ => ⟨by kernel_rfl, by kernel_rfl⟩⟩
def ti73 : TI := ⟨.int .u64, .int .u64 0, 1, 8⟩
theorem tok73 : TOk Try.prog (73, ti73) := ⟨Try.underlying73, by kernel_rfl, (fun h => by cases h)⟩
def ti77 : TI := ⟨.pointer 79, .pointer none, 1, 8⟩
theorem tok77 : TOk Try.prog (77, ti77) := ⟨Try.underlying77, by kernel_rfl, (fun h => by cases h)⟩
def ti78 : TI := ⟨.struct #[{ name := "addr", type := 77, offset := 0, embedded := false, tag := "", pkgPath := "strings", byteOffset := 0 }, { name := "buf", type := 36, offset := 1, embedded := false, tag := "", pkgPath := "strings", byteOffset := 8 }], .agg #[.pointer none, .slice none 0 0], 2, 32⟩
theorem tok78 : TOk Try.prog (78, ti78) := ⟨Try.underlying78, by kernel_rfl, fun _ => ⟨by kernel_rfl, by kernel_rfl⟩⟩
def ti79 : TI := ⟨.struct #[{ name := "addr", type := 77, offset := 0, embedded := false, tag := "", pkgPath := "strings", byteOffset := 0 }, { name := "buf", type := 36, offset := 1, embedded := false, tag := "", pkgPath := "strings", byteOffset := 8 }], .agg #[.pointer none, .slice none 0 0], 2, 32⟩
theorem tok79 : TOk Try.prog (79, ti79) := ⟨Try.underlying79, by kernel_rfl, fun _ => ⟨by kernel_rfl, by kernel_rfl⟩⟩
def ti85 : TI := ⟨.int .u32, .int .u32 0, 1, 4⟩
theorem tok85 : TOk Try.prog (85, ti85) := ⟨Try.underlying85, by kernel_rfl, (fun h => by cases h)⟩
def ti88 : TI := ⟨.int .u64, .int .u64 0, 1, 8⟩
theorem tok88 : TOk Try.prog (88, ti88) := ⟨Try.underlying88, by kernel_rfl, (fun h => by cases h)⟩
def ti91 : TI := ⟨.pointer 5, .pointer none, 1, 8⟩
theorem tok91 : TOk Try.prog (91, ti91) := ⟨Try.underlying91, by kernel_rfl, (fun h => by cases h)⟩
def Γ : Ty := [(2, ti2), (3, ti3), (4, ti4), (5, ti5), (9, ti9), (12, ti12), (21, ti21), (22, ti22), (25, ti25), (26, ti26), (29, ti29), (30, ti30), (31, ti31), (32, ti32), (36, ti36), (41, ti41), (42, ti42), (43, ti43), (44, ti44), (45, ti45), (46, ti46), (50, ti50), (51, ti51), (53, ti53), (56, ti56), (57, ti57), (58, ti58), (66, ti66), (67, ti67), (71, ti71), (72, ti72), (73, ti73), (77, ti77), (78, ti78), (79, ti79), (85, ti85), (88, ti88), (91, ti91)]
theorem Γok : TyOk Try.prog Γ :=
  TyOk.cons_ tok2 <| TyOk.cons_ tok3 <| TyOk.cons_ tok4 <| TyOk.cons_ tok5 <| TyOk.cons_ tok9 <| TyOk.cons_ tok12 <| TyOk.cons_ tok21 <| TyOk.cons_ tok22 <| TyOk.cons_ tok25 <| TyOk.cons_ tok26 <| TyOk.cons_ tok29 <| TyOk.cons_ tok30 <| TyOk.cons_ tok31 <| TyOk.cons_ tok32 <| TyOk.cons_ tok36 <| TyOk.cons_ tok41 <| TyOk.cons_ tok42 <| TyOk.cons_ tok43 <| TyOk.cons_ tok44 <| TyOk.cons_ tok45 <| TyOk.cons_ tok46 <| TyOk.cons_ tok50 <| TyOk.cons_ tok51 <| TyOk.cons_ tok53 <| TyOk.cons_ tok56 <| TyOk.cons_ tok57 <| TyOk.cons_ tok58 <| TyOk.cons_ tok66 <| TyOk.cons_ tok67 <| TyOk.cons_ tok71 <| TyOk.cons_ tok72 <| TyOk.cons_ tok73 <| TyOk.cons_ tok77 <| TyOk.cons_ tok78 <| TyOk.cons_ tok79 <| TyOk.cons_ tok85 <| TyOk.cons_ tok88 <| TyOk.cons_ tok91 <| TyOk.nil_ _
end Go.LX
