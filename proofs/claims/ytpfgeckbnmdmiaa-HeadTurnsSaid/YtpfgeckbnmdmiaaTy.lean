import Derived.Test.YtpfgeckbnmdmiaaProg
import Derived.Test.YtpfgeckbnmdmiaaLX
import Derived.KernelRfl
set_option maxRecDepth 100000
namespace Go.LX
open Go.Proofs

def ti2 : TI := ⟨.int .i64, .int .i64 0, 1, 8⟩
theorem tok2 : TOk Try.prog (2, ti2) := ⟨Try.underlying2, by kernel_rfl, (fun h => by cases h)⟩
def ti3 : TI := ⟨.int .i64, .int .i64 0, 1, 8⟩
theorem tok3 : TOk Try.prog (3, ti3) := ⟨Try.underlying3, by kernel_rfl, (fun h => by cases h)⟩
def ti4 : TI := ⟨.bool, .bool false, 1, 1⟩
theorem tok4 : TOk Try.prog (4, ti4) := ⟨Try.underlying4, by kernel_rfl, (fun h => by cases h)⟩
def ti5 : TI := ⟨.int .u8, .int .u8 0, 1, 1⟩
theorem tok5 : TOk Try.prog (5, ti5) := ⟨Try.underlying5, by kernel_rfl, (fun h => by cases h)⟩
def ti9 : TI := ⟨.string, .string ⟨#[]⟩, 1, 16⟩
theorem tok9 : TOk Try.prog (9, ti9) := ⟨Try.underlying9, by kernel_rfl, (fun h => by cases h)⟩
def ti12 : TI := ⟨.int .u64, .int .u64 0, 1, 8⟩
theorem tok12 : TOk Try.prog (12, ti12) := ⟨Try.underlying12, by kernel_rfl, (fun h => by cases h)⟩
def ti21 : TI := ⟨.int .i32, .int .i32 0, 1, 4⟩
theorem tok21 : TOk Try.prog (21, ti21) := ⟨Try.underlying21, by kernel_rfl, (fun h => by cases h)⟩
def ti22 : TI := ⟨.int .u64, .int .u64 0, 1, 8⟩
theorem tok22 : TOk Try.prog (22, ti22) := ⟨Try.underlying22, by kernel_rfl, (fun h => by cases h)⟩
def ti23 : TI := ⟨.slice 9, .slice none 0 0, 1, 24⟩
theorem tok23 : TOk Try.prog (23, ti23) := ⟨Try.underlying23, by kernel_rfl, (fun h => by cases h)⟩
def ti25 : TI := ⟨.int .i64, .int .i64 0, 1, 8⟩
theorem tok25 : TOk Try.prog (25, ti25) := ⟨Try.underlying25, by kernel_rfl, (fun h => by cases h)⟩
def ti28 : TI := ⟨.struct #[{ name := "Gen", type := 22, offset := 0, embedded := false, tag := "", pkgPath := "", byteOffset := 0 }, { name := "Segment", type := 3, offset := 1, embedded := false, tag := "", pkgPath := "", byteOffset := 8 }], .agg #[.int .u64 0, .int .i64 0], 2, 16⟩
theorem tok28 : TOk Try.prog (28, ti28) := ⟨Try.underlying28, by kernel_rfl, fun _ => ⟨by kernel_rfl, by kernel_rfl⟩⟩
def ti29 : TI := ⟨.struct #[{ name := "Gen", type := 22, offset := 0, embedded := false, tag := "", pkgPath := "", byteOffset := 0 }, { name := "Segment", type := 3, offset := 1, embedded := false, tag := "", pkgPath := "", byteOffset := 8 }], .agg #[.int .u64 0, .int .i64 0], 2, 16⟩
theorem tok29 : TOk Try.prog (29, ti29) := ⟨Try.underlying29, by kernel_rfl, fun _ => ⟨by kernel_rfl, by kernel_rfl⟩⟩
def ti32 : TI := ⟨.struct #[{ name := "Gen", type := 22, offset := 0, embedded := false, tag := "", pkgPath := "", byteOffset := 0 }, { name := "Segment", type := 3, offset := 1, embedded := false, tag := "", pkgPath := "", byteOffset := 8 }], .agg #[.int .u64 0, .int .i64 0], 2, 16⟩
theorem tok32 : TOk Try.prog (32, ti32) := ⟨Try.underlying32, by kernel_rfl, fun _ => ⟨by kernel_rfl, by kernel_rfl⟩⟩
def ti43 : TI := ⟨.int .u32, .int .u32 0, 1, 4⟩
theorem tok43 : TOk Try.prog (43, ti43) := ⟨Try.underlying43, by kernel_rfl, (fun h => by cases h)⟩
def ti44 : TI := ⟨.slice 5, .slice none 0 0, 1, 24⟩
theorem tok44 : TOk Try.prog (44, ti44) := ⟨Try.underlying44, by kernel_rfl, (fun h => by cases h)⟩
def ti46 : TI := ⟨.int .u16, .int .u16 0, 1, 2⟩
theorem tok46 : TOk Try.prog (46, ti46) := ⟨Try.underlying46, by kernel_rfl, (fun h => by cases h)⟩
def ti47 : TI := ⟨.array 2 9, .agg #[.string ⟨#[]⟩, .string ⟨#[]⟩], 2, 32⟩
theorem tok47 : TOk Try.prog (47, ti47) := ⟨Try.underlying47, by kernel_rfl, (fun h => by cases h)⟩
def ti50 : TI := ⟨.struct #[{ name := "e", type := 25, offset := 0, embedded := false, tag := "", pkgPath := "carrack/wire", byteOffset := 0 }], .agg #[.int .i64 0], 1, 8⟩
theorem tok50 : TOk Try.prog (50, ti50) := ⟨Try.underlying50, by kernel_rfl, fun _ => ⟨by kernel_rfl, by kernel_rfl⟩⟩
def ti51 : TI := ⟨.struct #[{ name := "e", type := 25, offset := 0, embedded := false, tag := "", pkgPath := "carrack/wire", byteOffset := 0 }], .agg #[.int .i64 0], 1, 8⟩
theorem tok51 : TOk Try.prog (51, ti51) := ⟨Try.underlying51, by kernel_rfl, fun _ => ⟨by kernel_rfl, by kernel_rfl⟩⟩
def ti52 : TI := ⟨.pointer 54, .pointer none, 1, 8⟩
theorem tok52 : TOk Try.prog (52, ti52) := ⟨Try.underlying52, by kernel_rfl, (fun h => by cases h)⟩
def ti53 : TI := ⟨.struct #[{ name := "addr", type := 52, offset := 0, embedded := false, tag := "", pkgPath := "strings", byteOffset := 0 }, { name := "buf", type := 44, offset := 1, embedded := false, tag := "", pkgPath := "strings", byteOffset := 8 }], .agg #[.pointer none, .slice none 0 0], 2, 32⟩
theorem tok53 : TOk Try.prog (53, ti53) := ⟨Try.underlying53, by kernel_rfl, fun _ => ⟨by kernel_rfl, by kernel_rfl⟩⟩
def ti54 : TI := ⟨.struct #[{ name := "addr", type := 52, offset := 0, embedded := false, tag := "", pkgPath := "strings", byteOffset := 0 }, { name := "buf", type := 44, offset := 1, embedded := false, tag := "", pkgPath := "strings", byteOffset := 8 }], .agg #[.pointer none, .slice none 0 0], 2, 32⟩
theorem tok54 : TOk Try.prog (54, ti54) := ⟨Try.underlying54, by kernel_rfl, fun _ => ⟨by kernel_rfl, by kernel_rfl⟩⟩
def ti55 : TI := ⟨.struct #[{ name := "m", type := 51, offset := 0, embedded := false, tag := "", pkgPath := "carrack/wire", byteOffset := 0 }, { name := "b", type := 54, offset := 1, embedded := false, tag := "", pkgPath := "carrack/wire", byteOffset := 8 }], .agg #[.int .i64 0, .pointer none, .slice none 0 0], 3, 40⟩
theorem tok55 : TOk Try.prog (55, ti55) := ⟨Try.underlying55, by kernel_rfl, fun _ => ⟨by kernel_rfl, by kernel_rfl⟩⟩
def ti56 : TI := ⟨.struct #[{ name := "m", type := 51, offset := 0, embedded := false, tag := "", pkgPath := "carrack/wire", byteOffset := 0 }, { name := "b", type := 54, offset := 1, embedded := false, tag := "", pkgPath := "carrack/wire", byteOffset := 8 }], .agg #[.int .i64 0, .pointer none, .slice none 0 0], 3, 40⟩
theorem tok56 : TOk Try.prog (56, ti56) := ⟨Try.underlying56, by kernel_rfl, fun _ => ⟨by kernel_rfl, by kernel_rfl⟩⟩
def ti65 : TI := ⟨.pointer 87, .pointer none, 1, 8⟩
theorem tok65 : TOk Try.prog (65, ti65) := ⟨Try.underlying65, by kernel_rfl, (fun h => by cases h)⟩
def ti70 : TI := ⟨.pointer 56, .pointer none, 1, 8⟩
theorem tok70 : TOk Try.prog (70, ti70) := ⟨Try.underlying70, by kernel_rfl, (fun h => by cases h)⟩
def ti77 : TI := ⟨.int .u64, .int .u64 0, 1, 8⟩
theorem tok77 : TOk Try.prog (77, ti77) := ⟨Try.underlying77, by kernel_rfl, (fun h => by cases h)⟩
def ti86 : TI := ⟨.struct #[{ name := "memory", type := 51, offset := 0, embedded := true, tag := "", pkgPath := "carrack/wire", byteOffset := 0 }, { name := "s", type := 9, offset := 1, embedded := false, tag := "", pkgPath := "carrack/wire", byteOffset := 8 }], .agg #[.int .i64 0, .string ⟨#[]⟩], 2, 24⟩
theorem tok86 : TOk Try.prog (86, ti86) := ⟨Try.underlying86, by kernel_rfl, fun _ => ⟨by kernel_rfl, by kernel_rfl⟩⟩
def ti87 : TI := ⟨.struct #[{ name := "memory", type := 51, offset := 0, embedded := true, tag := "", pkgPath := "carrack/wire", byteOffset := 0 }, { name := "s", type := 9, offset := 1, embedded := false, tag := "", pkgPath := "carrack/wire", byteOffset := 8 }], .agg #[.int .i64 0, .string ⟨#[]⟩], 2, 24⟩
theorem tok87 : TOk Try.prog (87, ti87) := ⟨Try.underlying87, by kernel_rfl, fun _ => ⟨by kernel_rfl, by kernel_rfl⟩⟩
def ti90 : TI := ⟨.pointer 51, .pointer none, 1, 8⟩
theorem tok90 : TOk Try.prog (90, ti90) := ⟨Try.underlying90, by kernel_rfl, (fun h => by cases h)⟩
def ti95 : TI := ⟨.pointer 5, .pointer none, 1, 8⟩
theorem tok95 : TOk Try.prog (95, ti95) := ⟨Try.underlying95, by kernel_rfl, (fun h => by cases h)⟩
def ti96 : TI := ⟨.array 4 5, .agg #[.int .u8 0, .int .u8 0, .int .u8 0, .int .u8 0], 4, 4⟩
theorem tok96 : TOk Try.prog (96, ti96) := ⟨Try.underlying96, by kernel_rfl, (fun h => by cases h)⟩
def ti102 : TI := ⟨.array 256 43, .agg ⟨List.replicate 256 (.int .u32 0)⟩, 256, 1024⟩
theorem tok102 : TOk Try.prog (102, ti102) := ⟨Try.underlying102, by kernel_rfl, (fun h => by cases h)⟩
def Γ : Ty := [(2, ti2), (3, ti3), (4, ti4), (5, ti5), (9, ti9), (12, ti12), (21, ti21), (22, ti22), (23, ti23), (25, ti25), (28, ti28), (29, ti29), (32, ti32), (43, ti43), (44, ti44), (46, ti46), (47, ti47), (50, ti50), (51, ti51), (52, ti52), (53, ti53), (54, ti54), (55, ti55), (56, ti56), (65, ti65), (70, ti70), (77, ti77), (86, ti86), (87, ti87), (90, ti90), (95, ti95), (96, ti96), (102, ti102)]
theorem Γok : TyOk Try.prog Γ :=
  TyOk.cons_ tok2 <| TyOk.cons_ tok3 <| TyOk.cons_ tok4 <| TyOk.cons_ tok5 <| TyOk.cons_ tok9 <| TyOk.cons_ tok12 <| TyOk.cons_ tok21 <| TyOk.cons_ tok22 <| TyOk.cons_ tok23 <| TyOk.cons_ tok25 <| TyOk.cons_ tok28 <| TyOk.cons_ tok29 <| TyOk.cons_ tok32 <| TyOk.cons_ tok43 <| TyOk.cons_ tok44 <| TyOk.cons_ tok46 <| TyOk.cons_ tok47 <| TyOk.cons_ tok50 <| TyOk.cons_ tok51 <| TyOk.cons_ tok52 <| TyOk.cons_ tok53 <| TyOk.cons_ tok54 <| TyOk.cons_ tok55 <| TyOk.cons_ tok56 <| TyOk.cons_ tok65 <| TyOk.cons_ tok70 <| TyOk.cons_ tok77 <| TyOk.cons_ tok86 <| TyOk.cons_ tok87 <| TyOk.cons_ tok90 <| TyOk.cons_ tok95 <| TyOk.cons_ tok96 <| TyOk.cons_ tok102 <| TyOk.nil_ _
end Go.LX
