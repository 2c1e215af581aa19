import Derived.Test.YtbpjbpffkpokpaaProg
import Derived.Test.YtbpjbpffkpokpaaLX
import Derived.KernelRfl
set_option maxRecDepth 100000
namespace Go.LX
open Go.Proofs

def ti2 : TI := ⟨.int .i64, .int .i64 0, 1, 8⟩
theorem tok2 : TOk Try.prog (2, ti2) := ⟨Try.underlying2, by kernel_rfl, (fun h => by cases h)⟩
def ti3 : TI := ⟨.int .i64, .int .i64 0, 1, 8⟩
theorem tok3 : TOk Try.prog (3, ti3) := ⟨Try.underlying3, by kernel_rfl, (fun h => by cases h)⟩
def ti4 : TI := ⟨.bool, .bool false, 1, 1⟩
theorem tok4 : TOk Try.prog (4, ti4) := ⟨Try.underlying4, by kernel_rfl, (fun h => by cases h)⟩
def ti5 : TI := ⟨.int .u8, .int .u8 0, 1, 1⟩
theorem tok5 : TOk Try.prog (5, ti5) := ⟨Try.underlying5, by kernel_rfl, (fun h => by cases h)⟩
def ti9 : TI := ⟨.string, .string ⟨#[]⟩, 1, 16⟩
theorem tok9 : TOk Try.prog (9, ti9) := ⟨Try.underlying9, by kernel_rfl, (fun h => by cases h)⟩
def ti12 : TI := ⟨.int .u64, .int .u64 0, 1, 8⟩
theorem tok12 : TOk Try.prog (12, ti12) := ⟨Try.underlying12, by kernel_rfl, (fun h => by cases h)⟩
def ti21 : TI := ⟨.int .i32, .int .i32 0, 1, 4⟩
theorem tok21 : TOk Try.prog (21, ti21) := ⟨Try.underlying21, by kernel_rfl, (fun h => by cases h)⟩
def ti22 : TI := ⟨.int .u64, .int .u64 0, 1, 8⟩
theorem tok22 : TOk Try.prog (22, ti22) := ⟨Try.underlying22, by kernel_rfl, (fun h => by cases h)⟩
def ti30 : TI := ⟨.array 3 9, .agg #[.string ⟨#[]⟩, .string ⟨#[]⟩, .string ⟨#[]⟩], 3, 48⟩
theorem tok30 : TOk Try.prog (30, ti30) := ⟨Try.underlying30, by kernel_rfl, (fun h => by cases h)⟩
def ti32 : TI := ⟨.pointer 39, .pointer none, 1, 8⟩
theorem tok32 : TOk Try.prog (32, ti32) := ⟨Try.underlying32, by kernel_rfl, (fun h => by cases h)⟩
def ti35 : TI := ⟨.int .i64, .int .i64 0, 1, 8⟩
theorem tok35 : TOk Try.prog (35, ti35) := ⟨Try.underlying35, by kernel_rfl, (fun h => by cases h)⟩
def ti36 : TI := ⟨.struct #[{ name := "e", type := 35, offset := 0, embedded := false, tag := "", pkgPath := "carrack/wire", byteOffset := 0 }], .agg #[.int .i64 0], 1, 8⟩
theorem tok36 : TOk Try.prog (36, ti36) := ⟨Try.underlying36, by kernel_rfl, fun _ => ⟨by kernel_rfl, by kernel_rfl⟩⟩
def ti37 : TI := ⟨.struct #[{ name := "e", type := 35, offset := 0, embedded := false, tag := "", pkgPath := "carrack/wire", byteOffset := 0 }], .agg #[.int .i64 0], 1, 8⟩
theorem tok37 : TOk Try.prog (37, ti37) := ⟨Try.underlying37, by kernel_rfl, fun _ => ⟨by kernel_rfl, by kernel_rfl⟩⟩
def ti38 : TI := ⟨.struct #[{ name := "memory", type := 37, offset := 0, embedded := true, tag := "", pkgPath := "carrack/wire", byteOffset := 0 }, { name := "s", type := 9, offset := 1, embedded := false, tag := "", pkgPath := "carrack/wire", byteOffset := 8 }], .agg #[.int .i64 0, .string ⟨#[]⟩], 2, 24⟩
theorem tok38 : TOk Try.prog (38, ti38) := ⟨Try.underlying38, by kernel_rfl, fun _ => ⟨by kernel_rfl, by kernel_rfl⟩⟩
def ti39 : TI := ⟨.struct #[{ name := "memory", type := 37, offset := 0, embedded := true, tag := "", pkgPath := "carrack/wire", byteOffset := 0 }, { name := "s", type := 9, offset := 1, embedded := false, tag := "", pkgPath := "carrack/wire", byteOffset := 8 }], .agg #[.int .i64 0, .string ⟨#[]⟩], 2, 24⟩
theorem tok39 : TOk Try.prog (39, ti39) := ⟨Try.underlying39, by kernel_rfl, fun _ => ⟨by kernel_rfl, by kernel_rfl⟩⟩
def ti40 : TI := ⟨.struct #[{ name := "From", type := 3, offset := 0, embedded := false, tag := "", pkgPath := "", byteOffset := 0 }, { name := "Seq", type := 22, offset := 1, embedded := false, tag := "", pkgPath := "", byteOffset := 8 }, { name := "Timeout", type := 22, offset := 2, embedded := false, tag := "", pkgPath := "", byteOffset := 16 }, { name := "Data", type := 9, offset := 3, embedded := false, tag := "", pkgPath := "", byteOffset := 24 }], .agg #[.int .i64 0, .int .u64 0, .int .u64 0, .string ⟨#[]⟩], 4, 40⟩
theorem tok40 : TOk Try.prog (40, ti40) := ⟨Try.underlying40, by kernel_rfl, fun _ => ⟨by kernel_rfl, by kernel_rfl⟩⟩
def ti41 : TI := ⟨.struct #[{ name := "From", type := 3, offset := 0, embedded := false, tag := "", pkgPath := "", byteOffset := 0 }, { name := "Seq", type := 22, offset := 1, embedded := false, tag := "", pkgPath := "", byteOffset := 8 }, { name := "Timeout", type := 22, offset := 2, embedded := false, tag := "", pkgPath := "", byteOffset := 16 }, { name := "Data", type := 9, offset := 3, embedded := false, tag := "", pkgPath := "", byteOffset := 24 }], .agg #[.int .i64 0, .int .u64 0, .int .u64 0, .string ⟨#[]⟩], 4, 40⟩
theorem tok41 : TOk Try.prog (41, ti41) := ⟨Try.underlying41, by kernel_rfl, fun _ => ⟨by kernel_rfl, by kernel_rfl⟩⟩
def ti57 : TI := ⟨.pointer 37, .pointer none, 1, 8⟩
theorem tok57 : TOk Try.prog (57, ti57) := ⟨Try.underlying57, by kernel_rfl, (fun h => by cases h)⟩
def ti60 : TI := ⟨.pointer 63, .pointer none, 1, 8⟩
theorem tok60 : TOk Try.prog (60, ti60) := ⟨Try.underlying60, by kernel_rfl, (fun h => by cases h)⟩
def ti61 : TI := ⟨.slice 5, .slice none 0 0, 1, 24⟩
theorem tok61 : TOk Try.prog (61, ti61) := ⟨Try.underlying61, by kernel_rfl, (fun h => by cases h)⟩
def ti62 : TI := ⟨.struct #[{ name := "addr", type := 60, offset := 0, embedded := false, tag := "", pkgPath := "strings", byteOffset := 0 }, { name := "buf", type := 61, offset := 1, embedded := false, tag := "", pkgPath := "strings", byteOffset := 8 }], .agg #[.pointer none, .slice none 0 0], 2, 32⟩
theorem tok62 : TOk Try.prog (62, ti62) := ⟨Try.underlying62, by kernel_rfl, fun _ => ⟨by kernel_rfl, by kernel_rfl⟩⟩
def ti63 : TI := ⟨.struct #[{ name := "addr", type := 60, offset := 0, embedded := false, tag := "", pkgPath := "strings", byteOffset := 0 }, { name := "buf", type := 61, offset := 1, embedded := false, tag := "", pkgPath := "strings", byteOffset := 8 }], .agg #[.pointer none, .slice none 0 0], 2, 32⟩
theorem tok63 : TOk Try.prog (63, ti63) := ⟨Try.underlying63, by kernel_rfl, fun _ => ⟨by kernel_rfl, by kernel_rfl⟩⟩
def ti64 : TI := ⟨.struct #[{ name := "m", type := 37, offset := 0, embedded := false, tag := "", pkgPath := "carrack/wire", byteOffset := 0 }, { name := "b", type := 63, offset := 1, embedded := false, tag := "", pkgPath := "carrack/wire", byteOffset := 8 }], .agg #[.int .i64 0, .pointer none, .slice none 0 0], 3, 40⟩
theorem tok64 : TOk Try.prog (64, ti64) := ⟨Try.underlying64, by kernel_rfl, fun _ => ⟨by kernel_rfl, by kernel_rfl⟩⟩
def ti65 : TI := ⟨.struct #[{ name := "m", type := 37, offset := 0, embedded := false, tag := "", pkgPath := "carrack/wire", byteOffset := 0 }, { name := "b", type := 63, offset := 1, embedded := false, tag := "", pkgPath := "carrack/wire", byteOffset := 8 }], .agg #[.int .i64 0, .pointer none, .slice none 0 0], 3, 40⟩
theorem tok65 : TOk Try.prog (65, ti65) := ⟨Try.underlying65, by kernel_rfl, fun _ => ⟨by kernel_rfl, by kernel_rfl⟩⟩
def ti67 : TI := ⟨.pointer 65, .pointer none, 1, 8⟩
theorem tok67 : TOk Try.prog (67, ti67) := ⟨Try.underlying67, by kernel_rfl, (fun h => by cases h)⟩
def ti80 : TI := ⟨.int .u64, .int .u64 0, 1, 8⟩
theorem tok80 : TOk Try.prog (80, ti80) := ⟨Try.underlying80, by kernel_rfl, (fun h => by cases h)⟩
def ti81 : TI := ⟨.pointer 5, .pointer none, 1, 8⟩
theorem tok81 : TOk Try.prog (81, ti81) := ⟨Try.underlying81, by kernel_rfl, (fun h => by cases h)⟩
def ti87 : TI := ⟨.int .u32, .int .u32 0, 1, 4⟩
theorem tok87 : TOk Try.prog (87, ti87) := ⟨Try.underlying87, by kernel_rfl, (fun h => by cases h)⟩
def Γ : Ty := [(2, ti2), (3, ti3), (4, ti4), (5, ti5), (9, ti9), (12, ti12), (21, ti21), (22, ti22), (30, ti30), (32, ti32), (35, ti35), (36, ti36), (37, ti37), (38, ti38), (39, ti39), (40, ti40), (41, ti41), (57, ti57), (60, ti60), (61, ti61), (62, ti62), (63, ti63), (64, ti64), (65, ti65), (67, ti67), (80, ti80), (81, ti81), (87, ti87)]
theorem Γok : TyOk Try.prog Γ :=
  TyOk.cons_ tok2 <| TyOk.cons_ tok3 <| TyOk.cons_ tok4 <| TyOk.cons_ tok5 <| TyOk.cons_ tok9 <| TyOk.cons_ tok12 <| TyOk.cons_ tok21 <| TyOk.cons_ tok22 <| TyOk.cons_ tok30 <| TyOk.cons_ tok32 <| TyOk.cons_ tok35 <| TyOk.cons_ tok36 <| TyOk.cons_ tok37 <| TyOk.cons_ tok38 <| TyOk.cons_ tok39 <| TyOk.cons_ tok40 <| TyOk.cons_ tok41 <| TyOk.cons_ tok57 <| TyOk.cons_ tok60 <| TyOk.cons_ tok61 <| TyOk.cons_ tok62 <| TyOk.cons_ tok63 <| TyOk.cons_ tok64 <| TyOk.cons_ tok65 <| TyOk.cons_ tok67 <| TyOk.cons_ tok80 <| TyOk.cons_ tok81 <| TyOk.cons_ tok87 <| TyOk.nil_ _
end Go.LX
