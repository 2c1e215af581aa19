import Derived.Test.YtcmnomppneiiiaaProg
import Derived.Test.YtcmnomppneiiiaaLX
import Derived.KernelRfl
set_option maxRecDepth 100000
namespace Go.LX
open Go.Proofs

def ti2 : TI := ⟨.int .i64, .int .i64 0, 1, 8⟩
theorem tok2 : TOk Try.prog (2, ti2) := ⟨Try.underlying2, by kernel_rfl, (fun h => by cases h)⟩
def ti3 : TI := ⟨.int .i64, .int .i64 0, 1, 8⟩
theorem tok3 : TOk Try.prog (3, ti3) := ⟨Try.underlying3, by kernel_rfl, (fun h => by cases h)⟩
def ti4 : TI := ⟨.bool, .bool false, 1, 1⟩
theorem tok4 : TOk Try.prog (4, ti4) := ⟨Try.underlying4, by kernel_rfl, (fun h => by cases h)⟩
def ti5 : TI := ⟨.int .u8, .int .u8 0, 1, 1⟩
theorem tok5 : TOk Try.prog (5, ti5) := ⟨Try.underlying5, by kernel_rfl, (fun h => by cases h)⟩
def ti9 : TI := ⟨.string, .string ⟨#[]⟩, 1, 16⟩
theorem tok9 : TOk Try.prog (9, ti9) := ⟨Try.underlying9, by kernel_rfl, (fun h => by cases h)⟩
def ti12 : TI := ⟨.int .u64, .int .u64 0, 1, 8⟩
theorem tok12 : TOk Try.prog (12, ti12) := ⟨Try.underlying12, by kernel_rfl, (fun h => by cases h)⟩
def ti21 : TI := ⟨.int .i32, .int .i32 0, 1, 4⟩
theorem tok21 : TOk Try.prog (21, ti21) := ⟨Try.underlying21, by kernel_rfl, (fun h => by cases h)⟩
def ti22 : TI := ⟨.int .u64, .int .u64 0, 1, 8⟩
theorem tok22 : TOk Try.prog (22, ti22) := ⟨Try.underlying22, by kernel_rfl, (fun h => by cases h)⟩
def ti23 : TI := ⟨.struct #[{ name := "From", type := 3, offset := 0, embedded := false, tag := "", pkgPath := "", byteOffset := 0 }, { name := "Seq", type := 22, offset := 1, embedded := false, tag := "", pkgPath := "", byteOffset := 8 }, { name := "Timeout", type := 22, offset := 2, embedded := false, tag := "", pkgPath := "", byteOffset := 16 }, { name := "Data", type := 9, offset := 3, embedded := false, tag := "", pkgPath := "", byteOffset := 24 }], .agg #[.int .i64 0, .int .u64 0, .int .u64 0, .string ⟨#[]⟩], 4, 40⟩
theorem tok23 : TOk Try.prog (23, ti23) := ⟨Try.underlying23, by kernel_rfl, fun _ => ⟨by kernel_rfl, by kernel_rfl⟩⟩
def ti24 : TI := ⟨.struct #[{ name := "From", type := 3, offset := 0, embedded := false, tag := "", pkgPath := "", byteOffset := 0 }, { name := "Seq", type := 22, offset := 1, embedded := false, tag := "", pkgPath := "", byteOffset := 8 }, { name := "Timeout", type := 22, offset := 2, embedded := false, tag := "", pkgPath := "", byteOffset := 16 }, { name := "Data", type := 9, offset := 3, embedded := false, tag := "", pkgPath := "", byteOffset := 24 }], .agg #[.int .i64 0, .int .u64 0, .int .u64 0, .string ⟨#[]⟩], 4, 40⟩
theorem tok24 : TOk Try.prog (24, ti24) := ⟨Try.underlying24, by kernel_rfl, fun _ => ⟨by kernel_rfl, by kernel_rfl⟩⟩
def ti26 : TI := ⟨.struct #[{ name := "Kind", type := 3, offset := 0, embedded := false, tag := "", pkgPath := "", byteOffset := 0 }, { name := "Packet", type := 24, offset := 1, embedded := false, tag := "", pkgPath := "", byteOffset := 8 }], .agg #[.int .i64 0, .int .i64 0, .int .u64 0, .int .u64 0, .string ⟨#[]⟩], 5, 48⟩
theorem tok26 : TOk Try.prog (26, ti26) := ⟨Try.underlying26, by kernel_rfl, fun _ => ⟨by kernel_rfl, by kernel_rfl⟩⟩
def ti27 : TI := ⟨.struct #[{ name := "Kind", type := 3, offset := 0, embedded := false, tag := "", pkgPath := "", byteOffset := 0 }, { name := "Packet", type := 24, offset := 1, embedded := false, tag := "", pkgPath := "", byteOffset := 8 }], .agg #[.int .i64 0, .int .i64 0, .int .u64 0, .int .u64 0, .string ⟨#[]⟩], 5, 48⟩
theorem tok27 : TOk Try.prog (27, ti27) := ⟨Try.underlying27, by kernel_rfl, fun _ => ⟨by kernel_rfl, by kernel_rfl⟩⟩
def ti29 : TI := ⟨.int .i64, .int .i64 0, 1, 8⟩
theorem tok29 : TOk Try.prog (29, ti29) := ⟨Try.underlying29, by kernel_rfl, (fun h => by cases h)⟩
def ti32 : TI := ⟨.slice 27, .slice none 0 0, 1, 24⟩
theorem tok32 : TOk Try.prog (32, ti32) := ⟨Try.underlying32, by kernel_rfl, (fun h => by cases h)⟩
def ti33 : TI := ⟨.slice 70, .slice none 0 0, 1, 24⟩
theorem tok33 : TOk Try.prog (33, ti33) := ⟨Try.underlying33, by kernel_rfl, (fun h => by cases h)⟩
def ti34 : TI := ⟨.struct #[{ name := "Height", type := 22, offset := 0, embedded := false, tag := "", pkgPath := "", byteOffset := 0 }, { name := "Index", type := 3, offset := 1, embedded := false, tag := "", pkgPath := "", byteOffset := 8 }], .agg #[.int .u64 0, .int .i64 0], 2, 16⟩
theorem tok34 : TOk Try.prog (34, ti34) := ⟨Try.underlying34, by kernel_rfl, fun _ => ⟨by kernel_rfl, by kernel_rfl⟩⟩
def ti35 : TI := ⟨.struct #[{ name := "Height", type := 22, offset := 0, embedded := false, tag := "", pkgPath := "", byteOffset := 0 }, { name := "Index", type := 3, offset := 1, embedded := false, tag := "", pkgPath := "", byteOffset := 8 }], .agg #[.int .u64 0, .int .i64 0], 2, 16⟩
theorem tok35 : TOk Try.prog (35, ti35) := ⟨Try.underlying35, by kernel_rfl, fun _ => ⟨by kernel_rfl, by kernel_rfl⟩⟩
def ti39 : TI := ⟨.pointer 65, .pointer none, 1, 8⟩
theorem tok39 : TOk Try.prog (39, ti39) := ⟨Try.underlying39, by kernel_rfl, (fun h => by cases h)⟩
def ti49 : TI := ⟨.pointer 83, .pointer none, 1, 8⟩
theorem tok49 : TOk Try.prog (49, ti49) := ⟨Try.underlying49, by kernel_rfl, (fun h => by cases h)⟩
def ti58 : TI := ⟨.struct #[{ name := "e", type := 29, offset := 0, embedded := false, tag := "", pkgPath := "carrack/wire", byteOffset := 0 }], .agg #[.int .i64 0], 1, 8⟩
theorem tok58 : TOk Try.prog (58, ti58) := ⟨Try.underlying58, by kernel_rfl, fun _ => ⟨by kernel_rfl, by kernel_rfl⟩⟩
def ti59 : TI := ⟨.struct #[{ name := "e", type := 29, offset := 0, embedded := false, tag := "", pkgPath := "carrack/wire", byteOffset := 0 }], .agg #[.int .i64 0], 1, 8⟩
theorem tok59 : TOk Try.prog (59, ti59) := ⟨Try.underlying59, by kernel_rfl, fun _ => ⟨by kernel_rfl, by kernel_rfl⟩⟩
def ti60 : TI := ⟨.pointer 63, .pointer none, 1, 8⟩
theorem tok60 : TOk Try.prog (60, ti60) := ⟨Try.underlying60, by kernel_rfl, (fun h => by cases h)⟩
def ti61 : TI := ⟨.slice 5, .slice none 0 0, 1, 24⟩
theorem tok61 : TOk Try.prog (61, ti61) := ⟨Try.underlying61, by kernel_rfl, (fun h => by cases h)⟩
def ti62 : TI := ⟨.struct #[{ name := "addr", type := 60, offset := 0, embedded := false, tag := "", pkgPath := "strings", byteOffset := 0 }, { name := "buf", type := 61, offset := 1, embedded := false, tag := "", pkgPath := "strings", byteOffset := 8 }], .agg #[.pointer none, .slice none 0 0], 2, 32⟩
theorem tok62 : TOk Try.prog (62, ti62) := ⟨Try.underlying62, by kernel_rfl, fun _ => ⟨by kernel_rfl, by kernel_rfl⟩⟩
def ti63 : TI := ⟨.struct #[{ name := "addr", type := 60, offset := 0, embedded := false, tag := "", pkgPath := "strings", byteOffset := 0 }, { name := "buf", type := 61, offset := 1, embedded := false, tag := "", pkgPath := "strings", byteOffset := 8 }], .agg #[.pointer none, .slice none 0 0], 2, 32⟩
theorem tok63 : TOk Try.prog (63, ti63) := ⟨Try.underlying63, by kernel_rfl, fun _ => ⟨by kernel_rfl, by kernel_rfl⟩⟩
def ti64 : TI := ⟨.struct #[{ name := "m", type := 59, offset := 0, embedded := false, tag := "", pkgPath := "carrack/wire", byteOffset := 0 }, { name := "b", type := 63, offset := 1, embedded := false, tag := "", pkgPath := "carrack/wire", byteOffset := 8 }], .agg #[.int .i64 0, .pointer none, .slice none 0 0], 3, 40⟩
theorem tok64 : TOk Try.prog (64, ti64) := ⟨Try.underlying64, by kernel_rfl, fun _ => ⟨by kernel_rfl, by kernel_rfl⟩⟩
def ti65 : TI := ⟨.struct #[{ name := "m", type := 59, offset := 0, embedded := false, tag := "", pkgPath := "carrack/wire", byteOffset := 0 }, { name := "b", type := 63, offset := 1, embedded := false, tag := "", pkgPath := "carrack/wire", byteOffset := 8 }], .agg #[.int .i64 0, .pointer none, .slice none 0 0], 3, 40⟩
theorem tok65 : TOk Try.prog (65, ti65) := ⟨Try.underlying65, by kernel_rfl, fun _ => ⟨by kernel_rfl, by kernel_rfl⟩⟩
def ti69 : TI := ⟨.struct #[{ name := "Packet", type := 24, offset := 0, embedded := false, tag := "", pkgPath := "", byteOffset := 0 }, { name := "Stage", type := 3, offset := 4, embedded := false, tag := "", pkgPath := "", byteOffset := 40 }], .agg #[.int .i64 0, .int .u64 0, .int .u64 0, .string ⟨#[]⟩, .int .i64 0], 5, 48⟩
theorem tok69 : TOk Try.prog (69, ti69) := ⟨Try.underlying69, by kernel_rfl, fun _ => ⟨by kernel_rfl, by kernel_rfl⟩⟩
def ti70 : TI := ⟨.struct #[{ name := "Packet", type := 24, offset := 0, embedded := false, tag := "", pkgPath := "", byteOffset := 0 }, { name := "Stage", type := 3, offset := 4, embedded := false, tag := "", pkgPath := "", byteOffset := 40 }], .agg #[.int .i64 0, .int .u64 0, .int .u64 0, .string ⟨#[]⟩, .int .i64 0], 5, 48⟩
theorem tok70 : TOk Try.prog (70, ti70) := ⟨Try.underlying70, by kernel_rfl, fun _ => ⟨by kernel_rfl, by kernel_rfl⟩⟩
def ti82 : TI := ⟨.struct #[{ name := "memory", type := 59, offset := 0, embedded := true, tag := "", pkgPath := "carrack/wire", byteOffset := 0 }, { name := "s", type := 9, offset := 1, embedded := false, tag := "", pkgPath := "carrack/wire", byteOffset := 8 }], .agg #[.int .i64 0, .string ⟨#[]⟩], 2, 24⟩
theorem tok82 : TOk Try.prog (82, ti82) := ⟨Try.underlying82, by kernel_rfl, fun _ => ⟨by kernel_rfl, by kernel_rfl⟩⟩
def ti83 : TI := ⟨.struct #[{ name := "memory", type := 59, offset := 0, embedded := true, tag := "", pkgPath := "carrack/wire", byteOffset := 0 }, { name := "s", type := 9, offset := 1, embedded := false, tag := "", pkgPath := "carrack/wire", byteOffset := 8 }], .agg #[.int .i64 0, .string ⟨#[]⟩], 2, 24⟩
theorem tok83 : TOk Try.prog (83, ti83) := ⟨Try.underlying83, by kernel_rfl, fun _ => ⟨by kernel_rfl, by kernel_rfl⟩⟩
def ti96 : TI := ⟨.pointer 59, .pointer none, 1, 8⟩
theorem tok96 : TOk Try.prog (96, ti96) := ⟨Try.underlying96, by kernel_rfl, (fun h => by cases h)⟩
def ti98 : TI := ⟨.pointer 5, .pointer none, 1, 8⟩
theorem tok98 : TOk Try.prog (98, ti98) := ⟨Try.underlying98, by kernel_rfl, (fun h => by cases h)⟩
def ti104 : TI := ⟨.int .u64, .int .u64 0, 1, 8⟩
theorem tok104 : TOk Try.prog (104, ti104) := ⟨Try.underlying104, by kernel_rfl, (fun h => by cases h)⟩
def ti114 : TI := ⟨.int .u32, .int .u32 0, 1, 4⟩
theorem tok114 : TOk Try.prog (114, ti114) := ⟨Try.underlying114, by kernel_rfl, (fun h => by cases h)⟩
def Γ : Ty := [(2, ti2), (3, ti3), (4, ti4), (5, ti5), (9, ti9), (12, ti12), (21, ti21), (22, ti22), (23, ti23), (24, ti24), (26, ti26), (27, ti27), (29, ti29), (32, ti32), (33, ti33), (34, ti34), (35, ti35), (39, ti39), (49, ti49), (58, ti58), (59, ti59), (60, ti60), (61, ti61), (62, ti62), (63, ti63), (64, ti64), (65, ti65), (69, ti69), (70, ti70), (82, ti82), (83, ti83), (96, ti96), (98, ti98), (104, ti104), (114, ti114)]
theorem Γok : TyOk Try.prog Γ :=
  TyOk.cons_ tok2 <| TyOk.cons_ tok3 <| TyOk.cons_ tok4 <| TyOk.cons_ tok5 <| TyOk.cons_ tok9 <| TyOk.cons_ tok12 <| TyOk.cons_ tok21 <| TyOk.cons_ tok22 <| TyOk.cons_ tok23 <| TyOk.cons_ tok24 <| TyOk.cons_ tok26 <| TyOk.cons_ tok27 <| TyOk.cons_ tok29 <| TyOk.cons_ tok32 <| TyOk.cons_ tok33 <| TyOk.cons_ tok34 <| TyOk.cons_ tok35 <| TyOk.cons_ tok39 <| TyOk.cons_ tok49 <| TyOk.cons_ tok58 <| TyOk.cons_ tok59 <| TyOk.cons_ tok60 <| TyOk.cons_ tok61 <| TyOk.cons_ tok62 <| TyOk.cons_ tok63 <| TyOk.cons_ tok64 <| TyOk.cons_ tok65 <| TyOk.cons_ tok69 <| TyOk.cons_ tok70 <| TyOk.cons_ tok82 <| TyOk.cons_ tok83 <| TyOk.cons_ tok96 <| TyOk.cons_ tok98 <| TyOk.cons_ tok104 <| TyOk.cons_ tok114 <| TyOk.nil_ _
end Go.LX
