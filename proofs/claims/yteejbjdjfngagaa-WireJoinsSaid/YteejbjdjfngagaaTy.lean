import Derived.Test.YteejbjdjfngagaaProg
import Derived.Test.YteejbjdjfngagaaLX
import Derived.KernelRfl
set_option maxRecDepth 100000
namespace Go.LX
open Go.Proofs

def ti2 : TI := ⟨.int .i64, .int .i64 0, 1, 8⟩
theorem tok2 : TOk Try.prog (2, ti2) := ⟨Try.underlying2, by kernel_rfl⟩
def ti3 : TI := ⟨.int .i64, .int .i64 0, 1, 8⟩
theorem tok3 : TOk Try.prog (3, ti3) := ⟨Try.underlying3, by kernel_rfl⟩
def ti4 : TI := ⟨.bool, .bool false, 1, 1⟩
theorem tok4 : TOk Try.prog (4, ti4) := ⟨Try.underlying4, by kernel_rfl⟩
def ti5 : TI := ⟨.int .u8, .int .u8 0, 1, 1⟩
theorem tok5 : TOk Try.prog (5, ti5) := ⟨Try.underlying5, by kernel_rfl⟩
def ti9 : TI := ⟨.string, .string ⟨#[]⟩, 1, 16⟩
theorem tok9 : TOk Try.prog (9, ti9) := ⟨Try.underlying9, by kernel_rfl⟩
def ti12 : TI := ⟨.int .u64, .int .u64 0, 1, 8⟩
theorem tok12 : TOk Try.prog (12, ti12) := ⟨Try.underlying12, by kernel_rfl⟩
def ti21 : TI := ⟨.int .i32, .int .i32 0, 1, 4⟩
theorem tok21 : TOk Try.prog (21, ti21) := ⟨Try.underlying21, by kernel_rfl⟩
def ti22 : TI := ⟨.slice 51, .slice none 0 0, 1, 24⟩
theorem tok22 : TOk Try.prog (22, ti22) := ⟨Try.underlying22, by kernel_rfl⟩
def ti25 : TI := ⟨.int .i64, .int .i64 0, 1, 8⟩
theorem tok25 : TOk Try.prog (25, ti25) := ⟨Try.underlying25, by kernel_rfl⟩
def ti26 : TI := ⟨.struct #[{ name := "e", type := 25, offset := 0, embedded := false, tag := "", pkgPath := "carrack/wire", byteOffset := 0 }], .agg #[.int .i64 0], 1, 8⟩
theorem tok26 : TOk Try.prog (26, ti26) := ⟨Try.underlying26, by kernel_rfl⟩
def ti27 : TI := ⟨.struct #[{ name := "e", type := 25, offset := 0, embedded := false, tag := "", pkgPath := "carrack/wire", byteOffset := 0 }], .agg #[.int .i64 0], 1, 8⟩
theorem tok27 : TOk Try.prog (27, ti27) := ⟨Try.underlying27, by kernel_rfl⟩
def ti28 : TI := ⟨.pointer 31, .pointer none, 1, 8⟩
theorem tok28 : TOk Try.prog (28, ti28) := ⟨Try.underlying28, by kernel_rfl⟩
def ti29 : TI := ⟨.slice 5, .slice none 0 0, 1, 24⟩
theorem tok29 : TOk Try.prog (29, ti29) := ⟨Try.underlying29, by kernel_rfl⟩
def ti30 : TI := ⟨.struct #[{ name := "addr", type := 28, offset := 0, embedded := false, tag := "", pkgPath := "strings", byteOffset := 0 }, { name := "buf", type := 29, offset := 1, embedded := false, tag := "", pkgPath := "strings", byteOffset := 8 }], .agg #[.pointer none, .slice none 0 0], 2, 32⟩
theorem tok30 : TOk Try.prog (30, ti30) := ⟨Try.underlying30, by kernel_rfl⟩
def ti31 : TI := ⟨.struct #[{ name := "addr", type := 28, offset := 0, embedded := false, tag := "", pkgPath := "strings", byteOffset := 0 }, { name := "buf", type := 29, offset := 1, embedded := false, tag := "", pkgPath := "strings", byteOffset := 8 }], .agg #[.pointer none, .slice none 0 0], 2, 32⟩
theorem tok31 : TOk Try.prog (31, ti31) := ⟨Try.underlying31, by kernel_rfl⟩
def ti32 : TI := ⟨.struct #[{ name := "m", type := 27, offset := 0, embedded := false, tag := "", pkgPath := "carrack/wire", byteOffset := 0 }, { name := "b", type := 31, offset := 1, embedded := false, tag := "", pkgPath := "carrack/wire", byteOffset := 8 }], .agg #[.int .i64 0, .pointer none, .slice none 0 0], 3, 40⟩
theorem tok32 : TOk Try.prog (32, ti32) := ⟨Try.underlying32, by kernel_rfl⟩
def ti33 : TI := ⟨.struct #[{ name := "m", type := 27, offset := 0, embedded := false, tag := "", pkgPath := "carrack/wire", byteOffset := 0 }, { name := "b", type := 31, offset := 1, embedded := false, tag := "", pkgPath := "carrack/wire", byteOffset := 8 }], .agg #[.int .i64 0, .pointer none, .slice none 0 0], 3, 40⟩
theorem tok33 : TOk Try.prog (33, ti33) := ⟨Try.underlying33, by kernel_rfl⟩
def ti35 : TI := ⟨.pointer 33, .pointer none, 1, 8⟩
theorem tok35 : TOk Try.prog (35, ti35) := ⟨Try.underlying35, by kernel_rfl⟩
def ti40 : TI := ⟨.pointer 56, .pointer none, 1, 8⟩
theorem tok40 : TOk Try.prog (40, ti40) := ⟨Try.underlying40, by kernel_rfl⟩
def ti46 : TI := ⟨.pointer 48, .pointer none, 1, 8⟩
theorem tok46 : TOk Try.prog (46, ti46) := ⟨Try.underlying46, by kernel_rfl⟩
def ti47 : TI := ⟨.struct #[{ name := "S", type := 9, offset := 0, embedded := false, tag := "", pkgPath := "", byteOffset := 0 }, { name := "At", type := 3, offset := 1, embedded := false, tag := "", pkgPath := "", byteOffset := 16 }, { name := "Err", type := 3, offset := 2, embedded := false, tag := "", pkgPath := "", byteOffset := 24 }], .agg #[.string ⟨#[]⟩, .int .i64 0, .int .i64 0], 3, 32⟩
theorem tok47 : TOk Try.prog (47, ti47) := ⟨Try.underlying47, by kernel_rfl⟩
def ti48 : TI := ⟨.struct #[{ name := "S", type := 9, offset := 0, embedded := false, tag := "", pkgPath := "", byteOffset := 0 }, { name := "At", type := 3, offset := 1, embedded := false, tag := "", pkgPath := "", byteOffset := 16 }, { name := "Err", type := 3, offset := 2, embedded := false, tag := "", pkgPath := "", byteOffset := 24 }], .agg #[.string ⟨#[]⟩, .int .i64 0, .int .i64 0], 3, 32⟩
theorem tok48 : TOk Try.prog (48, ti48) := ⟨Try.underlying48, by kernel_rfl⟩
def ti49 : TI := ⟨.int .u64, .int .u64 0, 1, 8⟩
theorem tok49 : TOk Try.prog (49, ti49) := ⟨Try.underlying49, by kernel_rfl⟩
def ti50 : TI := ⟨.struct #[{ name := "Kind", type := 3, offset := 0, embedded := false, tag := "", pkgPath := "", byteOffset := 0 }, { name := "K", type := 3, offset := 1, embedded := false, tag := "", pkgPath := "", byteOffset := 8 }, { name := "N", type := 49, offset := 2, embedded := false, tag := "", pkgPath := "", byteOffset := 16 }, { name := "S", type := 9, offset := 3, embedded := false, tag := "", pkgPath := "", byteOffset := 24 }], .agg #[.int .i64 0, .int .i64 0, .int .u64 0, .string ⟨#[]⟩], 4, 40⟩
theorem tok50 : TOk Try.prog (50, ti50) := ⟨Try.underlying50, by kernel_rfl⟩
def ti51 : TI := ⟨.struct #[{ name := "Kind", type := 3, offset := 0, embedded := false, tag := "", pkgPath := "", byteOffset := 0 }, { name := "K", type := 3, offset := 1, embedded := false, tag := "", pkgPath := "", byteOffset := 8 }, { name := "N", type := 49, offset := 2, embedded := false, tag := "", pkgPath := "", byteOffset := 16 }, { name := "S", type := 9, offset := 3, embedded := false, tag := "", pkgPath := "", byteOffset := 24 }], .agg #[.int .i64 0, .int .i64 0, .int .u64 0, .string ⟨#[]⟩], 4, 40⟩
theorem tok51 : TOk Try.prog (51, ti51) := ⟨Try.underlying51, by kernel_rfl⟩
def ti55 : TI := ⟨.struct #[{ name := "memory", type := 27, offset := 0, embedded := true, tag := "", pkgPath := "carrack/wire", byteOffset := 0 }, { name := "s", type := 9, offset := 1, embedded := false, tag := "", pkgPath := "carrack/wire", byteOffset := 8 }], .agg #[.int .i64 0, .string ⟨#[]⟩], 2, 24⟩
theorem tok55 : TOk Try.prog (55, ti55) := ⟨Try.underlying55, by kernel_rfl⟩
def ti56 : TI := ⟨.struct #[{ name := "memory", type := 27, offset := 0, embedded := true, tag := "", pkgPath := "carrack/wire", byteOffset := 0 }, { name := "s", type := 9, offset := 1, embedded := false, tag := "", pkgPath := "carrack/wire", byteOffset := 8 }], .agg #[.int .i64 0, .string ⟨#[]⟩], 2, 24⟩
theorem tok56 : TOk Try.prog (56, ti56) := ⟨Try.underlying56, by kernel_rfl⟩
def ti67 : TI := ⟨.pointer 27, .pointer none, 1, 8⟩
theorem tok67 : TOk Try.prog (67, ti67) := ⟨Try.underlying67, by kernel_rfl⟩
def ti76 : TI := ⟨.pointer 5, .pointer none, 1, 8⟩
theorem tok76 : TOk Try.prog (76, ti76) := ⟨Try.underlying76, by kernel_rfl⟩
def ti77 : TI := ⟨.int .u64, .int .u64 0, 1, 8⟩
theorem tok77 : TOk Try.prog (77, ti77) := ⟨Try.underlying77, by kernel_rfl⟩
def ti86 : TI := ⟨.int .u32, .int .u32 0, 1, 4⟩
theorem tok86 : TOk Try.prog (86, ti86) := ⟨Try.underlying86, by kernel_rfl⟩
def Γ : Ty := [(2, ti2), (3, ti3), (4, ti4), (5, ti5), (9, ti9), (12, ti12), (21, ti21), (22, ti22), (25, ti25), (26, ti26), (27, ti27), (28, ti28), (29, ti29), (30, ti30), (31, ti31), (32, ti32), (33, ti33), (35, ti35), (40, ti40), (46, ti46), (47, ti47), (48, ti48), (49, ti49), (50, ti50), (51, ti51), (55, ti55), (56, ti56), (67, ti67), (76, ti76), (77, ti77), (86, ti86)]
theorem Γok : TyOk Try.prog Γ :=
  TyOk.cons_ tok2 <| TyOk.cons_ tok3 <| TyOk.cons_ tok4 <| TyOk.cons_ tok5 <| TyOk.cons_ tok9 <| TyOk.cons_ tok12 <| TyOk.cons_ tok21 <| TyOk.cons_ tok22 <| TyOk.cons_ tok25 <| TyOk.cons_ tok26 <| TyOk.cons_ tok27 <| TyOk.cons_ tok28 <| TyOk.cons_ tok29 <| TyOk.cons_ tok30 <| TyOk.cons_ tok31 <| TyOk.cons_ tok32 <| TyOk.cons_ tok33 <| TyOk.cons_ tok35 <| TyOk.cons_ tok40 <| TyOk.cons_ tok46 <| TyOk.cons_ tok47 <| TyOk.cons_ tok48 <| TyOk.cons_ tok49 <| TyOk.cons_ tok50 <| TyOk.cons_ tok51 <| TyOk.cons_ tok55 <| TyOk.cons_ tok56 <| TyOk.cons_ tok67 <| TyOk.cons_ tok76 <| TyOk.cons_ tok77 <| TyOk.cons_ tok86 <| TyOk.nil_ _
end Go.LX
