import Derived.Test.YtfbkkhpcmnnmfaaDoorProg
import Derived.Test.YtfbkkhpcmnnmfaaDoorLX
import Derived.KernelRfl
set_option maxRecDepth 100000
namespace Go.LX
open Go.Proofs

def ti2 : TI := ⟨.int .i64, .int .i64 0, 1, 8⟩
theorem tok2 : TOk Tryd.prog (2, ti2) := ⟨Tryd.underlying2, by kernel_rfl, (fun h => by cases h)⟩
def ti3 : TI := ⟨.int .i64, .int .i64 0, 1, 8⟩
theorem tok3 : TOk Tryd.prog (3, ti3) := ⟨Tryd.underlying3, by kernel_rfl, (fun h => by cases h)⟩
def ti4 : TI := ⟨.bool, .bool false, 1, 1⟩
theorem tok4 : TOk Tryd.prog (4, ti4) := ⟨Tryd.underlying4, by kernel_rfl, (fun h => by cases h)⟩
def ti5 : TI := ⟨.int .u8, .int .u8 0, 1, 1⟩
theorem tok5 : TOk Tryd.prog (5, ti5) := ⟨Tryd.underlying5, by kernel_rfl, (fun h => by cases h)⟩
def ti9 : TI := ⟨.string, .string ⟨#[]⟩, 1, 16⟩
theorem tok9 : TOk Tryd.prog (9, ti9) := ⟨Tryd.underlying9, by kernel_rfl, (fun h => by cases h)⟩
def ti12 : TI := ⟨.int .u64, .int .u64 0, 1, 8⟩
theorem tok12 : TOk Tryd.prog (12, ti12) := ⟨Tryd.underlying12, by kernel_rfl, (fun h => by cases h)⟩
def ti21 : TI := ⟨.int .i32, .int .i32 0, 1, 4⟩
theorem tok21 : TOk Tryd.prog (21, ti21) := ⟨Tryd.underlying21, by kernel_rfl, (fun h => by cases h)⟩
def ti22 : TI := ⟨.slice 9, .slice none 0 0, 1, 24⟩
theorem tok22 : TOk Tryd.prog (22, ti22) := ⟨Tryd.underlying22, by kernel_rfl, (fun h => by cases h)⟩
def ti26 : TI := ⟨.pointer 41, .pointer none, 1, 8⟩
theorem tok26 : TOk Tryd.prog (26, ti26) := ⟨Tryd.underlying26, by kernel_rfl, (fun h => by cases h)⟩
def ti31 : TI := ⟨.pointer 57, .pointer none, 1, 8⟩
theorem tok31 : TOk Tryd.prog (31, ti31) := ⟨Tryd.underlying31, by kernel_rfl, (fun h => by cases h)⟩
def ti36 : TI := ⟨.slice 44, .slice none 0 0, 1, 24⟩
theorem tok36 : TOk Tryd.prog (36, ti36) := ⟨Tryd.underlying36, by kernel_rfl, (fun h => by cases h)⟩
def ti39 : TI := ⟨.map 9 9, .map none, 1, 8⟩
theorem tok39 : TOk Tryd.prog (39, ti39) := ⟨Tryd.underlying39, by kernel_rfl, (fun h => by cases h)⟩
def ti40 : TI := ⟨.struct #[{ name := "K", type := 36, offset := 0, embedded := false, tag := "", pkgPath := "", byteOffset := 0 }, { name := "H", type := 36, offset := 1, embedded := false, tag := "", pkgPath := "", byteOffset := 24 }, { name := "Of", type := 39, offset := 2, embedded := false, tag := "", pkgPath := "", byteOffset := 48 }, { name := "Clash", type := 4, offset := 3, embedded := false, tag := "", pkgPath := "", byteOffset := 56 }], .agg #[.slice none 0 0, .slice none 0 0, .map none, .bool false], 4, 64⟩
theorem tok40 : TOk Tryd.prog (40, ti40) := ⟨Tryd.underlying40, by kernel_rfl, fun _ => ⟨by kernel_rfl, by kernel_rfl⟩⟩
def ti41 : TI := ⟨.struct #[{ name := "K", type := 36, offset := 0, embedded := false, tag := "", pkgPath := "", byteOffset := 0 }, { name := "H", type := 36, offset := 1, embedded := false, tag := "", pkgPath := "", byteOffset := 24 }, { name := "Of", type := 39, offset := 2, embedded := false, tag := "", pkgPath := "", byteOffset := 48 }, { name := "Clash", type := 4, offset := 3, embedded := false, tag := "", pkgPath := "", byteOffset := 56 }], .agg #[.slice none 0 0, .slice none 0 0, .map none, .bool false], 4, 64⟩
theorem tok41 : TOk Tryd.prog (41, ti41) := ⟨Tryd.underlying41, by kernel_rfl, fun _ => ⟨by kernel_rfl, by kernel_rfl⟩⟩
def ti43 : TI := ⟨.slice 5, .slice none 0 0, 1, 24⟩
theorem tok43 : TOk Tryd.prog (43, ti43) := ⟨Tryd.underlying43, by kernel_rfl, (fun h => by cases h)⟩
def ti44 : TI := ⟨.int .u32, .int .u32 0, 1, 4⟩
theorem tok44 : TOk Tryd.prog (44, ti44) := ⟨Tryd.underlying44, by kernel_rfl, (fun h => by cases h)⟩
def ti45 : TI := ⟨.int .u64, .int .u64 0, 1, 8⟩
theorem tok45 : TOk Tryd.prog (45, ti45) := ⟨Tryd.underlying45, by kernel_rfl, (fun h => by cases h)⟩
def ti46 : TI := ⟨.pointer 48, .pointer none, 1, 8⟩
theorem tok46 : TOk Tryd.prog (46, ti46) := ⟨Tryd.underlying46, by kernel_rfl, (fun h => by cases h)⟩
def ti47 : TI := ⟨.struct #[{ name := "addr", type := 46, offset := 0, embedded := false, tag := "", pkgPath := "strings", byteOffset := 0 }, { name := "buf", type := 43, offset := 1, embedded := false, tag := "", pkgPath := "strings", byteOffset := 8 }], .agg #[.pointer none, .slice none 0 0], 2, 32⟩
theorem tok47 : TOk Tryd.prog (47, ti47) := ⟨Tryd.underlying47, by kernel_rfl, fun _ => ⟨by kernel_rfl, by kernel_rfl⟩⟩
def ti48 : TI := ⟨.struct #[{ name := "addr", type := 46, offset := 0, embedded := false, tag := "", pkgPath := "strings", byteOffset := 0 }, { name := "buf", type := 43, offset := 1, embedded := false, tag := "", pkgPath := "strings", byteOffset := 8 }], .agg #[.pointer none, .slice none 0 0], 2, 32⟩
theorem tok48 : TOk Tryd.prog (48, ti48) := ⟨Tryd.underlying48, by kernel_rfl, fun _ => ⟨by kernel_rfl, by kernel_rfl⟩⟩
def ti52 : TI := ⟨.array 8 44, .agg #[.int .u32 0, .int .u32 0, .int .u32 0, .int .u32 0, .int .u32 0, .int .u32 0, .int .u32 0, .int .u32 0], 8, 32⟩
theorem tok52 : TOk Tryd.prog (52, ti52) := ⟨Tryd.underlying52, by kernel_rfl, (fun h => by cases h)⟩
def ti53 : TI := ⟨.struct #[{ name := "h", type := 52, offset := 0, embedded := false, tag := "", pkgPath := "carrack/sha", byteOffset := 0 }], .agg #[.int .u32 0, .int .u32 0, .int .u32 0, .int .u32 0, .int .u32 0, .int .u32 0, .int .u32 0, .int .u32 0], 8, 32⟩
theorem tok53 : TOk Tryd.prog (53, ti53) := ⟨Tryd.underlying53, by kernel_rfl, fun _ => ⟨by kernel_rfl, by kernel_rfl⟩⟩
def ti54 : TI := ⟨.struct #[{ name := "h", type := 52, offset := 0, embedded := false, tag := "", pkgPath := "carrack/sha", byteOffset := 0 }], .agg #[.int .u32 0, .int .u32 0, .int .u32 0, .int .u32 0, .int .u32 0, .int .u32 0, .int .u32 0, .int .u32 0], 8, 32⟩
theorem tok54 : TOk Tryd.prog (54, ti54) := ⟨Tryd.underlying54, by kernel_rfl, fun _ => ⟨by kernel_rfl, by kernel_rfl⟩⟩
def ti56 : TI := ⟨.struct #[{ name := "state", type := 54, offset := 0, embedded := true, tag := "", pkgPath := "carrack/sha", byteOffset := 0 }, { name := "rest", type := 9, offset := 8, embedded := false, tag := "", pkgPath := "carrack/sha", byteOffset := 32 }, { name := "n", type := 3, offset := 9, embedded := false, tag := "", pkgPath := "carrack/sha", byteOffset := 48 }], .agg #[.int .u32 0, .int .u32 0, .int .u32 0, .int .u32 0, .int .u32 0, .int .u32 0, .int .u32 0, .int .u32 0, .string ⟨#[]⟩, .int .i64 0], 10, 56⟩
theorem tok56 : TOk Tryd.prog (56, ti56) := ⟨Tryd.underlying56, by kernel_rfl, fun _ => ⟨by kernel_rfl, by kernel_rfl⟩⟩
def ti57 : TI := ⟨.struct #[{ name := "state", type := 54, offset := 0, embedded := true, tag := "", pkgPath := "carrack/sha", byteOffset := 0 }, { name := "rest", type := 9, offset := 8, embedded := false, tag := "", pkgPath := "carrack/sha", byteOffset := 32 }, { name := "n", type := 3, offset := 9, embedded := false, tag := "", pkgPath := "carrack/sha", byteOffset := 48 }], .agg #[.int .u32 0, .int .u32 0, .int .u32 0, .int .u32 0, .int .u32 0, .int .u32 0, .int .u32 0, .int .u32 0, .string ⟨#[]⟩, .int .i64 0], 10, 56⟩
theorem tok57 : TOk Tryd.prog (57, ti57) := ⟨Tryd.underlying57, by kernel_rfl, fun _ => ⟨by kernel_rfl, by kernel_rfl⟩⟩
def ti58 : TI := ⟨.int .u64, .int .u64 0, 1, 8⟩
theorem tok58 : TOk Tryd.prog (58, ti58) := ⟨Tryd.underlying58, by kernel_rfl, (fun h => by cases h)⟩
def ti60 : TI := ⟨.slice 58, .slice none 0 0, 1, 24⟩
theorem tok60 : TOk Tryd.prog (60, ti60) := ⟨Tryd.underlying60, by kernel_rfl, (fun h => by cases h)⟩
def ti64 : TI := ⟨.pointer 5, .pointer none, 1, 8⟩
theorem tok64 : TOk Tryd.prog (64, ti64) := ⟨Tryd.underlying64, by kernel_rfl, (fun h => by cases h)⟩
def ti65 : TI := ⟨.pointer 54, .pointer none, 1, 8⟩
theorem tok65 : TOk Tryd.prog (65, ti65) := ⟨Tryd.underlying65, by kernel_rfl, (fun h => by cases h)⟩
def ti66 : TI := ⟨.array 64 44, .agg ⟨List.replicate 64 (.int .u32 0)⟩, 64, 256⟩
theorem tok66 : TOk Tryd.prog (66, ti66) := ⟨Tryd.underlying66, by kernel_rfl, (fun h => by cases h)⟩
def Γ : Ty := [(2, ti2), (3, ti3), (4, ti4), (5, ti5), (9, ti9), (12, ti12), (21, ti21), (22, ti22), (26, ti26), (31, ti31), (36, ti36), (39, ti39), (40, ti40), (41, ti41), (43, ti43), (44, ti44), (45, ti45), (46, ti46), (47, ti47), (48, ti48), (52, ti52), (53, ti53), (54, ti54), (56, ti56), (57, ti57), (58, ti58), (60, ti60), (64, ti64), (65, ti65), (66, ti66)]
theorem Γok : TyOk Tryd.prog Γ :=
  TyOk.cons_ tok2 <| TyOk.cons_ tok3 <| TyOk.cons_ tok4 <| TyOk.cons_ tok5 <| TyOk.cons_ tok9 <| TyOk.cons_ tok12 <| TyOk.cons_ tok21 <| TyOk.cons_ tok22 <| TyOk.cons_ tok26 <| TyOk.cons_ tok31 <| TyOk.cons_ tok36 <| TyOk.cons_ tok39 <| TyOk.cons_ tok40 <| TyOk.cons_ tok41 <| TyOk.cons_ tok43 <| TyOk.cons_ tok44 <| TyOk.cons_ tok45 <| TyOk.cons_ tok46 <| TyOk.cons_ tok47 <| TyOk.cons_ tok48 <| TyOk.cons_ tok52 <| TyOk.cons_ tok53 <| TyOk.cons_ tok54 <| TyOk.cons_ tok56 <| TyOk.cons_ tok57 <| TyOk.cons_ tok58 <| TyOk.cons_ tok60 <| TyOk.cons_ tok64 <| TyOk.cons_ tok65 <| TyOk.cons_ tok66 <| TyOk.nil_ _
end Go.LX
