/- Own texts of this claim, in build order: Ty, Shelf, Lj, Da, Db, Dc, Dd, WireW, WireR, WireX, WireB, WireV, WireN, CrcMath. -/
import Derived.Test.YtpimpjcknammfaaGreatDoorX2
import Derived.Test.YtpimpjcknammfaaGreatDoorProg
import Derived.KernelRfl
import Derived.Shelf.Strings.Builder1
import Derived.Shelf.Strings.Builder2
import Derived.Shelf.Strings.OnBuilder
import Derived.Shelf.Small.Utf8
import Derived.Shelf.Small.Strs
import Derived.Shelf.Strings.BuilderF
import Derived.Shelf.Strings.Search1
import Derived.Shelf.Strings.Prefix
import Derived.Shelf.Bits.Mul64
import Derived.Shelf.Strings.Repeat
import Derived.Shelf.Unicode.DecodeSlow
section
set_option maxRecDepth 100000
namespace Go.LX
open Go.Proofs

def ti1 : TI := ⟨.func #[] #[] false, .nilFunc, 1, 8⟩
theorem tok1 : TOk Tryz.prog (1, ti1) := ⟨Tryz.underlying1, by kernel_rfl, (fun h => by cases h)⟩
def ti2 : TI := ⟨.int .i64, .int .i64 0, 1, 8⟩
theorem tok2 : TOk Tryz.prog (2, ti2) := ⟨Tryz.underlying2, by kernel_rfl, (fun h => by cases h)⟩
def ti3 : TI := ⟨.int .i64, .int .i64 0, 1, 8⟩
theorem tok3 : TOk Tryz.prog (3, ti3) := ⟨Tryz.underlying3, by kernel_rfl, (fun h => by cases h)⟩
def ti4 : TI := ⟨.bool, .bool false, 1, 1⟩
theorem tok4 : TOk Tryz.prog (4, ti4) := ⟨Tryz.underlying4, by kernel_rfl, (fun h => by cases h)⟩
def ti5 : TI := ⟨.int .u8, .int .u8 0, 1, 1⟩
theorem tok5 : TOk Tryz.prog (5, ti5) := ⟨Tryz.underlying5, by kernel_rfl, (fun h => by cases h)⟩
def ti9 : TI := ⟨.string, .string ⟨#[]⟩, 1, 16⟩
theorem tok9 : TOk Tryz.prog (9, ti9) := ⟨Tryz.underlying9, by kernel_rfl, (fun h => by cases h)⟩
def ti12 : TI := ⟨.int .u64, .int .u64 0, 1, 8⟩
theorem tok12 : TOk Tryz.prog (12, ti12) := ⟨Tryz.underlying12, by kernel_rfl, (fun h => by cases h)⟩
def ti21 : TI := ⟨.int .i32, .int .i32 0, 1, 4⟩
theorem tok21 : TOk Tryz.prog (21, ti21) := ⟨Tryz.underlying21, by kernel_rfl, (fun h => by cases h)⟩
def ti22 : TI := ⟨.int .u16, .int .u16 0, 1, 2⟩
theorem tok22 : TOk Tryz.prog (22, ti22) := ⟨Tryz.underlying22, by kernel_rfl, (fun h => by cases h)⟩
def ti23 : TI := ⟨.func #[] #[4] false, .nilFunc, 1, 8⟩
theorem tok23 : TOk Tryz.prog (23, ti23) := ⟨Tryz.underlying23, by kernel_rfl, (fun h => by cases h)⟩
def ti24 : TI := ⟨.pointer 33, .pointer none, 1, 8⟩
theorem tok24 : TOk Tryz.prog (24, ti24) := ⟨Tryz.underlying24, by kernel_rfl, (fun h => by cases h)⟩
def ti25 : TI := ⟨.func #[3, 3] #[24] false, .nilFunc, 1, 8⟩
theorem tok25 : TOk Tryz.prog (25, ti25) := ⟨Tryz.underlying25, by kernel_rfl, (fun h => by cases h)⟩
def ti26 : TI := ⟨.pointer 79, .pointer none, 1, 8⟩
theorem tok26 : TOk Tryz.prog (26, ti26) := ⟨Tryz.underlying26, by kernel_rfl, (fun h => by cases h)⟩
def ti27 : TI := ⟨.pointer 74, .pointer none, 1, 8⟩
theorem tok27 : TOk Tryz.prog (27, ti27) := ⟨Tryz.underlying27, by kernel_rfl, (fun h => by cases h)⟩
def ti28 : TI := ⟨.int .i64, .int .i64 0, 1, 8⟩
theorem tok28 : TOk Tryz.prog (28, ti28) := ⟨Tryz.underlying28, by kernel_rfl, (fun h => by cases h)⟩
def ti29 : TI := ⟨.slice 9, .slice none 0 0, 1, 24⟩
theorem tok29 : TOk Tryz.prog (29, ti29) := ⟨Tryz.underlying29, by kernel_rfl, (fun h => by cases h)⟩
def ti30 : TI := ⟨.pointer 59, .pointer none, 1, 8⟩
theorem tok30 : TOk Tryz.prog (30, ti30) := ⟨Tryz.underlying30, by kernel_rfl, (fun h => by cases h)⟩
def ti31 : TI := ⟨.pointer 63, .pointer none, 1, 8⟩
theorem tok31 : TOk Tryz.prog (31, ti31) := ⟨Tryz.underlying31, by kernel_rfl, (fun h => by cases h)⟩
def ti32 : TI := ⟨.struct #[{ name := "d", type := 26, offset := 0, embedded := false, tag := "", pkgPath := "carrack/carracklaw07", byteOffset := 0 }, { name := "w", type := 27, offset := 1, embedded := false, tag := "", pkgPath := "carrack/carracklaw07", byteOffset := 8 }, { name := "e", type := 28, offset := 2, embedded := false, tag := "", pkgPath := "carrack/carracklaw07", byteOffset := 16 }, { name := "records", type := 29, offset := 3, embedded := false, tag := "", pkgPath := "carrack/carracklaw07", byteOffset := 24 }, { name := "m", type := 30, offset := 4, embedded := false, tag := "", pkgPath := "carrack/carracklaw07", byteOffset := 48 }, { name := "v", type := 31, offset := 5, embedded := false, tag := "", pkgPath := "carrack/carracklaw07", byteOffset := 56 }], .agg #[.pointer none, .pointer none, .int .i64 0, .slice none 0 0, .pointer none, .pointer none], 6, 64⟩
theorem tok32 : TOk Tryz.prog (32, ti32) := ⟨Tryz.underlying32, by kernel_rfl, fun _ => ⟨by kernel_rfl, by kernel_rfl⟩⟩
def ti33 : TI := ⟨.struct #[{ name := "d", type := 26, offset := 0, embedded := false, tag := "", pkgPath := "carrack/carracklaw07", byteOffset := 0 }, { name := "w", type := 27, offset := 1, embedded := false, tag := "", pkgPath := "carrack/carracklaw07", byteOffset := 8 }, { name := "e", type := 28, offset := 2, embedded := false, tag := "", pkgPath := "carrack/carracklaw07", byteOffset := 16 }, { name := "records", type := 29, offset := 3, embedded := false, tag := "", pkgPath := "carrack/carracklaw07", byteOffset := 24 }, { name := "m", type := 30, offset := 4, embedded := false, tag := "", pkgPath := "carrack/carracklaw07", byteOffset := 48 }, { name := "v", type := 31, offset := 5, embedded := false, tag := "", pkgPath := "carrack/carracklaw07", byteOffset := 56 }], .agg #[.pointer none, .pointer none, .int .i64 0, .slice none 0 0, .pointer none, .pointer none], 6, 64⟩
theorem tok33 : TOk Tryz.prog (33, ti33) := ⟨Tryz.underlying33, by kernel_rfl, fun _ => ⟨by kernel_rfl, by kernel_rfl⟩⟩
def ti34 : TI := ⟨.func #[3, 3] #[3] false, .nilFunc, 1, 8⟩
theorem tok34 : TOk Tryz.prog (34, ti34) := ⟨Tryz.underlying34, by kernel_rfl, (fun h => by cases h)⟩
def ti35 : TI := ⟨.slice 5, .slice none 0 0, 1, 24⟩
theorem tok35 : TOk Tryz.prog (35, ti35) := ⟨Tryz.underlying35, by kernel_rfl, (fun h => by cases h)⟩
def ti36 : TI := ⟨.func #[9] #[28] false, .nilFunc, 1, 8⟩
theorem tok36 : TOk Tryz.prog (36, ti36) := ⟨Tryz.underlying36, by kernel_rfl, (fun h => by cases h)⟩
def ti37 : TI := ⟨.func #[3] #[4] false, .nilFunc, 1, 8⟩
theorem tok37 : TOk Tryz.prog (37, ti37) := ⟨Tryz.underlying37, by kernel_rfl, (fun h => by cases h)⟩
def ti38 : TI := ⟨.func #[] #[3] false, .nilFunc, 1, 8⟩
theorem tok38 : TOk Tryz.prog (38, ti38) := ⟨Tryz.underlying38, by kernel_rfl, (fun h => by cases h)⟩
def ti39 : TI := ⟨.func #[3, 3, 22] #[4] false, .nilFunc, 1, 8⟩
theorem tok39 : TOk Tryz.prog (39, ti39) := ⟨Tryz.underlying39, by kernel_rfl, (fun h => by cases h)⟩
def ti40 : TI := ⟨.slice 45, .slice none 0 0, 1, 24⟩
theorem tok40 : TOk Tryz.prog (40, ti40) := ⟨Tryz.underlying40, by kernel_rfl, (fun h => by cases h)⟩
def ti41 : TI := ⟨.func #[3, 3, 40] #[4] false, .nilFunc, 1, 8⟩
theorem tok41 : TOk Tryz.prog (41, ti41) := ⟨Tryz.underlying41, by kernel_rfl, (fun h => by cases h)⟩
def ti42 : TI := ⟨.slice 4, .slice none 0 0, 1, 24⟩
theorem tok42 : TOk Tryz.prog (42, ti42) := ⟨Tryz.underlying42, by kernel_rfl, (fun h => by cases h)⟩
def ti43 : TI := ⟨.slice 3, .slice none 0 0, 1, 24⟩
theorem tok43 : TOk Tryz.prog (43, ti43) := ⟨Tryz.underlying43, by kernel_rfl, (fun h => by cases h)⟩
def ti44 : TI := ⟨.struct #[{ name := "Kind", type := 3, offset := 0, embedded := false, tag := "", pkgPath := "", byteOffset := 0 }, { name := "N", type := 3, offset := 1, embedded := false, tag := "", pkgPath := "", byteOffset := 8 }, { name := "S", type := 9, offset := 2, embedded := false, tag := "", pkgPath := "", byteOffset := 16 }, { name := "Lasts", type := 42, offset := 3, embedded := false, tag := "", pkgPath := "", byteOffset := 32 }, { name := "Torn", type := 43, offset := 4, embedded := false, tag := "", pkgPath := "", byteOffset := 56 }], .agg #[.int .i64 0, .int .i64 0, .string ⟨#[]⟩, .slice none 0 0, .slice none 0 0], 5, 80⟩
theorem tok44 : TOk Tryz.prog (44, ti44) := ⟨Tryz.underlying44, by kernel_rfl, fun _ => ⟨by kernel_rfl, by kernel_rfl⟩⟩
def ti45 : TI := ⟨.struct #[{ name := "Kind", type := 3, offset := 0, embedded := false, tag := "", pkgPath := "", byteOffset := 0 }, { name := "N", type := 3, offset := 1, embedded := false, tag := "", pkgPath := "", byteOffset := 8 }, { name := "S", type := 9, offset := 2, embedded := false, tag := "", pkgPath := "", byteOffset := 16 }, { name := "Lasts", type := 42, offset := 3, embedded := false, tag := "", pkgPath := "", byteOffset := 32 }, { name := "Torn", type := 43, offset := 4, embedded := false, tag := "", pkgPath := "", byteOffset := 56 }], .agg #[.int .i64 0, .int .i64 0, .string ⟨#[]⟩, .slice none 0 0, .slice none 0 0], 5, 80⟩
theorem tok45 : TOk Tryz.prog (45, ti45) := ⟨Tryz.underlying45, by kernel_rfl, fun _ => ⟨by kernel_rfl, by kernel_rfl⟩⟩
def ti46 : TI := ⟨.func #[89] #[] true, .nilFunc, 1, 8⟩
theorem tok46 : TOk Tryz.prog (46, ti46) := ⟨Tryz.underlying46, by kernel_rfl, (fun h => by cases h)⟩
def ti48 : TI := ⟨.func #[26] #[27, 29, 28] false, .nilFunc, 1, 8⟩
theorem tok48 : TOk Tryz.prog (48, ti48) := ⟨Tryz.underlying48, by kernel_rfl, (fun h => by cases h)⟩
def ti49 : TI := ⟨.func #[29, 29] #[4] false, .nilFunc, 1, 8⟩
theorem tok49 : TOk Tryz.prog (49, ti49) := ⟨Tryz.underlying49, by kernel_rfl, (fun h => by cases h)⟩
def ti50 : TI := ⟨.int .u64, .int .u64 0, 1, 8⟩
theorem tok50 : TOk Tryz.prog (50, ti50) := ⟨Tryz.underlying50, by kernel_rfl, (fun h => by cases h)⟩
def ti51 : TI := ⟨.func #[] #[50] false, .nilFunc, 1, 8⟩
theorem tok51 : TOk Tryz.prog (51, ti51) := ⟨Tryz.underlying51, by kernel_rfl, (fun h => by cases h)⟩
def ti52 : TI := ⟨.func #[45] #[4] false, .nilFunc, 1, 8⟩
theorem tok52 : TOk Tryz.prog (52, ti52) := ⟨Tryz.underlying52, by kernel_rfl, (fun h => by cases h)⟩
def ti53 : TI := ⟨.func #[] #[9] false, .nilFunc, 1, 8⟩
theorem tok53 : TOk Tryz.prog (53, ti53) := ⟨Tryz.underlying53, by kernel_rfl, (fun h => by cases h)⟩
def ti54 : TI := ⟨.struct #[{ name := "Lasts", type := 4, offset := 0, embedded := false, tag := "", pkgPath := "", byteOffset := 0 }, { name := "Torn", type := 3, offset := 1, embedded := false, tag := "", pkgPath := "", byteOffset := 8 }], .agg #[.bool false, .int .i64 0], 2, 16⟩
theorem tok54 : TOk Tryz.prog (54, ti54) := ⟨Tryz.underlying54, by kernel_rfl, fun _ => ⟨by kernel_rfl, by kernel_rfl⟩⟩
def ti55 : TI := ⟨.struct #[{ name := "Lasts", type := 4, offset := 0, embedded := false, tag := "", pkgPath := "", byteOffset := 0 }, { name := "Torn", type := 3, offset := 1, embedded := false, tag := "", pkgPath := "", byteOffset := 8 }], .agg #[.bool false, .int .i64 0], 2, 16⟩
theorem tok55 : TOk Tryz.prog (55, ti55) := ⟨Tryz.underlying55, by kernel_rfl, fun _ => ⟨by kernel_rfl, by kernel_rfl⟩⟩
def ti56 : TI := ⟨.func #[3, 3, 40, 5] #[4] false, .nilFunc, 1, 8⟩
theorem tok56 : TOk Tryz.prog (56, ti56) := ⟨Tryz.underlying56, by kernel_rfl, (fun h => by cases h)⟩
def ti57 : TI := ⟨.slice 135, .slice none 0 0, 1, 24⟩
theorem tok57 : TOk Tryz.prog (57, ti57) := ⟨Tryz.underlying57, by kernel_rfl, (fun h => by cases h)⟩
def ti58 : TI := ⟨.struct #[{ name := "Size", type := 3, offset := 0, embedded := false, tag := "", pkgPath := "", byteOffset := 0 }, { name := "Sectors", type := 3, offset := 1, embedded := false, tag := "", pkgPath := "", byteOffset := 8 }, { name := "Stable", type := 9, offset := 2, embedded := false, tag := "", pkgPath := "", byteOffset := 16 }, { name := "Buffer", type := 57, offset := 3, embedded := false, tag := "", pkgPath := "", byteOffset := 32 }, { name := "Armed", type := 3, offset := 4, embedded := false, tag := "", pkgPath := "", byteOffset := 56 }], .agg #[.int .i64 0, .int .i64 0, .string ⟨#[]⟩, .slice none 0 0, .int .i64 0], 5, 64⟩
theorem tok58 : TOk Tryz.prog (58, ti58) := ⟨Tryz.underlying58, by kernel_rfl, fun _ => ⟨by kernel_rfl, by kernel_rfl⟩⟩
def ti59 : TI := ⟨.struct #[{ name := "Size", type := 3, offset := 0, embedded := false, tag := "", pkgPath := "", byteOffset := 0 }, { name := "Sectors", type := 3, offset := 1, embedded := false, tag := "", pkgPath := "", byteOffset := 8 }, { name := "Stable", type := 9, offset := 2, embedded := false, tag := "", pkgPath := "", byteOffset := 16 }, { name := "Buffer", type := 57, offset := 3, embedded := false, tag := "", pkgPath := "", byteOffset := 32 }, { name := "Armed", type := 3, offset := 4, embedded := false, tag := "", pkgPath := "", byteOffset := 56 }], .agg #[.int .i64 0, .int .i64 0, .string ⟨#[]⟩, .slice none 0 0, .int .i64 0], 5, 64⟩
theorem tok59 : TOk Tryz.prog (59, ti59) := ⟨Tryz.underlying59, by kernel_rfl, fun _ => ⟨by kernel_rfl, by kernel_rfl⟩⟩
def ti60 : TI := ⟨.struct #[{ name := "Gen", type := 50, offset := 0, embedded := false, tag := "", pkgPath := "", byteOffset := 0 }, { name := "Segment", type := 3, offset := 1, embedded := false, tag := "", pkgPath := "", byteOffset := 8 }], .agg #[.int .u64 0, .int .i64 0], 2, 16⟩
theorem tok60 : TOk Tryz.prog (60, ti60) := ⟨Tryz.underlying60, by kernel_rfl, fun _ => ⟨by kernel_rfl, by kernel_rfl⟩⟩
def ti61 : TI := ⟨.struct #[{ name := "Gen", type := 50, offset := 0, embedded := false, tag := "", pkgPath := "", byteOffset := 0 }, { name := "Segment", type := 3, offset := 1, embedded := false, tag := "", pkgPath := "", byteOffset := 8 }], .agg #[.int .u64 0, .int .i64 0], 2, 16⟩
theorem tok61 : TOk Tryz.prog (61, ti61) := ⟨Tryz.underlying61, by kernel_rfl, fun _ => ⟨by kernel_rfl, by kernel_rfl⟩⟩
def ti62 : TI := ⟨.struct #[{ name := "D", type := 30, offset := 0, embedded := false, tag := "", pkgPath := "", byteOffset := 0 }, { name := "H", type := 61, offset := 1, embedded := false, tag := "", pkgPath := "", byteOffset := 8 }, { name := "Slot", type := 3, offset := 3, embedded := false, tag := "", pkgPath := "", byteOffset := 24 }, { name := "Used", type := 3, offset := 4, embedded := false, tag := "", pkgPath := "", byteOffset := 32 }, { name := "Count", type := 3, offset := 5, embedded := false, tag := "", pkgPath := "", byteOffset := 40 }, { name := "Ready", type := 4, offset := 6, embedded := false, tag := "", pkgPath := "", byteOffset := 48 }, { name := "Broken", type := 4, offset := 7, embedded := false, tag := "", pkgPath := "", byteOffset := 49 }], .agg #[.pointer none, .int .u64 0, .int .i64 0, .int .i64 0, .int .i64 0, .int .i64 0, .bool false, .bool false], 8, 56⟩
theorem tok62 : TOk Tryz.prog (62, ti62) := ⟨Tryz.underlying62, by kernel_rfl, fun _ => ⟨by kernel_rfl, by kernel_rfl⟩⟩
def ti63 : TI := ⟨.struct #[{ name := "D", type := 30, offset := 0, embedded := false, tag := "", pkgPath := "", byteOffset := 0 }, { name := "H", type := 61, offset := 1, embedded := false, tag := "", pkgPath := "", byteOffset := 8 }, { name := "Slot", type := 3, offset := 3, embedded := false, tag := "", pkgPath := "", byteOffset := 24 }, { name := "Used", type := 3, offset := 4, embedded := false, tag := "", pkgPath := "", byteOffset := 32 }, { name := "Count", type := 3, offset := 5, embedded := false, tag := "", pkgPath := "", byteOffset := 40 }, { name := "Ready", type := 4, offset := 6, embedded := false, tag := "", pkgPath := "", byteOffset := 48 }, { name := "Broken", type := 4, offset := 7, embedded := false, tag := "", pkgPath := "", byteOffset := 49 }], .agg #[.pointer none, .int .u64 0, .int .i64 0, .int .i64 0, .int .i64 0, .int .i64 0, .bool false, .bool false], 8, 56⟩
theorem tok63 : TOk Tryz.prog (63, ti63) := ⟨Tryz.underlying63, by kernel_rfl, fun _ => ⟨by kernel_rfl, by kernel_rfl⟩⟩
def ti64 : TI := ⟨.func #[30] #[3] false, .nilFunc, 1, 8⟩
theorem tok64 : TOk Tryz.prog (64, ti64) := ⟨Tryz.underlying64, by kernel_rfl, (fun h => by cases h)⟩
def ti65 : TI := ⟨.func #[3, 3, 40, 3] #[4] false, .nilFunc, 1, 8⟩
theorem tok65 : TOk Tryz.prog (65, ti65) := ⟨Tryz.underlying65, by kernel_rfl, (fun h => by cases h)⟩
def ti67 : TI := ⟨.func #[3, 3] #[26, 28] false, .nilFunc, 1, 8⟩
theorem tok67 : TOk Tryz.prog (67, ti67) := ⟨Tryz.underlying67, by kernel_rfl, (fun h => by cases h)⟩
def ti68 : TI := ⟨.func #[3, 3] #[30] false, .nilFunc, 1, 8⟩
theorem tok68 : TOk Tryz.prog (68, ti68) := ⟨Tryz.underlying68, by kernel_rfl, (fun h => by cases h)⟩
def ti69 : TI := ⟨.func #[88] #[28] false, .nilFunc, 1, 8⟩
theorem tok69 : TOk Tryz.prog (69, ti69) := ⟨Tryz.underlying69, by kernel_rfl, (fun h => by cases h)⟩
def ti70 : TI := ⟨.struct #[{ name := "Disk", type := 26, offset := 0, embedded := true, tag := "", pkgPath := "", byteOffset := 0 }], .agg #[.pointer none], 1, 8⟩
theorem tok70 : TOk Tryz.prog (70, ti70) := ⟨Tryz.underlying70, by kernel_rfl, fun _ => ⟨by kernel_rfl, by kernel_rfl⟩⟩
def ti71 : TI := ⟨.struct #[{ name := "Disk", type := 26, offset := 0, embedded := true, tag := "", pkgPath := "", byteOffset := 0 }], .agg #[.pointer none], 1, 8⟩
theorem tok71 : TOk Tryz.prog (71, ti71) := ⟨Tryz.underlying71, by kernel_rfl, fun _ => ⟨by kernel_rfl, by kernel_rfl⟩⟩
def ti72 : TI := ⟨.struct #[{ name := "Gen", type := 50, offset := 0, embedded := false, tag := "", pkgPath := "", byteOffset := 0 }, { name := "Segment", type := 3, offset := 1, embedded := false, tag := "", pkgPath := "", byteOffset := 8 }], .agg #[.int .u64 0, .int .i64 0], 2, 16⟩
theorem tok72 : TOk Tryz.prog (72, ti72) := ⟨Tryz.underlying72, by kernel_rfl, fun _ => ⟨by kernel_rfl, by kernel_rfl⟩⟩
def ti73 : TI := ⟨.struct #[{ name := "store", type := 71, offset := 0, embedded := true, tag := "", pkgPath := "carrack/wal", byteOffset := 0 }, { name := "head", type := 72, offset := 1, embedded := false, tag := "", pkgPath := "carrack/wal", byteOffset := 8 }, { name := "slot", type := 3, offset := 3, embedded := false, tag := "", pkgPath := "carrack/wal", byteOffset := 24 }, { name := "used", type := 3, offset := 4, embedded := false, tag := "", pkgPath := "carrack/wal", byteOffset := 32 }, { name := "serial", type := 50, offset := 5, embedded := false, tag := "", pkgPath := "carrack/wal", byteOffset := 40 }, { name := "ready", type := 4, offset := 6, embedded := false, tag := "", pkgPath := "carrack/wal", byteOffset := 48 }, { name := "broken", type := 4, offset := 7, embedded := false, tag := "", pkgPath := "carrack/wal", byteOffset := 49 }], .agg #[.pointer none, .int .u64 0, .int .i64 0, .int .i64 0, .int .i64 0, .int .u64 0, .bool false, .bool false], 8, 56⟩
theorem tok73 : TOk Tryz.prog (73, ti73) := ⟨Tryz.underlying73, by kernel_rfl, fun _ => ⟨by kernel_rfl, by kernel_rfl⟩⟩
def ti74 : TI := ⟨.struct #[{ name := "store", type := 71, offset := 0, embedded := true, tag := "", pkgPath := "carrack/wal", byteOffset := 0 }, { name := "head", type := 72, offset := 1, embedded := false, tag := "", pkgPath := "carrack/wal", byteOffset := 8 }, { name := "slot", type := 3, offset := 3, embedded := false, tag := "", pkgPath := "carrack/wal", byteOffset := 24 }, { name := "used", type := 3, offset := 4, embedded := false, tag := "", pkgPath := "carrack/wal", byteOffset := 32 }, { name := "serial", type := 50, offset := 5, embedded := false, tag := "", pkgPath := "carrack/wal", byteOffset := 40 }, { name := "ready", type := 4, offset := 6, embedded := false, tag := "", pkgPath := "carrack/wal", byteOffset := 48 }, { name := "broken", type := 4, offset := 7, embedded := false, tag := "", pkgPath := "carrack/wal", byteOffset := 49 }], .agg #[.pointer none, .int .u64 0, .int .i64 0, .int .i64 0, .int .i64 0, .int .u64 0, .bool false, .bool false], 8, 56⟩
theorem tok74 : TOk Tryz.prog (74, ti74) := ⟨Tryz.underlying74, by kernel_rfl, fun _ => ⟨by kernel_rfl, by kernel_rfl⟩⟩
def ti75 : TI := ⟨.struct #[{ name := "size", type := 3, offset := 0, embedded := false, tag := "", pkgPath := "carrack/disk", byteOffset := 0 }, { name := "sectors", type := 3, offset := 1, embedded := false, tag := "", pkgPath := "carrack/disk", byteOffset := 8 }], .agg #[.int .i64 0, .int .i64 0], 2, 16⟩
theorem tok75 : TOk Tryz.prog (75, ti75) := ⟨Tryz.underlying75, by kernel_rfl, fun _ => ⟨by kernel_rfl, by kernel_rfl⟩⟩
def ti76 : TI := ⟨.struct #[{ name := "size", type := 3, offset := 0, embedded := false, tag := "", pkgPath := "carrack/disk", byteOffset := 0 }, { name := "sectors", type := 3, offset := 1, embedded := false, tag := "", pkgPath := "carrack/disk", byteOffset := 8 }], .agg #[.int .i64 0, .int .i64 0], 2, 16⟩
theorem tok76 : TOk Tryz.prog (76, ti76) := ⟨Tryz.underlying76, by kernel_rfl, fun _ => ⟨by kernel_rfl, by kernel_rfl⟩⟩
def ti77 : TI := ⟨.slice 91, .slice none 0 0, 1, 24⟩
theorem tok77 : TOk Tryz.prog (77, ti77) := ⟨Tryz.underlying77, by kernel_rfl, (fun h => by cases h)⟩
def ti78 : TI := ⟨.struct #[{ name := "geometry", type := 76, offset := 0, embedded := true, tag := "", pkgPath := "carrack/disk", byteOffset := 0 }, { name := "stable", type := 29, offset := 2, embedded := false, tag := "", pkgPath := "carrack/disk", byteOffset := 16 }, { name := "buffer", type := 77, offset := 3, embedded := false, tag := "", pkgPath := "carrack/disk", byteOffset := 40 }, { name := "armed", type := 3, offset := 4, embedded := false, tag := "", pkgPath := "carrack/disk", byteOffset := 64 }], .agg #[.int .i64 0, .int .i64 0, .slice none 0 0, .slice none 0 0, .int .i64 0], 5, 72⟩
theorem tok78 : TOk Tryz.prog (78, ti78) := ⟨Tryz.underlying78, by kernel_rfl, fun _ => ⟨by kernel_rfl, by kernel_rfl⟩⟩
def ti79 : TI := ⟨.struct #[{ name := "geometry", type := 76, offset := 0, embedded := true, tag := "", pkgPath := "carrack/disk", byteOffset := 0 }, { name := "stable", type := 29, offset := 2, embedded := false, tag := "", pkgPath := "carrack/disk", byteOffset := 16 }, { name := "buffer", type := 77, offset := 3, embedded := false, tag := "", pkgPath := "carrack/disk", byteOffset := 40 }, { name := "armed", type := 3, offset := 4, embedded := false, tag := "", pkgPath := "carrack/disk", byteOffset := 64 }], .agg #[.int .i64 0, .int .i64 0, .slice none 0 0, .slice none 0 0, .int .i64 0], 5, 72⟩
theorem tok79 : TOk Tryz.prog (79, ti79) := ⟨Tryz.underlying79, by kernel_rfl, fun _ => ⟨by kernel_rfl, by kernel_rfl⟩⟩
def ti81 : TI := ⟨.func #[72] #[72, 28] false, .nilFunc, 1, 8⟩
theorem tok81 : TOk Tryz.prog (81, ti81) := ⟨Tryz.underlying81, by kernel_rfl, (fun h => by cases h)⟩
def ti83 : TI := ⟨.func #[3, 50, 50, 9] #[29, 28] false, .nilFunc, 1, 8⟩
theorem tok83 : TOk Tryz.prog (83, ti83) := ⟨Tryz.underlying83, by kernel_rfl, (fun h => by cases h)⟩
def ti84 : TI := ⟨.func #[3, 29] #[28] true, .nilFunc, 1, 8⟩
theorem tok84 : TOk Tryz.prog (84, ti84) := ⟨Tryz.underlying84, by kernel_rfl, (fun h => by cases h)⟩
def ti85 : TI := ⟨.func #[3] #[3] false, .nilFunc, 1, 8⟩
theorem tok85 : TOk Tryz.prog (85, ti85) := ⟨Tryz.underlying85, by kernel_rfl, (fun h => by cases h)⟩
def ti87 : TI := ⟨.func #[3, 72] #[9, 28] false, .nilFunc, 1, 8⟩
theorem tok87 : TOk Tryz.prog (87, ti87) := ⟨Tryz.underlying87, by kernel_rfl, (fun h => by cases h)⟩
def ti88 : TI := ⟨.func #[] #[28] false, .nilFunc, 1, 8⟩
theorem tok88 : TOk Tryz.prog (88, ti88) := ⟨Tryz.underlying88, by kernel_rfl, (fun h => by cases h)⟩
def ti89 : TI := ⟨.slice 55, .slice none 0 0, 1, 24⟩
theorem tok89 : TOk Tryz.prog (89, ti89) := ⟨Tryz.underlying89, by kernel_rfl, (fun h => by cases h)⟩
def ti90 : TI := ⟨.struct #[{ name := "sector", type := 3, offset := 0, embedded := false, tag := "", pkgPath := "carrack/disk", byteOffset := 0 }, { name := "s", type := 9, offset := 1, embedded := false, tag := "", pkgPath := "carrack/disk", byteOffset := 8 }], .agg #[.int .i64 0, .string ⟨#[]⟩], 2, 24⟩
theorem tok90 : TOk Tryz.prog (90, ti90) := ⟨Tryz.underlying90, by kernel_rfl, fun _ => ⟨by kernel_rfl, by kernel_rfl⟩⟩
def ti91 : TI := ⟨.struct #[{ name := "sector", type := 3, offset := 0, embedded := false, tag := "", pkgPath := "carrack/disk", byteOffset := 0 }, { name := "s", type := 9, offset := 1, embedded := false, tag := "", pkgPath := "carrack/disk", byteOffset := 8 }], .agg #[.int .i64 0, .string ⟨#[]⟩], 2, 24⟩
theorem tok91 : TOk Tryz.prog (91, ti91) := ⟨Tryz.underlying91, by kernel_rfl, fun _ => ⟨by kernel_rfl, by kernel_rfl⟩⟩
def ti93 : TI := ⟨.func #[3, 29] #[72, 3] true, .nilFunc, 1, 8⟩
theorem tok93 : TOk Tryz.prog (93, ti93) := ⟨Tryz.underlying93, by kernel_rfl, (fun h => by cases h)⟩
def ti94 : TI := ⟨.func #[3, 3] #[9] false, .nilFunc, 1, 8⟩
theorem tok94 : TOk Tryz.prog (94, ti94) := ⟨Tryz.underlying94, by kernel_rfl, (fun h => by cases h)⟩
def ti96 : TI := ⟨.func #[3, 50, 9] #[29, 3] false, .nilFunc, 1, 8⟩
theorem tok96 : TOk Tryz.prog (96, ti96) := ⟨Tryz.underlying96, by kernel_rfl, (fun h => by cases h)⟩
def ti97 : TI := ⟨.func #[9] #[3] false, .nilFunc, 1, 8⟩
theorem tok97 : TOk Tryz.prog (97, ti97) := ⟨Tryz.underlying97, by kernel_rfl, (fun h => by cases h)⟩
def ti98 : TI := ⟨.func #[3] #[] false, .nilFunc, 1, 8⟩
theorem tok98 : TOk Tryz.prog (98, ti98) := ⟨Tryz.underlying98, by kernel_rfl, (fun h => by cases h)⟩
def ti99 : TI := ⟨.func #[45] #[89] false, .nilFunc, 1, 8⟩
theorem tok99 : TOk Tryz.prog (99, ti99) := ⟨Tryz.underlying99, by kernel_rfl, (fun h => by cases h)⟩
def ti100 : TI := ⟨.func #[89] #[] false, .nilFunc, 1, 8⟩
theorem tok100 : TOk Tryz.prog (100, ti100) := ⟨Tryz.underlying100, by kernel_rfl, (fun h => by cases h)⟩
def ti101 : TI := ⟨.func #[29, 9] #[9] false, .nilFunc, 1, 8⟩
theorem tok101 : TOk Tryz.prog (101, ti101) := ⟨Tryz.underlying101, by kernel_rfl, (fun h => by cases h)⟩
def ti102 : TI := ⟨.func #[9, 3] #[9] false, .nilFunc, 1, 8⟩
theorem tok102 : TOk Tryz.prog (102, ti102) := ⟨Tryz.underlying102, by kernel_rfl, (fun h => by cases h)⟩
def ti104 : TI := ⟨.func #[30] #[31, 29, 3] false, .nilFunc, 1, 8⟩
theorem tok104 : TOk Tryz.prog (104, ti104) := ⟨Tryz.underlying104, by kernel_rfl, (fun h => by cases h)⟩
def ti105 : TI := ⟨.func #[144] #[] false, .nilFunc, 1, 8⟩
theorem tok105 : TOk Tryz.prog (105, ti105) := ⟨Tryz.underlying105, by kernel_rfl, (fun h => by cases h)⟩
def ti106 : TI := ⟨.func #[144] #[] false, .nilFunc, 1, 8⟩
theorem tok106 : TOk Tryz.prog (106, ti106) := ⟨Tryz.underlying106, by kernel_rfl, (fun h => by cases h)⟩
def ti107 : TI := ⟨.func #[9, 3] #[106] false, .nilFunc, 1, 8⟩
theorem tok107 : TOk Tryz.prog (107, ti107) := ⟨Tryz.underlying107, by kernel_rfl, (fun h => by cases h)⟩
def ti108 : TI := ⟨.struct #[{ name := "e", type := 28, offset := 0, embedded := false, tag := "", pkgPath := "carrack/wire", byteOffset := 0 }], .agg #[.int .i64 0], 1, 8⟩
theorem tok108 : TOk Tryz.prog (108, ti108) := ⟨Tryz.underlying108, by kernel_rfl, fun _ => ⟨by kernel_rfl, by kernel_rfl⟩⟩
def ti109 : TI := ⟨.struct #[{ name := "e", type := 28, offset := 0, embedded := false, tag := "", pkgPath := "carrack/wire", byteOffset := 0 }], .agg #[.int .i64 0], 1, 8⟩
theorem tok109 : TOk Tryz.prog (109, ti109) := ⟨Tryz.underlying109, by kernel_rfl, fun _ => ⟨by kernel_rfl, by kernel_rfl⟩⟩
def ti110 : TI := ⟨.pointer 112, .pointer none, 1, 8⟩
theorem tok110 : TOk Tryz.prog (110, ti110) := ⟨Tryz.underlying110, by kernel_rfl, (fun h => by cases h)⟩
def ti111 : TI := ⟨.struct #[{ name := "addr", type := 110, offset := 0, embedded := false, tag := "", pkgPath := "strings", byteOffset := 0 }, { name := "buf", type := 35, offset := 1, embedded := false, tag := "", pkgPath := "strings", byteOffset := 8 }], .agg #[.pointer none, .slice none 0 0], 2, 32⟩
theorem tok111 : TOk Tryz.prog (111, ti111) := ⟨Tryz.underlying111, by kernel_rfl, fun _ => ⟨by kernel_rfl, by kernel_rfl⟩⟩
def ti112 : TI := ⟨.struct #[{ name := "addr", type := 110, offset := 0, embedded := false, tag := "", pkgPath := "strings", byteOffset := 0 }, { name := "buf", type := 35, offset := 1, embedded := false, tag := "", pkgPath := "strings", byteOffset := 8 }], .agg #[.pointer none, .slice none 0 0], 2, 32⟩
theorem tok112 : TOk Tryz.prog (112, ti112) := ⟨Tryz.underlying112, by kernel_rfl, fun _ => ⟨by kernel_rfl, by kernel_rfl⟩⟩
def ti113 : TI := ⟨.struct #[{ name := "m", type := 109, offset := 0, embedded := false, tag := "", pkgPath := "carrack/wire", byteOffset := 0 }, { name := "b", type := 112, offset := 1, embedded := false, tag := "", pkgPath := "carrack/wire", byteOffset := 8 }], .agg #[.int .i64 0, .pointer none, .slice none 0 0], 3, 40⟩
theorem tok113 : TOk Tryz.prog (113, ti113) := ⟨Tryz.underlying113, by kernel_rfl, fun _ => ⟨by kernel_rfl, by kernel_rfl⟩⟩
def ti114 : TI := ⟨.struct #[{ name := "m", type := 109, offset := 0, embedded := false, tag := "", pkgPath := "carrack/wire", byteOffset := 0 }, { name := "b", type := 112, offset := 1, embedded := false, tag := "", pkgPath := "carrack/wire", byteOffset := 8 }], .agg #[.int .i64 0, .pointer none, .slice none 0 0], 3, 40⟩
theorem tok114 : TOk Tryz.prog (114, ti114) := ⟨Tryz.underlying114, by kernel_rfl, fun _ => ⟨by kernel_rfl, by kernel_rfl⟩⟩
def ti115 : TI := ⟨.func #[9] #[] false, .nilFunc, 1, 8⟩
theorem tok115 : TOk Tryz.prog (115, ti115) := ⟨Tryz.underlying115, by kernel_rfl, (fun h => by cases h)⟩
def ti116 : TI := ⟨.func #[50] #[] false, .nilFunc, 1, 8⟩
theorem tok116 : TOk Tryz.prog (116, ti116) := ⟨Tryz.underlying116, by kernel_rfl, (fun h => by cases h)⟩
def ti117 : TI := ⟨.func #[] #[9, 28] false, .nilFunc, 1, 8⟩
theorem tok117 : TOk Tryz.prog (117, ti117) := ⟨Tryz.underlying117, by kernel_rfl, (fun h => by cases h)⟩
def ti118 : TI := ⟨.func #[9] #[9] false, .nilFunc, 1, 8⟩
theorem tok118 : TOk Tryz.prog (118, ti118) := ⟨Tryz.underlying118, by kernel_rfl, (fun h => by cases h)⟩
def ti119 : TI := ⟨.func #[3, 9] #[28] false, .nilFunc, 1, 8⟩
theorem tok119 : TOk Tryz.prog (119, ti119) := ⟨Tryz.underlying119, by kernel_rfl, (fun h => by cases h)⟩
def ti120 : TI := ⟨.func #[3, 9] #[72, 28] false, .nilFunc, 1, 8⟩
theorem tok120 : TOk Tryz.prog (120, ti120) := ⟨Tryz.underlying120, by kernel_rfl, (fun h => by cases h)⟩
def ti121 : TI := ⟨.func #[3] #[9, 28] false, .nilFunc, 1, 8⟩
theorem tok121 : TOk Tryz.prog (121, ti121) := ⟨Tryz.underlying121, by kernel_rfl, (fun h => by cases h)⟩
def ti125 : TI := ⟨.func #[9] #[3, 123] false, .nilFunc, 1, 8⟩
theorem tok125 : TOk Tryz.prog (125, ti125) := ⟨Tryz.underlying125, by kernel_rfl, (fun h => by cases h)⟩
def ti127 : TI := ⟨.func #[3, 50, 50, 9] #[9, 3] false, .nilFunc, 1, 8⟩
theorem tok127 : TOk Tryz.prog (127, ti127) := ⟨Tryz.underlying127, by kernel_rfl, (fun h => by cases h)⟩
def ti128 : TI := ⟨.func #[3, 50, 50, 9] #[29, 3] false, .nilFunc, 1, 8⟩
theorem tok128 : TOk Tryz.prog (128, ti128) := ⟨Tryz.underlying128, by kernel_rfl, (fun h => by cases h)⟩
def ti129 : TI := ⟨.func #[30, 3, 29] #[3] false, .nilFunc, 1, 8⟩
theorem tok129 : TOk Tryz.prog (129, ti129) := ⟨Tryz.underlying129, by kernel_rfl, (fun h => by cases h)⟩
def ti130 : TI := ⟨.func #[30, 61] #[3] false, .nilFunc, 1, 8⟩
theorem tok130 : TOk Tryz.prog (130, ti130) := ⟨Tryz.underlying130, by kernel_rfl, (fun h => by cases h)⟩
def ti132 : TI := ⟨.func #[61] #[61, 3] false, .nilFunc, 1, 8⟩
theorem tok132 : TOk Tryz.prog (132, ti132) := ⟨Tryz.underlying132, by kernel_rfl, (fun h => by cases h)⟩
def ti133 : TI := ⟨.func #[3, 61] #[9, 3] false, .nilFunc, 1, 8⟩
theorem tok133 : TOk Tryz.prog (133, ti133) := ⟨Tryz.underlying133, by kernel_rfl, (fun h => by cases h)⟩
def ti134 : TI := ⟨.struct #[{ name := "Sector", type := 3, offset := 0, embedded := false, tag := "", pkgPath := "", byteOffset := 0 }, { name := "S", type := 9, offset := 1, embedded := false, tag := "", pkgPath := "", byteOffset := 8 }], .agg #[.int .i64 0, .string ⟨#[]⟩], 2, 24⟩
theorem tok134 : TOk Tryz.prog (134, ti134) := ⟨Tryz.underlying134, by kernel_rfl, fun _ => ⟨by kernel_rfl, by kernel_rfl⟩⟩
def ti135 : TI := ⟨.struct #[{ name := "Sector", type := 3, offset := 0, embedded := false, tag := "", pkgPath := "", byteOffset := 0 }, { name := "S", type := 9, offset := 1, embedded := false, tag := "", pkgPath := "", byteOffset := 8 }], .agg #[.int .i64 0, .string ⟨#[]⟩], 2, 24⟩
theorem tok135 : TOk Tryz.prog (135, ti135) := ⟨Tryz.underlying135, by kernel_rfl, fun _ => ⟨by kernel_rfl, by kernel_rfl⟩⟩
def ti136 : TI := ⟨.func #[3, 9] #[] false, .nilFunc, 1, 8⟩
theorem tok136 : TOk Tryz.prog (136, ti136) := ⟨Tryz.underlying136, by kernel_rfl, (fun h => by cases h)⟩
def ti137 : TI := ⟨.int .u64, .int .u64 0, 1, 8⟩
theorem tok137 : TOk Tryz.prog (137, ti137) := ⟨Tryz.underlying137, by kernel_rfl, (fun h => by cases h)⟩
def ti139 : TI := ⟨.func #[137, 137] #[137, 137] false, .nilFunc, 1, 8⟩
theorem tok139 : TOk Tryz.prog (139, ti139) := ⟨Tryz.underlying139, by kernel_rfl, (fun h => by cases h)⟩
def ti140 : TI := ⟨.func #[9, 9] #[4] false, .nilFunc, 1, 8⟩
theorem tok140 : TOk Tryz.prog (140, ti140) := ⟨Tryz.underlying140, by kernel_rfl, (fun h => by cases h)⟩
def ti141 : TI := ⟨.func #[3] #[9, 3] false, .nilFunc, 1, 8⟩
theorem tok141 : TOk Tryz.prog (141, ti141) := ⟨Tryz.underlying141, by kernel_rfl, (fun h => by cases h)⟩
def ti142 : TI := ⟨.func #[3, 29] #[61, 3] false, .nilFunc, 1, 8⟩
theorem tok142 : TOk Tryz.prog (142, ti142) := ⟨Tryz.underlying142, by kernel_rfl, (fun h => by cases h)⟩
def ti143 : TI := ⟨.func #[30, 61] #[29, 3] false, .nilFunc, 1, 8⟩
theorem tok143 : TOk Tryz.prog (143, ti143) := ⟨Tryz.underlying143, by kernel_rfl, (fun h => by cases h)⟩
def ti144 : TI := ⟨.func #[3, 9] #[4] false, .nilFunc, 1, 8⟩
theorem tok144 : TOk Tryz.prog (144, ti144) := ⟨Tryz.underlying144, by kernel_rfl, (fun h => by cases h)⟩
def ti145 : TI := ⟨.pointer 114, .pointer none, 1, 8⟩
theorem tok145 : TOk Tryz.prog (145, ti145) := ⟨Tryz.underlying145, by kernel_rfl, (fun h => by cases h)⟩
def ti146 : TI := ⟨.func #[50, 3] #[] false, .nilFunc, 1, 8⟩
theorem tok146 : TOk Tryz.prog (146, ti146) := ⟨Tryz.underlying146, by kernel_rfl, (fun h => by cases h)⟩
def ti147 : TI := ⟨.func #[28] #[] false, .nilFunc, 1, 8⟩
theorem tok147 : TOk Tryz.prog (147, ti147) := ⟨Tryz.underlying147, by kernel_rfl, (fun h => by cases h)⟩
def ti148 : TI := ⟨.func #[149] #[9] false, .nilFunc, 1, 8⟩
theorem tok148 : TOk Tryz.prog (148, ti148) := ⟨Tryz.underlying148, by kernel_rfl, (fun h => by cases h)⟩
def ti149 : TI := ⟨.int .u32, .int .u32 0, 1, 4⟩
theorem tok149 : TOk Tryz.prog (149, ti149) := ⟨Tryz.underlying149, by kernel_rfl, (fun h => by cases h)⟩
def ti150 : TI := ⟨.func #[29] #[149] true, .nilFunc, 1, 8⟩
theorem tok150 : TOk Tryz.prog (150, ti150) := ⟨Tryz.underlying150, by kernel_rfl, (fun h => by cases h)⟩
def ti151 : TI := ⟨.func #[9] #[4] false, .nilFunc, 1, 8⟩
theorem tok151 : TOk Tryz.prog (151, ti151) := ⟨Tryz.underlying151, by kernel_rfl, (fun h => by cases h)⟩
def ti152 : TI := ⟨.pointer 172, .pointer none, 1, 8⟩
theorem tok152 : TOk Tryz.prog (152, ti152) := ⟨Tryz.underlying152, by kernel_rfl, (fun h => by cases h)⟩
def ti153 : TI := ⟨.func #[9] #[152] false, .nilFunc, 1, 8⟩
theorem tok153 : TOk Tryz.prog (153, ti153) := ⟨Tryz.underlying153, by kernel_rfl, (fun h => by cases h)⟩
def ti154 : TI := ⟨.pointer 5, .pointer none, 1, 8⟩
theorem tok154 : TOk Tryz.prog (154, ti154) := ⟨Tryz.underlying154, by kernel_rfl, (fun h => by cases h)⟩
def ti155 : TI := ⟨.struct #[{ name := "Gen", type := 50, offset := 0, embedded := false, tag := "", pkgPath := "", byteOffset := 0 }, { name := "Serial", type := 50, offset := 1, embedded := false, tag := "", pkgPath := "", byteOffset := 8 }, { name := "Part", type := 3, offset := 2, embedded := false, tag := "", pkgPath := "", byteOffset := 16 }, { name := "Parts", type := 3, offset := 3, embedded := false, tag := "", pkgPath := "", byteOffset := 24 }, { name := "Bytes", type := 9, offset := 4, embedded := false, tag := "", pkgPath := "", byteOffset := 32 }], .agg #[.int .u64 0, .int .u64 0, .int .i64 0, .int .i64 0, .string ⟨#[]⟩], 5, 48⟩
theorem tok155 : TOk Tryz.prog (155, ti155) := ⟨Tryz.underlying155, by kernel_rfl, fun _ => ⟨by kernel_rfl, by kernel_rfl⟩⟩
def ti156 : TI := ⟨.struct #[{ name := "Gen", type := 50, offset := 0, embedded := false, tag := "", pkgPath := "", byteOffset := 0 }, { name := "Serial", type := 50, offset := 1, embedded := false, tag := "", pkgPath := "", byteOffset := 8 }, { name := "Part", type := 3, offset := 2, embedded := false, tag := "", pkgPath := "", byteOffset := 16 }, { name := "Parts", type := 3, offset := 3, embedded := false, tag := "", pkgPath := "", byteOffset := 24 }, { name := "Bytes", type := 9, offset := 4, embedded := false, tag := "", pkgPath := "", byteOffset := 32 }], .agg #[.int .u64 0, .int .u64 0, .int .i64 0, .int .i64 0, .string ⟨#[]⟩], 5, 48⟩
theorem tok156 : TOk Tryz.prog (156, ti156) := ⟨Tryz.underlying156, by kernel_rfl, fun _ => ⟨by kernel_rfl, by kernel_rfl⟩⟩
def ti158 : TI := ⟨.func #[3, 9] #[156, 28] false, .nilFunc, 1, 8⟩
theorem tok158 : TOk Tryz.prog (158, ti158) := ⟨Tryz.underlying158, by kernel_rfl, (fun h => by cases h)⟩
def ti159 : TI := ⟨.func #[3, 50, 50, 3, 3, 9] #[9] false, .nilFunc, 1, 8⟩
theorem tok159 : TOk Tryz.prog (159, ti159) := ⟨Tryz.underlying159, by kernel_rfl, (fun h => by cases h)⟩
def ti160 : TI := ⟨.func #[3, 9] #[3] false, .nilFunc, 1, 8⟩
theorem tok160 : TOk Tryz.prog (160, ti160) := ⟨Tryz.underlying160, by kernel_rfl, (fun h => by cases h)⟩
def ti161 : TI := ⟨.func #[50, 3] #[9] false, .nilFunc, 1, 8⟩
theorem tok161 : TOk Tryz.prog (161, ti161) := ⟨Tryz.underlying161, by kernel_rfl, (fun h => by cases h)⟩
def ti163 : TI := ⟨.func #[149, 149] #[149, 149] false, .nilFunc, 1, 8⟩
theorem tok163 : TOk Tryz.prog (163, ti163) := ⟨Tryz.underlying163, by kernel_rfl, (fun h => by cases h)⟩
def ti165 : TI := ⟨.func #[50, 50] #[50, 50] false, .nilFunc, 1, 8⟩
theorem tok165 : TOk Tryz.prog (165, ti165) := ⟨Tryz.underlying165, by kernel_rfl, (fun h => by cases h)⟩
def ti166 : TI := ⟨.func #[3, 9] #[61, 3] false, .nilFunc, 1, 8⟩
theorem tok166 : TOk Tryz.prog (166, ti166) := ⟨Tryz.underlying166, by kernel_rfl, (fun h => by cases h)⟩
def ti167 : TI := ⟨.func #[5] #[123] false, .nilFunc, 1, 8⟩
theorem tok167 : TOk Tryz.prog (167, ti167) := ⟨Tryz.underlying167, by kernel_rfl, (fun h => by cases h)⟩
def ti168 : TI := ⟨.pointer 109, .pointer none, 1, 8⟩
theorem tok168 : TOk Tryz.prog (168, ti168) := ⟨Tryz.underlying168, by kernel_rfl, (fun h => by cases h)⟩
def ti169 : TI := ⟨.array 4 5, .agg #[.int .u8 0, .int .u8 0, .int .u8 0, .int .u8 0], 4, 4⟩
theorem tok169 : TOk Tryz.prog (169, ti169) := ⟨Tryz.underlying169, by kernel_rfl, (fun h => by cases h)⟩
def ti170 : TI := ⟨.func #[149, 9] #[149] false, .nilFunc, 1, 8⟩
theorem tok170 : TOk Tryz.prog (170, ti170) := ⟨Tryz.underlying170, by kernel_rfl, (fun h => by cases h)⟩
def ti171 : TI := ⟨.struct #[{ name := "memory", type := 109, offset := 0, embedded := true, tag := "", pkgPath := "carrack/wire", byteOffset := 0 }, { name := "s", type := 9, offset := 1, embedded := false, tag := "", pkgPath := "carrack/wire", byteOffset := 8 }], .agg #[.int .i64 0, .string ⟨#[]⟩], 2, 24⟩
theorem tok171 : TOk Tryz.prog (171, ti171) := ⟨Tryz.underlying171, by kernel_rfl, fun _ => ⟨by kernel_rfl, by kernel_rfl⟩⟩
def ti172 : TI := ⟨.struct #[{ name := "memory", type := 109, offset := 0, embedded := true, tag := "", pkgPath := "carrack/wire", byteOffset := 0 }, { name := "s", type := 9, offset := 1, embedded := false, tag := "", pkgPath := "carrack/wire", byteOffset := 8 }], .agg #[.int .i64 0, .string ⟨#[]⟩], 2, 24⟩
theorem tok172 : TOk Tryz.prog (172, ti172) := ⟨Tryz.underlying172, by kernel_rfl, fun _ => ⟨by kernel_rfl, by kernel_rfl⟩⟩
def ti173 : TI := ⟨.func #[3] #[50] false, .nilFunc, 1, 8⟩
theorem tok173 : TOk Tryz.prog (173, ti173) := ⟨Tryz.underlying173, by kernel_rfl, (fun h => by cases h)⟩
def ti175 : TI := ⟨.func #[174] #[174] false, .nilFunc, 1, 8⟩
theorem tok175 : TOk Tryz.prog (175, ti175) := ⟨Tryz.underlying175, by kernel_rfl, (fun h => by cases h)⟩
def ti176 : TI := ⟨.func #[3] #[9] false, .nilFunc, 1, 8⟩
theorem tok176 : TOk Tryz.prog (176, ti176) := ⟨Tryz.underlying176, by kernel_rfl, (fun h => by cases h)⟩
def ti177 : TI := ⟨.func #[9, 9] #[9] false, .nilFunc, 1, 8⟩
theorem tok177 : TOk Tryz.prog (177, ti177) := ⟨Tryz.underlying177, by kernel_rfl, (fun h => by cases h)⟩
def ti178 : TI := ⟨.func #[9] #[149] false, .nilFunc, 1, 8⟩
theorem tok178 : TOk Tryz.prog (178, ti178) := ⟨Tryz.underlying178, by kernel_rfl, (fun h => by cases h)⟩
def ti179 : TI := ⟨.func #[3] #[35] false, .nilFunc, 1, 8⟩
theorem tok179 : TOk Tryz.prog (179, ti179) := ⟨Tryz.underlying179, by kernel_rfl, (fun h => by cases h)⟩
def ti180 : TI := ⟨.func #[9] #[50] false, .nilFunc, 1, 8⟩
theorem tok180 : TOk Tryz.prog (180, ti180) := ⟨Tryz.underlying180, by kernel_rfl, (fun h => by cases h)⟩
def ti181 : TI := ⟨.array 256 149, .agg ⟨List.replicate 256 (.int .u32 0)⟩, 256, 1024⟩
theorem tok181 : TOk Tryz.prog (181, ti181) := ⟨Tryz.underlying181, by kernel_rfl, (fun h => by cases h)⟩
def ti182 : TI := ⟨.func #[] #[181] false, .nilFunc, 1, 8⟩
theorem tok182 : TOk Tryz.prog (182, ti182) := ⟨Tryz.underlying182, by kernel_rfl, (fun h => by cases h)⟩
def ti183 : TI := ⟨.func #[9, 5] #[9] false, .nilFunc, 1, 8⟩
theorem tok183 : TOk Tryz.prog (183, ti183) := ⟨Tryz.underlying183, by kernel_rfl, (fun h => by cases h)⟩
def ti184 : TI := ⟨.array 256 4, .agg ⟨List.replicate 256 (.bool false)⟩, 256, 256⟩
theorem tok184 : TOk Tryz.prog (184, ti184) := ⟨Tryz.underlying184, by kernel_rfl, (fun h => by cases h)⟩
def ti185 : TI := ⟨.array 256 4, .agg ⟨List.replicate 256 (.bool false)⟩, 256, 256⟩
theorem tok185 : TOk Tryz.prog (185, ti185) := ⟨Tryz.underlying185, by kernel_rfl, (fun h => by cases h)⟩
def ti187 : TI := ⟨.func #[9] #[185, 4] false, .nilFunc, 1, 8⟩
theorem tok187 : TOk Tryz.prog (187, ti187) := ⟨Tryz.underlying187, by kernel_rfl, (fun h => by cases h)⟩
def ti188 : TI := ⟨.func #[9, 189] #[9] false, .nilFunc, 1, 8⟩
theorem tok188 : TOk Tryz.prog (188, ti188) := ⟨Tryz.underlying188, by kernel_rfl, (fun h => by cases h)⟩
def ti189 : TI := ⟨.pointer 185, .pointer none, 1, 8⟩
theorem tok189 : TOk Tryz.prog (189, ti189) := ⟨Tryz.underlying189, by kernel_rfl, (fun h => by cases h)⟩
def ti190 : TI := ⟨.struct #[{ name := "Gen", type := 50, offset := 0, embedded := false, tag := "", pkgPath := "", byteOffset := 0 }, { name := "Serial", type := 50, offset := 1, embedded := false, tag := "", pkgPath := "", byteOffset := 8 }, { name := "Part", type := 3, offset := 2, embedded := false, tag := "", pkgPath := "", byteOffset := 16 }, { name := "Parts", type := 3, offset := 3, embedded := false, tag := "", pkgPath := "", byteOffset := 24 }, { name := "Bytes", type := 9, offset := 4, embedded := false, tag := "", pkgPath := "", byteOffset := 32 }], .agg #[.int .u64 0, .int .u64 0, .int .i64 0, .int .i64 0, .string ⟨#[]⟩], 5, 48⟩
theorem tok190 : TOk Tryz.prog (190, ti190) := ⟨Tryz.underlying190, by kernel_rfl, fun _ => ⟨by kernel_rfl, by kernel_rfl⟩⟩
def ti192 : TI := ⟨.func #[3, 9] #[190, 3] false, .nilFunc, 1, 8⟩
theorem tok192 : TOk Tryz.prog (192, ti192) := ⟨Tryz.underlying192, by kernel_rfl, (fun h => by cases h)⟩
def ti193 : TI := ⟨.func #[5] #[4] false, .nilFunc, 1, 8⟩
theorem tok193 : TOk Tryz.prog (193, ti193) := ⟨Tryz.underlying193, by kernel_rfl, (fun h => by cases h)⟩
def ti195 : TI := ⟨.func #[9] #[21, 3] false, .nilFunc, 1, 8⟩
theorem tok195 : TOk Tryz.prog (195, ti195) := ⟨Tryz.underlying195, by kernel_rfl, (fun h => by cases h)⟩
def ti196 : TI := ⟨.func #[9, 21] #[4] false, .nilFunc, 1, 8⟩
theorem tok196 : TOk Tryz.prog (196, ti196) := ⟨Tryz.underlying196, by kernel_rfl, (fun h => by cases h)⟩
def ti197 : TI := ⟨.func #[9, 21] #[3] false, .nilFunc, 1, 8⟩
theorem tok197 : TOk Tryz.prog (197, ti197) := ⟨Tryz.underlying197, by kernel_rfl, (fun h => by cases h)⟩
def ti198 : TI := ⟨.func #[149] #[149] false, .nilFunc, 1, 8⟩
theorem tok198 : TOk Tryz.prog (198, ti198) := ⟨Tryz.underlying198, by kernel_rfl, (fun h => by cases h)⟩
def ti199 : TI := ⟨.array 256 5, .agg ⟨List.replicate 256 (.int .u8 0)⟩, 256, 256⟩
theorem tok199 : TOk Tryz.prog (199, ti199) := ⟨Tryz.underlying199, by kernel_rfl, (fun h => by cases h)⟩
def ti200 : TI := ⟨.struct #[{ name := "lo", type := 5, offset := 0, embedded := false, tag := "", pkgPath := "unicode/utf8", byteOffset := 0 }, { name := "hi", type := 5, offset := 1, embedded := false, tag := "", pkgPath := "unicode/utf8", byteOffset := 1 }], .agg #[.int .u8 0, .int .u8 0], 2, 2⟩
theorem tok200 : TOk Tryz.prog (200, ti200) := ⟨Tryz.underlying200, by kernel_rfl, fun _ => ⟨by kernel_rfl, by kernel_rfl⟩⟩
def ti201 : TI := ⟨.struct #[{ name := "lo", type := 5, offset := 0, embedded := false, tag := "", pkgPath := "unicode/utf8", byteOffset := 0 }, { name := "hi", type := 5, offset := 1, embedded := false, tag := "", pkgPath := "unicode/utf8", byteOffset := 1 }], .agg #[.int .u8 0, .int .u8 0], 2, 2⟩
theorem tok201 : TOk Tryz.prog (201, ti201) := ⟨Tryz.underlying201, by kernel_rfl, fun _ => ⟨by kernel_rfl, by kernel_rfl⟩⟩
def ti202 : TI := ⟨.array 16 201, .agg ⟨List.replicate 32 (.int .u8 0)⟩, 32, 32⟩
theorem tok202 : TOk Tryz.prog (202, ti202) := ⟨Tryz.underlying202, by kernel_rfl, (fun h => by cases h)⟩
def ti203 : TI := ⟨.func #[9, 5] #[3] false, .nilFunc, 1, 8⟩
theorem tok203 : TOk Tryz.prog (203, ti203) := ⟨Tryz.underlying203, by kernel_rfl, (fun h => by cases h)⟩
def ti204 : TI := ⟨.func #[21] #[4] false, .nilFunc, 1, 8⟩
theorem tok204 : TOk Tryz.prog (204, ti204) := ⟨Tryz.underlying204, by kernel_rfl, (fun h => by cases h)⟩
def ti205 : TI := ⟨.func #[9, 9] #[3] false, .nilFunc, 1, 8⟩
theorem tok205 : TOk Tryz.prog (205, ti205) := ⟨Tryz.underlying205, by kernel_rfl, (fun h => by cases h)⟩
def ti213 : TI := ⟨.func #[174, 174] #[4] false, .nilFunc, 1, 8⟩
theorem tok213 : TOk Tryz.prog (213, ti213) := ⟨Tryz.underlying213, by kernel_rfl, (fun h => by cases h)⟩
def Γ : Ty := [(1, ti1), (2, ti2), (3, ti3), (4, ti4), (5, ti5), (9, ti9), (12, ti12), (21, ti21), (22, ti22), (23, ti23), (24, ti24), (25, ti25), (26, ti26), (27, ti27), (28, ti28), (29, ti29), (30, ti30), (31, ti31), (32, ti32), (33, ti33), (34, ti34), (35, ti35), (36, ti36), (37, ti37), (38, ti38), (39, ti39), (40, ti40), (41, ti41), (42, ti42), (43, ti43), (44, ti44), (45, ti45), (46, ti46), (48, ti48), (49, ti49), (50, ti50), (51, ti51), (52, ti52), (53, ti53), (54, ti54), (55, ti55), (56, ti56), (57, ti57), (58, ti58), (59, ti59), (60, ti60), (61, ti61), (62, ti62), (63, ti63), (64, ti64), (65, ti65), (67, ti67), (68, ti68), (69, ti69), (70, ti70), (71, ti71), (72, ti72), (73, ti73), (74, ti74), (75, ti75), (76, ti76), (77, ti77), (78, ti78), (79, ti79), (81, ti81), (83, ti83), (84, ti84), (85, ti85), (87, ti87), (88, ti88), (89, ti89), (90, ti90), (91, ti91), (93, ti93), (94, ti94), (96, ti96), (97, ti97), (98, ti98), (99, ti99), (100, ti100), (101, ti101), (102, ti102), (104, ti104), (105, ti105), (106, ti106), (107, ti107), (108, ti108), (109, ti109), (110, ti110), (111, ti111), (112, ti112), (113, ti113), (114, ti114), (115, ti115), (116, ti116), (117, ti117), (118, ti118), (119, ti119), (120, ti120), (121, ti121), (125, ti125), (127, ti127), (128, ti128), (129, ti129), (130, ti130), (132, ti132), (133, ti133), (134, ti134), (135, ti135), (136, ti136), (137, ti137), (139, ti139), (140, ti140), (141, ti141), (142, ti142), (143, ti143), (144, ti144), (145, ti145), (146, ti146), (147, ti147), (148, ti148), (149, ti149), (150, ti150), (151, ti151), (152, ti152), (153, ti153), (154, ti154), (155, ti155), (156, ti156), (158, ti158), (159, ti159), (160, ti160), (161, ti161), (163, ti163), (165, ti165), (166, ti166), (167, ti167), (168, ti168), (169, ti169), (170, ti170), (171, ti171), (172, ti172), (173, ti173), (175, ti175), (176, ti176), (177, ti177), (178, ti178), (179, ti179), (180, ti180), (181, ti181), (182, ti182), (183, ti183), (184, ti184), (185, ti185), (187, ti187), (188, ti188), (189, ti189), (190, ti190), (192, ti192), (193, ti193), (195, ti195), (196, ti196), (197, ti197), (198, ti198), (199, ti199), (200, ti200), (201, ti201), (202, ti202), (203, ti203), (204, ti204), (205, ti205), (213, ti213)]
theorem Γok : TyOk Tryz.prog Γ :=
  TyOk.cons_ tok1 <| TyOk.cons_ tok2 <| TyOk.cons_ tok3 <| TyOk.cons_ tok4 <| TyOk.cons_ tok5 <| TyOk.cons_ tok9 <| TyOk.cons_ tok12 <| TyOk.cons_ tok21 <| TyOk.cons_ tok22 <| TyOk.cons_ tok23 <| TyOk.cons_ tok24 <| TyOk.cons_ tok25 <| TyOk.cons_ tok26 <| TyOk.cons_ tok27 <| TyOk.cons_ tok28 <| TyOk.cons_ tok29 <| TyOk.cons_ tok30 <| TyOk.cons_ tok31 <| TyOk.cons_ tok32 <| TyOk.cons_ tok33 <| TyOk.cons_ tok34 <| TyOk.cons_ tok35 <| TyOk.cons_ tok36 <| TyOk.cons_ tok37 <| TyOk.cons_ tok38 <| TyOk.cons_ tok39 <| TyOk.cons_ tok40 <| TyOk.cons_ tok41 <| TyOk.cons_ tok42 <| TyOk.cons_ tok43 <| TyOk.cons_ tok44 <| TyOk.cons_ tok45 <| TyOk.cons_ tok46 <| TyOk.cons_ tok48 <| TyOk.cons_ tok49 <| TyOk.cons_ tok50 <| TyOk.cons_ tok51 <| TyOk.cons_ tok52 <| TyOk.cons_ tok53 <| TyOk.cons_ tok54 <| TyOk.cons_ tok55 <| TyOk.cons_ tok56 <| TyOk.cons_ tok57 <| TyOk.cons_ tok58 <| TyOk.cons_ tok59 <| TyOk.cons_ tok60 <| TyOk.cons_ tok61 <| TyOk.cons_ tok62 <| TyOk.cons_ tok63 <| TyOk.cons_ tok64 <| TyOk.cons_ tok65 <| TyOk.cons_ tok67 <| TyOk.cons_ tok68 <| TyOk.cons_ tok69 <| TyOk.cons_ tok70 <| TyOk.cons_ tok71 <| TyOk.cons_ tok72 <| TyOk.cons_ tok73 <| TyOk.cons_ tok74 <| TyOk.cons_ tok75 <| TyOk.cons_ tok76 <| TyOk.cons_ tok77 <| TyOk.cons_ tok78 <| TyOk.cons_ tok79 <| TyOk.cons_ tok81 <| TyOk.cons_ tok83 <| TyOk.cons_ tok84 <| TyOk.cons_ tok85 <| TyOk.cons_ tok87 <| TyOk.cons_ tok88 <| TyOk.cons_ tok89 <| TyOk.cons_ tok90 <| TyOk.cons_ tok91 <| TyOk.cons_ tok93 <| TyOk.cons_ tok94 <| TyOk.cons_ tok96 <| TyOk.cons_ tok97 <| TyOk.cons_ tok98 <| TyOk.cons_ tok99 <| TyOk.cons_ tok100 <| TyOk.cons_ tok101 <| TyOk.cons_ tok102 <| TyOk.cons_ tok104 <| TyOk.cons_ tok105 <| TyOk.cons_ tok106 <| TyOk.cons_ tok107 <| TyOk.cons_ tok108 <| TyOk.cons_ tok109 <| TyOk.cons_ tok110 <| TyOk.cons_ tok111 <| TyOk.cons_ tok112 <| TyOk.cons_ tok113 <| TyOk.cons_ tok114 <| TyOk.cons_ tok115 <| TyOk.cons_ tok116 <| TyOk.cons_ tok117 <| TyOk.cons_ tok118 <| TyOk.cons_ tok119 <| TyOk.cons_ tok120 <| TyOk.cons_ tok121 <| TyOk.cons_ tok125 <| TyOk.cons_ tok127 <| TyOk.cons_ tok128 <| TyOk.cons_ tok129 <| TyOk.cons_ tok130 <| TyOk.cons_ tok132 <| TyOk.cons_ tok133 <| TyOk.cons_ tok134 <| TyOk.cons_ tok135 <| TyOk.cons_ tok136 <| TyOk.cons_ tok137 <| TyOk.cons_ tok139 <| TyOk.cons_ tok140 <| TyOk.cons_ tok141 <| TyOk.cons_ tok142 <| TyOk.cons_ tok143 <| TyOk.cons_ tok144 <| TyOk.cons_ tok145 <| TyOk.cons_ tok146 <| TyOk.cons_ tok147 <| TyOk.cons_ tok148 <| TyOk.cons_ tok149 <| TyOk.cons_ tok150 <| TyOk.cons_ tok151 <| TyOk.cons_ tok152 <| TyOk.cons_ tok153 <| TyOk.cons_ tok154 <| TyOk.cons_ tok155 <| TyOk.cons_ tok156 <| TyOk.cons_ tok158 <| TyOk.cons_ tok159 <| TyOk.cons_ tok160 <| TyOk.cons_ tok161 <| TyOk.cons_ tok163 <| TyOk.cons_ tok165 <| TyOk.cons_ tok166 <| TyOk.cons_ tok167 <| TyOk.cons_ tok168 <| TyOk.cons_ tok169 <| TyOk.cons_ tok170 <| TyOk.cons_ tok171 <| TyOk.cons_ tok172 <| TyOk.cons_ tok173 <| TyOk.cons_ tok175 <| TyOk.cons_ tok176 <| TyOk.cons_ tok177 <| TyOk.cons_ tok178 <| TyOk.cons_ tok179 <| TyOk.cons_ tok180 <| TyOk.cons_ tok181 <| TyOk.cons_ tok182 <| TyOk.cons_ tok183 <| TyOk.cons_ tok184 <| TyOk.cons_ tok185 <| TyOk.cons_ tok187 <| TyOk.cons_ tok188 <| TyOk.cons_ tok189 <| TyOk.cons_ tok190 <| TyOk.cons_ tok192 <| TyOk.cons_ tok193 <| TyOk.cons_ tok195 <| TyOk.cons_ tok196 <| TyOk.cons_ tok197 <| TyOk.cons_ tok198 <| TyOk.cons_ tok199 <| TyOk.cons_ tok200 <| TyOk.cons_ tok201 <| TyOk.cons_ tok202 <| TyOk.cons_ tok203 <| TyOk.cons_ tok204 <| TyOk.cons_ tok205 <| TyOk.cons_ tok213 <| TyOk.nil_ _
end Go.LX
end
section
namespace Go.Proofs
open Go.Shelf
def Tryz.lays156_ren : Go.Shelf.Ren := ⟨fun | 156 => 53 | 165 => 78 | 166 => 69 | 169 => 70 | 240 => 97 | 241 => 103 | 276 => 113 | 277 => 120 | n => n, fun | 31 => 29 | 9 => 9 | 3 => 3 | 4 => 4 | 0 => 0 | 20 => 20 | 72 => 112 | 76 => 124 | 70 => 110 | 37 => 35 | 75 => 123 | 127 => 154 | 164 => 174 | 5 => 5 | 80 => 53 | n => n, fun | n => n⟩
theorem Tryz.lays156 : Go.Proofs.Lays.n156 Tryz.prog Tryz.lays156_ren := {
  mixed := by kernel_rfl
  f156 := Tryz.func53.trans (congrArg some (by kernel_rfl))
  f165 := Tryz.func78.trans (congrArg some (by kernel_rfl))
  f166 := Tryz.func69.trans (congrArg some (by kernel_rfl))
  f169 := Tryz.func70.trans (congrArg some (by kernel_rfl))
  f240 := Tryz.func97.trans (congrArg some (by kernel_rfl))
  f241 := Tryz.func103.trans (congrArg some (by kernel_rfl))
  f276 := Tryz.func113.trans (congrArg some (by kernel_rfl))
  f277 := Tryz.func120.trans (congrArg some (by kernel_rfl))
  t0 := Tryz.underlying0
  a0 := Tryz.isAgg0
  z0 := Tryz.sizeOf0
  v0 := Tryz.zeroValue0
  t3 := Tryz.underlying3
  a3 := Tryz.isAgg3
  z3 := Tryz.sizeOf3
  v3 := Tryz.zeroValue3
  t4 := Tryz.underlying4
  a4 := Tryz.isAgg4
  z4 := Tryz.sizeOf4
  v4 := Tryz.zeroValue4
  t9 := Tryz.underlying9
  a9 := Tryz.isAgg9
  z9 := Tryz.sizeOf9
  v9 := Tryz.zeroValue9
  t20 := Tryz.underlying20
  a20 := Tryz.isAgg20
  z20 := Tryz.sizeOf20
  v20 := Tryz.zeroValue20
  t31 := Tryz.underlying29
  a31 := Tryz.isAgg29
  z31 := Tryz.sizeOf29
  v31 := Tryz.zeroValue29
  t37 := Tryz.underlying35
  a37 := Tryz.isAgg35
  z37 := Tryz.sizeOf35
  v37 := Tryz.zeroValue35
  t70 := Tryz.underlying110
  a70 := Tryz.isAgg110
  z70 := Tryz.sizeOf110
  v70 := Tryz.zeroValue110
  t72 := Tryz.underlying112
  a72 := Tryz.isAgg112
  z72 := Tryz.sizeOf112
  v72 := Tryz.zeroValue112
  t75 := Tryz.underlying123
  a75 := Tryz.isAgg123
  z75 := Tryz.sizeOf123
  v75 := Tryz.zeroValue123
  t76 := Tryz.underlying124
  a76 := Tryz.isAgg124
  z76 := Tryz.sizeOf124
  v76 := Tryz.zeroValue124
  t127 := Tryz.underlying154
  a127 := Tryz.isAgg154
  z127 := Tryz.sizeOf154
  v127 := Tryz.zeroValue154
  t164 := Tryz.underlying174
  a164 := Tryz.isAgg174
  z164 := Tryz.sizeOf174
  v164 := Tryz.zeroValue174 }
theorem Tryz.Builder_Extra_156 : Builder.Extra Tryz.prog Tryz.lays156_ren := {
  sizeBuilder := by kernel_rfl
  liesBuilder := by kernel_rfl
  t5 := Tryz.underlying5
  a5 := Tryz.isAgg5
  z5 := Tryz.sizeOf5
  v5 := Tryz.zeroValue5
  infoByte := by kernel_rfl
  cellsByte := by kernel_rfl
  sizeByte := by kernel_rfl
  neB5 := by decide }
open Go.RowKit in
theorem Tryz.strings_Join_none (a : Option Addr) (c : Nat) (sep : ByteArray) (w : World) :
    Calls Tryz.prog 53 #[.slice a 0 c, .string sep] w fun e w' => e = .returned (.string ⟨#[]⟩) ∧ w' = w := Any.strings_Join_none Tryz.lays156 Tryz.Builder_Extra_156 a c sep w
open Go.RowKit in
theorem Tryz.strings_Join (bk o c : Nat) (xs : List ByteArray) (sep : ByteArray) (w : World) (hcells : ∀ (j : Nat) x, xs[j]? = some x → w.cell? ⟨bk, o + j, none⟩ = some (.string x)) (hbk : bk < w.heap.size) (hN : xs.length ≤ 140737488355328) (hcap : xs.length ≤ c) (hlen : (Lib.join (xs.map (·.data.toList)) sep.data.toList).length ≤ 140737488355328) :
    Calls Tryz.prog 53 #[.slice (some ⟨bk, o, none⟩) xs.length c, .string sep] w fun e w' => e = .returned (.string ⟨(Lib.join (xs.map (·.data.toList)) sep.data.toList).toArray⟩) ∧ Below w.heap.size w w' := Any.strings_Join Tryz.lays156 Tryz.Builder_Extra_156 bk o c xs sep w hcells hbk hN hcap hlen
def Tryz.lays105_ren : Go.Shelf.Ren := ⟨fun | 105 => 54 | 212 => 79 | 99 => 80 | 165 => 78 | 166 => 69 | 170 => 81 | 169 => 70 | 263 => 104 | 264 => 105 | 206 => 106 | 240 => 97 | 241 => 103 | 276 => 113 | 277 => 120 | n => n, fun | 9 => 9 | 3 => 3 | 4 => 4 | 20 => 20 | 0 => 0 | 46 => 137 | 109 => 138 | 5 => 5 | 72 => 112 | 76 => 124 | 51 => 149 | 146 => 162 | 53 => 50 | 148 => 164 | 70 => 110 | 37 => 35 | 75 => 123 | 127 => 154 | 164 => 174 | 80 => 53 | n => n, fun | n => n⟩
theorem Tryz.lays105 : Go.Proofs.Lays.n105 Tryz.prog Tryz.lays105_ren := {
  mixed := by kernel_rfl
  f99 := Tryz.func80.trans (congrArg some (by kernel_rfl))
  f105 := Tryz.func54.trans (congrArg some (by kernel_rfl))
  f165 := Tryz.func78.trans (congrArg some (by kernel_rfl))
  f166 := Tryz.func69.trans (congrArg some (by kernel_rfl))
  f169 := Tryz.func70.trans (congrArg some (by kernel_rfl))
  f170 := Tryz.func81.trans (congrArg some (by kernel_rfl))
  f206 := Tryz.func106.trans (congrArg some (by kernel_rfl))
  f212 := Tryz.func79.trans (congrArg some (by kernel_rfl))
  f240 := Tryz.func97.trans (congrArg some (by kernel_rfl))
  f241 := Tryz.func103.trans (congrArg some (by kernel_rfl))
  f263 := Tryz.func104.trans (congrArg some (by kernel_rfl))
  f264 := Tryz.func105.trans (congrArg some (by kernel_rfl))
  f276 := Tryz.func113.trans (congrArg some (by kernel_rfl))
  f277 := Tryz.func120.trans (congrArg some (by kernel_rfl))
  t0 := Tryz.underlying0
  a0 := Tryz.isAgg0
  z0 := Tryz.sizeOf0
  v0 := Tryz.zeroValue0
  t3 := Tryz.underlying3
  a3 := Tryz.isAgg3
  z3 := Tryz.sizeOf3
  v3 := Tryz.zeroValue3
  t4 := Tryz.underlying4
  a4 := Tryz.isAgg4
  z4 := Tryz.sizeOf4
  v4 := Tryz.zeroValue4
  t5 := Tryz.underlying5
  a5 := Tryz.isAgg5
  z5 := Tryz.sizeOf5
  v5 := Tryz.zeroValue5
  t9 := Tryz.underlying9
  a9 := Tryz.isAgg9
  z9 := Tryz.sizeOf9
  v9 := Tryz.zeroValue9
  t20 := Tryz.underlying20
  a20 := Tryz.isAgg20
  z20 := Tryz.sizeOf20
  v20 := Tryz.zeroValue20
  t37 := Tryz.underlying35
  a37 := Tryz.isAgg35
  z37 := Tryz.sizeOf35
  v37 := Tryz.zeroValue35
  t46 := Tryz.underlying137
  a46 := Tryz.isAgg137
  z46 := Tryz.sizeOf137
  v46 := Tryz.zeroValue137
  t51 := Tryz.underlying149
  a51 := Tryz.isAgg149
  z51 := Tryz.sizeOf149
  v51 := Tryz.zeroValue149
  t53 := Tryz.underlying50
  a53 := Tryz.isAgg50
  z53 := Tryz.sizeOf50
  v53 := Tryz.zeroValue50
  t70 := Tryz.underlying110
  a70 := Tryz.isAgg110
  z70 := Tryz.sizeOf110
  v70 := Tryz.zeroValue110
  t72 := Tryz.underlying112
  a72 := Tryz.isAgg112
  z72 := Tryz.sizeOf112
  v72 := Tryz.zeroValue112
  t75 := Tryz.underlying123
  a75 := Tryz.isAgg123
  z75 := Tryz.sizeOf123
  v75 := Tryz.zeroValue123
  t76 := Tryz.underlying124
  a76 := Tryz.isAgg124
  z76 := Tryz.sizeOf124
  v76 := Tryz.zeroValue124
  t109 := Tryz.underlying138
  a109 := Tryz.isAgg138
  z109 := Tryz.sizeOf138
  v109 := Tryz.zeroValue138
  t127 := Tryz.underlying154
  a127 := Tryz.isAgg154
  z127 := Tryz.sizeOf154
  v127 := Tryz.zeroValue154
  t146 := Tryz.underlying162
  a146 := Tryz.isAgg162
  z146 := Tryz.sizeOf162
  v146 := Tryz.zeroValue162
  t148 := Tryz.underlying164
  a148 := Tryz.isAgg164
  z148 := Tryz.sizeOf164
  v148 := Tryz.zeroValue164
  t164 := Tryz.underlying174
  a164 := Tryz.isAgg174
  z164 := Tryz.sizeOf174
  v164 := Tryz.zeroValue174 }
theorem Tryz.Builder_Extra_105 : Builder.Extra Tryz.prog Tryz.lays105_ren := {
  sizeBuilder := by kernel_rfl
  liesBuilder := by kernel_rfl
  t5 := Tryz.underlying5
  a5 := Tryz.isAgg5
  z5 := Tryz.sizeOf5
  v5 := Tryz.zeroValue5
  infoByte := by kernel_rfl
  cellsByte := by kernel_rfl
  sizeByte := by kernel_rfl
  neB5 := by decide }
open Go.RowKit Go.Lib in
theorem Tryz.strings_Repeat (s : ByteArray) (c : Nat) (w : World) (hc : c ≤ 9223372036854775807) (hlen : s.size * c ≤ 140737488355328) :
    Calls Tryz.prog 54 #[.string s, .int .i64 c] w fun e w' => e = .returned (.string ⟨(Lib.repeatL s.data.toList c).toArray⟩) ∧ Below w.heap.size w w' := Any.strings_Repeat Tryz.lays105 Tryz.Builder_Extra_105 s c w hc hlen
end Go.Proofs
end
section
set_option maxRecDepth 100000
set_option maxHeartbeats 400000
set_option autoImplicit false
set_option linter.unusedVariables false
set_option linter.unusedSimpArgs false
namespace Go.LX
open Go.Proofs

theorem repeatL_one (b : UInt8) : ∀ n : Nat, Lib.repeatL [b] n = List.replicate n b
  | 0 => rfl
  | n + 1 => by rw [Lib.repeatL, repeatL_one b n]; rfl
def repS : Spec := fun args H Q => match args, H with
  | [.str l, .int .i64 n], [] => Need (0 ≤ n ∧ n ≤ 9223372036854775807 ∧ l.length * n.toNat ≤ 140737488355328) (Q (.str (Lib.repeatL l n.toNat)) [])
  | _, _ => False
theorem rep_c : Meets Tryz.prog [] 54 repS := by
  refine meets_calls ?_
  intro args H Q h E w vs hv hr
  unfold repS at h
  split at h
  case h_2 => exact h.elim
  rename_i l n
  obtain ⟨⟨h0, h1, h2⟩, h⟩ := h
  obtain ⟨u, v, rfl, q1, q2⟩ := vrs_two hv
  cases q1
  cases q2
  refine ⟨.string ⟨(Lib.repeatL l n.toNat).toArray⟩, _, ?_, fun w' => .str _, h⟩
  have := Tryz.strings_Repeat ⟨l.toArray⟩ n.toNat w (by omega) (by rw [size_mk]; exact h2)
  have e : ((n.toNat : Nat) : Int) = n := by omega
  rw [e] at this
  exact this
theorem rep_k : Contract Tryz.prog [] 54 repS := ⟨⟨⟨_, rfl, rfl, rfl⟩⟩, rep_c⟩
def zeroS : Spec := fun args H Q => match args, H with
  | [.str [b], .int .i64 n], [] => Need (0 ≤ n ∧ n ≤ 140737488355328) (Q (.str (List.replicate n.toNat b)) [])
  | _, _ => False
theorem zero_k : Contract Tryz.prog [] 54 zeroS := rep_k.imp fun args H Q h => by
  unfold zeroS at h
  split at h
  case h_2 => exact h.elim
  obtain ⟨⟨h0, h1⟩, h⟩ := h
  refine ⟨⟨h0, by omega, by simp; omega⟩, ?_⟩
  rw [repeatL_one]
  exact h
theorem join_empty (l : List (List UInt8)) : Lib.join l [] = l.flatten := by
  rw [Lib.join, List.intercalate]
  induction l with
  | nil => rfl
  | cons x r ih => cases r with
    | nil => simp
    | cons y r => simp [List.intersperse] at ih ⊢; exact ih
def joinS : Spec := fun args H Q => match args, H with
  | [.own 0, .str []], [.own 9 1 n xs wr] => ∃ l : List (List UInt8), n = l.length ∧ xs = l.map CV.str ∧ l.length ≤ 140737488355328 ∧ l.flatten.length ≤ 140737488355328 ∧ Q (.str l.flatten) [.own 9 1 n xs wr]
  | _, _ => False
theorem join_map (l : List (List UInt8)) : Lib.join ((l.map fun x => (⟨x.toArray⟩ : ByteArray)).map (·.data.toList)) (⟨#[]⟩ : ByteArray).data.toList = l.flatten := by
  have hm : (l.map fun x => (⟨x.toArray⟩ : ByteArray)).map (·.data.toList) = l := by
    rw [List.map_map]
    exact List.map_id l
  rw [hm, ← join_empty]
theorem join_cells (l : List (List UInt8)) (w : World) {b e : Nat} {vs : Array Value} {fz : Nat × Nat} {I : Nat → Prop} (e2 : w.heap[b]? = some (.cells vs e fz)) (e3 : l.length ≤ vs.size)
    (e7 : ∀ (j : Nat) x u, (l.map CV.str)[j]? = some x → vs[j]? = some u → CR I w x u) : ∀ (j : Nat) x, (l.map fun x => (⟨x.toArray⟩ : ByteArray))[j]? = some x → w.cell? ⟨b, 0 + j, none⟩ = some (.string x) := by
  intro j x hx
  rw [List.getElem?_map, Option.map_eq_some_iff] at hx
  obtain ⟨y, hy, rfl⟩ := hx
  have hlt := lt_of_get hy
  obtain ⟨u, hu⟩ : ∃ u, vs[j]? = some u := ⟨_, Array.getElem?_eq_getElem (by omega)⟩
  have := e7 j (.str y) u (by rw [List.getElem?_map, hy]; rfl) hu
  cases this
  have hw : w.cell? ⟨b, 0 + j, none⟩ = vs[0 + j]? := by
    unfold World.cell?
    simp only [e2]
    rfl
  rw [hw, Nat.zero_add]
  exact hu
theorem join_c : Meets Tryz.prog [] 53 joinS := by
  refine meets_calls ?_
  intro args H Q h E w vs hv hr
  unfold joinS at h
  split at h
  case h_2 => exact h.elim
  rename_i n xs wr
  obtain ⟨l, rfl, rfl, h1, h2, h⟩ := h
  obtain ⟨u, v, rfl, q1, q2⟩ := vrs_two hv
  cases q1
  cases q2
  refine ⟨.string ⟨l.flatten.toArray⟩, .str l.flatten, ?_, fun w' => .str _, h⟩
  rcases (hr.obj 0 _ rfl).row with ⟨e1, e2⟩ | ⟨b, cap, vs, fz, e1, e2, e3, e4, e5, e6, e7⟩
  · have hl : l = [] := List.length_eq_zero_iff.1 e2
    subst hl
    rw [e1]
    refine (Tryz.strings_Join_none none 0 ⟨#[]⟩ w).mono ?_
    rintro e w' ⟨rfl, rfl⟩
    exact ⟨rfl, RowKit.Below.refl _ _⟩
  · rw [e1]
    have hc := join_cells l w e2 (by rw [e3]; omega) e7
    have hb := (Array.getElem?_eq_some_iff.1 e2).1
    have hj := Tryz.strings_Join b 0 cap (l.map fun x => (⟨x.toArray⟩ : ByteArray)) ⟨#[]⟩ w hc hb (by rw [List.length_map]; exact h1) (by rw [List.length_map]; exact e4) (by rw [join_map]; exact h2)
    rw [join_map, List.length_map] at hj
    exact hj
theorem join_k : Contract Tryz.prog [] 53 joinS := ⟨⟨⟨_, rfl, rfl, rfl⟩⟩, join_c⟩
end Go.LX
end
section
set_option maxRecDepth 100000
set_option maxHeartbeats 1000000
set_option autoImplicit false
set_option linter.unusedVariables false
set_option linter.unusedSimpArgs false
namespace Go.LX
open Go.Proofs

abbrev Bs := List UInt8
structure Dsk where
  sz : Nat
  sc : Nat
  st : List Bs
  buf : List (Int × Bs)
  ar : Nat
structure Dsk.Ok (D : Dsk) : Prop where
  sz : 64 ≤ D.sz ∧ D.sz ≤ 512
  sc : 1 ≤ D.sc ∧ D.sc ≤ 4096
  len : D.st.length = D.sc
  each : ∀ s ∈ D.st, s.length = D.sz
  buf : ∀ w ∈ D.buf, 0 ≤ w.1 ∧ w.1 < D.sc ∧ w.2.length = D.sz
  few : D.buf.length ≤ 1000000
  ar : D.ar ≤ 9223372036854775807
def wrEn (w : Int × Bs) : List CV := [.int .i64 w.1, .str w.2]
def dB (D : Dsk) : List LObj := [.cells [.int .i64 (D.sz : Int), .int .i64 (D.sc : Int), .own 1, .own 2, .int .i64 (D.ar : Int)] 79, .own 9 1 D.st.length (D.st.map CV.str) true, .own 91 2 D.buf.length (D.buf.flatMap wrEn) true]
def dA (D : Dsk) : List LObj := [.cells [.int .i64 (D.sz : Int), .int .i64 (D.sc : Int), .own 1, .own 3, .int .i64 (D.ar : Int)] 79, .own 9 1 D.st.length (D.st.map CV.str) true, .gone, .own 91 2 D.buf.length (D.buf.flatMap wrEn) true]
def dIn (H : List LObj) (k : Dsk → Prop) : Prop :=
  match H with
  | [.cells [.int .i64 z, .int .i64 c, .own 1, .own 2, .int .i64 a] 79, .own 9 1 n xs true, .own 91 2 m ys true] =>
    ∃ D : Dsk, z = D.sz ∧ c = D.sc ∧ a = D.ar ∧ n = D.st.length ∧ xs = D.st.map CV.str ∧ m = D.buf.length ∧ ys = D.buf.flatMap wrEn ∧ D.Ok ∧ k D
  | _ => False
theorem dIn_out {H : List LObj} {k : Dsk → Prop} (h : dIn H k) : ∃ D : Dsk, H = dB D ∧ D.Ok ∧ k D := by
  unfold dIn at h
  split at h
  case h_2 => exact h.elim
  obtain ⟨D, rfl, rfl, rfl, rfl, rfl, rfl, rfl, h1, h2⟩ := h
  exact ⟨D, rfl, h1, h2⟩
def thereS : Spec := fun args H Q => match args, H with
  | [.agg [.int .i64 z, .int .i64 c], .int .i64 n], [] => ∀ b : Bool, b = decide (0 ≤ n ∧ n < c) → Q (.bool b) []
  | _, _ => False
theorem there_c : Meets Tryz.prog [] 92 thereS := by
  refine meets_of Γok Tryz.func92 rfl ?_
  intro args H Q h
  unfold thereS at h
  split at h
  case h_2 => exact h.elim
  rename_i z c n
  (refine sx_sound Γok _ ?_; conv => whnf)
  (repeat (first | (exact Out.same; conv => whnf) | (exact Out1.same; conv => whnf) | (refine QAnd.mk ?_ ?_; conv => whnf) | (apply QStepH.go; conv => whnf) | (refine Both.lit_true ?_; conv => whnf) | (refine Both.lit_false ?_; conv => whnf) | (apply QStep.go; conv => whnf) | (refine Need.au ?_; conv => whnf) | (refine ⟨_, rfl, ?_⟩; conv => whnf)))
  refine Both.dec (fun h1 => ?_) (fun h1 => ?_)
  · (conv => whnf)
    (repeat (first | (exact Out.same; conv => whnf) | (exact Out1.same; conv => whnf) | (refine QAnd.mk ?_ ?_; conv => whnf) | (apply QStepH.go; conv => whnf) | (refine Both.lit_true ?_; conv => whnf) | (refine Both.lit_false ?_; conv => whnf) | (apply QStep.go; conv => whnf) | (refine Need.au ?_; conv => whnf) | (refine ⟨_, rfl, ?_⟩; conv => whnf)))
    refine ⟨_, _, WeakV.drop rfl, h _ ?_⟩
    simp [h1]
  · (conv => whnf)
    (repeat (first | (exact Out.same; conv => whnf) | (exact Out1.same; conv => whnf) | (refine QAnd.mk ?_ ?_; conv => whnf) | (apply QStepH.go; conv => whnf) | (refine Both.lit_true ?_; conv => whnf) | (refine Both.lit_false ?_; conv => whnf) | (apply QStep.go; conv => whnf) | (refine Need.au ?_; conv => whnf) | (refine ⟨_, rfl, ?_⟩; conv => whnf)))
    refine ⟨_, _, WeakV.drop rfl, h _ ?_⟩
    simp [h1]
theorem there_k : Contract Tryz.prog [] 92 thereS := ⟨⟨⟨_, rfl, rfl, rfl⟩⟩, there_c⟩
def geoS (k : Bool) : Spec := fun args H Q => match args, H with
  | [.agg [.int .i64 z, .int .i64 c]], [] => Q (.int .i64 (if k then z else c)) []
  | _, _ => False
theorem size_c : Meets Tryz.prog [] 34 (geoS true) := by
  refine meets_of Γok Tryz.func34 rfl ?_
  intro args H Q h
  unfold geoS at h
  split at h
  case h_2 => exact h.elim
  (refine sx_sound Γok _ ?_; conv => whnf)
  (repeat (first | (exact Out.same; conv => whnf) | (exact Out1.same; conv => whnf) | (refine QAnd.mk ?_ ?_; conv => whnf) | (apply QStepH.go; conv => whnf) | (refine Both.lit_true ?_; conv => whnf) | (refine Both.lit_false ?_; conv => whnf) | (apply QStep.go; conv => whnf) | (refine Need.au ?_; conv => whnf) | (refine ⟨_, rfl, ?_⟩; conv => whnf)))
  exact ⟨_, _, WeakV.drop rfl, h⟩
theorem size_k : Contract Tryz.prog [] 34 (geoS true) := ⟨⟨⟨_, rfl, rfl, rfl⟩⟩, size_c⟩
theorem sectors_c : Meets Tryz.prog [] 42 (geoS false) := by
  refine meets_of Γok Tryz.func42 rfl ?_
  intro args H Q h
  unfold geoS at h
  split at h
  case h_2 => exact h.elim
  (refine sx_sound Γok _ ?_; conv => whnf)
  (repeat (first | (exact Out.same; conv => whnf) | (exact Out1.same; conv => whnf) | (refine QAnd.mk ?_ ?_; conv => whnf) | (apply QStepH.go; conv => whnf) | (refine Both.lit_true ?_; conv => whnf) | (refine Both.lit_false ?_; conv => whnf) | (apply QStep.go; conv => whnf) | (refine Need.au ?_; conv => whnf) | (refine ⟨_, rfl, ?_⟩; conv => whnf)))
  exact ⟨_, _, WeakV.drop rfl, h⟩
theorem sectors_k : Contract Tryz.prog [] 42 (geoS false) := ⟨⟨⟨_, rfl, rfl, rfl⟩⟩, sectors_c⟩
def buffS : Spec := fun args H Q => match args with
  | [.ptr 0 0] => dIn H fun D => Q (.int .i64 (D.buf.length : Int)) (dB D)
  | _ => False
theorem buff_c : Meets Tryz.prog [] 23 buffS := by
  refine meets_of Γok Tryz.func23 rfl ?_
  intro args H Q h
  unfold buffS at h
  split at h
  case h_2 => exact h.elim
  obtain ⟨D, rfl, ho, h⟩ := dIn_out h
  (refine sx_sound Γok _ ?_; conv => whnf)
  (repeat (first | (exact Out.same; conv => whnf) | (exact Out1.same; conv => whnf) | (refine QAnd.mk ?_ ?_; conv => whnf) | (apply QStepH.go; conv => whnf) | (refine Both.lit_true ?_; conv => whnf) | (refine Both.lit_false ?_; conv => whnf) | (apply QStep.go; conv => whnf) | (refine Need.au ?_; conv => whnf) | (refine ⟨_, rfl, ?_⟩; conv => whnf)))
  refine ⟨_, _, WeakV.auto ?_, h⟩
  (repeat' ((conv => whnf); first | exact True.intro | (refine And.intro ?_ ?_)))
  all_goals first | rfl | exact .eq rfl
theorem buff_k : Contract Tryz.prog [] 23 buffS := ⟨⟨⟨_, rfl, rfl, rfl⟩⟩, buff_c⟩
theorem flat_len {z : Nat} : ∀ {l : List Bs}, (∀ s ∈ l, s.length = z) → l.flatten.length = l.length * z
  | [], _ => by simp
  | s :: l, h => by
    rw [List.flatten_cons, List.length_append, flat_len fun s hs => h s (List.mem_cons_of_mem _ hs), h s List.mem_cons_self, List.length_cons, Nat.add_mul]
    omega
theorem Dsk.Ok.flat {D : Dsk} (h : D.Ok) : D.st.flatten.length = D.sc * D.sz := by rw [flat_len h.each, h.len]
theorem Dsk.Ok.le {D : Dsk} (h : D.Ok) : D.sc * D.sz ≤ 4096 * 512 := Nat.mul_le_mul h.sc.2 h.sz.2
def stableS : Spec := fun args H Q => match args with
  | [.ptr 0 0] => dIn H fun D => Q (.str D.st.flatten) (dB D)
  | _ => False
theorem stable_c : Meets Tryz.prog [] 21 stableS := by
  refine meets_of Γok Tryz.func21 rfl ?_
  intro args H Q h
  unfold stableS at h
  split at h
  case h_2 => exact h.elim
  obtain ⟨D, rfl, ho, h⟩ := dIn_out h
  have h1 := ho.flat
  have h2 := ho.le
  have h3 := ho.len
  have h4 := ho.sc
  (refine sx_sound Γok _ ?_; conv => whnf)
  (repeat (first | (exact Out.same; conv => whnf) | (exact Out1.same; conv => whnf) | (refine QAnd.mk ?_ ?_; conv => whnf) | (apply QStepH.go; conv => whnf) | (refine Both.lit_true ?_; conv => whnf) | (refine Both.lit_false ?_; conv => whnf) | (apply QStep.go; conv => whnf) | (refine Need.au ?_; conv => whnf) | (refine ⟨_, rfl, ?_⟩; conv => whnf)))
  refine CallVC.auto join_k ⟨D.st, rfl, rfl, by omega, by omega, ?_⟩
  (conv => whnf)
  (repeat (first | (exact Out.same; conv => whnf) | (exact Out1.same; conv => whnf) | (refine QAnd.mk ?_ ?_; conv => whnf) | (apply QStepH.go; conv => whnf) | (refine Both.lit_true ?_; conv => whnf) | (refine Both.lit_false ?_; conv => whnf) | (apply QStep.go; conv => whnf) | (refine Need.au ?_; conv => whnf) | (refine ⟨_, rfl, ?_⟩; conv => whnf)))
  refine ⟨_, _, WeakV.auto ?_, h⟩
  (repeat' ((conv => whnf); first | exact True.intro | (refine And.intro ?_ ?_)))
  all_goals first | rfl | exact .eq rfl
theorem stable_k : Contract Tryz.prog [] 21 stableS := ⟨⟨⟨_, rfl, rfl, rfl⟩⟩, stable_c⟩
def armS : Spec := fun args H Q => match args with
  | [.ptr 0 0, .int .i64 n] => Need (-9223372036854775808 ≤ n ∧ n ≤ 9223372036854775807) (dIn H fun D => Q (.tuple []) (dB { D with ar := n.toNat }))
  | _ => False
theorem arm_c : Meets Tryz.prog [] 49 armS := by
  refine meets_of Γok Tryz.func49 rfl ?_
  intro args H Q h
  unfold armS at h
  split at h
  case h_2 => exact h.elim
  rename_i n
  obtain ⟨hn, h⟩ := h
  obtain ⟨D, rfl, ho, h⟩ := dIn_out h
  have h3 : max 0 n = ((n.toNat : Nat) : Int) := by omega
  (refine sx_sound Γok _ ?_; conv => whnf)
  (repeat (first | (exact Out.same; conv => whnf) | (exact Out1.same; conv => whnf) | (refine QAnd.mk ?_ ?_; conv => whnf) | (apply QStepH.go; conv => whnf) | (refine Both.lit_true ?_; conv => whnf) | (refine Both.lit_false ?_; conv => whnf) | (apply QStep.go; conv => whnf) | (refine Need.au ?_; conv => whnf) | (refine ⟨_, rfl, ?_⟩; conv => whnf)))
  refine ⟨_, _, WeakV.auto ?_, h⟩
  (repeat' ((conv => whnf); first | exact True.intro | (refine And.intro ?_ ?_)))
  all_goals first | rfl | exact .eq (congrArg (fun x => [SV.int .i64 (D.sz : Int), .int .i64 (D.sc : Int), .own 1, .own 2, .int .i64 x]) h3) | exact .eq rfl
theorem arm_k : Contract Tryz.prog [] 49 armS := ⟨⟨⟨_, rfl, rfl, rfl⟩⟩, arm_c⟩
def d4failS : Spec := fun args H Q => match args with
  | [.ptr 0 0] => dIn H fun D => ∀ b : Bool, b = decide (D.ar = 1) → Q (.bool b) (dB { D with ar := D.ar - 1 })
  | _ => False
theorem d4fail_c : Meets Tryz.prog [] 66 d4failS := by
  refine meets_of Γok Tryz.func66 rfl ?_
  intro args H Q h
  unfold d4failS at h
  split at h
  case h_2 => exact h.elim
  obtain ⟨D, rfl, ho, h⟩ := dIn_out h
  have h1 := ho.ar
  (refine sx_sound Γok _ ?_; conv => whnf)
  (repeat (first | (exact Out.same; conv => whnf) | (exact Out1.same; conv => whnf) | (refine QAnd.mk ?_ ?_; conv => whnf) | (apply QStepH.go; conv => whnf) | (refine Both.lit_true ?_; conv => whnf) | (refine Both.lit_false ?_; conv => whnf) | (apply QStep.go; conv => whnf) | (refine Need.au ?_; conv => whnf) | (refine ⟨_, rfl, ?_⟩; conv => whnf)))
  refine Both.dec (fun h2 => ?_) (fun h2 => ?_)
  · have h3 : (D.ar : Int) = ((D.ar - 1 : Nat) : Int) := by omega
    (conv => whnf)
    (repeat (first | (exact Out.same; conv => whnf) | (exact Out1.same; conv => whnf) | (refine QAnd.mk ?_ ?_; conv => whnf) | (apply QStepH.go; conv => whnf) | (refine Both.lit_true ?_; conv => whnf) | (refine Both.lit_false ?_; conv => whnf) | (apply QStep.go; conv => whnf) | (refine Need.au ?_; conv => whnf) | (refine ⟨_, rfl, ?_⟩; conv => whnf)))
    refine ⟨_, _, WeakV.auto ?_, h false ?_⟩
    · (repeat' ((conv => whnf); first | exact True.intro | (refine And.intro ?_ ?_)))
      all_goals first | rfl | (refine .eq ?_; exact congrArg (fun x => [SV.int .i64 (D.sz : Int), .int .i64 (D.sc : Int), .own 1, .own 2, .int .i64 x]) h3) | exact .eq rfl
    · exact (decide_eq_false (by omega)).symm
  · have h3 : IntKind.i64.wrap ((D.ar : Int) - 1) = ((D.ar - 1 : Nat) : Int) := by rw [wrap_i64 (by omega) (by omega)]; omega
    (conv => whnf)
    (repeat (first | (exact Out.same; conv => whnf) | (exact Out1.same; conv => whnf) | (refine QAnd.mk ?_ ?_; conv => whnf) | (apply QStepH.go; conv => whnf) | (refine Both.lit_true ?_; conv => whnf) | (refine Both.lit_false ?_; conv => whnf) | (apply QStep.go; conv => whnf) | (refine Need.au ?_; conv => whnf) | (refine ⟨_, rfl, ?_⟩; conv => whnf)))
    refine ⟨_, _, WeakV.auto ?_, h (decide (IntKind.i64.wrap ((D.ar : Int) - 1) = 0)) ?_⟩
    · (repeat' ((conv => whnf); first | exact True.intro | (refine And.intro ?_ ?_)))
      all_goals first | rfl | (refine .eq ?_; exact congrArg (fun x => [SV.int .i64 (D.sz : Int), .int .i64 (D.sc : Int), .own 1, .own 2, .int .i64 x]) h3) | exact .eq rfl
    · show decide (IntKind.i64.wrap ((D.ar : Int) - 1) = 0) = _
      rw [h3]
      exact decide_eq_decide.2 (by omega)
theorem d4fail_k : Contract Tryz.prog [] 66 d4failS := ⟨⟨⟨_, rfl, rfl, rfl⟩⟩, d4fail_c⟩
end Go.LX
end
section
set_option maxRecDepth 100000
set_option maxHeartbeats 1000000
set_option autoImplicit false
set_option linter.unusedVariables false
set_option linter.unusedSimpArgs false
namespace Go.LX
open Go.Proofs

theorem own_eq {e s n n' : Nat} {xs xs' : List CV} {b : Bool} (h1 : n = n') (h2 : xs = xs') : LObj.own e s n xs b = LObj.own e s n' xs' b := by rw [h1, h2]
theorem rows_at {α : Type} {en : α → List CV} {z : Nat} (hen : ∀ r, (en r).length = z) (l : List α) (i : Nat) (h : i < l.length) : ((l.flatMap en).drop (i * z)).take z = en l[i] := by
  induction l generalizing i with
  | nil => simp at h
  | cons c l ih =>
    cases i with
    | zero => simp [List.take_left' (hen c)]
    | succ i =>
      rw [List.flatMap_cons, List.getElem_cons_succ, ← ih i (by simpa using h)]
      rw [show (i + 1) * z = (en c).length + i * z by rw [hen c, Nat.add_mul]; omega, ← List.drop_drop, List.drop_left' rfl]
theorem rows_cell {α : Type} {en : α → List CV} {z : Nat} (hen : ∀ r, (en r).length = z) (l : List α) (i j : Nat) (h : i < l.length) (hj : j < z) : (l.flatMap en)[i * z + j]? = (en l[i])[j]? := by
  have := rows_at hen l i h
  rw [← this, List.getElem?_take, if_pos hj, List.getElem?_drop]
def Dsk.wr (D : Dsk) (n : Int) (s : Bs) : Int × Dsk :=
  if 0 ≤ n ∧ n < D.sc ∧ s.length = D.sz then (if D.ar = 1 then (13, { D with ar := 0 }) else (0, { D with ar := D.ar - 1, buf := D.buf ++ [(n, s)] })) else (1, D)
def putAll (st : List Bs) (buf : List (Int × Bs)) : List Bs := buf.foldl (fun st w => st.set w.1.toNat w.2) st
def Dsk.fl (D : Dsk) : Int × Dsk := if D.ar = 1 then (13, { D with ar := 0 }) else (0, { D with ar := D.ar - 1, st := putAll D.st D.buf, buf := [] })
def rdOf (st : List Bs) (buf : List (Int × Bs)) (n : Int) : Bs := buf.foldl (fun s w => if w.1 = n then w.2 else s) (st.getD n.toNat [])
def Dsk.rd (D : Dsk) (n : Int) : Bs × Int := if 0 ≤ n ∧ n < D.sc then (rdOf D.st D.buf n, 0) else ([], 1)
def cstep (sz : Nat) (x : Bool × List Bs) (p : (Int × Bs) × (Bool × Int)) : Bool × List Bs :=
  if p.2.1 = true then (if 0 < p.2.2 ∧ p.2.2 < sz ∧ x.1 = false then (true, x.2.set p.1.1.toNat (p.1.2.take p.2.2.toNat ++ (x.2.getD p.1.1.toNat []).drop p.2.2.toNat)) else (x.1, x.2.set p.1.1.toNat p.1.2)) else x
def crs (sz : Nat) (st : List Bs) (buf : List (Int × Bs)) (l : List (Bool × Int)) : List Bs := ((buf.zip l).foldl (cstep sz) (false, st)).2
def Dsk.cr (D : Dsk) (l : List (Bool × Int)) : Dsk := { D with st := crs D.sz D.st D.buf l, buf := [], ar := 0 }
theorem putAll_len : ∀ (buf : List (Int × Bs)) (st : List Bs), (putAll st buf).length = st.length
  | [], st => rfl
  | w :: r, st => by
    show (putAll (st.set w.1.toNat w.2) r).length = _
    rw [putAll_len r, List.length_set]
theorem set_each {z : Nat} {st : List Bs} (h : ∀ s ∈ st, s.length = z) {i : Nat} {x : Bs} (hx : x.length = z) : ∀ s ∈ st.set i x, s.length = z := by
  intro s hs
  rcases List.mem_or_eq_of_mem_set hs with h1 | h1
  · exact h s h1
  · rw [h1]; exact hx
theorem putAll_each {z : Nat} : ∀ (buf : List (Int × Bs)) (st : List Bs), (∀ s ∈ st, s.length = z) → (∀ w ∈ buf, w.2.length = z) → ∀ s ∈ putAll st buf, s.length = z
  | [], st, h, _ => h
  | w :: r, st, h, hb => putAll_each r (st.set w.1.toNat w.2) (set_each h (hb w List.mem_cons_self)) (fun w hw => hb w (List.mem_cons_of_mem _ hw))
theorem getD_len {z : Nat} {st : List Bs} (h : ∀ s ∈ st, s.length = z) {i : Nat} (hi : i < st.length) : (st.getD i []).length = z := by
  rw [List.getD_eq_getElem?_getD, List.getElem?_eq_getElem hi]
  exact h _ (List.getElem_mem hi)
structure Reg (sc sz : Nat) (st : List Bs) : Prop where
  len : st.length = sc
  each : ∀ s ∈ st, s.length = sz
theorem Reg.set {sc sz : Nat} {st : List Bs} (h : Reg sc sz st) {i : Nat} {x : Bs} (hx : x.length = sz) : Reg sc sz (st.set i x) := ⟨by rw [List.length_set]; exact h.len, set_each h.each hx⟩
theorem Reg.at {sc sz : Nat} {st : List Bs} (h : Reg sc sz st) {n : Int} (h0 : 0 ≤ n) (h1 : n < sc) : (st.getD n.toNat []).length = sz := getD_len h.each (by rw [h.len]; omega)
theorem cstep_reg {sc sz : Nat} {x : Bool × List Bs} {p : (Int × Bs) × (Bool × Int)} (h : Reg sc sz x.2) (hp : 0 ≤ p.1.1 ∧ p.1.1 < sc ∧ p.1.2.length = sz) : Reg sc sz (cstep sz x p).2 := by
  unfold cstep
  split
  · split
    · refine h.set ?_
      have := h.at hp.1 hp.2.1
      simp only [List.length_append, List.length_take, List.length_drop, this, hp.2.2]
      omega
    · exact h.set hp.2.2
  · exact h
theorem cfold_reg {sc sz : Nat} : ∀ (l : List ((Int × Bs) × (Bool × Int))) (x : Bool × List Bs), Reg sc sz x.2 → (∀ p ∈ l, 0 ≤ p.1.1 ∧ p.1.1 < sc ∧ p.1.2.length = sz) → Reg sc sz (l.foldl (cstep sz) x).2
  | [], x, h, _ => h
  | p :: l, x, h, hp => cfold_reg l _ (cstep_reg h (hp p List.mem_cons_self)) fun q hq => hp q (List.mem_cons_of_mem _ hq)
theorem zip_buf {buf : List (Int × Bs)} {l : List (Bool × Int)} {P : Int × Bs → Prop} (h : ∀ w ∈ buf, P w) : ∀ p ∈ buf.zip l, P p.1 := fun p hp => h _ (List.of_mem_zip hp).1
theorem Dsk.Ok.arm {D : Dsk} (h : D.Ok) {n : Nat} (hn : n ≤ 9223372036854775807) : ({ D with ar := n } : Dsk).Ok := ⟨h.sz, h.sc, h.len, h.each, h.buf, h.few, hn⟩
theorem Dsk.Ok.wr {D : Dsk} (h : D.Ok) {n : Int} {s : Bs} (hf : D.buf.length < 1000000) : (D.wr n s).2.Ok := by
  unfold Dsk.wr
  have := h.ar
  split
  · rename_i hc
    split
    · exact h.arm (by omega)
    · refine ⟨h.sz, h.sc, h.len, h.each, ?_, ?_, ?_⟩
      · intro w hw
        rcases List.mem_append.1 hw with h1 | h1
        · exact h.buf w h1
        · rw [List.mem_singleton] at h1
          subst h1
          exact hc
      · show (D.buf ++ [(n, s)]).length ≤ _
        rw [List.length_append, List.length_singleton]
        omega
      · show D.ar - 1 ≤ _
        omega
  · exact h
theorem Dsk.Ok.fl {D : Dsk} (h : D.Ok) : D.fl.2.Ok := by
  unfold Dsk.fl
  have := h.ar
  split
  · exact h.arm (by omega)
  · exact ⟨h.sz, h.sc, by rw [← h.len]; exact putAll_len _ _, putAll_each _ _ h.each fun w hw => (h.buf w hw).2.2, fun w hw => by simp at hw, by simp, by show D.ar - 1 ≤ _; omega⟩
theorem Dsk.Ok.reg {D : Dsk} (h : D.Ok) : Reg D.sc D.sz D.st := ⟨h.len, h.each⟩
theorem Dsk.Ok.cr {D : Dsk} (h : D.Ok) (l : List (Bool × Int)) : (D.cr l).Ok := by
  have hr : Reg D.sc D.sz (crs D.sz D.st D.buf l) := cfold_reg (D.buf.zip l) (false, D.st) h.reg (zip_buf h.buf)
  exact ⟨h.sz, h.sc, hr.len, hr.each, fun w hw => by simp [Dsk.cr] at hw, by simp [Dsk.cr], by simp [Dsk.cr]⟩
def writeS : Spec := fun args H Q => match args with
  | [.ptr 0 0, .int .i64 n, .str s] => dIn H fun D => Need (D.buf.length < 1000000) (∀ e D', (e, D') = D.wr n s → Q (.int .i64 e) (dA D'))
  | _ => False
theorem write_c : Meets Tryz.prog [] 64 writeS := by
  refine meets_of Γok Tryz.func64 rfl ?_
  intro args H Q h
  unfold writeS at h
  split at h
  case h_2 => exact h.elim
  rename_i n s
  obtain ⟨D, rfl, ho, hf, h⟩ := dIn_out h
  have bad : ¬ (0 ≤ n ∧ n < D.sc ∧ s.length = D.sz) → Q (.int .i64 1) (dA D) := fun h0 => h 1 D (by rw [Dsk.wr, if_neg h0])
  (refine sx_sound Γok _ ?_; conv => whnf)
  (repeat (first | (exact Out.same; conv => whnf) | (exact Out1.same; conv => whnf) | (refine QAnd.mk ?_ ?_; conv => whnf) | (apply QStepH.go; conv => whnf) | (refine Both.lit_true ?_; conv => whnf) | (refine Both.lit_false ?_; conv => whnf) | (apply QStep.go; conv => whnf) | (refine Need.au ?_; conv => whnf) | (refine ⟨_, rfl, ?_⟩; conv => whnf)))
  refine CallVC.auto there_k ?_
  intro b hb
  cases b
  · have h0 := of_decide_eq_false hb.symm
    (conv => whnf)
    (repeat (first | (exact Out.same; conv => whnf) | (exact Out1.same; conv => whnf) | (refine QAnd.mk ?_ ?_; conv => whnf) | (apply QStepH.go; conv => whnf) | (refine Both.lit_true ?_; conv => whnf) | (refine Both.lit_false ?_; conv => whnf) | (apply QStep.go; conv => whnf) | (refine Need.au ?_; conv => whnf) | (refine ⟨_, rfl, ?_⟩; conv => whnf)))
    refine ⟨_, _, WeakV.trans (WeakV.of (Weak.fresh 2 0 3 rfl rfl rfl)) (WeakV.auto ?_), bad (by omega)⟩
    (repeat' ((conv => whnf); first | exact True.intro | (refine And.intro ?_ ?_)))
    all_goals first | rfl | exact .eq rfl
  have h0 := of_decide_eq_true hb.symm
  (conv => whnf)
  (repeat (first | (exact Out.same; conv => whnf) | (exact Out1.same; conv => whnf) | (refine QAnd.mk ?_ ?_; conv => whnf) | (apply QStepH.go; conv => whnf) | (refine Both.lit_true ?_; conv => whnf) | (refine Both.lit_false ?_; conv => whnf) | (apply QStep.go; conv => whnf) | (refine Need.au ?_; conv => whnf) | (refine ⟨_, rfl, ?_⟩; conv => whnf)))
  refine Both.dec_not (fun h1 => ?_) (fun h1 => ?_)
  · (conv => whnf)
    (repeat (first | (exact Out.same; conv => whnf) | (exact Out1.same; conv => whnf) | (refine QAnd.mk ?_ ?_; conv => whnf) | (apply QStepH.go; conv => whnf) | (refine Both.lit_true ?_; conv => whnf) | (refine Both.lit_false ?_; conv => whnf) | (apply QStep.go; conv => whnf) | (refine Need.au ?_; conv => whnf) | (refine ⟨_, rfl, ?_⟩; conv => whnf)))
    refine ⟨_, _, WeakV.trans (WeakV.of (Weak.fresh 2 0 3 rfl rfl rfl)) (WeakV.auto ?_), bad (by omega)⟩
    (repeat' ((conv => whnf); first | exact True.intro | (refine And.intro ?_ ?_)))
    all_goals first | rfl | exact .eq rfl
  (conv => whnf)
  (repeat (first | (exact Out.same; conv => whnf) | (exact Out1.same; conv => whnf) | (refine QAnd.mk ?_ ?_; conv => whnf) | (apply QStepH.go; conv => whnf) | (refine Both.lit_true ?_; conv => whnf) | (refine Both.lit_false ?_; conv => whnf) | (apply QStep.go; conv => whnf) | (refine Need.au ?_; conv => whnf) | (refine ⟨_, rfl, ?_⟩; conv => whnf)))
  refine CallVC.auto d4fail_k ⟨D, rfl, rfl, rfl, rfl, rfl, rfl, rfl, ho, ?_⟩
  intro b hb
  cases b
  · have h2 := of_decide_eq_false hb.symm
    (conv => whnf)
    (repeat (first | (exact Out.same; conv => whnf) | (exact Out1.same; conv => whnf) | (refine QAnd.mk ?_ ?_; conv => whnf) | (apply QStepH.go; conv => whnf) | (refine Both.lit_true ?_; conv => whnf) | (refine Both.lit_false ?_; conv => whnf) | (apply QStep.go; conv => whnf) | (refine Need.au ?_; conv => whnf) | (refine ⟨_, rfl, ?_⟩; conv => whnf)))
    refine Need.mk ?_ ?_
    · show (D.buf.length + 1) * 24 ≤ 140737488355328
      omega
    (conv => whnf)
    (repeat (first | (exact Out.same; conv => whnf) | (exact Out1.same; conv => whnf) | (refine QAnd.mk ?_ ?_; conv => whnf) | (apply QStepH.go; conv => whnf) | (refine Both.lit_true ?_; conv => whnf) | (refine Both.lit_false ?_; conv => whnf) | (apply QStep.go; conv => whnf) | (refine Need.au ?_; conv => whnf) | (refine ⟨_, rfl, ?_⟩; conv => whnf)))
    refine ⟨_, _, WeakV.auto ?_, h 0 { D with ar := D.ar - 1, buf := D.buf ++ [(n, s)] } (by rw [Dsk.wr, if_pos ⟨h0.1, h0.2, by omega⟩, if_neg h2])⟩
    (repeat' ((conv => whnf); first | exact True.intro | (refine And.intro ?_ ?_)))
    all_goals first | rfl | exact .eq rfl | exact own_eq (by simp) (by simp [wrEn])
  · have h2 := of_decide_eq_true hb.symm
    (conv => whnf)
    (repeat (first | (exact Out.same; conv => whnf) | (exact Out1.same; conv => whnf) | (refine QAnd.mk ?_ ?_; conv => whnf) | (apply QStepH.go; conv => whnf) | (refine Both.lit_true ?_; conv => whnf) | (refine Both.lit_false ?_; conv => whnf) | (apply QStep.go; conv => whnf) | (refine Need.au ?_; conv => whnf) | (refine ⟨_, rfl, ?_⟩; conv => whnf)))
    refine ⟨_, _, WeakV.trans (WeakV.of (Weak.fresh 2 0 3 rfl rfl rfl)) (WeakV.auto ?_), h 13 { D with ar := D.ar - 1 } (by rw [Dsk.wr, if_pos ⟨h0.1, h0.2, by omega⟩, if_pos h2, h2])⟩
    (repeat' ((conv => whnf); first | exact True.intro | (refine And.intro ?_ ?_)))
    all_goals first | rfl | exact .eq rfl
theorem write_k : Contract Tryz.prog [] 64 writeS := ⟨⟨⟨_, rfl, rfl, rfl⟩⟩, write_c⟩
theorem buf_at {D : Dsk} (h : D.Ok) {k : Nat} (hk : k < D.buf.length) : 0 ≤ D.buf[k].1 ∧ D.buf[k].1 < D.sc ∧ D.buf[k].2.length = D.sz := h.buf _ (List.getElem_mem hk)
theorem putAll_take (st : List Bs) (buf : List (Int × Bs)) (k : Nat) (hk : k < buf.length) : putAll st (buf.take (k + 1)) = (putAll st (buf.take k)).set buf[k].1.toNat buf[k].2 := by
  rw [putAll, List.take_succ_eq_append_getElem hk, List.foldl_append]
  rfl
def flushS : Spec := fun args H Q => match args with
  | [.ptr 0 0] => dIn H fun D => ∀ e D', (e, D') = D.fl → Q (.int .i64 e) (dA D')
  | _ => False
theorem flush_c : Meets Tryz.prog [] 43 flushS := by
  refine meets_of Γok Tryz.func43 rfl ?_
  intro args H Q h
  unfold flushS at h
  split at h
  case h_2 => exact h.elim
  obtain ⟨D, rfl, ho, h⟩ := dIn_out h
  have hfew := ho.few
  (refine sx_sound Γok _ ?_; conv => whnf)
  (repeat (first | (exact Out.same; conv => whnf) | (exact Out1.same; conv => whnf) | (refine QAnd.mk ?_ ?_; conv => whnf) | (apply QStepH.go; conv => whnf) | (refine Both.lit_true ?_; conv => whnf) | (refine Both.lit_false ?_; conv => whnf) | (apply QStep.go; conv => whnf) | (refine Need.au ?_; conv => whnf) | (refine ⟨_, rfl, ?_⟩; conv => whnf)))
  refine CallVC.auto d4fail_k ⟨D, rfl, rfl, rfl, rfl, rfl, rfl, rfl, ho, ?_⟩
  intro b hb
  cases b
  rotate_left
  · have h2 := of_decide_eq_true hb.symm
    (conv => whnf)
    (repeat (first | (exact Out.same; conv => whnf) | (exact Out1.same; conv => whnf) | (refine QAnd.mk ?_ ?_; conv => whnf) | (apply QStepH.go; conv => whnf) | (refine Both.lit_true ?_; conv => whnf) | (refine Both.lit_false ?_; conv => whnf) | (apply QStep.go; conv => whnf) | (refine Need.au ?_; conv => whnf) | (refine ⟨_, rfl, ?_⟩; conv => whnf)))
    refine ⟨_, _, WeakV.trans (WeakV.of (Weak.fresh 2 0 3 rfl rfl rfl)) (WeakV.auto ?_), h 13 { D with ar := D.ar - 1 } (by rw [Dsk.fl, if_pos h2, h2])⟩
    (repeat' ((conv => whnf); first | exact True.intro | (refine And.intro ?_ ?_)))
    all_goals first | rfl | exact .eq rfl
  have h2 := of_decide_eq_false hb.symm
  (conv => whnf)
  (repeat (first | (exact Out.same; conv => whnf) | (exact Out1.same; conv => whnf) | (refine QAnd.mk ?_ ?_; conv => whnf) | (apply QStepH.go; conv => whnf) | (refine Both.lit_true ?_; conv => whnf) | (refine Both.lit_false ?_; conv => whnf) | (apply QStep.go; conv => whnf) | (refine Need.au ?_; conv => whnf) | (refine ⟨_, rfl, ?_⟩; conv => whnf)))
  refine loop_rule (fun k : Nat => ⟨[.ptr 0 0, .any, .any, .any, .any, .any, .any, .any, .any, .any, .own 2, .int .i64 (D.buf.length : Int), .int .i64 (k : Int), .any, .any, .any, .any, .any, .any, .any, .any, .any, .any, .any, .any, .any, .any, .any, .any], dB { D with ar := D.ar - 1, st := putAll D.st (D.buf.take k) }⟩) (fun k => k ≤ D.buf.length) (fun k => D.buf.length - k) 0 (by omega) (Weak.auto ?_) ?_
  · (repeat' ((conv => whnf); first | exact True.intro | (refine And.intro ?_ ?_)))
    all_goals first | rfl | exact .eq rfl
  intro k hk
  (refine sx_sound Γok _ ?_; conv => whnf)
  refine Both.dec (fun hlt => ?_) (fun hge => ?_)
  · have hkl : k < D.buf.length := by omega
    have hr := rows_at (en := wrEn) (z := 2) (fun _ => rfl) D.buf k hkl
    have hb := buf_at ho hkl
    have hln : (putAll D.st (D.buf.take k)).length = D.sc := by rw [putAll_len, ho.len]
    have htk := putAll_take D.st D.buf k hkl
    (conv => whnf)
    (repeat (first | (refine ⟨[.int .i64 D.buf[k].1, .str D.buf[k].2], rfl, hr, ?_⟩; conv => whnf) | (exact Out.same; conv => whnf) | (exact Out1.same; conv => whnf) | (refine QAnd.mk ?_ ?_; conv => whnf) | (apply QStepH.go; conv => whnf) | (refine Both.lit_true ?_; conv => whnf) | (refine Both.lit_false ?_; conv => whnf) | (apply QStep.go; conv => whnf) | (refine Need.au ?_; conv => whnf) | (refine ⟨_, rfl, ?_⟩; conv => whnf)))
    have hb2 : D.buf[k].1 < (((putAll D.st (D.buf.take k)).length : Nat) : Int) := by omega
    have hb3 : D.buf[k].1.toNat < ((putAll D.st (D.buf.take k)).map CV.str).length := by rw [List.length_map]; omega
    (refine DrawVC.any Γok (by kernel_rfl) (by kernel_rfl) (by kernel_rfl) (by rfl) ?_; conv => whnf)
    (repeat (first | (refine Need.mk ⟨rfl, hb.1, hb2⟩ ?_; conv => whnf) | (refine Need.mk ⟨rfl, hb3⟩ ?_; conv => whnf) | (exact Out.same; conv => whnf) | (exact Out1.same; conv => whnf) | (refine QAnd.mk ?_ ?_; conv => whnf) | (apply QStepH.go; conv => whnf) | (refine Both.lit_true ?_; conv => whnf) | (refine Both.lit_false ?_; conv => whnf) | (apply QStep.go; conv => whnf) | (refine Need.au ?_; conv => whnf) | (refine ⟨_, rfl, ?_⟩; conv => whnf)))
    refine ⟨k + 1, by omega, by omega, Weak.auto ?_⟩
    (repeat' ((conv => whnf); first | exact True.intro | (refine And.intro ?_ ?_)))
    all_goals first | rfl | exact .eq rfl | exact congrArg (SV.int .i64) (by rw [wrap_i64 (by omega) (by omega)]; rfl) | exact own_eq (by rw [htk, List.length_set]) (by rw [htk, List.map_set])
  · have hke : k = D.buf.length := by omega
    subst hke
    (conv => whnf)
    (repeat (first | (exact Out.same; conv => whnf) | (exact Out1.same; conv => whnf) | (refine QAnd.mk ?_ ?_; conv => whnf) | (apply QStepH.go; conv => whnf) | (refine Both.lit_true ?_; conv => whnf) | (refine Both.lit_false ?_; conv => whnf) | (apply QStep.go; conv => whnf) | (refine Need.au ?_; conv => whnf) | (refine ⟨_, rfl, ?_⟩; conv => whnf)))
    refine ⟨_, _, WeakV.trans (WeakV.of (Weak.ownNil 0 3 91 2 rfl rfl)) (WeakV.auto ?_), h 0 { D with ar := D.ar - 1, st := putAll D.st D.buf, buf := [] } (by rw [Dsk.fl, if_neg h2])⟩
    (repeat' ((conv => whnf); first | exact True.intro | (refine And.intro ?_ ?_)))
    all_goals first | rfl | exact .eq rfl | exact own_eq (by rw [List.take_length]) (by rw [List.take_length])
theorem flush_k : Contract Tryz.prog [] 43 flushS := ⟨⟨⟨_, rfl, rfl, rfl⟩⟩, flush_c⟩
end Go.LX
end
section
set_option maxRecDepth 100000
set_option maxHeartbeats 1000000
set_option autoImplicit false
set_option linter.unusedVariables false
set_option linter.unusedSimpArgs false
namespace Go.LX
open Go.Proofs

theorem rows_take {α : Type} {en : α → List CV} {z : Nat} (hen : ∀ r, (en r).length = z) (l : List α) (m : Nat) (h : m ≤ l.length) : (l.flatMap en).take (m * z) = (l.take m).flatMap en := by
  induction l generalizing m with
  | nil => simp
  | cons c l ih =>
    cases m with
    | zero => simp
    | succ m =>
      rw [List.flatMap_cons, List.take_succ_cons, List.flatMap_cons, ← ih m (by simpa using h), show (m + 1) * z = (en c).length + m * z by rw [hen c, Nat.add_mul]; omega, List.take_length_add_append]
theorem st_at {sc sz : Nat} {st : List Bs} (h : Reg sc sz st) {n : Int} (h0 : 0 ≤ n) (h1 : n < sc) : (st.map CV.str)[n.toNat]? = some (.str (st.getD n.toNat [])) := by
  have hlt : n.toNat < st.length := by rw [h.len]; omega
  rw [List.getElem?_map, List.getD_eq_getElem?_getD, List.getElem?_eq_getElem hlt]
  rfl
theorem rdOf_take (st : List Bs) (buf : List (Int × Bs)) (n : Int) (k : Nat) (hk : k < buf.length) : rdOf st (buf.take (k + 1)) n = if buf[k].1 = n then buf[k].2 else rdOf st (buf.take k) n := by
  rw [rdOf, List.take_succ_eq_append_getElem hk, List.foldl_append]
  rfl
def readS : Spec := fun args H Q => match args with
  | [.ptr 0 0, .int .i64 n] => dIn H fun D => ∀ s e, (s, e) = D.rd n → Q (.tuple [.str s, .int .i64 e]) (dB D)
  | _ => False
theorem read_c : Meets Tryz.prog [] 68 readS := by
  refine meets_of Γok Tryz.func68 rfl ?_
  intro args H Q h
  unfold readS at h
  split at h
  case h_2 => exact h.elim
  rename_i n
  obtain ⟨D, rfl, ho, h⟩ := dIn_out h
  have hfew := ho.few
  (refine sx_sound Γok _ ?_; conv => whnf)
  (repeat (first | (exact Out.same; conv => whnf) | (exact Out1.same; conv => whnf) | (refine QAnd.mk ?_ ?_; conv => whnf) | (apply QStepH.go; conv => whnf) | (refine Both.lit_true ?_; conv => whnf) | (refine Both.lit_false ?_; conv => whnf) | (apply QStep.go; conv => whnf) | (refine Need.au ?_; conv => whnf) | (refine ⟨_, rfl, ?_⟩; conv => whnf)))
  refine CallVC.auto there_k ?_
  intro b hb
  cases b
  · have h0 := of_decide_eq_false hb.symm
    (conv => whnf)
    (repeat (first | (exact Out.same; conv => whnf) | (exact Out1.same; conv => whnf) | (refine QAnd.mk ?_ ?_; conv => whnf) | (apply QStepH.go; conv => whnf) | (refine Both.lit_true ?_; conv => whnf) | (refine Both.lit_false ?_; conv => whnf) | (apply QStep.go; conv => whnf) | (refine Need.au ?_; conv => whnf) | (refine ⟨_, rfl, ?_⟩; conv => whnf)))
    refine ⟨_, _, WeakV.auto ?_, h [] 1 (by rw [Dsk.rd, if_neg h0])⟩
    (repeat' ((conv => whnf); first | exact True.intro | (refine And.intro ?_ ?_)))
    all_goals first | rfl | exact .eq rfl
  have h0 := of_decide_eq_true hb.symm
  have hx := st_at ho.reg h0.1 h0.2
  have hn : n < ((D.st.length : Nat) : Int) := by rw [ho.len]; exact h0.2
  (conv => whnf)
  (repeat (first | (refine Need.mk ⟨rfl, h0.1, hn⟩ ?_; conv => whnf) | (refine ⟨_, hx, ?_⟩; conv => whnf) | (exact Out.same; conv => whnf) | (exact Out1.same; conv => whnf) | (refine QAnd.mk ?_ ?_; conv => whnf) | (apply QStepH.go; conv => whnf) | (refine Both.lit_true ?_; conv => whnf) | (refine Both.lit_false ?_; conv => whnf) | (apply QStep.go; conv => whnf) | (refine Need.au ?_; conv => whnf) | (refine ⟨_, rfl, ?_⟩; conv => whnf)))
  refine loop_rule (fun k : Nat => ⟨[.ptr 0 0, .int .i64 n, .any, .any, .any, .any, .str (rdOf D.st (D.buf.take k) n), .any, .any, .any, .any, .any, .any, .any, .any, .any, .any, .any, .any, .any, .any, .any, .any, .any, .any, .any, .own 2, .int .i64 (D.buf.length : Int), .int .i64 (k : Int), .any, .any, .any, .any, .any, .any, .any, .any, .any, .any, .any], dB D⟩) (fun k => k ≤ D.buf.length) (fun k => D.buf.length - k) 0 (by omega) (Weak.auto ?_) ?_
  · (repeat' ((conv => whnf); first | exact True.intro | (refine And.intro ?_ ?_)))
    all_goals first | rfl | exact .eq rfl
  intro k hk
  (refine sx_sound Γok _ ?_; conv => whnf)
  refine Both.dec (fun hlt => ?_) (fun hge => ?_)
  · have hkl : k < D.buf.length := by omega
    have hr := rows_at (en := wrEn) (z := 2) (fun _ => rfl) D.buf k hkl
    have htk := rdOf_take D.st D.buf n k hkl
    (conv => whnf)
    (repeat (first | (refine ⟨[.int .i64 D.buf[k].1, .str D.buf[k].2], rfl, hr, ?_⟩; conv => whnf) | (exact Out.same; conv => whnf) | (exact Out1.same; conv => whnf) | (refine QAnd.mk ?_ ?_; conv => whnf) | (apply QStepH.go; conv => whnf) | (refine Both.lit_true ?_; conv => whnf) | (refine Both.lit_false ?_; conv => whnf) | (apply QStep.go; conv => whnf) | (refine Need.au ?_; conv => whnf) | (refine ⟨_, rfl, ?_⟩; conv => whnf)))
    refine Both.dec (fun he => ?_) (fun he => ?_)
    · rw [if_pos he] at htk
      (conv => whnf)
      (repeat (first | (exact Out.same; conv => whnf) | (exact Out1.same; conv => whnf) | (refine QAnd.mk ?_ ?_; conv => whnf) | (apply QStepH.go; conv => whnf) | (refine Both.lit_true ?_; conv => whnf) | (refine Both.lit_false ?_; conv => whnf) | (apply QStep.go; conv => whnf) | (refine Need.au ?_; conv => whnf) | (refine ⟨_, rfl, ?_⟩; conv => whnf)))
      refine ⟨k + 1, by omega, by omega, Weak.auto ?_⟩
      (repeat' ((conv => whnf); first | exact True.intro | (refine And.intro ?_ ?_)))
      all_goals first | rfl | exact .eq rfl | exact congrArg SV.str htk.symm | exact congrArg (SV.int .i64) (by rw [wrap_i64 (by omega) (by omega)]; rfl)
    · rw [if_neg he] at htk
      (conv => whnf)
      (repeat (first | (exact Out.same; conv => whnf) | (exact Out1.same; conv => whnf) | (refine QAnd.mk ?_ ?_; conv => whnf) | (apply QStepH.go; conv => whnf) | (refine Both.lit_true ?_; conv => whnf) | (refine Both.lit_false ?_; conv => whnf) | (apply QStep.go; conv => whnf) | (refine Need.au ?_; conv => whnf) | (refine ⟨_, rfl, ?_⟩; conv => whnf)))
      refine ⟨k + 1, by omega, by omega, Weak.auto ?_⟩
      (repeat' ((conv => whnf); first | exact True.intro | (refine And.intro ?_ ?_)))
      all_goals first | rfl | exact .eq rfl | exact congrArg SV.str htk.symm | exact congrArg (SV.int .i64) (by rw [wrap_i64 (by omega) (by omega)]; rfl)
  · have hke : k = D.buf.length := by omega
    subst hke
    (conv => whnf)
    (repeat (first | (exact Out.same; conv => whnf) | (exact Out1.same; conv => whnf) | (refine QAnd.mk ?_ ?_; conv => whnf) | (apply QStepH.go; conv => whnf) | (refine Both.lit_true ?_; conv => whnf) | (refine Both.lit_false ?_; conv => whnf) | (apply QStep.go; conv => whnf) | (refine Need.au ?_; conv => whnf) | (refine ⟨_, rfl, ?_⟩; conv => whnf)))
    refine ⟨_, _, WeakV.auto ?_, h (rdOf D.st D.buf n) 0 (by rw [Dsk.rd, if_pos h0])⟩
    (repeat' ((conv => whnf); first | exact True.intro | (refine And.intro ?_ ?_)))
    all_goals first | rfl | exact .eq rfl | exact congrArg (fun x => SV.tuple [.str (rdOf D.st x n), .int .i64 0]) List.take_length
theorem read_k : Contract Tryz.prog [] 68 readS := ⟨⟨⟨_, rfl, rfl, rfl⟩⟩, read_c⟩
def crEn (c : Bool × Int) : List CV := [.bool c.1, .int .i64 c.2]
def crashS : Spec := fun args H Q => match args with
  | [.ptr 0 0, .sl 2 n cs f] => ∃ L : List (Bool × Int), n = L.length ∧ cs = L.flatMap crEn ∧ L.length ≤ 1000000 ∧ dIn H fun D => Q (.tuple []) (dA (D.cr L))
  | [.ptr 0 0, .nilsl] => dIn H fun D => Q (.tuple []) (dA (D.cr []))
  | _ => False
def cfold (D : Dsk) (L : List (Bool × Int)) (k : Nat) : Bool × List Bs := ((D.buf.zip L).take k).foldl (cstep D.sz) (false, D.st)
theorem cfold_succ (D : Dsk) (L : List (Bool × Int)) {k : Nat} (h1 : k < D.buf.length) (h2 : k < L.length) : cfold D L (k + 1) = cstep D.sz (cfold D L k) (D.buf[k], L[k]) := by
  have hk : k < (D.buf.zip L).length := by rw [List.length_zip]; omega
  rw [cfold, List.take_succ_eq_append_getElem hk, List.foldl_append, List.getElem_zip]
  rfl
theorem cfold_ok {D : Dsk} (h : D.Ok) (L : List (Bool × Int)) (k : Nat) : Reg D.sc D.sz (cfold D L k).2 :=
  cfold_reg _ _ h.reg fun p hp => h.buf _ (List.of_mem_zip (List.mem_of_mem_take hp)).1
theorem crash_core (D : Dsk) (ho : D.Ok) (L : List (Bool × Int)) (hL : L.length ≤ 1000000) (f : Bool) (Q : SV → List LObj → Prop) (h : Q (.tuple []) (dA (D.cr L))) :
    Wp Tryz.prog [] 3 (Tryz.f16.body.getD .skip) ⟨[.ptr 0 0, .sl 2 L.length (L.flatMap crEn) f] ++ List.replicate 83 (.tuple []), dB D⟩ (retK Γ [] 3 [] Q) := by
  have hfew := ho.few
  refine Wp.weak (Weak.pub 2 0 rfl rfl) ?_
  (refine sx_sound Γok _ ?_; conv => whnf)
  (refine DrawVC.any Γok (by kernel_rfl) (by kernel_rfl) (by kernel_rfl) (by rfl) ?_; conv => whnf)
  (repeat (first | (exact Out.same; conv => whnf) | (exact Out1.same; conv => whnf) | (refine QAnd.mk ?_ ?_; conv => whnf) | (apply QStepH.go; conv => whnf) | (refine Both.lit_true ?_; conv => whnf) | (refine Both.lit_false ?_; conv => whnf) | (apply QStep.go; conv => whnf) | (refine Need.au ?_; conv => whnf) | (refine ⟨_, rfl, ?_⟩; conv => whnf)))
  have hm : ((min (L.length : Int) (D.buf.length : Int)).toNat) = min L.length D.buf.length := by omega
  have hm2 : min (L.length : Int) (D.buf.length : Int) = ((min L.length D.buf.length : Nat) : Int) := by omega
  have hrow : ∀ m, m ≤ D.buf.length → (D.buf.flatMap wrEn).take (m * 2) = (D.buf.take m).flatMap wrEn := rows_take (en := wrEn) (z := 2) (fun _ => rfl) D.buf
  have hcut : SV.sl 2 ((min (L.length : Int) (D.buf.length : Int)).toNat - (0 : Int).toNat) (((D.buf.flatMap wrEn).take ((min (L.length : Int) (D.buf.length : Int)).toNat * 2)).drop ((0 : Int).toNat * 2)) false = SV.sl 2 (min L.length D.buf.length) ((D.buf.take (min L.length D.buf.length)).flatMap wrEn) false := by
    rw [hm, hrow _ (Nat.min_le_right _ _)]
    rfl
  have hcut2 : SV.int .i64 (((min (L.length : Int) (D.buf.length : Int)).toNat - (0 : Int).toNat : Nat) : Int) = SV.int .i64 ((min L.length D.buf.length : Nat) : Int) := by
    rw [hm]
    rfl
  refine loop_rule (fun k : Nat => ⟨[.ptr 0 0, .sl 2 L.length (L.flatMap crEn) f, .any, .any, .bool (cfold D L k).1, .any, .any, .any, .any, .any, .any, .any, .any, .any, .any, .any, .any, .any, .any, .any, .sl 2 (min L.length D.buf.length) ((D.buf.take (min L.length D.buf.length)).flatMap wrEn) false, .int .i64 ((min L.length D.buf.length : Nat) : Int), .int .i64 (k : Int), .any, .any, .any, .any, .any, .any, .any, .any, .any, .any, .any, .any, .any, .any, .any, .any, .any, .any, .any, .any, .any, .any, .any, .any, .any, .any, .any, .any, .any, .any, .any, .any, .any, .any, .any, .any, .any, .any, .any, .any, .any, .any, .any, .any, .any, .any, .any, .any, .any, .any, .any, .any, .any, .any, .any, .any, .any, .any, .any, .any, .any, .any],
    [.cells [.int .i64 (D.sz : Int), .int .i64 (D.sc : Int), .own 1, .sl 2 D.buf.length (D.buf.flatMap wrEn) false, .int .i64 (D.ar : Int)] 79, .own 9 1 (cfold D L k).2.length ((cfold D L k).2.map CV.str) true, .gone]⟩) (fun k => k ≤ min L.length D.buf.length) (fun k => min L.length D.buf.length - k) 0 (by omega) (Weak.auto ?_) ?_
  · (repeat' ((conv => whnf); first | exact True.intro | (refine And.intro ?_ ?_)))
    all_goals first | rfl | exact .eq rfl | exact congrArg (SV.int .i64) hm2 | exact hcut | exact hcut2
  intro k hk
  have hreg := cfold_ok ho L k
  (refine sx_sound Γok _ ?_; conv => whnf)
  refine Both.dec (fun hlt => ?_) (fun hge => ?_)
  · have hk1 : k < D.buf.length := by omega
    have hk2 : k < L.length := by omega
    have hw : (((D.buf.take (min L.length D.buf.length)).flatMap wrEn).drop (k * 2)).take 2 = [CV.int .i64 D.buf[k].1, .str D.buf[k].2] := by
      have := rows_at (en := wrEn) (z := 2) (fun _ => rfl) (D.buf.take (min L.length D.buf.length)) k (by rw [List.length_take]; omega)
      rw [List.getElem_take] at this
      exact this
    have hc : ((L.flatMap crEn).drop (k * 2)).take 2 = [CV.bool L[k].1, .int .i64 L[k].2] := rows_at (en := crEn) (z := 2) (fun _ => rfl) L k hk2
    have hcs := cfold_succ D L hk1 hk2
    have hb := buf_at ho hk1
    revert hw hc hcs hb hreg
    generalize D.buf[k] = w
    generalize L[k] = c
    generalize cfold D L k = x
    obtain ⟨wn, ws⟩ := w
    obtain ⟨la, tn⟩ := c
    obtain ⟨tb, s0⟩ := x
    intro hreg hw hc hcs hb
    have hx := st_at hreg hb.1 hb.2.1
    have hxl := hreg.at hb.1 hb.2.1
    have hb2 : wn < ((s0.length : Nat) : Int) := by rw [hreg.len]; exact hb.2.1
    have hb3 : wn.toNat < (s0.map CV.str).length := by rw [List.length_map, hreg.len]; omega
    have hsz := ho.sz
    have hwl := hb.2.2
    generalize hold : s0.getD wn.toNat [] = old at hx hxl hcs
    dsimp only at hx hxl hwl hold
    (conv => whnf)
    (repeat (first | (refine ⟨_, hw, ?_⟩; conv => whnf) | (refine ⟨_, hc, ?_⟩; conv => whnf) | (exact Out.same; conv => whnf) | (exact Out1.same; conv => whnf) | (refine QAnd.mk ?_ ?_; conv => whnf) | (apply QStepH.go; conv => whnf) | (refine Both.lit_true ?_; conv => whnf) | (refine Both.lit_false ?_; conv => whnf) | (apply QStep.go; conv => whnf) | (refine Need.au ?_; conv => whnf) | (refine ⟨_, rfl, ?_⟩; conv => whnf)))
    clear hrow hm hm2 hcut hcut2
    have hwr : IntKind.i64.wrap ((k : Int) + 1) = ((k + 1 : Nat) : Int) := by rw [wrap_i64 (by omega) (by omega)]; rfl
    have fin : ∀ (tb' : Bool) (s' : Bs), cfold D L (k + 1) = (tb', s0.set wn.toNat s') → LObj.own 9 1 s0.length ((s0.map CV.str).set wn.toNat (.str s')) true = LObj.own 9 1 (cfold D L (k + 1)).2.length ((cfold D L (k + 1)).2.map CV.str) true ∧ SV.bool tb' = SV.bool (cfold D L (k + 1)).1 := by
      intro tb' s' e
      rw [e]
      exact ⟨own_eq (List.length_set ..).symm (by rw [List.map_set]), rfl⟩
    cases la
    · have g3 : cfold D L (k + 1) = (tb, s0) := by rw [hcs]; rfl
      (repeat (first | (exact Out.same; conv => whnf) | (exact Out1.same; conv => whnf) | (refine QAnd.mk ?_ ?_; conv => whnf) | (apply QStepH.go; conv => whnf) | (refine Both.lit_true ?_; conv => whnf) | (refine Both.lit_false ?_; conv => whnf) | (apply QStep.go; conv => whnf) | (refine Need.au ?_; conv => whnf) | (refine ⟨_, rfl, ?_⟩; conv => whnf) | (refine Both.of_false ?_ ?_; (focus (first | rfl | (simp <;> fail))); conv => whnf) | (refine Both.of_true ?_ ?_; (focus (first | rfl | (simp <;> fail))); conv => whnf)))
      refine ⟨k + 1, by omega, by omega, Weak.auto ?_⟩
      (repeat' ((conv => whnf); first | exact True.intro | (refine And.intro ?_ ?_)))
      all_goals first | rfl | exact .eq rfl | exact congrArg (SV.int .i64) hwr | exact congrArg (fun x : Bool × List Bs => SV.bool x.1) g3.symm | exact congrArg (fun x : Bool × List Bs => LObj.own 9 1 x.2.length (x.2.map CV.str) true) g3.symm
    (repeat (first | (exact Out.same; conv => whnf) | (exact Out1.same; conv => whnf) | (refine QAnd.mk ?_ ?_; conv => whnf) | (apply QStepH.go; conv => whnf) | (refine Both.lit_true ?_; conv => whnf) | (refine Both.lit_false ?_; conv => whnf) | (apply QStep.go; conv => whnf) | (refine Need.au ?_; conv => whnf) | (refine ⟨_, rfl, ?_⟩; conv => whnf) | (refine Both.of_false ?_ ?_; (focus (first | rfl | (simp <;> fail))); conv => whnf) | (refine Both.of_true ?_ ?_; (focus (first | rfl | (simp <;> fail))); conv => whnf)))
    have plain : ¬ (0 < tn ∧ tn < D.sz ∧ tb = false) → cfold D L (k + 1) = (tb, s0.set wn.toNat ws) := fun hn => by rw [hcs, cstep, if_pos rfl, if_neg hn]
    rcases Decidable.em (0 < tn) with h1 | h1
    · rcases Decidable.em (tn < D.sz) with h2 | h2
      · cases tb
        · have hcat : (List.drop (Int.toNat 0) (ws.take tn.toNat)).length + ((old.take ((old.length : Nat) : Int).toNat).drop tn.toNat).length ≤ 9223372036854775807 := by simp; omega
          have heq : List.drop (Int.toNat 0) (ws.take tn.toNat) ++ (old.take ((old.length : Nat) : Int).toNat).drop tn.toNat = ws.take tn.toNat ++ old.drop tn.toNat := by simp
          have g3 : cfold D L (k + 1) = (true, s0.set wn.toNat (List.drop (Int.toNat 0) (ws.take tn.toNat) ++ (old.take ((old.length : Nat) : Int).toNat).drop tn.toNat)) := by
            rw [hcs, cstep, if_pos rfl, if_pos ⟨h1, h2, rfl⟩, heq, ← hold]
          obtain ⟨g4, g5⟩ := fin _ _ g3
          have hcut : 0 ≤ (0 : Int) ∧ 0 ≤ tn ∧ tn ≤ ((ws.length : Nat) : Int) := by omega
          have hcut2 : 0 ≤ tn ∧ tn ≤ ((old.length : Nat) : Int) ∧ ((old.length : Nat) : Int) ≤ ((old.length : Nat) : Int) := by omega
          (refine DrawVC.all Γok (by kernel_rfl) (by kernel_rfl) ?_; conv => whnf)
          (repeat (first | (exact Out.same; conv => whnf) | (exact Out1.same; conv => whnf) | (refine QAnd.mk ?_ ?_; conv => whnf) | (apply QStepH.go; conv => whnf) | (refine Both.lit_true ?_; conv => whnf) | (refine Both.lit_false ?_; conv => whnf) | (apply QStep.go; conv => whnf) | (refine Need.au ?_; conv => whnf) | (refine ⟨_, rfl, ?_⟩; conv => whnf) | (refine Both.of_false ?_ ?_; (focus (first | rfl | (simp [h1, h2] <;> fail))); conv => whnf) | (refine Both.of_true ?_ ?_; (focus (first | rfl | (simp [h1, h2] <;> fail))); conv => whnf)))
          (refine DrawVC.quiet [1001] Γok (by kernel_rfl) (by kernel_rfl) (by kernel_rfl) (by rfl) ?_; conv => whnf)
          (repeat (first | (refine Need.mk ⟨rfl, hb.1, hb2⟩ ?_; conv => whnf) | (refine Need.mk ⟨rfl, hb3⟩ ?_; conv => whnf) | (refine ⟨_, hx, ?_⟩; conv => whnf) | (refine Need.mk hcat ?_; conv => whnf) | (refine Need.mk hcut ?_; conv => whnf) | (refine Need.mk hcut2 ?_; conv => whnf) | (exact Out.same; conv => whnf) | (exact Out1.same; conv => whnf) | (refine QAnd.mk ?_ ?_; conv => whnf) | (apply QStepH.go; conv => whnf) | (refine Both.lit_true ?_; conv => whnf) | (refine Both.lit_false ?_; conv => whnf) | (apply QStep.go; conv => whnf) | (refine Need.au ?_; conv => whnf) | (refine ⟨_, rfl, ?_⟩; conv => whnf)))
          (refine DrawVC.any Γok (by kernel_rfl) (by kernel_rfl) (by kernel_rfl) (by rfl) ?_; conv => whnf)
          (repeat (first | (refine Need.mk ⟨rfl, hb.1, hb2⟩ ?_; conv => whnf) | (refine Need.mk ⟨rfl, hb3⟩ ?_; conv => whnf) | (exact Out.same; conv => whnf) | (exact Out1.same; conv => whnf) | (refine QAnd.mk ?_ ?_; conv => whnf) | (apply QStepH.go; conv => whnf) | (refine Both.lit_true ?_; conv => whnf) | (refine Both.lit_false ?_; conv => whnf) | (apply QStep.go; conv => whnf) | (refine Need.au ?_; conv => whnf) | (refine ⟨_, rfl, ?_⟩; conv => whnf)))
          refine ⟨k + 1, by omega, by omega, Weak.auto ?_⟩
          (repeat' ((conv => whnf); first | exact True.intro | (refine And.intro ?_ ?_)))
          all_goals first | rfl | exact .eq rfl | exact congrArg (SV.int .i64) hwr | exact g4 | exact g5
        · obtain ⟨g4, g5⟩ := fin _ _ (plain (by simp))
          (refine DrawVC.all Γok (by kernel_rfl) (by kernel_rfl) ?_; conv => whnf)
          (repeat (first | (exact Out.same; conv => whnf) | (exact Out1.same; conv => whnf) | (refine QAnd.mk ?_ ?_; conv => whnf) | (apply QStepH.go; conv => whnf) | (refine Both.lit_true ?_; conv => whnf) | (refine Both.lit_false ?_; conv => whnf) | (apply QStep.go; conv => whnf) | (refine Need.au ?_; conv => whnf) | (refine ⟨_, rfl, ?_⟩; conv => whnf) | (refine Both.of_false ?_ ?_; (focus (first | rfl | (simp [h1, h2] <;> fail))); conv => whnf) | (refine Both.of_true ?_ ?_; (focus (first | rfl | (simp [h1, h2] <;> fail))); conv => whnf)))
          (refine DrawVC.any Γok (by kernel_rfl) (by kernel_rfl) (by kernel_rfl) (by rfl) ?_; conv => whnf)
          (repeat (first | (refine Need.mk ⟨rfl, hb.1, hb2⟩ ?_; conv => whnf) | (refine Need.mk ⟨rfl, hb3⟩ ?_; conv => whnf) | (exact Out.same; conv => whnf) | (exact Out1.same; conv => whnf) | (refine QAnd.mk ?_ ?_; conv => whnf) | (apply QStepH.go; conv => whnf) | (refine Both.lit_true ?_; conv => whnf) | (refine Both.lit_false ?_; conv => whnf) | (apply QStep.go; conv => whnf) | (refine Need.au ?_; conv => whnf) | (refine ⟨_, rfl, ?_⟩; conv => whnf)))
          refine ⟨k + 1, by omega, by omega, Weak.auto ?_⟩
          (repeat' ((conv => whnf); first | exact True.intro | (refine And.intro ?_ ?_)))
          all_goals first | rfl | exact .eq rfl | exact congrArg (SV.int .i64) hwr | exact g4 | exact g5
      · obtain ⟨g4, g5⟩ := fin _ _ (plain fun h0 => h2 h0.2.1)
        (refine DrawVC.all Γok (by kernel_rfl) (by kernel_rfl) ?_; conv => whnf)
        (repeat (first | (exact Out.same; conv => whnf) | (exact Out1.same; conv => whnf) | (refine QAnd.mk ?_ ?_; conv => whnf) | (apply QStepH.go; conv => whnf) | (refine Both.lit_true ?_; conv => whnf) | (refine Both.lit_false ?_; conv => whnf) | (apply QStep.go; conv => whnf) | (refine Need.au ?_; conv => whnf) | (refine ⟨_, rfl, ?_⟩; conv => whnf) | (refine Both.of_false ?_ ?_; (focus (first | rfl | (simp [h1, h2] <;> fail))); conv => whnf) | (refine Both.of_true ?_ ?_; (focus (first | rfl | (simp [h1, h2] <;> fail))); conv => whnf)))
        (refine DrawVC.any Γok (by kernel_rfl) (by kernel_rfl) (by kernel_rfl) (by rfl) ?_; conv => whnf)
        (repeat (first | (refine Need.mk ⟨rfl, hb.1, hb2⟩ ?_; conv => whnf) | (refine Need.mk ⟨rfl, hb3⟩ ?_; conv => whnf) | (exact Out.same; conv => whnf) | (exact Out1.same; conv => whnf) | (refine QAnd.mk ?_ ?_; conv => whnf) | (apply QStepH.go; conv => whnf) | (refine Both.lit_true ?_; conv => whnf) | (refine Both.lit_false ?_; conv => whnf) | (apply QStep.go; conv => whnf) | (refine Need.au ?_; conv => whnf) | (refine ⟨_, rfl, ?_⟩; conv => whnf)))
        refine ⟨k + 1, by omega, by omega, Weak.auto ?_⟩
        (repeat' ((conv => whnf); first | exact True.intro | (refine And.intro ?_ ?_)))
        all_goals first | rfl | exact .eq rfl | exact congrArg (SV.int .i64) hwr | exact g4 | exact g5
    · obtain ⟨g4, g5⟩ := fin _ _ (plain fun h0 => h1 h0.1)
      (refine DrawVC.all Γok (by kernel_rfl) (by kernel_rfl) ?_; conv => whnf)
      (repeat (first | (exact Out.same; conv => whnf) | (exact Out1.same; conv => whnf) | (refine QAnd.mk ?_ ?_; conv => whnf) | (apply QStepH.go; conv => whnf) | (refine Both.lit_true ?_; conv => whnf) | (refine Both.lit_false ?_; conv => whnf) | (apply QStep.go; conv => whnf) | (refine Need.au ?_; conv => whnf) | (refine ⟨_, rfl, ?_⟩; conv => whnf) | (refine Both.of_false ?_ ?_; (focus (first | rfl | (simp [h1] <;> fail))); conv => whnf) | (refine Both.of_true ?_ ?_; (focus (first | rfl | (simp [h1] <;> fail))); conv => whnf)))
      (refine DrawVC.any Γok (by kernel_rfl) (by kernel_rfl) (by kernel_rfl) (by rfl) ?_; conv => whnf)
      (repeat (first | (refine Need.mk ⟨rfl, hb.1, hb2⟩ ?_; conv => whnf) | (refine Need.mk ⟨rfl, hb3⟩ ?_; conv => whnf) | (exact Out.same; conv => whnf) | (exact Out1.same; conv => whnf) | (refine QAnd.mk ?_ ?_; conv => whnf) | (apply QStepH.go; conv => whnf) | (refine Both.lit_true ?_; conv => whnf) | (refine Both.lit_false ?_; conv => whnf) | (apply QStep.go; conv => whnf) | (refine Need.au ?_; conv => whnf) | (refine ⟨_, rfl, ?_⟩; conv => whnf)))
      refine ⟨k + 1, by omega, by omega, Weak.auto ?_⟩
      (repeat' ((conv => whnf); first | exact True.intro | (refine And.intro ?_ ?_)))
      all_goals first | rfl | exact .eq rfl | exact congrArg (SV.int .i64) hwr | exact g4 | exact g5
  · have hke : k = min L.length D.buf.length := by omega
    have hz : cfold D L k = ((D.buf.zip L)).foldl (cstep D.sz) (false, D.st) := by
      rw [cfold, List.take_of_length_le (by rw [List.length_zip]; omega)]
    (conv => whnf)
    (repeat (first | (exact Out.same; conv => whnf) | (exact Out1.same; conv => whnf) | (refine QAnd.mk ?_ ?_; conv => whnf) | (apply QStepH.go; conv => whnf) | (refine Both.lit_true ?_; conv => whnf) | (refine Both.lit_false ?_; conv => whnf) | (apply QStep.go; conv => whnf) | (refine Need.au ?_; conv => whnf) | (refine ⟨_, rfl, ?_⟩; conv => whnf)))
    refine ⟨_, _, WeakV.trans (WeakV.of (Weak.ownNil 0 3 91 2 rfl rfl)) (WeakV.auto ?_), h⟩
    (repeat' ((conv => whnf); first | exact True.intro | (refine And.intro ?_ ?_)))
    all_goals first | rfl | exact .eq rfl | exact own_eq (by rw [hz]; rfl) (by rw [hz]; rfl)
end Go.LX
end
section
set_option maxRecDepth 100000
set_option maxHeartbeats 1000000
set_option autoImplicit false
set_option linter.unusedVariables false
set_option linter.unusedSimpArgs false
namespace Go.LX
open Go.Proofs

theorem crash_c : Meets Tryz.prog [] 16 crashS := by
  refine meets_of Γok Tryz.func16 rfl ?_
  intro args H Q h
  unfold crashS at h
  split at h
  case h_3 => exact h.elim
  · rename_i n cs f
    obtain ⟨L, rfl, rfl, hL, h⟩ := h
    obtain ⟨D, rfl, ho, h⟩ := dIn_out h
    exact crash_core D ho L hL f Q h
  · obtain ⟨D, rfl, ho, h⟩ := dIn_out h
    exact Wp.weak (Weak.nilSlT 1 2 false rfl) (crash_core D ho [] (Nat.zero_le _) false Q h)
theorem crash_k : Contract Tryz.prog [] 16 crashS := ⟨⟨⟨_, rfl, rfl, rfl⟩⟩, crash_c⟩
def Z (n : Nat) : Bs := List.replicate n 0
def Dsk.fresh (z c : Nat) : Dsk := ⟨z, c, List.replicate c (Z z), [], 0⟩
theorem Dsk.fresh_ok {z c : Nat} (h1 : 64 ≤ z ∧ z ≤ 512) (h2 : 1 ≤ c ∧ c ≤ 4096) : (Dsk.fresh z c).Ok :=
  ⟨h1, h2, by simp [fresh], fun s hs => by rw [List.eq_of_mem_replicate hs]; simp [Z, fresh], fun w hw => by simp [fresh] at hw, by simp [fresh], by simp [fresh]⟩
def okG (z c : Int) : Bool := decide (64 ≤ z ∧ z ≤ 512 ∧ 1 ≤ c ∧ c ≤ 4096)
def newS : Spec := fun args H Q => match args, H with
  | [.int .i64 z, .int .i64 c], [] => (okG z c = false → Q (.tuple [.nil, .int .i64 1]) []) ∧ (okG z c = true → Q (.tuple [.ptr 0 0, .int .i64 0]) (dB (Dsk.fresh z.toNat c.toNat)))
  | _, _ => False
theorem rep_set (z : Bs) (n k : Nat) (h : k < n) : (List.replicate k z ++ List.replicate (n - k) []).set k z = List.replicate (k + 1) z ++ List.replicate (n - (k + 1)) [] := by
  rw [List.set_append, if_neg (by simp), List.length_replicate, Nat.sub_self, show n - k = (n - (k + 1)) + 1 by omega, List.replicate_succ, List.set_cons_zero, List.replicate_succ', List.append_assoc]
  rfl
theorem new_c : Meets Tryz.prog [] 27 newS := by
  refine meets_of Γok Tryz.func27 rfl ?_
  intro args H Q h
  unfold newS at h
  split at h
  case h_2 => exact h.elim
  rename_i z c
  obtain ⟨hbad, hok⟩ := h
  have bad : ¬ (64 ≤ z ∧ z ≤ 512 ∧ 1 ≤ c ∧ c ≤ 4096) → Q (.tuple [.nil, .int .i64 1]) [] := fun h0 => hbad (decide_eq_false h0)
  (refine sx_sound Γok _ ?_; conv => whnf)
  (repeat (first | (exact Out.same; conv => whnf) | (exact Out1.same; conv => whnf) | (refine QAnd.mk ?_ ?_; conv => whnf) | (apply QStepH.go; conv => whnf) | (refine Both.lit_true ?_; conv => whnf) | (refine Both.lit_false ?_; conv => whnf) | (apply QStep.go; conv => whnf) | (refine Need.au ?_; conv => whnf) | (refine ⟨_, rfl, ?_⟩; conv => whnf)))
  refine Both.dec (fun h1 => ?_) (fun h1 => ?_)
  · (conv => whnf)
    (repeat (first | (exact Out.same; conv => whnf) | (exact Out1.same; conv => whnf) | (refine QAnd.mk ?_ ?_; conv => whnf) | (apply QStepH.go; conv => whnf) | (refine Both.lit_true ?_; conv => whnf) | (refine Both.lit_false ?_; conv => whnf) | (apply QStep.go; conv => whnf) | (refine Need.au ?_; conv => whnf) | (refine ⟨_, rfl, ?_⟩; conv => whnf)))
    exact ⟨_, _, WeakV.drop rfl, bad (by omega)⟩
  (conv => whnf)
  (repeat (first | (exact Out.same; conv => whnf) | (exact Out1.same; conv => whnf) | (refine QAnd.mk ?_ ?_; conv => whnf) | (apply QStepH.go; conv => whnf) | (refine Both.lit_true ?_; conv => whnf) | (refine Both.lit_false ?_; conv => whnf) | (apply QStep.go; conv => whnf) | (refine Need.au ?_; conv => whnf) | (refine ⟨_, rfl, ?_⟩; conv => whnf)))
  refine Both.dec (fun h2 => ?_) (fun h2 => ?_)
  · (conv => whnf)
    (repeat (first | (exact Out.same; conv => whnf) | (exact Out1.same; conv => whnf) | (refine QAnd.mk ?_ ?_; conv => whnf) | (apply QStepH.go; conv => whnf) | (refine Both.lit_true ?_; conv => whnf) | (refine Both.lit_false ?_; conv => whnf) | (apply QStep.go; conv => whnf) | (refine Need.au ?_; conv => whnf) | (refine ⟨_, rfl, ?_⟩; conv => whnf)))
    exact ⟨_, _, WeakV.drop rfl, bad (by omega)⟩
  (conv => whnf)
  (repeat (first | (exact Out.same; conv => whnf) | (exact Out1.same; conv => whnf) | (refine QAnd.mk ?_ ?_; conv => whnf) | (apply QStepH.go; conv => whnf) | (refine Both.lit_true ?_; conv => whnf) | (refine Both.lit_false ?_; conv => whnf) | (apply QStep.go; conv => whnf) | (refine Need.au ?_; conv => whnf) | (refine ⟨_, rfl, ?_⟩; conv => whnf)))
  refine Both.dec (fun h3 => ?_) (fun h3 => ?_)
  · (conv => whnf)
    (repeat (first | (exact Out.same; conv => whnf) | (exact Out1.same; conv => whnf) | (refine QAnd.mk ?_ ?_; conv => whnf) | (apply QStepH.go; conv => whnf) | (refine Both.lit_true ?_; conv => whnf) | (refine Both.lit_false ?_; conv => whnf) | (apply QStep.go; conv => whnf) | (refine Need.au ?_; conv => whnf) | (refine ⟨_, rfl, ?_⟩; conv => whnf)))
    exact ⟨_, _, WeakV.drop rfl, bad (by omega)⟩
  (conv => whnf)
  (repeat (first | (exact Out.same; conv => whnf) | (exact Out1.same; conv => whnf) | (refine QAnd.mk ?_ ?_; conv => whnf) | (apply QStepH.go; conv => whnf) | (refine Both.lit_true ?_; conv => whnf) | (refine Both.lit_false ?_; conv => whnf) | (apply QStep.go; conv => whnf) | (refine Need.au ?_; conv => whnf) | (refine ⟨_, rfl, ?_⟩; conv => whnf)))
  refine Both.dec (fun h4 => ?_) (fun h4 => ?_)
  · (conv => whnf)
    (repeat (first | (exact Out.same; conv => whnf) | (exact Out1.same; conv => whnf) | (refine QAnd.mk ?_ ?_; conv => whnf) | (apply QStepH.go; conv => whnf) | (refine Both.lit_true ?_; conv => whnf) | (refine Both.lit_false ?_; conv => whnf) | (apply QStep.go; conv => whnf) | (refine Need.au ?_; conv => whnf) | (refine ⟨_, rfl, ?_⟩; conv => whnf)))
    exact ⟨_, _, WeakV.drop rfl, bad (by omega)⟩
  have hz : 64 ≤ z ∧ z ≤ 512 := by omega
  have hc : 1 ≤ c ∧ c ≤ 4096 := by omega
  have h := hok (decide_eq_true ⟨hz.1, hz.2, hc⟩)
  have hmk : c = c ∧ 0 ≤ c ∧ 16 * c ≤ 140737488355328 ∧ c ≤ 140737488355328 := by omega
  (conv => whnf)
  (repeat (first | (refine Need.mk hmk ?_; conv => whnf) | (exact Out.same; conv => whnf) | (exact Out1.same; conv => whnf) | (refine QAnd.mk ?_ ?_; conv => whnf) | (apply QStepH.go; conv => whnf) | (refine Both.lit_true ?_; conv => whnf) | (refine Both.lit_false ?_; conv => whnf) | (apply QStep.go; conv => whnf) | (refine Need.au ?_; conv => whnf) | (refine ⟨_, rfl, ?_⟩; conv => whnf)))
  have cz : ((z.toNat : Nat) : Int) = z := by omega
  have cc : ((c.toNat : Nat) : Int) = c := by omega
  generalize hzn : z.toNat = zn at *
  generalize hcn : c.toNat = cn at *
  subst cz
  subst cc
  have hz0 : zerosOf 1 cn [CV.str []] = (List.replicate 0 (Z zn) ++ List.replicate (cn - 0) []).map CV.str := by
    show List.replicate cn (CV.str []) = _
    simp
  refine loop_rule (fun k : Nat => ⟨[.int .i64 (zn : Int), .any, .any, .any, .any, .any, .ptr 0 0, .any, .any, .any, .any, .any, .any, .any, .any, .any, .any, .any, .any, .any, .any, .any, .any, .any, .any, .any, .any, .any, .any, .any, .any, .any, .any, .int .i64 (cn : Int), .int .i64 (k : Int), .any, .any, .any, .any, .any, .any, .any, .any, .any, .any, .any, .any], [.cells [.int .i64 (zn : Int), .int .i64 (cn : Int), .own 1, .nilsl, .int .i64 0] 79, .own 9 1 cn ((List.replicate k (Z zn) ++ List.replicate (cn - k) []).map CV.str) true]⟩) (fun k => k ≤ cn) (fun k => cn - k) 0 (by omega) (Weak.auto ?_) ?_
  · (repeat' ((conv => whnf); first | exact True.intro | (refine And.intro ?_ ?_)))
    all_goals first | rfl | exact .eq rfl | exact own_eq rfl hz0
  intro k hk
  (refine sx_sound Γok _ ?_; conv => whnf)
  refine Both.dec (fun hlt => ?_) (fun hge => ?_)
  · have hkl : k < cn := by omega
    have hst : ((List.replicate k (Z zn) ++ List.replicate (cn - k) []).map CV.str).set ((k : Int)).toNat (.str (Z zn)) = (List.replicate (k + 1) (Z zn) ++ List.replicate (cn - (k + 1)) []).map CV.str := by
      rw [← rep_set _ _ _ hkl, List.map_set]
      rfl
    have hwr : IntKind.i64.wrap ((k : Int) + 1) = ((k + 1 : Nat) : Int) := by rw [wrap_i64 (by omega) (by omega)]; rfl
    have hlen : ((List.replicate k (Z zn) ++ List.replicate (cn - k) []).map CV.str).length = cn := by simp; omega
    have hz1 : (0 : Int) ≤ (zn : Int) ∧ (zn : Int) ≤ 140737488355328 := by omega
    have hix : (1 : Nat) = 1 ∧ (0 : Int) ≤ (k : Int) ∧ (k : Int) < ((cn : Nat) : Int) := by omega
    have hix2 : (1 : Nat) = 1 ∧ ((k : Int)).toNat < ((List.replicate k (Z zn) ++ List.replicate (cn - k) []).map CV.str).length := by rw [hlen]; omega
    (conv => whnf)
    (repeat (first | (exact Out.same; conv => whnf) | (exact Out1.same; conv => whnf) | (refine QAnd.mk ?_ ?_; conv => whnf) | (apply QStepH.go; conv => whnf) | (refine Both.lit_true ?_; conv => whnf) | (refine Both.lit_false ?_; conv => whnf) | (apply QStep.go; conv => whnf) | (refine Need.au ?_; conv => whnf) | (refine ⟨_, rfl, ?_⟩; conv => whnf)))
    (refine DrawVC.any Γok (by kernel_rfl) (by kernel_rfl) (by kernel_rfl) (by rfl) ?_; conv => whnf)
    (repeat (first | (refine CallVC.auto zero_k (Need.mk hz1 ?_); conv => whnf) | (refine Need.mk hix ?_; conv => whnf) | (refine Need.mk hix2 ?_; conv => whnf) | (exact Out.same; conv => whnf) | (exact Out1.same; conv => whnf) | (refine QAnd.mk ?_ ?_; conv => whnf) | (apply QStepH.go; conv => whnf) | (refine Both.lit_true ?_; conv => whnf) | (refine Both.lit_false ?_; conv => whnf) | (apply QStep.go; conv => whnf) | (refine Need.au ?_; conv => whnf) | (refine ⟨_, rfl, ?_⟩; conv => whnf)))
    refine ⟨k + 1, by omega, by omega, Weak.auto ?_⟩
    (repeat' ((conv => whnf); first | exact True.intro | (refine And.intro ?_ ?_)))
    all_goals first | rfl | exact .eq rfl | exact congrArg (SV.int .i64) hwr | exact own_eq rfl hst
  · have hke : k = cn := by omega
    subst hke
    have he : List.replicate k (Z zn) ++ List.replicate (k - k) [] = List.replicate k (Z zn) := by simp
    (conv => whnf)
    (repeat (first | (exact Out.same; conv => whnf) | (exact Out1.same; conv => whnf) | (refine QAnd.mk ?_ ?_; conv => whnf) | (apply QStepH.go; conv => whnf) | (refine Both.lit_true ?_; conv => whnf) | (refine Both.lit_false ?_; conv => whnf) | (apply QStep.go; conv => whnf) | (refine Need.au ?_; conv => whnf) | (refine ⟨_, rfl, ?_⟩; conv => whnf)))
    refine ⟨_, _, WeakV.trans (WeakV.of (Weak.ownNil 0 3 91 2 rfl rfl)) (WeakV.auto ?_), h⟩
    (repeat' ((conv => whnf); first | exact True.intro | (refine And.intro ?_ ?_)))
    all_goals first | rfl | exact .eq rfl | exact own_eq (by simp [Dsk.fresh]) (by rw [he]; rfl)
theorem new_k : Contract Tryz.prog [] 27 newS := ⟨⟨⟨_, rfl, rfl, rfl⟩⟩, new_c⟩
end Go.LX
end
section
set_option maxRecDepth 100000
set_option maxHeartbeats 4000000
set_option autoImplicit false
set_option linter.unusedVariables false
set_option linter.unusedSimpArgs false
namespace Go.LX
open Go.Proofs

theorem noesc : ∀ (v : Value) (w : World), (callFunc 113 #[v]).run Tryz.prog w = .ok (.value v) w := by
  intro v w
  rw [Go.run_callFunc_extern Tryz.func113 (by kernel_rfl) (by kernel_rfl) (by kernel_rfl) (e := Extern.AbiNoEscape.same) (by kernel_rfl)]
  rfl
theorem info_bld : ∃ j, Tryz.prog.info? 112 = some j ∧ j.size ≠ 0 := by
  have h : (Tryz.prog.info? 112).map (·.size) = some 2 := by kernel_rfl
  cases hj : Tryz.prog.info? 112 with
  | none => rw [hj] at h; cases h
  | some j =>
    rw [hj] at h
    refine ⟨j, rfl, ?_⟩
    have h2 : j.size = 2 := by simpa using h
    omega
theorem conv_to : PtrConv Tryz.prog 110 174 114 3 1 := by
  obtain ⟨j, h1, h2⟩ := info_bld
  exact .to Tryz.underlying110 (by kernel_rfl) h1 h2 (by decide)
theorem conv_back : PtrConv Tryz.prog 174 110 114 3 1 := by
  obtain ⟨j, h1, h2⟩ := info_bld
  exact .back (by kernel_rfl) Tryz.underlying110 h1 (by kernel_rfl)
theorem bys_one (l : List UInt8) (b : UInt8) : bys l ++ [CV.int .u8 (b.toNat : Int)] = bys (l ++ [b]) := by simp [bys]
def copyS : Spec := fun args H Q => match args, H with
  | [.ptr 0 1], [.cells [x, .opt 0 1, y] 114, o] => Q (.tuple []) [.cells [x, .ptr 0 1, y] 114, o]
  | _, _ => False
theorem copy_c : Meets Tryz.prog [] 97 copyS := by
  refine meets_of Γok Tryz.func97 rfl ?_
  intro args H Q h
  unfold copyS at h
  split at h
  case h_2 => exact h.elim
  refine Wp.opt 0 1 0 1 rfl rfl ?_ ?_
  · (refine sx_sound Γok _ ?_; conv => whnf)
    refine ⟨_, rfl, ?_⟩
    (conv => whnf)
    (repeat (first | (refine Both.lit_true ?_; conv => whnf) | (refine Both.lit_false ?_; conv => whnf) | (refine Need.mk ?_ ?_; (focus (first | omega | exact ⟨by omega, by omega⟩ | rfl | exact ⟨rfl, rfl⟩ | exact ⟨rfl, Nat.le_of_ble_eq_true rfl⟩ | exact Nat.le_of_ble_eq_true rfl | (refine ⟨rfl, rfl, ?_⟩; simp [isFar, ofV0, CV.up, SV.renL, SV.ren] <;> fail) | (refine ⟨rfl, Nat.le_of_ble_eq_true rfl, ?_⟩; simp [isFar, ofV0, CV.up, SV.renL, SV.ren] <;> fail) | (simp <;> fail))); conv => whnf)))
    refine Need.mk conv_to ?_
    (conv => whnf)
    refine CallVC.same noesc ?_
    (conv => whnf)
    refine Need.mk conv_back ?_
    (conv => whnf)
    (repeat (first | (refine Both.lit_true ?_; conv => whnf) | (refine Both.lit_false ?_; conv => whnf) | (refine Need.mk ?_ ?_; (focus (first | omega | exact ⟨by omega, by omega⟩ | rfl | exact ⟨rfl, rfl⟩ | exact ⟨rfl, Nat.le_of_ble_eq_true rfl⟩ | exact Nat.le_of_ble_eq_true rfl | (refine ⟨rfl, rfl, ?_⟩; simp [isFar, ofV0, CV.up, SV.renL, SV.ren] <;> fail) | (refine ⟨rfl, Nat.le_of_ble_eq_true rfl, ?_⟩; simp [isFar, ofV0, CV.up, SV.renL, SV.ren] <;> fail) | (simp <;> fail))); conv => whnf)))
    exact ⟨_, _, WeakV.refl _ _ _ _, h⟩
  · (refine sx_sound Γok _ ?_; conv => whnf)
    refine ⟨_, rfl, ?_⟩
    (conv => whnf)
    (repeat (first | (refine Both.lit_true ?_; conv => whnf) | (refine Both.lit_false ?_; conv => whnf) | (refine Need.mk ?_ ?_; (focus (first | omega | exact ⟨by omega, by omega⟩ | rfl | exact ⟨rfl, rfl⟩ | exact ⟨rfl, Nat.le_of_ble_eq_true rfl⟩ | exact Nat.le_of_ble_eq_true rfl | (refine ⟨rfl, rfl, ?_⟩; simp [isFar, ofV0, CV.up, SV.renL, SV.ren] <;> fail) | (refine ⟨rfl, Nat.le_of_ble_eq_true rfl, ?_⟩; simp [isFar, ofV0, CV.up, SV.renL, SV.ren] <;> fail) | (simp <;> fail))); conv => whnf)))
    refine ⟨_, rfl, ?_⟩
    (conv => whnf)
    (repeat (first | (refine Both.lit_true ?_; conv => whnf) | (refine Both.lit_false ?_; conv => whnf) | (refine Need.mk ?_ ?_; (focus (first | omega | exact ⟨by omega, by omega⟩ | rfl | exact ⟨rfl, rfl⟩ | exact ⟨rfl, Nat.le_of_ble_eq_true rfl⟩ | exact Nat.le_of_ble_eq_true rfl | (refine ⟨rfl, rfl, ?_⟩; simp [isFar, ofV0, CV.up, SV.renL, SV.ren] <;> fail) | (refine ⟨rfl, Nat.le_of_ble_eq_true rfl, ?_⟩; simp [isFar, ofV0, CV.up, SV.renL, SV.ren] <;> fail) | (simp <;> fail))); conv => whnf)))
    exact ⟨_, _, WeakV.refl _ _ _ _, h⟩
theorem copy_k : Contract Tryz.prog [] 97 copyS := ⟨⟨⟨_, rfl, rfl, rfl⟩⟩, copy_c⟩
def wbS : Spec := fun args H Q => match args, H with
  | [.ptr 0 1, .int .u8 n], [.cells [.int .i64 x, .opt 0 1, .own 1] 114, .own 5 1 m xs true] => ∃ (l : List UInt8) (b : UInt8), n = (b.toNat : Int) ∧ xs = bys l ∧ m = l.length ∧ l.length < 1000000000 ∧ Q .any [.cells [.int .i64 x, .opt 0 1, .own 2] 114, .gone, .own 5 1 (l.length + 1) (bys (l ++ [b])) true]
  | _, _ => False
theorem wb_c : Meets Tryz.prog [] 110 wbS := by
  refine meets_of Γok Tryz.func110 rfl ?_
  intro args H Q h
  unfold wbS at h
  split at h
  case h_2 => exact h.elim
  obtain ⟨l, b, rfl, rfl, rfl, hl, h⟩ := h
  (refine sx_sound Γok _ ?_; conv => whnf)
  all_goals
    refine CallVC.auto copy_k ?_
    (conv => whnf)
    (repeat (first | (refine Both.lit_true ?_; conv => whnf) | (refine Both.lit_false ?_; conv => whnf) | (refine Need.mk ?_ ?_; (focus (first | omega | exact ⟨by omega, by omega⟩ | rfl | exact ⟨rfl, rfl⟩ | exact ⟨rfl, Nat.le_of_ble_eq_true rfl⟩ | exact Nat.le_of_ble_eq_true rfl | (refine ⟨rfl, rfl, ?_⟩; simp [isFar, ofV0, CV.up, SV.renL, SV.ren] <;> fail) | (refine ⟨rfl, Nat.le_of_ble_eq_true rfl, ?_⟩; simp [isFar, ofV0, CV.up, SV.renL, SV.ren] <;> fail) | (simp <;> fail))); conv => whnf)))
    refine ⟨_, rfl, ?_⟩
    (conv => whnf)
    (repeat (first | (refine Both.lit_true ?_; conv => whnf) | (refine Both.lit_false ?_; conv => whnf) | (refine Need.mk ?_ ?_; (focus (first | omega | exact ⟨by omega, by omega⟩ | rfl | exact ⟨rfl, rfl⟩ | exact ⟨rfl, Nat.le_of_ble_eq_true rfl⟩ | exact Nat.le_of_ble_eq_true rfl | (refine ⟨rfl, rfl, ?_⟩; simp [isFar, ofV0, CV.up, SV.renL, SV.ren] <;> fail) | (refine ⟨rfl, Nat.le_of_ble_eq_true rfl, ?_⟩; simp [isFar, ofV0, CV.up, SV.renL, SV.ren] <;> fail) | (simp <;> fail))); conv => whnf)))
    refine Need.mk (by rw [show ti5.bytes = 1 from rfl]; omega) ?_
    (conv => whnf)
    (repeat (first | (refine Both.lit_true ?_; conv => whnf) | (refine Both.lit_false ?_; conv => whnf) | (refine Need.mk ?_ ?_; (focus (first | omega | exact ⟨by omega, by omega⟩ | rfl | exact ⟨rfl, rfl⟩ | exact ⟨rfl, Nat.le_of_ble_eq_true rfl⟩ | exact Nat.le_of_ble_eq_true rfl | (refine ⟨rfl, rfl, ?_⟩; simp [isFar, ofV0, CV.up, SV.renL, SV.ren] <;> fail) | (refine ⟨rfl, Nat.le_of_ble_eq_true rfl, ?_⟩; simp [isFar, ofV0, CV.up, SV.renL, SV.ren] <;> fail) | (simp <;> fail))); conv => whnf)))
    refine ⟨_, _, WeakV.to [0, 1, 2] rfl rfl rfl rfl ?_, h⟩
    (repeat' ((conv => whnf); first | exact True.intro | (refine And.intro ?_ ?_)))
    all_goals first | rfl | exact .eq rfl | exact .pt ⟨rfl, ⟨rfl, rfl⟩, rfl, trivial⟩ | (rw [← bys_one]; rfl)
theorem wb_k : Contract Tryz.prog [] 110 wbS := ⟨⟨⟨_, rfl, rfl, rfl⟩⟩, wb_c⟩
theorem bys_app (l s : List UInt8) : bys l ++ bys s = bys (l ++ s) := by simp [bys]
def wsS : Spec := fun args H Q => match args, H with
  | [.ptr 0 1, .str s], [.cells [.int .i64 x, .opt 0 1, .own 1] 114, .own 5 1 m xs true] => ∃ (l : List UInt8), xs = bys l ∧ m = l.length ∧ l.length < 1000000000 ∧ s.length < 1000000000 ∧ Q (.tuple [.int .i64 s.length, .any]) [.cells [.int .i64 x, .opt 0 1, .own 2] 114, .gone, .own 5 1 (l.length + s.length) (bys (l ++ s)) true]
  | _, _ => False
theorem ws_c : Meets Tryz.prog [] 69 wsS := by
  refine meets_of Γok Tryz.func69 rfl ?_
  intro args H Q h
  unfold wsS at h
  split at h
  case h_2 => exact h.elim
  obtain ⟨l, rfl, rfl, hl, hs, h⟩ := h
  (refine sx_sound Γok _ ?_; conv => whnf)
  all_goals
    refine CallVC.auto copy_k ?_
    (conv => whnf)
    (repeat (first | (refine Both.lit_true ?_; conv => whnf) | (refine Both.lit_false ?_; conv => whnf) | (refine Need.mk ?_ ?_; (focus (first | omega | exact ⟨by omega, by omega⟩ | rfl | exact ⟨rfl, rfl⟩ | exact ⟨rfl, Nat.le_of_ble_eq_true rfl⟩ | exact Nat.le_of_ble_eq_true rfl | (refine ⟨rfl, rfl, ?_⟩; simp [isFar, ofV0, CV.up, SV.renL, SV.ren] <;> fail) | (refine ⟨rfl, Nat.le_of_ble_eq_true rfl, ?_⟩; simp [isFar, ofV0, CV.up, SV.renL, SV.ren] <;> fail) | (simp <;> fail))); conv => whnf)))
    refine ⟨_, rfl, ?_⟩
    (conv => whnf)
    (repeat (first | (refine Both.lit_true ?_; conv => whnf) | (refine Both.lit_false ?_; conv => whnf) | (refine Need.mk ?_ ?_; (focus (first | omega | exact ⟨by omega, by omega⟩ | rfl | exact ⟨rfl, rfl⟩ | exact ⟨rfl, Nat.le_of_ble_eq_true rfl⟩ | exact Nat.le_of_ble_eq_true rfl | (refine ⟨rfl, rfl, ?_⟩; simp [isFar, ofV0, CV.up, SV.renL, SV.ren] <;> fail) | (refine ⟨rfl, Nat.le_of_ble_eq_true rfl, ?_⟩; simp [isFar, ofV0, CV.up, SV.renL, SV.ren] <;> fail) | (simp <;> fail))); conv => whnf)))
    refine Need.mk (by rw [show ti5.bytes = 1 from rfl]; omega) ?_
    (conv => whnf)
    (repeat (first | (refine Both.lit_true ?_; conv => whnf) | (refine Both.lit_false ?_; conv => whnf) | (refine Need.mk ?_ ?_; (focus (first | omega | exact ⟨by omega, by omega⟩ | rfl | exact ⟨rfl, rfl⟩ | exact ⟨rfl, Nat.le_of_ble_eq_true rfl⟩ | exact Nat.le_of_ble_eq_true rfl | (refine ⟨rfl, rfl, ?_⟩; simp [isFar, ofV0, CV.up, SV.renL, SV.ren] <;> fail) | (refine ⟨rfl, Nat.le_of_ble_eq_true rfl, ?_⟩; simp [isFar, ofV0, CV.up, SV.renL, SV.ren] <;> fail) | (simp <;> fail))); conv => whnf)))
    refine ⟨_, _, WeakV.to [0, 1, 2] rfl rfl rfl rfl ?_, h⟩
    (repeat' ((conv => whnf); first | exact True.intro | (refine And.intro ?_ ?_)))
    all_goals first | rfl | exact .eq rfl | exact .pt ⟨rfl, ⟨rfl, rfl⟩, rfl, trivial⟩ | (rw [← bys_app]; rfl)
theorem ws_k : Contract Tryz.prog [] 69 wsS := ⟨⟨⟨_, rfl, rfl, rfl⟩⟩, ws_c⟩
def strS : Spec := fun args H Q => match args, H with
  | [.ptr 0 1], [.cells [.int .i64 x, .opt 0 1, .own 1] 114, .own 5 1 m xs true] => ∃ (l : List UInt8), xs = bys l ∧ m = l.length ∧ l.length < 1000000000000 ∧ Q (.str l) [.cells [.int .i64 x, .opt 0 1, .own 1] 114, .gone]
  | _, _ => False
theorem str_c : Meets Tryz.prog [] 70 strS := by
  refine meets_of Γok Tryz.func70 rfl ?_
  intro args H Q h
  unfold strS at h
  split at h
  case h_2 => exact h.elim
  obtain ⟨l, rfl, rfl, hl, h⟩ := h
  cases l with
  | nil =>
    all_goals
      (refine sx_sound Γok _ ?_; conv => whnf)
      refine DrawVC.all Γok (by kernel_rfl) (by kernel_rfl) ?_
      (conv => whnf)
      (repeat (first | (exact Out.same; conv => whnf) | (exact Out1.same; conv => whnf) | (refine QAnd.mk ?_ ?_; conv => whnf) | (apply QStepH.go; conv => whnf) | (refine Both.lit_true ?_; conv => whnf) | (refine Both.lit_false ?_; conv => whnf) | (apply QStep.go; conv => whnf) | (refine Need.mk ?_ ?_; (focus (first | omega | exact ⟨by omega, by omega⟩ | rfl | exact ⟨rfl, rfl⟩ | exact ⟨rfl, Nat.le_of_ble_eq_true rfl⟩ | exact Nat.le_of_ble_eq_true rfl | (refine ⟨rfl, rfl, ?_⟩; simp [isFar, ofV0, CV.up, SV.renL, SV.ren] <;> fail) | (refine ⟨rfl, Nat.le_of_ble_eq_true rfl, ?_⟩; simp [isFar, ofV0, CV.up, SV.renL, SV.ren] <;> fail) | (simp <;> fail))); conv => whnf)))
      (refine ⟨_, rfl, ?_⟩; conv => whnf)
      (repeat (first | (exact Out.same; conv => whnf) | (exact Out1.same; conv => whnf) | (refine QAnd.mk ?_ ?_; conv => whnf) | (apply QStepH.go; conv => whnf) | (refine Both.lit_true ?_; conv => whnf) | (refine Both.lit_false ?_; conv => whnf) | (apply QStep.go; conv => whnf) | (refine Need.mk ?_ ?_; (focus (first | omega | exact ⟨by omega, by omega⟩ | rfl | exact ⟨rfl, rfl⟩ | exact ⟨rfl, Nat.le_of_ble_eq_true rfl⟩ | exact Nat.le_of_ble_eq_true rfl | (refine ⟨rfl, rfl, ?_⟩; simp [isFar, ofV0, CV.up, SV.renL, SV.ren] <;> fail) | (refine ⟨rfl, Nat.le_of_ble_eq_true rfl, ?_⟩; simp [isFar, ofV0, CV.up, SV.renL, SV.ren] <;> fail) | (simp <;> fail))); conv => whnf)))
      (refine ⟨_, rfl, ?_⟩; conv => whnf)
      (repeat (first | (exact Out.same; conv => whnf) | (exact Out1.same; conv => whnf) | (refine QAnd.mk ?_ ?_; conv => whnf) | (apply QStepH.go; conv => whnf) | (refine Both.lit_true ?_; conv => whnf) | (refine Both.lit_false ?_; conv => whnf) | (apply QStep.go; conv => whnf) | (refine Need.mk ?_ ?_; (focus (first | omega | exact ⟨by omega, by omega⟩ | rfl | exact ⟨rfl, rfl⟩ | exact ⟨rfl, Nat.le_of_ble_eq_true rfl⟩ | exact Nat.le_of_ble_eq_true rfl | (refine ⟨rfl, rfl, ?_⟩; simp [isFar, ofV0, CV.up, SV.renL, SV.ren] <;> fail) | (refine ⟨rfl, Nat.le_of_ble_eq_true rfl, ?_⟩; simp [isFar, ofV0, CV.up, SV.renL, SV.ren] <;> fail) | (simp <;> fail))); conv => whnf)))
      refine ⟨_, _, WeakV.to [0, 1] rfl rfl rfl rfl ?_, h⟩
      (repeat' ((conv => whnf); first | exact True.intro | (refine And.intro ?_ ?_)))
      all_goals first | rfl | exact .eq rfl | exact .pt ⟨rfl, ⟨rfl, rfl⟩, rfl, trivial⟩
  | cons b l =>
    all_goals
      (refine sx_sound Γok _ ?_; conv => whnf)
      refine DrawVC.tail Γok 10 (by kernel_rfl) (by kernel_rfl) ?_
      (conv => whnf)
      (repeat (first | (refine Both.lit_true ?_; conv => whnf) | (refine Both.lit_false ?_; conv => whnf) | (refine Need.mk ?_ ?_; (focus (first | omega | exact ⟨by omega, by omega⟩ | rfl | exact ⟨rfl, rfl⟩ | exact ⟨rfl, Nat.le_of_ble_eq_true rfl⟩ | exact Nat.le_of_ble_eq_true rfl | (refine ⟨rfl, rfl, ?_⟩; simp [isFar, ofV0, CV.up, SV.renL, SV.ren] <;> fail) | (refine ⟨rfl, Nat.le_of_ble_eq_true rfl, ?_⟩; simp [isFar, ofV0, CV.up, SV.renL, SV.ren] <;> fail) | (simp <;> fail))); conv => whnf)))
      (refine ⟨_, rfl, ?_⟩; conv => whnf)
      (repeat (first | (refine Both.lit_true ?_; conv => whnf) | (refine Both.lit_false ?_; conv => whnf) | (refine Need.mk ?_ ?_; (focus (first | omega | exact ⟨by omega, by omega⟩ | rfl | exact ⟨rfl, rfl⟩ | exact ⟨rfl, Nat.le_of_ble_eq_true rfl⟩ | exact Nat.le_of_ble_eq_true rfl | (refine ⟨rfl, rfl, ?_⟩; simp [isFar, ofV0, CV.up, SV.renL, SV.ren] <;> fail) | (refine ⟨rfl, Nat.le_of_ble_eq_true rfl, ?_⟩; simp [isFar, ofV0, CV.up, SV.renL, SV.ren] <;> fail) | (simp <;> fail))); conv => whnf)))
      try (refine Need.mk (Nat.succ_pos _) ?_; conv => whnf)
      (refine ⟨_, rfl, ?_⟩; conv => whnf)
      (repeat (first | (refine Both.lit_true ?_; conv => whnf) | (refine Both.lit_false ?_; conv => whnf) | (refine Need.mk ?_ ?_; (focus (first | omega | exact ⟨by omega, by omega⟩ | rfl | exact ⟨rfl, rfl⟩ | exact ⟨rfl, Nat.le_of_ble_eq_true rfl⟩ | exact Nat.le_of_ble_eq_true rfl | (refine ⟨rfl, rfl, ?_⟩; simp [isFar, ofV0, CV.up, SV.renL, SV.ren] <;> fail) | (refine ⟨rfl, Nat.le_of_ble_eq_true rfl, ?_⟩; simp [isFar, ofV0, CV.up, SV.renL, SV.ren] <;> fail) | (simp <;> fail))); conv => whnf)))
      refine ⟨b :: l, rfl, ?_⟩
      refine Need.mk ⟨rfl, rfl, rfl, rfl, Nat.succ_pos _, by omega, by kernel_rfl⟩ ?_
      (conv => whnf)
      (repeat (first | (refine Both.lit_true ?_; conv => whnf) | (refine Both.lit_false ?_; conv => whnf) | (refine Need.mk ?_ ?_; (focus (first | omega | exact ⟨by omega, by omega⟩ | rfl | exact ⟨rfl, rfl⟩ | exact ⟨rfl, Nat.le_of_ble_eq_true rfl⟩ | exact Nat.le_of_ble_eq_true rfl | (refine ⟨rfl, rfl, ?_⟩; simp [isFar, ofV0, CV.up, SV.renL, SV.ren] <;> fail) | (refine ⟨rfl, Nat.le_of_ble_eq_true rfl, ?_⟩; simp [isFar, ofV0, CV.up, SV.renL, SV.ren] <;> fail) | (simp <;> fail))); conv => whnf)))
      refine ⟨_, _, WeakV.to [0, 1] rfl rfl rfl rfl ?_, h⟩
      (repeat' ((conv => whnf); first | exact True.intro | (refine And.intro ?_ ?_)))
      all_goals first | rfl | exact .eq rfl | exact .pt ⟨rfl, ⟨rfl, rfl⟩, rfl, trivial⟩
theorem str_k : Contract Tryz.prog [] 70 strS := ⟨⟨⟨_, rfl, rfl, rfl⟩⟩, str_c⟩
def failS : Spec := fun args H Q => match args, H with
  | [.ptr 0 0, .int .i64 n], .cells (.int .i64 e :: r) t :: H' => (t = 114 ∨ t = 172) ∧ Q (.tuple []) (.cells (.int .i64 (if e = 0 then n else e) :: r) t :: H')
  | _, _ => False
theorem fail_c : Meets Tryz.prog [] 88 failS := by
  refine meets_of Γok Tryz.func88 rfl ?_
  intro args H Q h
  unfold failS at h
  split at h
  case h_2 => exact h.elim
  obtain ⟨ht, h⟩ := h
  rcases ht with rfl | rfl
  all_goals
    (refine sx_sound Γok _ ?_; conv => whnf)
    (refine ⟨_, rfl, ?_⟩; conv => whnf)
    refine Both.dec (fun he => ?_) (fun he => ?_)
    · (conv => whnf)
      (repeat (first | (refine Both.lit_true ?_; conv => whnf) | (refine Both.lit_false ?_; conv => whnf) | (refine Need.mk ?_ ?_; (focus (first | omega | exact ⟨by omega, by omega⟩ | rfl | exact ⟨rfl, rfl⟩ | exact ⟨rfl, Nat.le_of_ble_eq_true rfl⟩ | exact Nat.le_of_ble_eq_true rfl | (refine ⟨rfl, rfl, ?_⟩; simp [isFar, ofV0, CV.up, SV.renL, SV.ren] <;> fail) | (refine ⟨rfl, Nat.le_of_ble_eq_true rfl, ?_⟩; simp [isFar, ofV0, CV.up, SV.renL, SV.ren] <;> fail) | (simp <;> fail))); conv => whnf)))
      rw [if_pos he] at h
      exact ⟨_, _, WeakV.refl _ _ _ _, h⟩
    · (conv => whnf)
      rw [if_neg he] at h
      exact ⟨_, _, WeakV.refl _ _ _ _, h⟩
theorem fail_k : Contract Tryz.prog [] 88 failS := ⟨⟨⟨_, rfl, rfl, rfl⟩⟩, fail_c⟩
def errS : Spec := fun args H Q => match args, H with
  | [.ptr 0 0], .cells (.int .i64 e :: r) t :: H' => (t = 114 ∨ t = 172) ∧ Q (.int .i64 e) (.cells (.int .i64 e :: r) t :: H')
  | _, _ => False
theorem err_c : Meets Tryz.prog [] 89 errS := by
  refine meets_of Γok Tryz.func89 rfl ?_
  intro args H Q h
  unfold errS at h
  split at h
  case h_2 => exact h.elim
  obtain ⟨ht, h⟩ := h
  rcases ht with rfl | rfl
  all_goals
    (refine sx_sound Γok _ ?_; conv => whnf)
    (refine ⟨_, rfl, ?_⟩; conv => whnf)
    exact ⟨_, _, WeakV.refl _ _ _ _, h⟩
theorem err_k : Contract Tryz.prog [] 89 errS := ⟨⟨⟨_, rfl, rfl, rfl⟩⟩, err_c⟩
def beb (n : Nat) : Nat → List UInt8
  | 0 => []
  | k + 1 => UInt8.ofNat (n / 256 ^ k) :: beb n k
theorem beb_length (n : Nat) : ∀ k, (beb n k).length = k
  | 0 => rfl
  | k + 1 => by rw [beb, List.length_cons, beb_length n k]
theorem beb_get (n : Nat) : ∀ (k j : Nat), j < k → (beb n k)[j]? = some (UInt8.ofNat (n / 256 ^ (k - 1 - j)))
  | 0, j, h => by omega
  | k + 1, 0, h => by simp [beb]
  | k + 1, j + 1, h => by
    rw [beb, List.getElem?_cons_succ, beb_get n k j (by omega)]
    congr 4
    omega
theorem beb_take (n k j : Nat) (h : j < k) : (beb n k).take j ++ [UInt8.ofNat (n / 256 ^ (k - 1 - j))] = (beb n k).take (j + 1) := by
  have hl : j < (beb n k).length := by rw [beb_length]; exact h
  rw [List.take_succ_eq_append_getElem hl]
  congr 2
  have := beb_get n k j h
  rw [List.getElem?_eq_getElem hl] at this
  exact (Option.some.inj this).symm
def wr (e : Int) (l : List UInt8) : List LObj := [.cells [.int .i64 e, .opt 0 1, .own 1] 114, .own 5 1 l.length (bys l) true]
def wrN (e : Int) (l : List UInt8) : List LObj := [.cells [.int .i64 e, .opt 0 1, .own 2] 114, .gone, .own 5 1 l.length (bys l) true]
def putS : Spec := fun args H Q => match args, H with
  | [.ptr 0 0, .int .u64 n, .int .i64 k], [.cells [.int .i64 e, .opt 0 1, .own 1] 114, .own 5 1 m xs true] => ∃ (l : List UInt8) (v c : Nat), xs = bys l ∧ m = l.length ∧ l.length < 100000000 ∧ n = v ∧ v < 18446744073709551616 ∧ k = c ∧ 0 < c ∧ c ≤ 8 ∧
    Q (.tuple []) (wrN e (l ++ beb v c))
  | _, _ => False
theorem byte_go (v k : Nat) (hk : k ≤ 7) : IntKind.u8.wrap (shrI .u64 (v : Int) (8 * (k : Int))) = ((UInt8.ofNat (v / 256 ^ k)).toNat : Int) := by
  unfold shrI
  have : min (8 * (k : Int)).toNat IntKind.u64.bits = 8 * k := by
    simp only [IntKind.bits]
    omega
  rw [this, Int.fdiv_eq_ediv_of_nonneg _ (by exact Int.pow_nonneg (by decide)), wrap_u8_mod, show ((2 : Int) ^ (8 * k)) = ((256 ^ k : Nat) : Int) by rw [show (256 : Nat) = 2 ^ 8 from rfl, ← Nat.pow_mul]; simp]
  simp
theorem put_c : Meets Tryz.prog [] 87 putS := by
  refine meets_of Γok Tryz.func87 rfl ?_
  intro args H Q h
  unfold putS at h
  split at h
  case h_2 => exact h.elim
  rename_i e m xs
  obtain ⟨l, v, c, rfl, rfl, hl, rfl, hv, rfl, hc, hc8, h⟩ := h
  (refine sx_sound Γok _ ?_; conv => whnf)
  rw [wrap_i64 (n := (c : Int) - 1) (by omega) (by omega)]
  refine loop_rule (fun j : Nat => ⟨[.ptr 0 0, .int .u64 (v : Int), .any, .any, .any, .any, .int .i64 ((c : Int) - 1 - j), .any, .any, .any, .any, .any, .any, .any, .any, .any, .any, .any, .any, .any, .any, .any], wrN e (l ++ (beb v c).take j)⟩) (fun j => j ≤ c) (fun j => c - j) 0 (by omega) ?_ ?_
  · refine (Weak.fresh 1 0 2 rfl rfl rfl).trans (Weak.le ?_ ?_)
    · (repeat' ((conv => whnf); first | exact True.intro | (refine And.intro ?_ ?_)))
      all_goals first | rfl | (congr 1; omega)
    · (repeat' ((conv => whnf); first | exact True.intro | (refine And.intro ?_ ?_)))
      all_goals first | rfl | exact .eq rfl | exact .pt ⟨rfl, ⟨rfl, rfl⟩, rfl, trivial⟩ | (rw [List.take_zero, List.append_nil])
  · intro j hj
    (refine sx_sound Γok _ ?_; conv => whnf)
    refine Both.dec (fun hlt => ?_) (fun hge => ?_)
    · (conv => whnf)
      refine DrawVC.tail Γok 8 (by kernel_rfl) (by kernel_rfl) ?_
      (conv => whnf)
      rw [show (c : Int) - 1 - j = ((c - 1 - j : Nat) : Int) by omega, wrap_i64 (n := 8 * ((c - 1 - j : Nat) : Int)) (by omega) (by omega)]
      (repeat (first | (refine Both.lit_true ?_; conv => whnf) | (refine Both.lit_false ?_; conv => whnf) | (refine Need.mk ?_ ?_; (focus (first | omega | exact ⟨by omega, by omega⟩ | rfl | exact ⟨rfl, rfl⟩ | exact ⟨rfl, Nat.le_of_ble_eq_true rfl⟩ | exact Nat.le_of_ble_eq_true rfl | (refine ⟨rfl, rfl, ?_⟩; simp [isFar, ofV0, CV.up, SV.renL, SV.ren] <;> fail) | (refine ⟨rfl, Nat.le_of_ble_eq_true rfl, ?_⟩; simp [isFar, ofV0, CV.up, SV.renL, SV.ren] <;> fail) | (simp <;> fail))); conv => whnf)))
      rw [byte_go v (c - 1 - j) (by omega)]
      refine CallVC.of [0, 2] wb_k ⟨_, _, rfl, rfl, rfl, by simp; omega, ?_⟩
      (conv => whnf)
      refine ⟨j + 1, by omega, by omega, Weak.to [0, 1, 3] rfl rfl rfl ?_ ?_⟩
      · (repeat' ((conv => whnf); first | exact True.intro | (refine And.intro ?_ ?_)))
        all_goals first | rfl | exact congrArg (SV.int .i64) (by rw [wrap_i64 (by omega) (by omega)]; omega)
      · (repeat' ((conv => whnf); first | exact True.intro | (refine And.intro ?_ ?_)))
        all_goals first | rfl | exact .eq rfl | exact .pt ⟨rfl, ⟨rfl, rfl⟩, rfl, trivial⟩ | (refine Eq.trans (b := LObj.own 5 1 ((l ++ (beb v c).take j).length + 1) (bys ((l ++ (beb v c).take j) ++ [UInt8.ofNat (v / 256 ^ (c - 1 - j))])) true) rfl ?_; rw [List.append_assoc, beb_take v c j (by omega)]; congr 1; simp [beb_length]; omega)
    · obtain rfl : j = c := by omega
      (conv => whnf)
      refine ⟨_, _, WeakV.refl _ _ _ _, ?_⟩
      rw [List.take_of_length_le (by rw [beb_length]; omega)]
      exact h
theorem put_k : Contract Tryz.prog [] 87 putS := ⟨⟨⟨_, rfl, rfl, rfl⟩⟩, put_c⟩
def errOf (e : Int) : Int := if e = 0 then 1 else e
def wrS (bd : Nat) (args : List SV) (ok : Bool) (more : List UInt8) (H : List LObj) (Q : SV → List LObj → Prop) : Prop :=
  match H with
  | [.cells [.int .i64 e, .opt 0 1, .own 1] 114, .own 5 1 m xs true] => ∃ l : List UInt8, xs = bys l ∧ m = l.length ∧ l.length < bd ∧
    Q (.tuple []) (match ok with
      | true => wrN e (l ++ more)
      | false => wrN (errOf e) l)
  | _ => False
def rawS : Spec := fun args H Q => match args with
  | [.ptr 0 0, .str s] => s.length < 10000000 ∧ wrS 20000000 args true s H Q
  | _ => False
theorem raw_c : Meets Tryz.prog [] 58 rawS := by
  refine meets_of Γok Tryz.func58 rfl ?_
  intro args H Q h
  unfold rawS at h
  split at h
  case h_2 => exact h.elim
  obtain ⟨hs, h⟩ := h
  unfold wrS at h
  split at h
  case h_2 => exact h.elim
  rename_i s _ _ e m xs
  obtain ⟨l, rfl, rfl, hl, h⟩ := h
  all_goals
    (refine sx_sound Γok _ ?_; conv => whnf)
    refine CallVC.of [0, 1] ws_k ⟨_, rfl, rfl, by omega, by omega, ?_⟩
    (conv => whnf)
    refine ⟨_, _, WeakV.to [0, 1, 2] rfl rfl rfl rfl ?_, h⟩
    (repeat' ((conv => whnf); first | exact True.intro | (refine And.intro ?_ ?_)))
    all_goals first | rfl | exact .eq rfl | exact .pt ⟨rfl, ⟨rfl, rfl⟩, rfl, trivial⟩ | (rw [List.length_append]; rfl)
theorem raw_k : Contract Tryz.prog [] 58 rawS := ⟨⟨⟨_, rfl, rfl, rfl⟩⟩, raw_c⟩
def numS : Spec := fun args H Q => match args with
  | [.ptr 0 0, .int .u64 n] => ∃ v : Nat, n = v ∧ v < 18446744073709551616 ∧ wrS 10000000 args true (beb v 8) H Q
  | _ => False
theorem num_c : Meets Tryz.prog [] 59 numS := by
  refine meets_of Γok Tryz.func59 rfl ?_
  intro args H Q h
  unfold numS at h
  split at h
  case h_2 => exact h.elim
  obtain ⟨v, rfl, hv, h⟩ := h
  unfold wrS at h
  split at h
  case h_2 => exact h.elim
  rename_i _ _ e m xs
  obtain ⟨l, rfl, rfl, hl, h⟩ := h
  all_goals
    (refine sx_sound Γok _ ?_; conv => whnf)
    refine CallVC.of [0, 1] put_k ⟨l, v, 8, rfl, rfl, by omega, rfl, hv, rfl, by omega, by omega, ?_⟩
    (conv => whnf)
    refine ⟨_, _, WeakV.to [0, 1, 2] rfl rfl rfl rfl ?_, h⟩
    (repeat' ((conv => whnf); first | exact True.intro | (refine And.intro ?_ ?_)))
    all_goals first | rfl | exact .eq rfl | exact .pt ⟨rfl, ⟨rfl, rfl⟩, rfl, trivial⟩
theorem num_k : Contract Tryz.prog [] 59 numS := ⟨⟨⟨_, rfl, rfl, rfl⟩⟩, num_c⟩
def byteS : Spec := fun args H Q => match args with
  | [.ptr 0 0, .int .i64 n] => wrS 10000000 args (decide (0 ≤ n ∧ n ≤ 255)) [UInt8.ofNat n.toNat] H Q
  | _ => False
theorem byte_c : Meets Tryz.prog [] 60 byteS := by
  refine meets_of Γok Tryz.func60 rfl ?_
  intro args H Q h
  unfold byteS at h
  split at h
  case h_2 => exact h.elim
  unfold wrS at h
  split at h
  case h_2 => exact h.elim
  rename_i n _ e m xs
  obtain ⟨l, rfl, rfl, hl, h⟩ := h
  all_goals
    (refine sx_sound Γok _ ?_; conv => whnf)
    refine Both.dec (fun h0 => ?_) (fun h0 => ?_)
    · (conv => whnf)
      (repeat (first | (refine Both.lit_true ?_; conv => whnf) | (refine Both.lit_false ?_; conv => whnf) | (refine Need.mk ?_ ?_; (focus (first | omega | exact ⟨by omega, by omega⟩ | rfl | exact ⟨rfl, rfl⟩ | exact ⟨rfl, Nat.le_of_ble_eq_true rfl⟩ | exact Nat.le_of_ble_eq_true rfl | (refine ⟨rfl, rfl, ?_⟩; simp [isFar, ofV0, CV.up, SV.renL, SV.ren] <;> fail) | (refine ⟨rfl, Nat.le_of_ble_eq_true rfl, ?_⟩; simp [isFar, ofV0, CV.up, SV.renL, SV.ren] <;> fail) | (simp <;> fail))); conv => whnf)))
      refine CallVC.of [0, 1] fail_k ⟨.inl rfl, ?_⟩
      (conv => whnf)
      rw [decide_eq_false (by omega)] at h
      exact ⟨_, _, WeakV.of (Weak.fresh 1 0 2 rfl rfl rfl), h⟩
    · (conv => whnf)
      (repeat (first | (refine Both.lit_true ?_; conv => whnf) | (refine Both.lit_false ?_; conv => whnf) | (refine Need.mk ?_ ?_; (focus (first | omega | exact ⟨by omega, by omega⟩ | rfl | exact ⟨rfl, rfl⟩ | exact ⟨rfl, Nat.le_of_ble_eq_true rfl⟩ | exact Nat.le_of_ble_eq_true rfl | (refine ⟨rfl, rfl, ?_⟩; simp [isFar, ofV0, CV.up, SV.renL, SV.ren] <;> fail) | (refine ⟨rfl, Nat.le_of_ble_eq_true rfl, ?_⟩; simp [isFar, ofV0, CV.up, SV.renL, SV.ren] <;> fail) | (simp <;> fail))); conv => whnf)))
      refine Both.dec (fun h1 => ?_) (fun h1 => ?_)
      · (conv => whnf)
        (repeat (first | (refine Both.lit_true ?_; conv => whnf) | (refine Both.lit_false ?_; conv => whnf) | (refine Need.mk ?_ ?_; (focus (first | omega | exact ⟨by omega, by omega⟩ | rfl | exact ⟨rfl, rfl⟩ | exact ⟨rfl, Nat.le_of_ble_eq_true rfl⟩ | exact Nat.le_of_ble_eq_true rfl | (refine ⟨rfl, rfl, ?_⟩; simp [isFar, ofV0, CV.up, SV.renL, SV.ren] <;> fail) | (refine ⟨rfl, Nat.le_of_ble_eq_true rfl, ?_⟩; simp [isFar, ofV0, CV.up, SV.renL, SV.ren] <;> fail) | (simp <;> fail))); conv => whnf)))
        refine CallVC.of [0, 1] fail_k ⟨.inl rfl, ?_⟩
        (conv => whnf)
        rw [decide_eq_false (by omega)] at h
        exact ⟨_, _, WeakV.of (Weak.fresh 1 0 2 rfl rfl rfl), h⟩
      · (conv => whnf)
        (repeat (first | (refine Both.lit_true ?_; conv => whnf) | (refine Both.lit_false ?_; conv => whnf) | (refine Need.mk ?_ ?_; (focus (first | omega | exact ⟨by omega, by omega⟩ | rfl | exact ⟨rfl, rfl⟩ | exact ⟨rfl, Nat.le_of_ble_eq_true rfl⟩ | exact Nat.le_of_ble_eq_true rfl | (refine ⟨rfl, rfl, ?_⟩; simp [isFar, ofV0, CV.up, SV.renL, SV.ren] <;> fail) | (refine ⟨rfl, Nat.le_of_ble_eq_true rfl, ?_⟩; simp [isFar, ofV0, CV.up, SV.renL, SV.ren] <;> fail) | (simp <;> fail))); conv => whnf)))
        obtain ⟨v, rfl⟩ : ∃ v : Nat, n = v := ⟨n.toNat, by omega⟩
        rw [wrap_u64 (by omega) (by omega)]
        refine CallVC.of [0, 1] put_k ⟨l, v, 1, rfl, rfl, by omega, rfl, by omega, rfl, by omega, by omega, ?_⟩
        (conv => whnf)
        rw [decide_eq_true (by omega)] at h
        refine ⟨_, _, WeakV.to [0, 1, 2] rfl rfl rfl rfl ?_, h⟩
        (repeat' ((conv => whnf); first | exact True.intro | (refine And.intro ?_ ?_)))
        all_goals first | rfl | exact .eq rfl | exact .pt ⟨rfl, ⟨rfl, rfl⟩, rfl, trivial⟩ | (rw [show beb v 1 = [UInt8.ofNat ((v : Int)).toNat] by simp [beb]]; rfl)
theorem byte_k : Contract Tryz.prog [] 60 byteS := ⟨⟨⟨_, rfl, rfl, rfl⟩⟩, byte_c⟩
def textS : Spec := fun args H Q => match args with
  | [.ptr 0 0, .str s] => wrS 10000000 args (decide (s.length ≤ 65535)) (beb s.length 2 ++ s) H Q
  | _ => False
theorem text_c : Meets Tryz.prog [] 61 textS := by
  refine meets_of Γok Tryz.func61 rfl ?_
  intro args H Q h
  unfold textS at h
  split at h
  case h_2 => exact h.elim
  unfold wrS at h
  split at h
  case h_2 => exact h.elim
  rename_i s _ e m xs
  obtain ⟨l, rfl, rfl, hl, h⟩ := h
  all_goals
    (refine sx_sound Γok _ ?_; conv => whnf)
    refine Both.dec (fun h0 => ?_) (fun h0 => ?_)
    · (conv => whnf)
      (repeat (first | (refine Both.lit_true ?_; conv => whnf) | (refine Both.lit_false ?_; conv => whnf) | (refine Need.mk ?_ ?_; (focus (first | omega | exact ⟨by omega, by omega⟩ | rfl | exact ⟨rfl, rfl⟩ | exact ⟨rfl, Nat.le_of_ble_eq_true rfl⟩ | exact Nat.le_of_ble_eq_true rfl | (refine ⟨rfl, rfl, ?_⟩; simp [isFar, ofV0, CV.up, SV.renL, SV.ren] <;> fail) | (refine ⟨rfl, Nat.le_of_ble_eq_true rfl, ?_⟩; simp [isFar, ofV0, CV.up, SV.renL, SV.ren] <;> fail) | (simp <;> fail))); conv => whnf)))
      refine CallVC.of [0, 1] fail_k ⟨.inl rfl, ?_⟩
      (conv => whnf)
      rw [decide_eq_false (by omega)] at h
      exact ⟨_, _, WeakV.of (Weak.fresh 1 0 2 rfl rfl rfl), h⟩
    · (conv => whnf)
      (repeat (first | (refine Both.lit_true ?_; conv => whnf) | (refine Both.lit_false ?_; conv => whnf) | (refine Need.mk ?_ ?_; (focus (first | omega | exact ⟨by omega, by omega⟩ | rfl | exact ⟨rfl, rfl⟩ | exact ⟨rfl, Nat.le_of_ble_eq_true rfl⟩ | exact Nat.le_of_ble_eq_true rfl | (refine ⟨rfl, rfl, ?_⟩; simp [isFar, ofV0, CV.up, SV.renL, SV.ren] <;> fail) | (refine ⟨rfl, Nat.le_of_ble_eq_true rfl, ?_⟩; simp [isFar, ofV0, CV.up, SV.renL, SV.ren] <;> fail) | (simp <;> fail))); conv => whnf)))
      rw [wrap_u64 (by omega) (by omega)]
      refine CallVC.of [0, 1] put_k ⟨l, s.length, 2, rfl, rfl, by omega, rfl, by omega, rfl, by omega, by omega, ?_⟩
      (conv => whnf)
      refine CallVC.of [0, 2] raw_k ⟨by omega, l ++ beb s.length 2, rfl, rfl, by rw [List.length_append, beb_length]; omega, ?_⟩
      (conv => whnf)
      rw [decide_eq_true (by omega)] at h
      refine ⟨_, _, WeakV.to [0, 1, 3] rfl rfl rfl rfl ?_, h⟩
      (repeat' ((conv => whnf); first | exact True.intro | (refine And.intro ?_ ?_)))
      all_goals first | rfl | exact .eq rfl | exact .pt ⟨rfl, ⟨rfl, rfl⟩, rfl, trivial⟩ | (rw [← List.append_assoc]; rfl)
theorem text_k : Contract Tryz.prog [] 61 textS := ⟨⟨⟨_, rfl, rfl, rfl⟩⟩, text_c⟩
def bytesS : Spec := fun args H Q => match args, H with
  | [.ptr 0 0], [.cells [.int .i64 e, .opt 0 1, .own 1] 114, .own 5 1 m xs true] => ∃ l : List UInt8, xs = bys l ∧ m = l.length ∧ l.length < 1000000000 ∧
    Q (.tuple [.str (if e = 0 then l else []), .int .i64 e]) [.cells [.int .i64 e, .opt 0 1, .own 1] 114, .gone]
  | _, _ => False
theorem bytes_c : Meets Tryz.prog [] 62 bytesS := by
  refine meets_of Γok Tryz.func62 rfl ?_
  intro args H Q h
  unfold bytesS at h
  split at h
  case h_2 => exact h.elim
  rename_i e m xs
  obtain ⟨l, rfl, rfl, hl, h⟩ := h
  all_goals
    (refine sx_sound Γok _ ?_; conv => whnf)
    refine CallVC.of [0, 1] err_k ⟨.inl rfl, ?_⟩
    (conv => whnf)
    refine Both.dec_not (fun h0 => ?_) (fun h0 => ?_)
    · (conv => whnf)
      rw [if_neg h0] at h
      refine ⟨_, _, WeakV.to [0, 1] rfl rfl rfl rfl ?_, h⟩
      (repeat' ((conv => whnf); first | exact True.intro | (refine And.intro ?_ ?_)))
      all_goals first | rfl | exact .eq rfl | exact .pt ⟨rfl, ⟨rfl, rfl⟩, rfl, trivial⟩
    · (conv => whnf)
      subst h0
      (repeat (first | (refine Both.lit_true ?_; conv => whnf) | (refine Both.lit_false ?_; conv => whnf) | (refine Need.mk ?_ ?_; (focus (first | omega | exact ⟨by omega, by omega⟩ | rfl | exact ⟨rfl, rfl⟩ | exact ⟨rfl, Nat.le_of_ble_eq_true rfl⟩ | exact Nat.le_of_ble_eq_true rfl | (refine ⟨rfl, rfl, ?_⟩; simp [isFar, ofV0, CV.up, SV.renL, SV.ren] <;> fail) | (refine ⟨rfl, Nat.le_of_ble_eq_true rfl, ?_⟩; simp [isFar, ofV0, CV.up, SV.renL, SV.ren] <;> fail) | (simp <;> fail))); conv => whnf)))
      refine CallVC.of [0, 1] str_k ⟨_, rfl, rfl, by omega, ?_⟩
      (conv => whnf)
      refine ⟨_, _, WeakV.to [0, 1] rfl rfl rfl rfl ?_, h⟩
      (repeat' ((conv => whnf); first | exact True.intro | (refine And.intro ?_ ?_)))
      all_goals first | rfl | exact .eq rfl | exact .pt ⟨rfl, ⟨rfl, rfl⟩, rfl, trivial⟩
theorem bytes_k : Contract Tryz.prog [] 62 bytesS := ⟨⟨⟨_, rfl, rfl, rfl⟩⟩, bytes_c⟩
end Go.LX
end
section
set_option maxRecDepth 100000
set_option maxHeartbeats 4000000
set_option autoImplicit false
set_option linter.unusedVariables false
set_option linter.unusedSimpArgs false
namespace Go.LX
open Go.Proofs

def rd (e : Int) (s : List UInt8) : List LObj := [.cells [.int .i64 e, .str s] 172]
def rdOk (e n : Int) (s : List UInt8) : Bool := decide (e = 0 ∧ 0 ≤ n ∧ n ≤ s.length)
def rdE (e n : Int) (s : List UInt8) : Int := if e = 0 then (if 0 ≤ n ∧ n ≤ s.length then 0 else 6) else e
def rdT (e n : Int) (s : List UInt8) : List UInt8 := if rdOk e n s then s.take n.toNat else []
def rdS (e n : Int) (s : List UInt8) : List UInt8 := if rdOk e n s then s.drop n.toNat else s
def rrawS : Spec := fun args H Q => match args, H with
  | [.ptr 0 0, .int .i64 n], [.cells [.int .i64 e, .str s] 172] => s.length < 1000000 ∧ Q (.str (rdT e n s)) (rd (rdE e n s) (rdS e n s))
  | _, _ => False
theorem rraw_c : Meets Tryz.prog [] 114 rrawS := by
  refine meets_of Γok Tryz.func114 rfl ?_
  intro args H Q h
  unfold rrawS at h
  split at h
  case h_2 => exact h.elim
  rename_i n e s
  obtain ⟨hs, h⟩ := h
  have bad : ∀ h0 : ¬ (0 ≤ n ∧ n ≤ s.length), rdT e n s = [] ∧ rdS e n s = s ∧ rdE e n s = (if e = 0 then 6 else e) := by
    intro h0
    have : rdOk e n s = false := decide_eq_false (by omega)
    simp [rdT, rdS, rdE, this, h0]
  (refine sx_sound Γok _ ?_; conv => whnf)
  refine Both.dec (fun h0 => ?_) (fun h0 => ?_)
  · (conv => whnf)
    (repeat (first | (refine Both.lit_true ?_; conv => whnf) | (refine Both.lit_false ?_; conv => whnf) | (refine Need.mk ?_ ?_; (focus (first | omega | exact ⟨by omega, by omega⟩ | rfl | exact ⟨rfl, rfl⟩ | exact ⟨rfl, Nat.le_of_ble_eq_true rfl⟩ | exact Nat.le_of_ble_eq_true rfl | (refine ⟨rfl, rfl, ?_⟩; simp [isFar, ofV0, CV.up, SV.renL, SV.ren] <;> fail) | (refine ⟨rfl, Nat.le_of_ble_eq_true rfl, ?_⟩; simp [isFar, ofV0, CV.up, SV.renL, SV.ren] <;> fail) | (simp <;> fail))); conv => whnf)))
    refine CallVC.of [0] fail_k ⟨.inr rfl, ?_⟩
    (conv => whnf)
    refine CallVC.of [0] err_k ⟨.inr rfl, ?_⟩
    (conv => whnf)
    refine Both.of_true (by rw [Bool.not_eq_true', decide_eq_false_iff_not]; split <;> omega) ?_
    (conv => whnf)
    obtain ⟨b1, b2, b3⟩ := bad (by omega)
    rw [b1, b2, b3] at h
    exact ⟨_, _, WeakV.refl _ _ _ _, h⟩
  · (conv => whnf)
    (repeat (first | (refine Both.lit_true ?_; conv => whnf) | (refine Both.lit_false ?_; conv => whnf) | (refine Need.mk ?_ ?_; (focus (first | omega | exact ⟨by omega, by omega⟩ | rfl | exact ⟨rfl, rfl⟩ | exact ⟨rfl, Nat.le_of_ble_eq_true rfl⟩ | exact Nat.le_of_ble_eq_true rfl | (refine ⟨rfl, rfl, ?_⟩; simp [isFar, ofV0, CV.up, SV.renL, SV.ren] <;> fail) | (refine ⟨rfl, Nat.le_of_ble_eq_true rfl, ?_⟩; simp [isFar, ofV0, CV.up, SV.renL, SV.ren] <;> fail) | (simp <;> fail))); conv => whnf)))
    (refine ⟨_, rfl, ?_⟩; conv => whnf)
    (repeat (first | (refine Both.lit_true ?_; conv => whnf) | (refine Both.lit_false ?_; conv => whnf) | (refine Need.mk ?_ ?_; (focus (first | omega | exact ⟨by omega, by omega⟩ | rfl | exact ⟨rfl, rfl⟩ | exact ⟨rfl, Nat.le_of_ble_eq_true rfl⟩ | exact Nat.le_of_ble_eq_true rfl | (refine ⟨rfl, rfl, ?_⟩; simp [isFar, ofV0, CV.up, SV.renL, SV.ren] <;> fail) | (refine ⟨rfl, Nat.le_of_ble_eq_true rfl, ?_⟩; simp [isFar, ofV0, CV.up, SV.renL, SV.ren] <;> fail) | (simp <;> fail))); conv => whnf)))
    refine Both.dec (fun h1 => ?_) (fun h1 => ?_)
    · (conv => whnf)
      (repeat (first | (refine Both.lit_true ?_; conv => whnf) | (refine Both.lit_false ?_; conv => whnf) | (refine Need.mk ?_ ?_; (focus (first | omega | exact ⟨by omega, by omega⟩ | rfl | exact ⟨rfl, rfl⟩ | exact ⟨rfl, Nat.le_of_ble_eq_true rfl⟩ | exact Nat.le_of_ble_eq_true rfl | (refine ⟨rfl, rfl, ?_⟩; simp [isFar, ofV0, CV.up, SV.renL, SV.ren] <;> fail) | (refine ⟨rfl, Nat.le_of_ble_eq_true rfl, ?_⟩; simp [isFar, ofV0, CV.up, SV.renL, SV.ren] <;> fail) | (simp <;> fail))); conv => whnf)))
      refine CallVC.of [0] fail_k ⟨.inr rfl, ?_⟩
      (conv => whnf)
      refine CallVC.of [0] err_k ⟨.inr rfl, ?_⟩
      (conv => whnf)
      refine Both.of_true (by rw [Bool.not_eq_true', decide_eq_false_iff_not]; split <;> omega) ?_
      (conv => whnf)
      obtain ⟨b1, b2, b3⟩ := bad (by omega)
      rw [b1, b2, b3] at h
      exact ⟨_, _, WeakV.refl _ _ _ _, h⟩
    · (conv => whnf)
      (repeat (first | (refine Both.lit_true ?_; conv => whnf) | (refine Both.lit_false ?_; conv => whnf) | (refine Need.mk ?_ ?_; (focus (first | omega | exact ⟨by omega, by omega⟩ | rfl | exact ⟨rfl, rfl⟩ | exact ⟨rfl, Nat.le_of_ble_eq_true rfl⟩ | exact Nat.le_of_ble_eq_true rfl | (refine ⟨rfl, rfl, ?_⟩; simp [isFar, ofV0, CV.up, SV.renL, SV.ren] <;> fail) | (refine ⟨rfl, Nat.le_of_ble_eq_true rfl, ?_⟩; simp [isFar, ofV0, CV.up, SV.renL, SV.ren] <;> fail) | (simp <;> fail))); conv => whnf)))
      refine CallVC.of [0] err_k ⟨.inr rfl, ?_⟩
      (conv => whnf)
      refine Both.dec_not (fun he => ?_) (fun he => ?_)
      · (conv => whnf)
        rw [show rdT e n s = [] by simp [rdT, rdOk, he], show rdS e n s = s by simp [rdS, rdOk, he], show rdE e n s = e by simp [rdE, he]] at h
        exact ⟨_, _, WeakV.refl _ _ _ _, h⟩
      · (conv => whnf)
        subst he
        have hok : rdOk 0 n s = true := decide_eq_true ⟨rfl, by omega, by omega⟩
        (repeat (first | (refine Both.lit_true ?_; conv => whnf) | (refine Both.lit_false ?_; conv => whnf) | (refine Need.mk ?_ ?_; (focus (first | omega | exact ⟨by omega, by omega⟩ | rfl | exact ⟨rfl, rfl⟩ | exact ⟨rfl, Nat.le_of_ble_eq_true rfl⟩ | exact Nat.le_of_ble_eq_true rfl | (refine ⟨rfl, rfl, ?_⟩; simp [isFar, ofV0, CV.up, SV.renL, SV.ren] <;> fail) | (refine ⟨rfl, Nat.le_of_ble_eq_true rfl, ?_⟩; simp [isFar, ofV0, CV.up, SV.renL, SV.ren] <;> fail) | (simp <;> fail))); conv => whnf)))
        (refine ⟨_, rfl, ?_⟩; conv => whnf)
        refine Need.mk ⟨by omega, by omega, by omega⟩ ?_
        (conv => whnf)
        (repeat (first | (refine Both.lit_true ?_; conv => whnf) | (refine Both.lit_false ?_; conv => whnf) | (refine Need.mk ?_ ?_; (focus (first | omega | exact ⟨by omega, by omega⟩ | rfl | exact ⟨rfl, rfl⟩ | exact ⟨rfl, Nat.le_of_ble_eq_true rfl⟩ | exact Nat.le_of_ble_eq_true rfl | (refine ⟨rfl, rfl, ?_⟩; simp [isFar, ofV0, CV.up, SV.renL, SV.ren] <;> fail) | (refine ⟨rfl, Nat.le_of_ble_eq_true rfl, ?_⟩; simp [isFar, ofV0, CV.up, SV.renL, SV.ren] <;> fail) | (simp <;> fail))); conv => whnf)))
        (refine ⟨_, rfl, ?_⟩; conv => whnf)
        refine Need.mk ⟨by omega, by omega, by omega⟩ ?_
        (conv => whnf)
        (repeat (first | (refine Both.lit_true ?_; conv => whnf) | (refine Both.lit_false ?_; conv => whnf) | (refine Need.mk ?_ ?_; (focus (first | omega | exact ⟨by omega, by omega⟩ | rfl | exact ⟨rfl, rfl⟩ | exact ⟨rfl, Nat.le_of_ble_eq_true rfl⟩ | exact Nat.le_of_ble_eq_true rfl | (refine ⟨rfl, rfl, ?_⟩; simp [isFar, ofV0, CV.up, SV.renL, SV.ren] <;> fail) | (refine ⟨rfl, Nat.le_of_ble_eq_true rfl, ?_⟩; simp [isFar, ofV0, CV.up, SV.renL, SV.ren] <;> fail) | (simp <;> fail))); conv => whnf)))
        rw [show rdT 0 n s = s.take n.toNat by simp [rdT, hok], show rdS 0 n s = s.drop n.toNat by simp [rdS, hok], show rdE 0 n s = 0 by simp [rdE]; omega] at h
        refine ⟨_, _, WeakV.to [0] rfl rfl rfl ?_ ?_, h⟩
        · exact congrArg SV.str rfl
        · (repeat' ((conv => whnf); first | exact True.intro | (refine And.intro ?_ ?_)))
          all_goals first | rfl | exact .eq rfl | (refine .eq ?_; rw [show List.drop n.toNat s = List.drop n.toNat (List.take (s.length : Int).toNat s) by rw [Int.toNat_natCast, List.take_length]]; rfl)
theorem rraw_k : Contract Tryz.prog [] 114 rrawS := ⟨⟨⟨_, rfl, rfl, rfl⟩⟩, rraw_c⟩
def rdLeft (e : Int) (s : List UInt8) : Int := if e = 0 then s.length else 0
def leftS : Spec := fun args H Q => match args, H with
  | [.ptr 0 0], [.cells [.int .i64 e, .str s] 172] => Q (.int .i64 (rdLeft e s)) (rd e s)
  | _, _ => False
theorem left_c : Meets Tryz.prog [] 116 leftS := by
  refine meets_of Γok Tryz.func116 rfl ?_
  intro args H Q h
  unfold leftS at h
  split at h
  case h_2 => exact h.elim
  (refine sx_sound Γok _ ?_; conv => whnf)
  refine CallVC.of [0] err_k ⟨.inr rfl, ?_⟩
  (conv => whnf)
  refine Both.dec_not (fun he => ?_) (fun he => ?_)
  · (conv => whnf)
    rw [rdLeft, if_neg he] at h
    exact ⟨_, _, WeakV.refl _ _ _ _, h⟩
  · (conv => whnf)
    (repeat (first | (refine Both.lit_true ?_; conv => whnf) | (refine Both.lit_false ?_; conv => whnf) | (refine Need.mk ?_ ?_; (focus (first | omega | exact ⟨by omega, by omega⟩ | rfl | exact ⟨rfl, rfl⟩ | exact ⟨rfl, Nat.le_of_ble_eq_true rfl⟩ | exact Nat.le_of_ble_eq_true rfl | (refine ⟨rfl, rfl, ?_⟩; simp [isFar, ofV0, CV.up, SV.renL, SV.ren] <;> fail) | (refine ⟨rfl, Nat.le_of_ble_eq_true rfl, ?_⟩; simp [isFar, ofV0, CV.up, SV.renL, SV.ren] <;> fail) | (simp <;> fail))); conv => whnf)))
    (refine ⟨_, rfl, ?_⟩; conv => whnf)
    rw [rdLeft, if_pos he] at h
    exact ⟨_, _, WeakV.refl _ _ _ _, h⟩
theorem left_k : Contract Tryz.prog [] 116 leftS := ⟨⟨⟨_, rfl, rfl, rfl⟩⟩, left_c⟩
def bev (l : List UInt8) : Nat := l.foldl (fun n b => n * 256 + b.toNat) 0
theorem bev_app (l : List UInt8) (b : UInt8) : bev (l ++ [b]) = bev l * 256 + b.toNat := by simp [bev]
theorem bev_from (l : List UInt8) : ∀ (a m : Nat), a < 256 ^ m → l.foldl (fun n b => n * 256 + b.toNat) a < 256 ^ (m + l.length) := by
  induction l with
  | nil => intro a m h; simpa using h
  | cons b l ih =>
    intro a m h
    rw [List.foldl_cons, List.length_cons, show m + (l.length + 1) = (m + 1) + l.length by omega]
    refine ih _ _ ?_
    have := b.toNat_lt
    rw [Nat.pow_succ]
    omega
theorem bev_lt (l : List UInt8) : bev l < 256 ^ l.length := by
  have := bev_from l 0 0 (by simp)
  rw [Nat.zero_add] at this
  exact this
theorem bys_get {l : List UInt8} {i : Nat} (h : i < l.length) : (bys l)[((i : Nat) : Int).toNat]? = some (.int .u8 (l[i].toNat : Int)) := by
  rw [Int.toNat_natCast, bys, List.getElem?_map, List.getElem?_eq_getElem h]
  rfl
theorem bev_take (l : List UInt8) {k : Nat} (h : k < l.length) : bev (l.take (k + 1)) = bev (l.take k) * 256 + l[k].toNat := by
  rw [List.take_succ_eq_append_getElem h, bev_app]
theorem bev_room (l : List UInt8) {k : Nat} (h : k < l.length) (h8 : l.length ≤ 8) : bev (l.take k) * 256 + 256 ≤ 18446744073709551616 := by
  have h1 := bev_lt (l.take k)
  rw [List.length_take, Nat.min_eq_left (by omega)] at h1
  have h2 : 256 ^ k ≤ 256 ^ 7 := Nat.pow_le_pow_right (by omega) (by omega)
  have h3 : (256 : Nat) ^ 7 = 72057594037927936 := by decide
  omega
theorem rdT_len (e n : Int) (s : List UInt8) : (rdT e n s).length ≤ n.toNat := by
  unfold rdT
  split
  · rw [List.length_take]; omega
  · simp
theorem or_go (n : Nat) (b : UInt8) (h : n * 256 + 256 ≤ 18446744073709551616) : bitOr .u64 (shlI .u64 (n : Int) 8) (IntKind.u64.wrap (b.toNat : Int)) = ((n * 256 + b.toNat : Nat) : Int) := by
  have hb := b.toNat_lt
  have h1 : shlI .u64 (n : Int) 8 = ((n * 256 : Nat) : Int) := by
    unfold shlI
    rw [show (2 : Int) ^ min (8 : Int).toNat IntKind.u64.bits = 256 from rfl, wrap_u64 (by omega) (by omega)]
    omega
  rw [h1, wrap_u64 (by omega) (by omega)]
  show IntKind.u64.wrap (((BitVec.ofInt 64 ((n * 256 : Nat) : Int) ||| BitVec.ofInt 64 ((b.toNat : Nat) : Int)).toNat : Nat) : Int) = _
  rw [BitVec.ofInt_natCast, BitVec.ofInt_natCast, BitVec.toNat_or, BitVec.toNat_ofNat, BitVec.toNat_ofNat, Nat.mod_eq_of_lt (by omega), Nat.mod_eq_of_lt (by omega)]
  have h2 : n * 256 ||| b.toNat = n * 256 + b.toNat := by
    have := Nat.shiftLeft_add_eq_or_of_lt (b := b.toNat) (i := 8) (by omega) n
    rw [Nat.shiftLeft_eq] at this
    exact this.symm
  rw [h2, wrap_u64 (by omega) (by omega)]
def getS : Spec := fun args H Q => match args, H with
  | [.ptr 0 0, .int .i64 n], [.cells [.int .i64 e, .str s] 172] => s.length < 1000000 ∧ 0 ≤ n ∧ n ≤ 8 ∧ Q (.int .u64 (bev (rdT e n s) : Int)) (rd (rdE e n s) (rdS e n s))
  | _, _ => False
theorem get_c : Meets Tryz.prog [] 112 getS := by
  refine meets_of Γok Tryz.func112 rfl ?_
  intro args H Q h
  unfold getS at h
  split at h
  case h_2 => exact h.elim
  rename_i n e s
  obtain ⟨hs, hn0, hn8, h⟩ := h
  (refine sx_sound Γok _ ?_; conv => whnf)
  refine CallVC.of [0] rraw_k ⟨hs, ?_⟩
  (conv => whnf)
  have htl := rdT_len e n s
  generalize rdT e n s = t at htl h ⊢
  generalize rdE e n s = e1 at h ⊢
  generalize rdS e n s = s1 at h ⊢
  have htl : t.length ≤ 8 := by omega
  refine loop_rule (fun k : Nat => ⟨[.any, .any, .any, .any, .any, .int .u64 (bev (t.take k) : Int), .any, .any, .any, .any, .any, .own 1, .int .i64 (t.length : Int), .int .i64 (k : Int), .any, .any, .any, .any, .any, .any, .any, .any, .any, .any], rd e1 s1 ++ [.own 5 1 t.length (bys t) true]⟩) (fun k => k ≤ t.length) (fun k => t.length - k) 0 (by omega) ?_ ?_
  · refine Weak.le ?_ ?_
    · (repeat' ((conv => whnf); first | exact True.intro | (refine And.intro ?_ ?_)))
      all_goals first | rfl | done
    · (repeat' ((conv => whnf); first | exact True.intro | (refine And.intro ?_ ?_)))
      all_goals first | rfl | exact .eq rfl
  · intro k hk
    (refine sx_sound Γok _ ?_; conv => whnf)
    refine Both.dec (fun hlt => ?_) (fun hge => ?_)
    · (conv => whnf)
      (repeat (first | (refine Both.lit_true ?_; conv => whnf) | (refine Both.lit_false ?_; conv => whnf) | (refine Need.mk ?_ ?_; (focus (first | omega | exact ⟨by omega, by omega⟩ | rfl | exact ⟨rfl, rfl⟩ | exact ⟨rfl, Nat.le_of_ble_eq_true rfl⟩ | exact Nat.le_of_ble_eq_true rfl | (refine ⟨rfl, rfl, ?_⟩; simp [isFar, ofV0, CV.up, SV.renL, SV.ren] <;> fail) | (refine ⟨rfl, Nat.le_of_ble_eq_true rfl, ?_⟩; simp [isFar, ofV0, CV.up, SV.renL, SV.ren] <;> fail) | (simp <;> fail))); conv => whnf)))
      refine Need.mk ⟨rfl, by omega, by omega⟩ ?_
      (conv => whnf)
      refine ⟨_, bys_get (by omega), ?_⟩
      (conv => whnf)
      (repeat (first | (refine Both.lit_true ?_; conv => whnf) | (refine Both.lit_false ?_; conv => whnf) | (refine Need.mk ?_ ?_; (focus (first | omega | exact ⟨by omega, by omega⟩ | rfl | exact ⟨rfl, rfl⟩ | exact ⟨rfl, Nat.le_of_ble_eq_true rfl⟩ | exact Nat.le_of_ble_eq_true rfl | (refine ⟨rfl, rfl, ?_⟩; simp [isFar, ofV0, CV.up, SV.renL, SV.ren] <;> fail) | (refine ⟨rfl, Nat.le_of_ble_eq_true rfl, ?_⟩; simp [isFar, ofV0, CV.up, SV.renL, SV.ren] <;> fail) | (simp <;> fail))); conv => whnf)))
      have hkt : k < t.length := by omega
      refine ⟨k + 1, by omega, by omega, Weak.le ?_ ?_⟩
      · (repeat' ((conv => whnf); first | exact True.intro | (refine And.intro ?_ ?_)))
        all_goals first | rfl | exact congrArg (SV.int .i64) (by rw [wrap_i64 (by omega) (by omega)]; rfl) | exact congrArg (SV.int .u64) (by rw [or_go _ _ (bev_room t hkt htl), bev_take t hkt])
      · (repeat' ((conv => whnf); first | exact True.intro | (refine And.intro ?_ ?_)))
        all_goals first | rfl | exact .eq rfl
    · obtain rfl : k = t.length := by omega
      (conv => whnf)
      rw [List.take_length]
      refine ⟨_, _, WeakV.to [0] rfl rfl rfl rfl ?_, h⟩
      (repeat' ((conv => whnf); first | exact True.intro | (refine And.intro ?_ ?_)))
      all_goals first | rfl | exact .eq rfl
theorem get_k : Contract Tryz.prog [] 112 getS := ⟨⟨⟨_, rfl, rfl, rfl⟩⟩, get_c⟩
theorem rdS_len (e n : Int) (s : List UInt8) : (rdS e n s).length ≤ s.length := by
  unfold rdS
  split
  · rw [List.length_drop]; omega
  · simp
def rdV (e n : Int) (s : List UInt8) : Nat := bev (rdT e n s)
theorem rdV_lt (e : Int) (n : Nat) (s : List UInt8) : rdV e n s < 256 ^ n := by
  have h1 := bev_lt (rdT e n s)
  have h2 := rdT_len e n s
  exact Nat.lt_of_lt_of_le h1 (Nat.pow_le_pow_right (by omega) (by omega))
theorem rdV_lt1 (e : Int) (s : List UInt8) : rdV e 1 s < 256 := rdV_lt e 1 s
theorem rdV_lt2 (e : Int) (s : List UInt8) : rdV e 2 s < 65536 := rdV_lt e 2 s
def rnewS : Spec := fun args H Q => match args, H with
  | [.str s], [] => Q (.ptr 0 0) (rd 0 s)
  | _, _ => False
theorem rnew_c : Meets Tryz.prog [] 94 rnewS := by
  refine meets_of Γok Tryz.func94 rfl ?_
  intro args H Q h
  unfold rnewS at h
  split at h
  case h_2 => exact h.elim
  (refine sx_sound Γok _ ?_; conv => whnf)
  (repeat (first | (exact Out.same; conv => whnf) | (exact Out1.same; conv => whnf) | (refine QAnd.mk ?_ ?_; conv => whnf) | (apply QStepH.go; conv => whnf) | (refine Both.lit_true ?_; conv => whnf) | (refine Both.lit_false ?_; conv => whnf) | (apply QStep.go; conv => whnf) | (refine Need.au ?_; conv => whnf) | (refine ⟨_, rfl, ?_⟩; conv => whnf)))
  refine ⟨_, _, WeakV.auto ?_, h⟩
  (repeat' ((conv => whnf); first | exact True.intro | (refine And.intro ?_ ?_)))
  all_goals first | rfl | exact .eq rfl
theorem rnew_k : Contract Tryz.prog [] 94 rnewS := ⟨⟨⟨_, rfl, rfl, rfl⟩⟩, rnew_c⟩
def rbyteS : Spec := fun args H Q => match args, H with
  | [.ptr 0 0], [.cells [.int .i64 e, .str s] 172] => Need (s.length < 1000000) (Q (.int .i64 (rdV e 1 s : Int)) (rd (rdE e 1 s) (rdS e 1 s)))
  | _, _ => False
theorem rbyte_c : Meets Tryz.prog [] 96 rbyteS := by
  refine meets_of Γok Tryz.func96 rfl ?_
  intro args H Q h
  unfold rbyteS at h
  split at h
  case h_2 => exact h.elim
  rename_i e s
  obtain ⟨hs, h⟩ := h
  (refine sx_sound Γok _ ?_; conv => whnf)
  refine CallVC.auto get_k ?_
  refine ⟨hs, by omega, by omega, ?_⟩
  (conv => whnf)
  have hv := rdV_lt1 e s
  refine ⟨_, _, WeakV.auto ?_, h⟩
  (repeat' ((conv => whnf); first | exact True.intro | (refine And.intro ?_ ?_)))
  all_goals first | rfl | exact .eq rfl | exact congrArg (SV.int .i64) (wrap_i64 (n := (rdV e 1 s : Int)) (by omega) (by omega))
theorem rbyte_k : Contract Tryz.prog [] 96 rbyteS := ⟨⟨⟨_, rfl, rfl, rfl⟩⟩, rbyte_c⟩
def rnumS : Spec := fun args H Q => match args, H with
  | [.ptr 0 0], [.cells [.int .i64 e, .str s] 172] => Need (s.length < 1000000) (Q (.int .u64 (rdV e 8 s : Int)) (rd (rdE e 8 s) (rdS e 8 s)))
  | _, _ => False
theorem rnum_c : Meets Tryz.prog [] 95 rnumS := by
  refine meets_of Γok Tryz.func95 rfl ?_
  intro args H Q h
  unfold rnumS at h
  split at h
  case h_2 => exact h.elim
  rename_i e s
  obtain ⟨hs, h⟩ := h
  (refine sx_sound Γok _ ?_; conv => whnf)
  refine CallVC.auto get_k ?_
  refine ⟨hs, by omega, by omega, ?_⟩
  (conv => whnf)
  refine ⟨_, _, WeakV.auto ?_, h⟩
  (repeat' ((conv => whnf); first | exact True.intro | (refine And.intro ?_ ?_)))
  all_goals first | rfl | exact .eq rfl
theorem rnum_k : Contract Tryz.prog [] 95 rnumS := ⟨⟨⟨_, rfl, rfl, rfl⟩⟩, rnum_c⟩
def rtextS : Spec := fun args H Q => match args, H with
  | [.ptr 0 0], [.cells [.int .i64 e, .str s] 172] => Need (s.length < 1000000) (Q (.str (rdT (rdE e 2 s) (rdV e 2 s) (rdS e 2 s))) (rd (rdE (rdE e 2 s) (rdV e 2 s) (rdS e 2 s)) (rdS (rdE e 2 s) (rdV e 2 s) (rdS e 2 s))))
  | _, _ => False
theorem rtext_c : Meets Tryz.prog [] 115 rtextS := by
  refine meets_of Γok Tryz.func115 rfl ?_
  intro args H Q h
  unfold rtextS at h
  split at h
  case h_2 => exact h.elim
  rename_i e s
  obtain ⟨hs, h⟩ := h
  (refine sx_sound Γok _ ?_; conv => whnf)
  refine CallVC.auto get_k ?_
  refine ⟨hs, by omega, by omega, ?_⟩
  (conv => whnf)
  have hv := rdV_lt2 e s
  have hl := rdS_len e 2 s
  rw [show IntKind.i64.wrap (bev (rdT e 2 s) : Int) = (rdV e 2 s : Int) from wrap_i64 (n := (rdV e 2 s : Int)) (by omega) (by omega)]
  refine CallVC.auto rraw_k ?_
  refine ⟨by omega, ?_⟩
  (conv => whnf)
  refine ⟨_, _, WeakV.auto ?_, h⟩
  (repeat' ((conv => whnf); first | exact True.intro | (refine And.intro ?_ ?_)))
  all_goals first | rfl | exact .eq rfl
theorem rtext_k : Contract Tryz.prog [] 115 rtextS := ⟨⟨⟨_, rfl, rfl, rfl⟩⟩, rtext_c⟩
end Go.LX
end
section
set_option maxRecDepth 100000
set_option maxHeartbeats 4000000
set_option autoImplicit false
set_option linter.unusedVariables false
set_option linter.unusedSimpArgs false
namespace Go.LX
open Go.Proofs

def wrOk (bd : Nat) (more : List UInt8) (H : List LObj) (Q : SV → List LObj → Prop) : Prop :=
  match H with
  | [.cells [.int .i64 e, .opt 0 1, .own 1] 114, .own 5 1 m xs true] => ∃ l : List UInt8, xs = bys l ∧ m = l.length ∧ l.length < bd ∧ Q (.tuple []) (wrN e (l ++ more))
  | _ => False
def byteOkS : Spec := fun args H Q => match args with
  | [.ptr 0 0, .int .i64 n] => Need (0 ≤ n ∧ n ≤ 255) (wrOk 10000000 [UInt8.ofNat n.toNat] H Q)
  | _ => False
theorem byteOk_k : Contract Tryz.prog [] 60 byteOkS := byte_k.imp fun args H Q h => by
  unfold byteOkS at h
  split at h
  case h_2 => exact h.elim
  obtain ⟨h0, h⟩ := h
  unfold wrOk at h
  split at h
  case h_2 => exact h.elim
  obtain ⟨l, rfl, rfl, hl, h⟩ := h
  refine ⟨l, rfl, rfl, hl, ?_⟩
  rw [decide_eq_true h0]
  exact h
def numOkS : Spec := fun args H Q => match args with
  | [.ptr 0 0, .int .u64 n] => Need (0 ≤ n ∧ n < 18446744073709551616) (wrOk 10000000 (beb n.toNat 8) H Q)
  | _ => False
theorem numOk_k : Contract Tryz.prog [] 59 numOkS := num_k.imp fun args H Q h => by
  unfold numOkS at h
  split at h
  case h_2 => exact h.elim
  rename_i n
  obtain ⟨h0, h⟩ := h
  unfold wrOk at h
  split at h
  case h_2 => exact h.elim
  obtain ⟨l, rfl, rfl, hl, h⟩ := h
  exact ⟨n.toNat, by omega, by omega, l, rfl, rfl, hl, h⟩
def textOkS : Spec := fun args H Q => match args with
  | [.ptr 0 0, .str s] => Need (s.length ≤ 65535) (wrOk 10000000 (beb s.length 2 ++ s) H Q)
  | _ => False
theorem textOk_k : Contract Tryz.prog [] 61 textOkS := text_k.imp fun args H Q h => by
  unfold textOkS at h
  split at h
  case h_2 => exact h.elim
  obtain ⟨h0, h⟩ := h
  unfold wrOk at h
  split at h
  case h_2 => exact h.elim
  obtain ⟨l, rfl, rfl, hl, h⟩ := h
  refine ⟨l, rfl, rfl, hl, ?_⟩
  rw [decide_eq_true h0]
  exact h
def rawOkS : Spec := fun args H Q => match args with
  | [.ptr 0 0, .str s] => Need (s.length < 10000000) (wrOk 20000000 s H Q)
  | _ => False
theorem rawOk_k : Contract Tryz.prog [] 58 rawOkS := raw_k.imp fun args H Q h => by
  unfold rawOkS at h
  split at h
  case h_2 => exact h.elim
  obtain ⟨h0, h⟩ := h
  unfold wrOk at h
  split at h
  case h_2 => exact h.elim
  obtain ⟨l, rfl, rfl, hl, h⟩ := h
  exact ⟨h0, l, rfl, rfl, hl, h⟩
def errAS : Spec := fun args H Q => match args, H with
  | [.ptr 0 0], [.cells [.int .i64 e, .str s] 172] => Q (.int .i64 e) (rd e s)
  | _, _ => False
theorem errA_k : Contract Tryz.prog [] 89 errAS := err_k.imp fun args H Q h => by
  unfold errAS at h
  split at h
  case h_2 => exact h.elim
  exact ⟨.inr rfl, h⟩
end Go.LX
end
section
set_option maxRecDepth 100000
set_option maxHeartbeats 4000000
set_option autoImplicit false
set_option linter.unusedVariables false
set_option linter.unusedSimpArgs false
namespace Go.LX
open Go.Proofs

def rbS : Spec := fun args H Q => match args, H with
  | [.int .u64 n, .int .i64 c], [] => ∃ v k : Nat, n = v ∧ v < 18446744073709551616 ∧ c = k ∧ k ≤ 8 ∧ Q (.str (beb v k)) []
  | _, _ => False
theorem rem_go (q : Nat) : IntKind.u8.wrap ((q : Int).tmod 256) = ((UInt8.ofNat q).toNat : Int) := by
  rw [Int.tmod_eq_emod_of_nonneg (by omega), wrap_u8_mod]
  simp
theorem quo_go (q : Nat) (hv : q < 18446744073709551616) : IntKind.u64.wrap ((q : Int).tdiv 256) = ((q / 256 : Nat) : Int) := by
  rw [Int.tdiv_eq_ediv_of_nonneg (by omega), wrap_u64 (by omega) (by omega)]
  omega
theorem cv_by (b : UInt8) : cvByte (.int .u8 (b.toNat : Int)) = b := by
  show UInt8.ofNat ((b.toNat : Int)).toNat = b
  rw [Int.toNat_natCast]
  simp
theorem rb_c : Meets Tryz.prog [] 101 rbS := by
  refine meets_of Γok Tryz.func101 rfl ?_
  intro args H Q h
  unfold rbS at h
  split at h
  case h_2 => exact h.elim
  obtain ⟨v, c, rfl, hv, rfl, hc, h⟩ := h
  (refine sx_sound Γok _ ?_; conv => whnf)
  refine loop_rule (fun j : Nat => ⟨[.int .u64 ((v / 256 ^ j : Nat) : Int), .int .i64 (c : Int), .any, .any, .any, .str (beb v j), .int .i64 (j : Int), .any, .any, .any, .any, .any, .any, .any, .any, .any, .any, .any, .any, .any, .any, .any], []⟩) (fun j => j ≤ c) (fun j => c - j) 0 (by omega) ?_ ?_
  · refine Weak.le ?_ ?_
    · (repeat' ((conv => whnf); first | exact True.intro | (refine And.intro ?_ ?_)))
      all_goals first | rfl | (rw [Nat.pow_zero, Nat.div_one])
    · (repeat' ((conv => whnf); first | exact True.intro | (refine And.intro ?_ ?_)))
  · intro j hj
    (refine sx_sound Γok _ ?_; conv => whnf)
    refine Both.dec (fun hlt => ?_) (fun hge => ?_)
    · (conv => whnf)
      (repeat (first | (refine Both.lit_true ?_; conv => whnf) | (refine Both.lit_false ?_; conv => whnf) | (refine Need.mk ?_ ?_; (focus (first | omega | exact ⟨by omega, by omega⟩ | rfl | exact ⟨rfl, rfl⟩ | exact ⟨rfl, Nat.le_of_ble_eq_true rfl⟩ | exact Nat.le_of_ble_eq_true rfl | (refine ⟨rfl, rfl, ?_⟩; simp [isFar, ofV0, CV.up, SV.renL, SV.ren] <;> fail) | (refine ⟨rfl, Nat.le_of_ble_eq_true rfl, ?_⟩; simp [isFar, ofV0, CV.up, SV.renL, SV.ren] <;> fail) | (simp <;> fail))); conv => whnf)))
      rw [rem_go]
      refine Need.mk ⟨rfl, by simp [isU8]⟩ ?_
      (conv => whnf)
      refine Need.mk (by rw [beb_length]; simp; omega) ?_
      (conv => whnf)
      (repeat (first | (refine Both.lit_true ?_; conv => whnf) | (refine Both.lit_false ?_; conv => whnf) | (refine Need.mk ?_ ?_; (focus (first | omega | exact ⟨by omega, by omega⟩ | rfl | exact ⟨rfl, rfl⟩ | exact ⟨rfl, Nat.le_of_ble_eq_true rfl⟩ | exact Nat.le_of_ble_eq_true rfl | (refine ⟨rfl, rfl, ?_⟩; simp [isFar, ofV0, CV.up, SV.renL, SV.ren] <;> fail) | (refine ⟨rfl, Nat.le_of_ble_eq_true rfl, ?_⟩; simp [isFar, ofV0, CV.up, SV.renL, SV.ren] <;> fail) | (simp <;> fail))); conv => whnf)))
      have hq : v / 256 ^ j < 18446744073709551616 := Nat.lt_of_le_of_lt (Nat.div_le_self _ _) hv
      refine ⟨j + 1, by omega, by omega, Weak.le ?_ ?_⟩
      · (repeat' ((conv => whnf); first | exact True.intro | (refine And.intro ?_ ?_)))
        all_goals first | rfl | exact congrArg (SV.int .u64) (by rw [quo_go _ hq, Nat.pow_succ, ← Nat.div_div_eq_div_mul]) | exact congrArg (SV.int .i64) (by rw [wrap_i64 (by omega) (by omega)]; rfl) | exact congrArg (fun x => SV.str (x :: beb v j)) (cv_by _)
      · (repeat' ((conv => whnf); first | exact True.intro | (refine And.intro ?_ ?_)))
    · obtain rfl : j = c := by omega
      (conv => whnf)
      exact ⟨_, _, WeakV.drop rfl, h⟩
theorem rb_k : Contract Tryz.prog [] 101 rbS := ⟨⟨⟨_, rfl, rfl, rfl⟩⟩, rb_c⟩
end Go.LX
end
section
set_option maxRecDepth 100000
set_option maxHeartbeats 4000000
set_option autoImplicit false
set_option linter.unusedVariables false
set_option linter.unusedSimpArgs false
namespace Go.LX
open Go.Proofs

theorem mul_u64 (n : Nat) (b : UInt8) (h : n * 256 + 256 ≤ 18446744073709551616) : IntKind.u64.wrap (IntKind.u64.wrap ((n : Int) * 256) + IntKind.u64.wrap (b.toNat : Int)) = ((n * 256 + b.toNat : Nat) : Int) := by
  have hb := b.toNat_lt
  rw [wrap_u64 (n := (n : Int) * 256) (by omega) (by omega), wrap_u64 (n := (b.toNat : Int)) (by omega) (by omega), wrap_u64 (by omega) (by omega)]
  omega
theorem getD_str (l : List UInt8) {k : Nat} (h : k < l.length) : l.getD ((k : Nat) : Int).toNat 0 = l[k] := by
  rw [Int.toNat_natCast, List.getD_eq_getElem?_getD, List.getElem?_eq_getElem h]
  rfl
def valS : Spec := fun args H Q => match args, H with
  | [.str s], [] => Need (s.length ≤ 8) (Q (.int .u64 (bev s : Int)) [])
  | _, _ => False
theorem val_c : Meets Tryz.prog [] 122 valS := by
  refine meets_of Γok Tryz.func122 rfl ?_
  intro args H Q h
  unfold valS at h
  split at h
  case h_2 => exact h.elim
  rename_i s
  obtain ⟨hs, h⟩ := h
  (refine sx_sound Γok _ ?_; conv => whnf)
  refine loop_rule (fun k : Nat => ⟨[.str s, .any, .any, .int .u64 (bev (s.take k) : Int), .int .i64 (k : Int), .any, .any, .any, .any, .any, .any, .any, .any, .any, .any, .any, .any, .any, .any], []⟩) (fun k => k ≤ s.length) (fun k => s.length - k) 0 (by omega) (Weak.auto ?_) ?_
  · (repeat' ((conv => whnf); first | exact True.intro | (refine And.intro ?_ ?_)))
    all_goals first | rfl | done
  · intro k hk
    (refine sx_sound Γok _ ?_; conv => whnf)
    refine Both.dec (fun hlt => ?_) (fun hge => ?_)
    · have hks : k < s.length := by omega
      (conv => whnf)
      refine Need.mk ⟨by omega, by omega⟩ ?_
      (conv => whnf)
      refine ⟨k + 1, by omega, by omega, Weak.auto ?_⟩
      (repeat' ((conv => whnf); first | exact True.intro | (refine And.intro ?_ ?_)))
      all_goals first | rfl | exact congrArg (SV.int .i64) (by rw [wrap_i64 (by omega) (by omega)]; rfl) | exact congrArg (SV.int .u64) (by rw [getD_str s hks, mul_u64 _ _ (bev_room s hks hs), bev_take s hks])
    · obtain rfl : k = s.length := by omega
      (conv => whnf)
      rw [List.take_length]
      exact ⟨_, _, WeakV.refl _ _ _ _, h⟩
theorem val_k : Contract Tryz.prog [] 122 valS := ⟨⟨⟨_, rfl, rfl, rfl⟩⟩, val_c⟩
end Go.LX
end
section
set_option maxRecDepth 100000
set_option maxHeartbeats 4000000
set_option autoImplicit false
set_option linter.unusedVariables false
set_option linter.unusedSimpArgs false
namespace Go.LX
open Go.Proofs

theorem bev_fold (l : List UInt8) : ∀ a : Nat, l.foldl (fun n b => n * 256 + b.toNat) a = a * 256 ^ l.length + bev l := by
  induction l with
  | nil => intro a; simp [bev]
  | cons b l ih =>
    intro a
    have h0 : bev (b :: l) = b.toNat * 256 ^ l.length + bev l := by
      show List.foldl _ (0 * 256 + b.toNat) l = _
      rw [ih, Nat.zero_mul, Nat.zero_add]
    rw [List.foldl_cons, ih, h0, List.length_cons, Nat.pow_succ, Nat.add_mul, Nat.mul_comm (256 ^ l.length) 256, Nat.mul_assoc, Nat.add_assoc]
theorem bev_cons (b : UInt8) (l : List UInt8) : bev (b :: l) = b.toNat * 256 ^ l.length + bev l := by
  show List.foldl _ (0 * 256 + b.toNat) l = _
  rw [bev_fold, Nat.zero_mul, Nat.zero_add]
theorem bev_beb : ∀ (k v : Nat), v < 256 ^ k → bev (beb v k) = v
  | 0, v, h => by simp at h; subst h; rfl
  | k + 1, v, h => by
    have hb : beb v (k + 1) = UInt8.ofNat (v / 256 ^ k) :: beb (v % 256 ^ k) k := by
      rw [beb]
      congr 1
      have gen : ∀ j, j ≤ k → beb v j = beb (v % 256 ^ k) j := by
        intro j
        induction j with
        | zero => intro _; rfl
        | succ j ih =>
          intro hj
          rw [beb, beb, ih (by omega)]
          congr 1
          obtain ⟨d, rfl⟩ : ∃ d, k = j + 1 + d := ⟨k - (j + 1), by omega⟩
          have h1 : v % 256 ^ (j + 1 + d) / 256 ^ j = v / 256 ^ j % 256 ^ (d + 1) := by
            rw [show j + 1 + d = j + (d + 1) by omega, Nat.pow_add, Nat.mod_mul_right_div_self]
          rw [h1]
          have h2 : v / 256 ^ j % 256 ^ (d + 1) % 256 = v / 256 ^ j % 256 := by
            rw [Nat.mod_mod_of_dvd]
            exact ⟨256 ^ d, by rw [Nat.pow_succ, Nat.mul_comm]⟩
          apply UInt8.toNat_inj.1
          simp only [UInt8.toNat_ofNat']
          exact h2.symm
      exact gen k (Nat.le_refl k)
    have hlt : v / 256 ^ k < 256 := by
      rw [Nat.div_lt_iff_lt_mul (by exact Nat.pow_pos (by omega))]
      rw [Nat.pow_succ] at h
      omega
    rw [hb, bev_cons, beb_length, bev_beb k _ (Nat.mod_lt _ (Nat.pow_pos (by omega)))]
    simp only [UInt8.toNat_ofNat']
    rw [Nat.mod_eq_of_lt (show v / 256 ^ k < 2 ^ 8 by omega), Nat.mul_comm]
    exact Nat.div_add_mod v (256 ^ k)
theorem rd_app (n : Int) (a b : List UInt8) (h : n = a.length) : rdT 0 n (a ++ b) = a ∧ rdE 0 n (a ++ b) = 0 ∧ rdS 0 n (a ++ b) = b := by
  subst h
  have hok : rdOk 0 (a.length : Int) (a ++ b) = true := decide_eq_true ⟨rfl, by omega, by rw [List.length_append]; omega⟩
  refine ⟨by rw [rdT, if_pos hok, Int.toNat_natCast, List.take_left], ?_, by rw [rdS, if_pos hok, Int.toNat_natCast, List.drop_left]⟩
  unfold rdE
  rw [if_pos rfl, if_pos (by rw [List.length_append]; omega)]
end Go.LX
end
section
set_option autoImplicit false
set_option linter.unusedVariables false
set_option linter.unusedSimpArgs false
namespace Go.LX.Crc

def poly : BitVec 32 := 0xedb88320
def step (x : BitVec 32) : BitVec 32 := (x >>> 1) ^^^ (bif x.getLsbD 0 then poly else 0)
def steps : Nat → BitVec 32 → BitVec 32
  | 0, x => x
  | n + 1, x => steps n (step x)
def wide (b : UInt8) : BitVec 32 := b.toBitVec.setWidth 32
def byte (r : BitVec 32) (b : UInt8) : BitVec 32 := steps 8 (r ^^^ wide b)
def over (r : BitVec 32) : List UInt8 → BitVec 32
  | [] => r
  | b :: s => over (byte r b) s
theorem over_append (r : BitVec 32) : ∀ (s t : List UInt8), over r (s ++ t) = over (over r s) t
  | s, t => by
    induction s generalizing r with
    | nil => rfl
    | cons b s ih => exact ih _
theorem xor4 (a b p q : BitVec 32) : (a ^^^ b) ^^^ (p ^^^ q) = (a ^^^ p) ^^^ (b ^^^ q) := by
  apply BitVec.eq_of_getLsbD_eq
  intro i hi
  simp only [BitVec.getLsbD_xor]
  cases a.getLsbD i <;> cases b.getLsbD i <;> cases p.getLsbD i <;> cases q.getLsbD i <;> rfl
theorem step_xor (x y : BitVec 32) : step (x ^^^ y) = step x ^^^ step y := by
  unfold step
  rw [← xor4, BitVec.ushiftRight_xor_distrib, BitVec.getLsbD_xor]
  congr 1
  cases x.getLsbD 0 <;> cases y.getLsbD 0 <;> simp
theorem steps_xor : ∀ (n : Nat) (x y : BitVec 32), steps n (x ^^^ y) = steps n x ^^^ steps n y
  | 0, x, y => rfl
  | n + 1, x, y => by rw [steps, step_xor, steps_xor n]; rfl
theorem steps_add : ∀ (m n : Nat) (x : BitVec 32), steps (m + n) x = steps m (steps n x)
  | m, 0, x => rfl
  | m, n + 1, x => by rw [← Nat.add_assoc]; exact steps_add m n (step x)
theorem steps_succ (n : Nat) (x : BitVec 32) : steps (n + 1) x = step (steps n x) := by
  rw [Nat.add_comm]; exact steps_add 1 n x
theorem steps_low : ∀ (k : Nat) (x : BitVec 32), (∀ i, i < k → x.getLsbD i = false) → steps k x = x >>> k
  | 0, x, _ => by simp [steps]
  | k + 1, x, h => by
    have h0 : step x = x >>> 1 := by
      unfold step
      rw [h 0 (by omega)]
      simp
    rw [steps, h0, steps_low k (x >>> 1) (fun i hi => by rw [BitVec.getLsbD_ushiftRight]; exact h _ (by omega))]
    rw [← BitVec.shiftRight_add, Nat.add_comm]
theorem split8 (x : BitVec 32) : x = (x.setWidth 8).setWidth 32 ^^^ ((x >>> 8) <<< 8) := by
  apply BitVec.eq_of_getLsbD_eq
  intro i hi
  simp only [BitVec.getLsbD_xor, BitVec.getLsbD_setWidth, BitVec.getLsbD_shiftLeft, BitVec.getLsbD_ushiftRight]
  by_cases h : i < 8
  · simp [h, hi]
  · have : 8 + (i - 8) = i := by omega
    simp [h, hi, this]
theorem steps8_hi (y : BitVec 32) : steps 8 ((y >>> 8) <<< 8) = y >>> 8 := by
  rw [steps_low 8 _ (fun i hi => by rw [BitVec.getLsbD_shiftLeft]; simp [hi])]
  apply BitVec.eq_of_getLsbD_eq
  intro i hi
  simp only [BitVec.getLsbD_ushiftRight, BitVec.getLsbD_shiftLeft]
  by_cases h : 8 + i < 32
  · simp [h]
  · have h1 : y.getLsbD (8 + (8 + i - 8)) = false := BitVec.getLsbD_of_ge y _ (by omega)
    have h2 : y.getLsbD (8 + i) = false := BitVec.getLsbD_of_ge y _ (by omega)
    simp [h1, h2]
def tab (n : BitVec 8) : BitVec 32 := steps 8 (n.setWidth 32)
theorem byte_tab (r : BitVec 32) (b : UInt8) : byte r b = (r >>> 8) ^^^ tab (r.setWidth 8 ^^^ b.toBitVec) := by
  unfold byte tab
  have h1 : r ^^^ wide b = (r.setWidth 8 ^^^ b.toBitVec).setWidth 32 ^^^ ((r >>> 8) <<< 8) := by
    conv => lhs; rw [split8 r]
    apply BitVec.eq_of_getLsbD_eq
    intro i hi
    simp only [wide, BitVec.getLsbD_xor, BitVec.getLsbD_setWidth, BitVec.getLsbD_shiftLeft, BitVec.getLsbD_ushiftRight]
    by_cases h : i < 8
    · simp [h, hi]
    · have h2 : b.toBitVec.getLsbD i = false := BitVec.getLsbD_of_ge _ _ (by omega)
      simp [h, hi, h2]
  rw [h1, steps_xor, steps8_hi, BitVec.xor_comm]
def lo (v : BitVec 32) : UInt8 := ⟨v.setWidth 8⟩
def le : Nat → BitVec 32 → List UInt8
  | 0, _ => []
  | n + 1, v => lo v :: le n (v >>> 8)
theorem le_length : ∀ n v, (le n v).length = n
  | 0, _ => rfl
  | n + 1, v => by simp [le, le_length n]
def val : List UInt8 → BitVec 32
  | [] => 0
  | b :: s => wide b ^^^ (val s <<< 8)
def good : BitVec 32 := steps 32 (~~~ 0)
def sum (s : List UInt8) : BitVec 32 := ~~~ over (~~~ 0) s
def seal_ (s : List UInt8) : List UInt8 := s ++ le 4 (sum s)
def right (s : List UInt8) : Prop := 4 ≤ s.length ∧ le 4 (sum (s.take (s.length - 4))) = s.drop (s.length - 4)
instance (s : List UInt8) : Decidable (right s) := by unfold right; infer_instance
theorem right_seal (s : List UInt8) : right (seal_ s) := by
  unfold right seal_
  have hl : (s ++ le 4 (sum s)).length - 4 = s.length := by simp [le_length]
  rw [hl]
  simp [le_length]
def one : BitVec 32 := 1
end Go.LX.Crc
end
