import Derived.Test.YtjdlbffcldndhaaProg
import Derived.Test.YtjdlbffcldndhaaLX
import Derived.KernelRfl
set_option maxRecDepth 100000
namespace Go.LX
open Go.Proofs

def ti2 : TI := ⟨.int .i64, .int .i64 0, 1, 8⟩
theorem tok2 : TOk Try.prog (2, ti2) := ⟨Try.underlying2, by kernel_rfl⟩
def ti3 : TI := ⟨.int .i64, .int .i64 0, 1, 8⟩
theorem tok3 : TOk Try.prog (3, ti3) := ⟨Try.underlying3, by kernel_rfl⟩
def ti4 : TI := ⟨.bool, .bool false, 1, 1⟩
theorem tok4 : TOk Try.prog (4, ti4) := ⟨Try.underlying4, by kernel_rfl⟩
def ti5 : TI := ⟨.int .u8, .int .u8 0, 1, 1⟩
theorem tok5 : TOk Try.prog (5, ti5) := ⟨Try.underlying5, by kernel_rfl⟩
def ti9 : TI := ⟨.string, .string ⟨#[]⟩, 1, 16⟩
theorem tok9 : TOk Try.prog (9, ti9) := ⟨Try.underlying9, by kernel_rfl⟩
def ti12 : TI := ⟨.int .u64, .int .u64 0, 1, 8⟩
theorem tok12 : TOk Try.prog (12, ti12) := ⟨Try.underlying12, by kernel_rfl⟩
def ti21 : TI := ⟨.int .i32, .int .i32 0, 1, 4⟩
theorem tok21 : TOk Try.prog (21, ti21) := ⟨Try.underlying21, by kernel_rfl⟩
def ti23 : TI := ⟨.int .u32, .int .u32 0, 1, 4⟩
theorem tok23 : TOk Try.prog (23, ti23) := ⟨Try.underlying23, by kernel_rfl⟩
def ti28 : TI := ⟨.slice 5, .slice none 0 0, 1, 24⟩
theorem tok28 : TOk Try.prog (28, ti28) := ⟨Try.underlying28, by kernel_rfl⟩
def ti35 : TI := ⟨.slice 9, .slice none 0 0, 1, 24⟩
theorem tok35 : TOk Try.prog (35, ti35) := ⟨Try.underlying35, by kernel_rfl⟩
def ti36 : TI := ⟨.array 4 5, .agg #[.int .u8 0, .int .u8 0, .int .u8 0, .int .u8 0], 4, 4⟩
theorem tok36 : TOk Try.prog (36, ti36) := ⟨Try.underlying36, by kernel_rfl⟩
def ti37 : TI := ⟨.array 256 23, .agg ⟨List.replicate 256 (.int .u32 0)⟩, 256, 1024⟩
theorem tok37 : TOk Try.prog (37, ti37) := ⟨Try.underlying37, by kernel_rfl⟩
def ti39 : TI := ⟨.int .u64, .int .u64 0, 1, 8⟩
theorem tok39 : TOk Try.prog (39, ti39) := ⟨Try.underlying39, by kernel_rfl⟩
def ti51 : TI := ⟨.pointer 5, .pointer none, 1, 8⟩
theorem tok51 : TOk Try.prog (51, ti51) := ⟨Try.underlying51, by kernel_rfl⟩
def Γ : Ty := [(2, ti2), (3, ti3), (4, ti4), (5, ti5), (9, ti9), (12, ti12), (21, ti21), (23, ti23), (28, ti28), (35, ti35), (36, ti36), (37, ti37), (39, ti39), (51, ti51)]
theorem Γok : TyOk Try.prog Γ :=
  TyOk.cons_ tok2 <| TyOk.cons_ tok3 <| TyOk.cons_ tok4 <| TyOk.cons_ tok5 <| TyOk.cons_ tok9 <| TyOk.cons_ tok12 <| TyOk.cons_ tok21 <| TyOk.cons_ tok23 <| TyOk.cons_ tok28 <| TyOk.cons_ tok35 <| TyOk.cons_ tok36 <| TyOk.cons_ tok37 <| TyOk.cons_ tok39 <| TyOk.cons_ tok51 <| TyOk.nil_ _
end Go.LX
