import Derived.Test.YtiokggkoidiicaaDoorLo
import Derived.Test.YtiokggkoidiicaaDoorRows
import Derived.Lib.LaidTab
import Derived.MakeChecks
import Derived.LaidMore
set_option maxRecDepth 100000
set_option maxHeartbeats 4000000
set_option autoImplicit false
set_option linter.unusedVariables false
set_option linter.unusedSimpArgs false
namespace Go.LX
open Go.Proofs Go.Proofs.YtiokggkoidiicaaDoor Go.RowKit Go.ChangeShapes Go.WideShapes Go.ChangeAt

/-! ## A row with listed variables of the library that the walks never read -/
theorem law_runG {P : Program} {G : Gl} {f : FuncId} {S : Spec} (hM : Meets P G f S) {svs : List SV} {vs : List Value} {W : World} (hv : VRs (E0 W) W svs vs) (hg : GlOk (E0 W) W G) (hS : S svs [] fun r _ => r = .bool true) :
    Calls P f vs.toArray W fun e W' => e = .returned (.bool true) ∧ Below W.heap.size W W' := by
  refine (hM svs [] _ hS (E0 W) W vs hv (rel0 W) hg).mono ?_
  rintro e W' ⟨v, r, H', E', rfl, rfl, hv, _, hst, _⟩
  cases hv
  exact ⟨rfl, hst.os, hst.tape, hst.output, hst.size, fun k hk => hst.keep k hk (fun ⟨i, o, h, _⟩ => by simp at h)⟩
theorem gl_none {W : World} {l : List (String × DataW Unit)} (_ : laidMetH Tryd.prog l W) : GlOk (E0 W) W [] := ⟨fun g cs h => absurd h (by simp)⟩
abbrev laidU : List (String × DataW Unit) := [("unicode/utf8.acceptRanges", Rows.laid_unicode_utf8_acceptRanges), ("unicode/utf8.first", Rows.laid_unicode_utf8_first)]
end Go.LX
