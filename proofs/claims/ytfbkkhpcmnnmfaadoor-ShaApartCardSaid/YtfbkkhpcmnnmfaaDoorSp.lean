import Derived.Test.YtfbkkhpcmnnmfaaDoorSb
set_option maxRecDepth 100000
set_option maxHeartbeats 1000000
set_option autoImplicit false
set_option linter.unusedVariables false
set_option linter.unusedSimpArgs false
namespace Go.LX
open Go.Proofs

/-- A call that takes numbers, leaves the heap alone, and whose value is known. -/
theorem CallVC.pure {P : Program} {G : Gl} {N : Nat} {f : FuncId} {args : List Operand} {dst : Option Tmp} {s : LS} {k : LS → Prop} {S : Spec} (hc : Contract P G f S) (x : SV)
    (hS : ∀ Q : SV → List LObj → Prop, Q x [] → S (evL G s args) [] Q) (hr : SV.renL (fun i => pos [] i 0) (evL G s args) = evL G s args) (hx : ∀ g, x.ren g = x) (h : LS.put s dst x k) : CallVC P G N f args dst s k := by
  refine .of [] hc ?_
  unfold callK
  have h1 : nodupB [] = true := rfl
  have h2 : allLt s.h.length [] = true := rfl
  rw [h1, h2]
  show lenK' s.h 0 _
  rw [lenK'_eq, Nat.zero_add, litK_eq, normL_eq, normH_eq, hr]
  refine hS _ ?_
  rw [normH_eq, normK_eq, hx]
  have h3 : ∀ n, mergeN n s.h [] [] = s.h := fun n => by
    unfold mergeN
    simp [setAll]
  rw [h3]
  exact h
end Go.LX
