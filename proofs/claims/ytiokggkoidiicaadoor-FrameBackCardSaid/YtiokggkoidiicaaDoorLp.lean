import Derived.Test.YtiokggkoidiicaaDoorTy
set_option maxRecDepth 100000
set_option maxHeartbeats 1000000
set_option autoImplicit false
set_option linter.unusedVariables false
set_option linter.unusedSimpArgs false
namespace Go.LX
open Go.Proofs

/-! ## A contract whose outcome is looked at in a weaker way; a row in a pair, published -/
theorem Contract.post {P : Program} {f : FuncId} {S S' : Spec} (hc : Contract P [] f S) (h : ∀ args H Q, S' args H Q → S args H fun r H1 => ∃ r' H', WeakV [] H.length r H1 r' H' ∧ Q r' H') : Contract P [] f S' := by
  refine ⟨hc.ok, fun args H Q hs E w vs hv hr hg => ?_⟩
  refine (hc.meets args H _ (h args H Q hs) E w vs hv hr hg).mono ?_
  rintro e w' ⟨v, r, H1, E1, h1, ⟨r', H', hw, hq⟩, h3, h4, h5, h6⟩
  obtain ⟨E2, a1, a2, a3, a4, a5⟩ := hw E E1 w' v hr.len.symm h6 h3 h4 ⟨fun g cs hm => absurd hm (by simp)⟩
  exact ⟨v, r', H', E2, h1, hq, a2, a3, h5.trans a5, a1⟩
theorem WeakV.pubTup {G : Gl} {N : Nat} {rs : List SV} {H : List LObj} (i : Nat) {e sz n : Nat} {xs : List CV} {wr : Bool} (hi : H[i]? = some (.own e sz n xs wr)) :
    WeakV G N (.tuple rs) H (.tuple (pubL i sz n xs rs)) (H.set i .gone) := fun A E w v hA hle hv hr hg => by
  obtain ⟨le, h1, h2, h3⟩ := hr.pub hi
  cases hv with
  | tuple vs hl h =>
    have hvs : VRs E w rs vs := ⟨hl, h⟩
    have hk := pubL_sound h3 (hvs.kept le (fun _ h => .inl h) (fun _ _ => rfl))
    exact ⟨_, hle.trans le, .tuple vs hk.1 hk.2, h1, hg.kept (fun _ h => .inl h) (fun _ _ => rfl), h2⟩
end Go.LX
