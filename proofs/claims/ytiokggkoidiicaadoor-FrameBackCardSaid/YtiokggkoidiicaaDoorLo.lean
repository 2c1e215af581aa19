import Derived.Test.YtiokggkoidiicaaDoorLj
set_option maxRecDepth 100000
set_option maxHeartbeats 1000000
set_option autoImplicit false
set_option linter.unusedVariables false
set_option linter.unusedSimpArgs false
namespace Go.LX
open Go.Proofs Go.RowKit Go.ChangeShapes Go.WideShapes Go.ChangeAt
section
variable {H : Type} {enc : TypeId × Value → H} {W : World}
/-! ### Arguments that are slices of strings -/
theorem open_str1 {n : Nat} {cs : List Value} {y : DataW H × List MemPlace} (h : DataW.trod enc Tryd.prog W 0 (fun _ => true) true n 9 cs = some y) (hw : InReach Tryd.prog 9 y.1) : ∃ r : List UInt8, CRs (E0 W).I W [.str r] cs ∧ r.length ≤ reachBytes := by
  obtain ⟨s, hs, _, _⟩ := DataW.trod_string Tryd.underlying9 h
  subst hs
  obtain ⟨l, hl, hb⟩ := leaf_str Tryd.underlying9 h hw
  rw [hl]
  refine ⟨l, ⟨rfl, fun j x v hx hv => ?_⟩, hb⟩
  match j with
  | 0 => cases hx; cases hv; exact .str _
  | j + 1 => simp at hx
theorem open_strs {v : Value} {d : DataW H} {ps : List MemPlace} (hv : v.cells = #[v]) (h : DataW.Trod enc Tryd.prog W 0 (fun _ => true) true 24 v d ps) (hw : InReach Tryd.prog 24 d) :
    ∃ l : List (List UInt8), VR (E0 W) W (.sl 1 l.length (l.flatMap fun s => [CV.str s]) false) v ∧ (∀ c ∈ l, c.length ≤ reachBytes) ∧ l.length ≤ 9223372036854775807 :=
  open_rows (t := 24) (e := 9) (sz := 1) (fun s => [CV.str s]) (fun s => s.length ≤ reachBytes) Tryd.underlying24 (by kernel_rfl) (by omega) (fun r => rfl) (fun n cs y hy hw => open_str1 hy hw) hv h hw
theorem flat_strs (l : List (List UInt8)) : (l.flatMap fun s => [CV.str s]) = l.map CV.str := by
  induction l with
  | nil => rfl
  | cons a r ih => rw [List.flatMap_cons, ih]; rfl
end
/-! ### Numbers in their ranges -/
theorem u64_rng (r : BitVec 64) : 0 ≤ u64 r ∧ u64 r < 18446744073709551616 := by
  have := r.isLt
  unfold u64
  omega
theorem u64_bd {n : Int} (h : (Lit.int .u64 n).wf = true) : 0 ≤ n ∧ n < 18446744073709551616 := by
  obtain ⟨r, rfl⟩ := wf_u64 h
  exact u64_rng r
end Go.LX
