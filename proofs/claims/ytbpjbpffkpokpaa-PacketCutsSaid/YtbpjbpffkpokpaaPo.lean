import Derived.Test.YtbpjbpffkpokpaaPc
set_option maxRecDepth 100000
set_option maxHeartbeats 4000000
set_option autoImplicit false
set_option linter.unusedVariables false
set_option linter.unusedSimpArgs false
namespace Go.LX
open Go.Proofs

theorem u64_rng (r : BitVec 64) : 0 ≤ u64 r ∧ u64 r < 18446744073709551616 := by
  have := r.isLt
  unfold u64
  omega
theorem open_packet {H : Type} {enc : TypeId × Value → H} {W : World} {v : Value} {d : DataW H} {ps : List MemPlace} {b0 : Nat} (hval : Value.okWide Try.prog W .any b0 41 v) (h : DataW.Trod enc Try.prog W 0 (fun _ => true) true 41 v d ps) (hw : InReach Try.prog 41 d) :
    ∃ p : Pkt, VR (E0 W) W (.agg [.int .i64 p.f, .int .u64 (u64 p.s), .int .u64 (u64 p.t), .str p.d]) v ∧ p.ok := by
  obtain ⟨cs, rfl, hsz⟩ := WideShapes.okWide_struct Try.underlying41 hval
  obtain ⟨fuel, hf⟩ := h
  have hcl : (Value.agg cs).cells = cs := rfl
  rw [hcl] at hf
  obtain ⟨hl, hf⟩ := open_fields (t := 41) Try.underlying41 (by kernel_rfl) (by
    intro j f hf
    match j with
    | 0 => cases hf; exact ⟨by kernel_rfl, rfl⟩
    | 1 => cases hf; exact ⟨by kernel_rfl, rfl⟩
    | 2 => cases hf; exact ⟨by kernel_rfl, rfl⟩
    | 3 => cases hf; exact ⟨by kernel_rfl, rfl⟩
    | j + 4 => cases hf) hf hw
  obtain ⟨n0, c0, y0, e0, t0, q0⟩ := hf 0 _ rfl
  obtain ⟨n1, c1, y1, e1, t1, q1⟩ := hf 1 _ rfl
  obtain ⟨n2, c2, y2, e2, t2, q2⟩ := hf 2 _ rfl
  obtain ⟨n3, c3, y3, e3, t3, q3⟩ := hf 3 _ rfl
  obtain ⟨i0, rfl, w0⟩ := leaf_int Try.underlying3 t0
  obtain ⟨i1, rfl, w1⟩ := leaf_int Try.underlying22 t1
  obtain ⟨i2, rfl, w2⟩ := leaf_int Try.underlying22 t2
  obtain ⟨s3, rfl, w3⟩ := leaf_str Try.underlying9 t3 q3
  obtain ⟨b1, rfl⟩ := wf_u64 w1
  obtain ⟨b2, rfl⟩ := wf_u64 w2
  refine ⟨⟨i0, b1, b2, s3⟩, vr_agg (l := [.int .i64 i0, .int .u64 (u64 b1), .int .u64 (u64 b2), .str s3]) ⟨hl, fun j x u hx hu => ?_⟩, wf_i64 w0, w3⟩
  match j with
  | 0 => cases hx; rw [e0] at hu; cases hu; exact .int _ _
  | 1 => cases hx; rw [e1] at hu; cases hu; exact .int _ _
  | 2 => cases hx; rw [e2] at hu; cases hu; exact .int _ _
  | 3 => cases hx; rw [e3] at hu; cases hu; exact .str _
  | j + 4 => cases hx
end Go.LX
