import Derived.Test.YtgglchlppomkcaaDk
set_option maxRecDepth 100000
set_option maxHeartbeats 1000000
set_option autoImplicit false
set_option linter.unusedVariables false
set_option linter.unusedSimpArgs false
namespace Go.LX
open Go.Proofs Go.RowKit Go.ChangeShapes Go.WideShapes Go.ChangeAt
section
variable {H : Type} {enc : TypeId × Value → H} {W : World}
theorem d_cells_int : Try.prog.cellsOf 3 = 1 := by kernel_rfl
theorem d_cells_bool : Try.prog.cellsOf 4 = 1 := by kernel_rfl
theorem d_cells_str : Try.prog.cellsOf 9 = 1 := by kernel_rfl
theorem d_cells_w : Try.prog.cellsOf 51 = 2 := by kernel_rfl
theorem d_cells_ws : Try.prog.cellsOf 30 = 1 := by kernel_rfl
theorem d_cells_act : Try.prog.cellsOf 32 = 5 := by kernel_rfl
theorem d_len2 {α : Type} {l : List α} (h : l.length = 2) : ∃ a b, l = [a, b] := by
  match l, h with
  | [a, b], _ => exact ⟨a, b, rfl⟩
theorem d_len5 {α : Type} {l : List α} (h : l.length = 5) : ∃ a b c d e, l = [a, b, c, d, e] := by
  match l, h with
  | [a, b, c, d, e], _ => exact ⟨a, b, c, d, e, rfl⟩
theorem crs_of {l : List CV} {vs : List Value} (hl : vs.length = l.length) (h : ∀ (j : Nat) x v, l[j]? = some x → vs[j]? = some v → CR (E0 W).I W x v) : CRs (E0 W).I W l vs := ⟨hl, h⟩
theorem open_wr1 {n : Nat} {cs : List Value} {y : DataW H × List MemPlace} (h : DataW.trod enc Try.prog W 0 (fun _ => true) true n 51 cs = some y) (hw : InReach Try.prog 51 y.1) : ∃ r : Bool × Int, CRs (E0 W).I W (crEn r) cs ∧ True := by
  obtain ⟨hl, hf⟩ := open_fields2 (t := 51) Try.underlying51 h hw
  rw [d_cells_w] at hl
  obtain ⟨c0, c1, rfl⟩ := d_len2 hl
  obtain ⟨n0, y0, t0, q0⟩ := hf 0 _ rfl
  obtain ⟨n1, y1, t1, q1⟩ := hf 1 _ rfl
  replace t0 : DataW.trod enc Try.prog W 0 (fun _ => true) true n0 4 (List.take (Try.prog.cellsOf 4) (List.drop 0 [c0, c1])) = some y0 := t0
  replace t1 : DataW.trod enc Try.prog W 0 (fun _ => true) true n1 3 (List.take (Try.prog.cellsOf 3) (List.drop 1 [c0, c1])) = some y1 := t1
  rw [d_cells_bool] at t0
  rw [d_cells_int] at t1
  obtain ⟨b, rfl⟩ := leaf_bool Try.underlying4 t0
  obtain ⟨i, rfl, w1⟩ := leaf_int Try.underlying3 t1
  refine ⟨(b, i), crs_of rfl fun j x v hx hv => ?_, trivial⟩
  match j with
  | 0 => cases hx; cases hv; exact .bool _
  | 1 => cases hx; cases hv; exact .int _ _
  | j + 2 => simp [crEn] at hx
theorem open_wrs {v : Value} {d : DataW H} {ps : List MemPlace} (hv : v.cells = #[v]) (h : DataW.Trod enc Try.prog W 0 (fun _ => true) true 30 v d ps) (hw : InReach Try.prog 30 d) :
    ∃ l : List (Bool × Int), VR (E0 W) W (.sl 2 l.length (l.flatMap crEn) false) v ∧ (∀ c ∈ l, True) ∧ l.length ≤ 9223372036854775807 :=
  open_rows (t := 30) (e := 51) (sz := 2) crEn (fun _ => True) Try.underlying30 (by kernel_rfl) (by omega) (fun r => rfl) (fun n cs y hy hw => open_wr1 hy hw) hv h hw
theorem leaf_wrs {v : Value} {n : Nat} {y : DataW H × List MemPlace} (h : DataW.trod enc Try.prog W 0 (fun _ => true) true n 30 [v] = some y) (hw : InReach Try.prog 30 y.1) :
    ∃ l : List (Bool × Int), CR (E0 W).I W (.sl 2 l.length (l.flatMap crEn) false) v ∧ (∀ c ∈ l, True) ∧ l.length ≤ maxLen :=
  leaf_rows (t := 30) (e := 51) (sz := 2) (d := y.1) (ps := y.2) crEn (fun _ => True) Try.underlying30 (by kernel_rfl) (by omega) (fun r => rfl) (fun n cs y hy hw => open_wr1 hy hw) h hw
theorem open_act1 {n : Nat} {cs : List Value} {y : DataW H × List MemPlace} (h : DataW.trod enc Try.prog W 0 (fun _ => true) true n 32 cs = some y) (hw : InReach Try.prog 32 y.1) : ∃ r : Dact, CRs (E0 W).I W (enA r) cs ∧ r.ok := by
  obtain ⟨hl, hf⟩ := open_fields2 (t := 32) Try.underlying32 h hw
  rw [d_cells_act] at hl
  obtain ⟨c0, c1, c2, c3, c4, rfl⟩ := d_len5 hl
  obtain ⟨n0, y0, t0, q0⟩ := hf 0 _ rfl
  obtain ⟨n1, y1, t1, q1⟩ := hf 1 _ rfl
  obtain ⟨n2, y2, t2, q2⟩ := hf 2 _ rfl
  obtain ⟨n3, y3, t3, q3⟩ := hf 3 _ rfl
  obtain ⟨n4, y4, t4, q4⟩ := hf 4 _ rfl
  replace t0 : DataW.trod enc Try.prog W 0 (fun _ => true) true n0 3 (List.take (Try.prog.cellsOf 3) (List.drop 0 [c0, c1, c2, c3, c4])) = some y0 := t0
  replace t1 : DataW.trod enc Try.prog W 0 (fun _ => true) true n1 3 (List.take (Try.prog.cellsOf 3) (List.drop 1 [c0, c1, c2, c3, c4])) = some y1 := t1
  replace t2 : DataW.trod enc Try.prog W 0 (fun _ => true) true n2 3 (List.take (Try.prog.cellsOf 3) (List.drop 2 [c0, c1, c2, c3, c4])) = some y2 := t2
  replace t3 : DataW.trod enc Try.prog W 0 (fun _ => true) true n3 9 (List.take (Try.prog.cellsOf 9) (List.drop 3 [c0, c1, c2, c3, c4])) = some y3 := t3
  replace t4 : DataW.trod enc Try.prog W 0 (fun _ => true) true n4 30 (List.take (Try.prog.cellsOf 30) (List.drop 4 [c0, c1, c2, c3, c4])) = some y4 := t4
  rw [d_cells_int] at t0 t1 t2
  rw [d_cells_str] at t3
  rw [d_cells_ws] at t4
  obtain ⟨i0, rfl, w0⟩ := leaf_int Try.underlying3 t0
  obtain ⟨i1, rfl, w1⟩ := leaf_int Try.underlying3 t1
  obtain ⟨i2, rfl, w2⟩ := leaf_int Try.underlying3 t2
  obtain ⟨s3, rfl, w3⟩ := leaf_str Try.underlying9 t3 q3
  obtain ⟨l4, hl4, _, _⟩ := leaf_wrs t4 q4
  refine ⟨⟨i0, i1, i2, s3, l4⟩, crs_of rfl fun j x v hx hv => ?_, wf_i64 w1⟩
  match j with
  | 0 => cases hx; cases hv; exact .int _ _
  | 1 => cases hx; cases hv; exact .int _ _
  | 2 => cases hx; cases hv; exact .int _ _
  | 3 => cases hx; cases hv; exact .str _
  | 4 => cases hx; cases hv; exact hl4
  | j + 5 => simp [enA] at hx
theorem open_acts {v : Value} {d : DataW H} {ps : List MemPlace} (hv : v.cells = #[v]) (h : DataW.Trod enc Try.prog W 0 (fun _ => true) true 22 v d ps) (hw : InReach Try.prog 22 d) :
    ∃ l : List Dact, VR (E0 W) W (.sl 5 l.length (l.flatMap enA) false) v ∧ (∀ c ∈ l, c.ok) ∧ l.length ≤ 9223372036854775807 :=
  open_rows (t := 22) (e := 32) (sz := 5) enA Dact.ok Try.underlying22 (by kernel_rfl) (by omega) (fun r => rfl) (fun n cs y hy hw => open_act1 hy hw) hv h hw
end
end Go.LX
