import Derived.Test.YteejbjdjfngagaaWe
set_option maxRecDepth 100000
set_option autoImplicit false
set_option linter.unusedVariables false
set_option linter.unusedSimpArgs false
namespace Go.LX
open Go.Proofs

/-- A call, as the document's reference has it. -/
structure Call where
  kind : Int
  k : Int
  n : BitVec 64
  s : List UInt8
def Call.en (c : Call) : List CV := [.int .i64 c.kind, .int .i64 c.k, .int .u64 (u64 c.n), .str c.s]
def Call.ok (c : Call) : Prop := (-9223372036854775808 ≤ c.kind ∧ c.kind ≤ 9223372036854775807) ∧ (-9223372036854775808 ≤ c.k ∧ c.k ≤ 9223372036854775807) ∧ c.s.length ≤ 140737488351232
def callsV (l : List Call) : SV := .sl 4 l.length (l.flatMap Call.en) false
theorem open_calls {H : Type} {enc : TypeId × Value → H} {W : World} {v : Value} {d : DataW H} {ps : List MemPlace} (hv : v.cells = #[v]) (h : DataW.Trod enc Try.prog W 0 (fun _ => true) true 22 v d ps) (hw : InReach Try.prog 22 d) :
    ∃ l : List Call, VR (E0 W) W (callsV l) v ∧ (∀ c ∈ l, c.ok) ∧ l.length ≤ 9223372036854775807 := by
  refine open_rows (t := 22) (e := 51) (sz := 4) Call.en Call.ok Try.underlying22 (by kernel_rfl) (by omega) (fun r => rfl) ?_ hv h hw
  intro n cs y hy hw
  obtain ⟨hl, hf⟩ := open_fields (t := 51) Try.underlying51 (by kernel_rfl) (by
    intro j f hf
    match j with
    | 0 => cases hf; exact ⟨by kernel_rfl, rfl⟩
    | 1 => cases hf; exact ⟨by kernel_rfl, rfl⟩
    | 2 => cases hf; exact ⟨by kernel_rfl, rfl⟩
    | 3 => cases hf; exact ⟨by kernel_rfl, rfl⟩
    | j + 4 => cases hf) hy hw
  obtain ⟨n0, c0, y0, e0, t0, q0⟩ := hf 0 _ rfl
  obtain ⟨n1, c1, y1, e1, t1, q1⟩ := hf 1 _ rfl
  obtain ⟨n2, c2, y2, e2, t2, q2⟩ := hf 2 _ rfl
  obtain ⟨n3, c3, y3, e3, t3, q3⟩ := hf 3 _ rfl
  obtain ⟨i0, rfl, w0⟩ := leaf_int Try.underlying3 t0
  obtain ⟨i1, rfl, w1⟩ := leaf_int Try.underlying3 t1
  obtain ⟨i2, rfl, w2⟩ := leaf_int Try.underlying49 t2
  obtain ⟨s3, rfl, w3⟩ := leaf_str Try.underlying9 t3 q3
  obtain ⟨b2, rfl⟩ := wf_u64 w2
  refine ⟨⟨i0, i1, b2, s3⟩, ⟨hl, fun j x u hx hu => ?_⟩, wf_i64 w0, wf_i64 w1, w3⟩
  match j with
  | 0 => cases hx; rw [e0] at hu; cases hu; exact .int _ _
  | 1 => cases hx; rw [e1] at hu; cases hu; exact .int _ _
  | 2 => cases hx; rw [e2] at hu; cases hu; exact .int _ _
  | 3 => cases hx; rw [e3] at hu; cases hu; exact .str _
  | j + 4 => cases hx
theorem calls_row (l : List Call) (i : Nat) (h : i < l.length) : ((l.flatMap Call.en).drop (i * 4)).take 4 = l[i].en := by
  induction l generalizing i with
  | nil => simp at h
  | cons c l ih =>
    cases i with
    | zero => rfl
    | succ i =>
      rw [List.flatMap_cons, List.getElem_cons_succ, ← ih i (by simpa using h)]
      rw [show (i + 1) * 4 = c.en.length + i * 4 by simp [Call.en]; omega, ← List.drop_drop, List.drop_left' rfl]
def total : List Call → Nat
  | [] => 0
  | c :: l => c.s.length + total l
theorem total_app (l m : List Call) : total (l ++ m) = total l + total m := by
  induction l with
  | nil => simp [total]
  | cons c l ih => rw [List.cons_append, total, total, ih]; omega
theorem total_take (l : List Call) {k : Nat} (h : k < l.length) : total (l.take (k + 1)) = total (l.take k) + l[k].s.length := by
  rw [List.take_succ_eq_append_getElem h, total_app]
  simp [total]
def fewS : Spec := fun args H Q => match args, H with
  | [.sl 4 n cs false], [] => ∃ l : List Call, n = l.length ∧ cs = l.flatMap Call.en ∧ (∀ c ∈ l, c.ok) ∧ l.length ≤ 9223372036854775807 ∧ ∀ b, (b = true → l.length ≤ 101 ∧ total l ≤ 70000) → Q (.bool b) []
  | _, _ => False
theorem few_c : Meets Try.prog [] 9 fewS := by
  refine meets_of Γok Try.func9 rfl ?_
  intro args H Q h
  unfold fewS at h
  split at h
  case h_2 => exact h.elim
  obtain ⟨l, rfl, rfl, hok, hlen, h⟩ := h
  (refine sx_sound Γok _ ?_; conv => whnf)
  refine loop_rule (fun k : Nat => ⟨[.sl 4 l.length (l.flatMap Call.en) false, .any, .any, .int .i64 (total (l.take k) : Int), .int .i64 (k : Int), .any, .any, .any, .any, .any, .any, .any, .any, .any, .any, .any, .any, .any, .any, .any, .any, .any, .any, .any, .any], []⟩) (fun k => k ≤ l.length ∧ k ≤ 101 ∧ total (l.take k) ≤ 70000) (fun k => l.length - k) 0 ⟨by omega, by omega, by simp [total]⟩ ?_ ?_
  · refine Weak.le ?_ ?_
    · (repeat' ((conv => whnf); first | exact True.intro | (refine And.intro ?_ ?_)))
      all_goals first | rfl | done
    · (repeat' ((conv => whnf); first | exact True.intro | (refine And.intro ?_ ?_)))
  · rintro k ⟨hk, hk1, hk2⟩
    (refine sx_sound Γok _ ?_; conv => whnf)
    refine Both.dec (fun hlt => ?_) (fun hge => ?_)
    · (conv => whnf)
      (repeat (first | (refine Both.lit_true ?_; conv => whnf) | (refine Both.lit_false ?_; conv => whnf) | (refine Need.mk (by first | omega | exact ⟨by omega, by omega⟩ | rfl | exact ⟨rfl, rfl⟩ | exact ⟨rfl, Nat.le_of_ble_eq_true rfl⟩) ?_; conv => whnf)))
      have hkl : k < l.length := by omega
      refine Need.mk ⟨rfl, by omega, by omega⟩ ?_
      (conv => whnf)
      refine ⟨_, calls_row l k hkl, ?_⟩
      (conv => whnf)
      (refine ⟨_, rfl, ?_⟩; conv => whnf)
      have hc := (hok _ (List.getElem_mem hkl)).2.2
      rw [wrap_i64 (n := (total (l.take k) : Int) + l[k].s.length) (by omega) (by omega)]
      refine Both.dec (fun h1 => ?_) (fun h1 => ?_)
      · (conv => whnf)
        (repeat (first | (refine Both.lit_true ?_; conv => whnf) | (refine Both.lit_false ?_; conv => whnf) | (refine Need.mk (by first | omega | exact ⟨by omega, by omega⟩ | rfl | exact ⟨rfl, rfl⟩ | exact ⟨rfl, Nat.le_of_ble_eq_true rfl⟩) ?_; conv => whnf)))
        exact ⟨_, _, WeakV.drop rfl, h false (fun hb => by cases hb)⟩
      · (conv => whnf)
        (repeat (first | (refine Both.lit_true ?_; conv => whnf) | (refine Both.lit_false ?_; conv => whnf) | (refine Need.mk (by first | omega | exact ⟨by omega, by omega⟩ | rfl | exact ⟨rfl, rfl⟩ | exact ⟨rfl, Nat.le_of_ble_eq_true rfl⟩) ?_; conv => whnf)))
        refine Both.dec (fun h2 => ?_) (fun h2 => ?_)
        · (conv => whnf)
          exact ⟨_, _, WeakV.drop rfl, h false (fun hb => by cases hb)⟩
        · (conv => whnf)
          have ht := total_take l hkl
          refine ⟨k + 1, ⟨by omega, by omega, by omega⟩, by omega, Weak.le ?_ ?_⟩
          · (repeat' ((conv => whnf); first | exact True.intro | (refine And.intro ?_ ?_)))
            all_goals first | rfl | exact congrArg (SV.int .i64) (by rw [wrap_i64 (by omega) (by omega)]; rfl) | exact congrArg (SV.int .i64) (by rw [ht]; rfl)
          · (repeat' ((conv => whnf); first | exact True.intro | (refine And.intro ?_ ?_)))
    · (conv => whnf)
      obtain rfl : k = l.length := by omega
      rw [List.take_length] at hk2
      exact ⟨_, _, WeakV.drop rfl, h true (fun _ => ⟨hk1, hk2⟩)⟩
theorem few_k : Contract Try.prog [] 9 fewS := ⟨⟨⟨_, rfl, rfl, rfl⟩⟩, few_c⟩
end Go.LX
