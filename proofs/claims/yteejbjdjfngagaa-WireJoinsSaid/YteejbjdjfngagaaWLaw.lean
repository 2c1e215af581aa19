import Derived.Test.YteejbjdjfngagaaWireM
set_option maxRecDepth 100000
set_option maxHeartbeats 4000000
set_option autoImplicit false
set_option linter.unusedVariables false
set_option linter.unusedSimpArgs false
namespace Go.LX
open Go.Proofs

/-- A call, as the document's reference has it. -/
structure Call where
  kind : Int
  k : Int
  n : BitVec 64
  s : List UInt8
def Call.en (c : Call) : List CV := [.int .i64 c.kind, .int .i64 c.k, .int .u64 (u64 c.n), .str c.s]
def Call.ok (c : Call) : Prop := (-9223372036854775808 ≤ c.kind ∧ c.kind ≤ 9223372036854775807) ∧ (-9223372036854775808 ≤ c.k ∧ c.k ≤ 9223372036854775807) ∧ c.s.length ≤ 140737488351232
def callsV (l : List Call) : SV := .sl 4 l.length (l.flatMap Call.en) false
theorem open_calls {H : Type} {enc : TypeId × Value → H} {W : World} {v : Value} {d : DataW H} {ps : List MemPlace} (hv : v.cells = #[v]) (h : DataW.Trod enc Try.prog W 0 (fun _ => true) true 22 v d ps) (hw : InReach Try.prog 22 d) :
    ∃ l : List Call, VR (E0 W) W (callsV l) v ∧ (∀ c ∈ l, c.ok) ∧ l.length ≤ 9223372036854775807 := by
  refine open_rows (t := 22) (e := 51) (sz := 4) Call.en Call.ok Try.underlying22 (by kernel_rfl) (by omega) (fun r => rfl) ?_ hv h hw
  intro n cs y hy hw
  obtain ⟨hl, hf⟩ := open_fields (t := 51) Try.underlying51 (by kernel_rfl) (by
    intro j f hf
    match j with
    | 0 => cases hf; exact ⟨by kernel_rfl, rfl⟩
    | 1 => cases hf; exact ⟨by kernel_rfl, rfl⟩
    | 2 => cases hf; exact ⟨by kernel_rfl, rfl⟩
    | 3 => cases hf; exact ⟨by kernel_rfl, rfl⟩
    | j + 4 => cases hf) hy hw
  obtain ⟨n0, c0, y0, e0, t0, q0⟩ := hf 0 _ rfl
  obtain ⟨n1, c1, y1, e1, t1, q1⟩ := hf 1 _ rfl
  obtain ⟨n2, c2, y2, e2, t2, q2⟩ := hf 2 _ rfl
  obtain ⟨n3, c3, y3, e3, t3, q3⟩ := hf 3 _ rfl
  obtain ⟨i0, rfl, w0⟩ := leaf_int Try.underlying3 t0
  obtain ⟨i1, rfl, w1⟩ := leaf_int Try.underlying3 t1
  obtain ⟨i2, rfl, w2⟩ := leaf_int Try.underlying49 t2
  obtain ⟨s3, rfl, w3⟩ := leaf_str Try.underlying9 t3 q3
  obtain ⟨b2, rfl⟩ := wf_u64 w2
  refine ⟨⟨i0, i1, b2, s3⟩, ⟨hl, fun j x u hx hu => ?_⟩, wf_i64 w0, wf_i64 w1, w3⟩
  match j with
  | 0 => cases hx; rw [e0] at hu; cases hu; exact .int _ _
  | 1 => cases hx; rw [e1] at hu; cases hu; exact .int _ _
  | 2 => cases hx; rw [e2] at hu; cases hu; exact .int _ _
  | 3 => cases hx; rw [e3] at hu; cases hu; exact .str _
  | j + 4 => cases hx
theorem calls_row (l : List Call) (i : Nat) (h : i < l.length) : ((l.flatMap Call.en).drop (i * 4)).take 4 = l[i].en := by
  induction l generalizing i with
  | nil => simp at h
  | cons c l ih =>
    cases i with
    | zero => rfl
    | succ i =>
      rw [List.flatMap_cons, List.getElem_cons_succ, ← ih i (by simpa using h)]
      rw [show (i + 1) * 4 = c.en.length + i * 4 by simp [Call.en]; omega, ← List.drop_drop, List.drop_left' rfl]
def total : List Call → Nat
  | [] => 0
  | c :: l => c.s.length + total l
theorem total_app (l m : List Call) : total (l ++ m) = total l + total m := by
  induction l with
  | nil => simp [total]
  | cons c l ih => rw [List.cons_append, total, total, ih]; omega
theorem total_take (l : List Call) {k : Nat} (h : k < l.length) : total (l.take (k + 1)) = total (l.take k) + l[k].s.length := by
  rw [List.take_succ_eq_append_getElem h, total_app]
  simp [total]
def fewS : Spec := fun args H Q => match args, H with
  | [.sl 4 n cs false], [] => ∃ l : List Call, n = l.length ∧ cs = l.flatMap Call.en ∧ (∀ c ∈ l, c.ok) ∧ l.length ≤ 9223372036854775807 ∧ ∀ b, (b = true → l.length ≤ 101 ∧ total l ≤ 70000) → Q (.bool b) []
  | _, _ => False
theorem few_c : Meets Try.prog [] 9 fewS := by
  refine meets_of Γok Try.func9 rfl ?_
  intro args H Q h
  unfold fewS at h
  split at h
  case h_2 => exact h.elim
  obtain ⟨l, rfl, rfl, hok, hlen, h⟩ := h
  (refine sx_sound Γok _ ?_; conv => whnf)
  refine loop_rule (fun k : Nat => ⟨[.sl 4 l.length (l.flatMap Call.en) false, .any, .any, .int .i64 (total (l.take k) : Int), .int .i64 (k : Int), .any, .any, .any, .any, .any, .any, .any, .any, .any, .any, .any, .any, .any, .any, .any, .any, .any, .any, .any, .any], []⟩) (fun k => k ≤ l.length ∧ k ≤ 101 ∧ total (l.take k) ≤ 70000) (fun k => l.length - k) 0 ⟨by omega, by omega, by simp [total]⟩ ?_ ?_
  · refine Weak.le ?_ ?_
    · (repeat' ((conv => whnf); first | exact True.intro | (refine And.intro ?_ ?_)))
      all_goals first | rfl | done
    · (repeat' ((conv => whnf); first | exact True.intro | (refine And.intro ?_ ?_)))
  · rintro k ⟨hk, hk1, hk2⟩
    (refine sx_sound Γok _ ?_; conv => whnf)
    refine Both.dec (fun hlt => ?_) (fun hge => ?_)
    · (conv => whnf)
      (repeat (first | (refine Both.lit_true ?_; conv => whnf) | (refine Both.lit_false ?_; conv => whnf) | (refine Need.mk (by first | omega | exact ⟨by omega, by omega⟩ | rfl | exact ⟨rfl, rfl⟩ | exact ⟨rfl, Nat.le_of_ble_eq_true rfl⟩) ?_; conv => whnf)))
      have hkl : k < l.length := by omega
      refine Need.mk ⟨rfl, by omega, by omega⟩ ?_
      (conv => whnf)
      refine ⟨_, calls_row l k hkl, ?_⟩
      (conv => whnf)
      (refine ⟨_, rfl, ?_⟩; conv => whnf)
      have hc := (hok _ (List.getElem_mem hkl)).2.2
      rw [wrap_i64 (n := (total (l.take k) : Int) + l[k].s.length) (by omega) (by omega)]
      refine Both.dec (fun h1 => ?_) (fun h1 => ?_)
      · (conv => whnf)
        (repeat (first | (refine Both.lit_true ?_; conv => whnf) | (refine Both.lit_false ?_; conv => whnf) | (refine Need.mk (by first | omega | exact ⟨by omega, by omega⟩ | rfl | exact ⟨rfl, rfl⟩ | exact ⟨rfl, Nat.le_of_ble_eq_true rfl⟩) ?_; conv => whnf)))
        exact ⟨_, _, WeakV.drop rfl, h false (fun hb => by cases hb)⟩
      · (conv => whnf)
        (repeat (first | (refine Both.lit_true ?_; conv => whnf) | (refine Both.lit_false ?_; conv => whnf) | (refine Need.mk (by first | omega | exact ⟨by omega, by omega⟩ | rfl | exact ⟨rfl, rfl⟩ | exact ⟨rfl, Nat.le_of_ble_eq_true rfl⟩) ?_; conv => whnf)))
        refine Both.dec (fun h2 => ?_) (fun h2 => ?_)
        · (conv => whnf)
          exact ⟨_, _, WeakV.drop rfl, h false (fun hb => by cases hb)⟩
        · (conv => whnf)
          have ht := total_take l hkl
          refine ⟨k + 1, ⟨by omega, by omega, by omega⟩, by omega, Weak.le ?_ ?_⟩
          · (repeat' ((conv => whnf); first | exact True.intro | (refine And.intro ?_ ?_)))
            all_goals first | rfl | exact congrArg (SV.int .i64) (by rw [wrap_i64 (by omega) (by omega)]; rfl) | exact congrArg (SV.int .i64) (by rw [ht]; rfl)
          · (repeat' ((conv => whnf); first | exact True.intro | (refine And.intro ?_ ?_)))
    · (conv => whnf)
      obtain rfl : k = l.length := by omega
      rw [List.take_length] at hk2
      exact ⟨_, _, WeakV.drop rfl, h true (fun _ => ⟨hk1, hk2⟩)⟩
theorem few_k : Contract Try.prog [] 9 fewS := ⟨⟨⟨_, rfl, rfl, rfl⟩⟩, few_c⟩

def Call.good (c : Call) : Bool := if c.kind = 0 then decide (0 ≤ c.k ∧ c.k ≤ 255) else if c.kind = 1 then true else if c.kind = 2 then decide (c.s.length ≤ 65535) else true
def Call.full (c : Call) : List UInt8 := if c.kind = 0 then [UInt8.ofNat c.k.toNat] else if c.kind = 1 then beb c.n.toNat 8 else if c.kind = 2 then beb c.s.length 2 ++ c.s else if c.kind = 3 then c.s else []
def Call.more (c : Call) : List UInt8 := if c.good then c.full else []
def outW (l : List Call) : List UInt8 := l.flatMap Call.more
def errW (e : Int) (l : List Call) : Int := if l.all Call.good then e else errOf e
theorem more_len (c : Call) : c.more.length ≤ c.s.length + 10 := by
  unfold Call.more Call.full
  split
  · split
    · simp
    · split
      · rw [beb_length]; omega
      · split
        · rw [List.length_append, beb_length]; omega
        · split <;> simp
  · simp
theorem outW_len (l : List Call) : (outW l).length ≤ total l + 10 * l.length := by
  induction l with
  | nil => simp [outW]
  | cons c l ih =>
    have h := more_len c
    unfold outW at ih ⊢
    rw [List.flatMap_cons, List.length_append, total, List.length_cons]
    omega
theorem outW_take (l : List Call) {k : Nat} (h : k < l.length) : outW (l.take (k + 1)) = outW (l.take k) ++ l[k].more := by
  unfold outW
  rw [List.take_succ_eq_append_getElem h, List.flatMap_append]
  simp
theorem errOf_errOf (e : Int) : errOf (errOf e) = errOf e := by
  unfold errOf
  by_cases h : e = 0 <;> simp [h]
theorem errW_take (e : Int) (l : List Call) {k : Nat} (h : k < l.length) : errW e (l.take (k + 1)) = if l[k].good then errW e (l.take k) else errOf (errW e (l.take k)) := by
  unfold errW
  rw [List.take_succ_eq_append_getElem h, List.all_append]
  simp only [List.all_cons, List.all_nil, Bool.and_true]
  cases hg : l[k].good
  · simp only [Bool.and_false, Bool.false_eq_true, if_false]
    split
    · rfl
    · rw [errOf_errOf]
  · simp
theorem total_le (l : List Call) (k : Nat) : total (l.take k) ≤ total l := by
  have := total_app (l.take k) (l.drop k)
  rw [List.take_append_drop] at this
  omega
theorem total_get (l : List Call) {k : Nat} (h : k < l.length) : l[k].s.length ≤ total l := by
  have h1 := total_take l h
  have h2 := total_le l (k + 1)
  omega
def putsS : Spec := fun args H Q => match args, H with
  | [.ptr 0 0, .sl 4 n cs false], [.cells [.int .i64 e, .opt 0 1, .own 1] 33, .own 5 1 m xs true] => ∃ (l0 : List UInt8) (l : List Call), n = l.length ∧ cs = l.flatMap Call.en ∧ (∀ c ∈ l, c.ok) ∧ l.length ≤ 101 ∧ total l ≤ 70000 ∧ l0.length ≤ 1000000 ∧ xs = bys l0 ∧ m = l0.length ∧
    Q (.tuple []) (wrN (errW e l) (l0 ++ outW l))
  | _, _ => False
theorem puts_c : Meets Try.prog [] 10 putsS := by
  refine meets_of Γok Try.func10 rfl ?_
  intro args H Q h
  unfold putsS at h
  split at h
  case h_2 => exact h.elim
  rename_i e m xs
  obtain ⟨l0, l, rfl, rfl, hok, hlen, htot, hl0, rfl, rfl, h⟩ := h
  (refine sx_sound Γok _ ?_; conv => whnf)
  refine loop_rule (fun k : Nat => ⟨[.ptr 0 0, .sl 4 l.length (l.flatMap Call.en) false, .any, .any, .int .i64 (k : Int), .any, .any, .any, .any, .any, .any, .any, .any, .any, .any, .any, .any, .any, .any, .any, .any, .any, .any, .any, .any, .any, .any, .any, .any, .any, .any, .any, .any, .any, .any, .any, .any, .any, .any, .any, .any, .any, .any, .any, .any, .any, .any, .any, .any, .any, .any, .any], wrN (errW e (l.take k)) (l0 ++ outW (l.take k))⟩) (fun k => k ≤ l.length) (fun k => l.length - k) 0 (by omega) ?_ ?_
  · refine (Weak.fresh 1 0 2 rfl rfl rfl).trans (Weak.le ?_ ?_)
    · (repeat' ((conv => whnf); first | exact True.intro | (refine And.intro ?_ ?_)))
      all_goals first | rfl | done
    · (repeat' ((conv => whnf); first | exact True.intro | (refine And.intro ?_ ?_)))
      all_goals first | rfl | exact .eq rfl | (simp [outW]; done)
  · intro k hk
    (refine sx_sound Γok _ ?_; conv => whnf)
    refine Both.dec (fun hlt => ?_) (fun hge => ?_)
    · (conv => whnf)
      (repeat (first | (refine Both.lit_true ?_; conv => whnf) | (refine Both.lit_false ?_; conv => whnf) | (refine Need.mk (by first | omega | exact ⟨by omega, by omega⟩ | rfl | exact ⟨rfl, rfl⟩ | exact ⟨rfl, Nat.le_of_ble_eq_true rfl⟩) ?_; conv => whnf)))
      have hkl : k < l.length := by omega
      refine Need.mk ⟨rfl, by omega, by omega⟩ ?_
      (conv => whnf)
      refine ⟨_, calls_row l k hkl, ?_⟩
      (conv => whnf)
      (refine ⟨_, rfl, ?_⟩; conv => whnf)
      have hc := hok _ (List.getElem_mem hkl)
      have hsl := total_get l hkl
      have hol := outW_len (l.take k)
      have htk := total_le l k
      have hlk : (l.take k).length ≤ 101 := by rw [List.length_take]; omega
      have hr := calls_row l k hkl
      have hO := outW_take l hkl
      have hE := errW_take e l hkl
      refine Both.dec (fun h0 => ?_) (fun h0 => ?_)
      · (conv => whnf)
        (repeat (first | (refine ⟨_, hr, ?_⟩; conv => whnf) | (exact Out.same; conv => whnf) | (exact Out1.same; conv => whnf) | (apply QStepH.go; conv => whnf) | (refine Both.lit_true ?_; conv => whnf) | (refine Both.lit_false ?_; conv => whnf) | (apply QStep.go; conv => whnf) | (refine Need.mk (by first | omega | exact ⟨by omega, by omega⟩ | rfl | exact ⟨rfl, rfl⟩ | exact ⟨rfl, by omega, by omega⟩ | exact ⟨by omega, by omega, by omega⟩ | exact ⟨rfl, Nat.le_of_ble_eq_true rfl⟩) ?_; conv => whnf) | (refine ⟨_, rfl, ?_⟩; conv => whnf)))
        refine CallVC.of [0, 2] byte_k ?_
        refine ⟨_, rfl, rfl, by rw [List.length_append]; omega, ?_⟩
        rw [show decide (0 ≤ l[k].k ∧ l[k].k ≤ 255) = l[k].good by simp [Call.good, h0]]
        cases hg : l[k].good
        · have hm : l[k].more = [] := by simp [Call.more, hg]
          (conv => whnf)
          refine ⟨k + 1, by omega, by omega, Weak.to [0, 1, 3] rfl rfl rfl ?_ ?_⟩
          · (repeat' ((conv => whnf); first | exact True.intro | (refine And.intro ?_ ?_)))
            all_goals first | rfl | exact congrArg (SV.int .i64) (by rw [wrap_i64 (by omega) (by omega)]; rfl)
          · rw [hO, hE, hm, hg]
            (repeat' ((conv => whnf); first | exact True.intro | (refine And.intro ?_ ?_)))
            all_goals first | rfl | exact .eq rfl | (rw [List.append_nil]; first | done | rfl) | (rw [← List.append_assoc l0]; first | rfl | (rw [List.length_append]; rfl))
        · have hm : l[k].more = [UInt8.ofNat l[k].k.toNat] := by simp [Call.more, hg, Call.full, h0]
          (conv => whnf)
          refine ⟨k + 1, by omega, by omega, Weak.to [0, 1, 3] rfl rfl rfl ?_ ?_⟩
          · (repeat' ((conv => whnf); first | exact True.intro | (refine And.intro ?_ ?_)))
            all_goals first | rfl | exact congrArg (SV.int .i64) (by rw [wrap_i64 (by omega) (by omega)]; rfl)
          · rw [hO, hE, hm, hg]
            (repeat' ((conv => whnf); first | exact True.intro | (refine And.intro ?_ ?_)))
            all_goals first | rfl | exact .eq rfl | (rw [List.append_nil]; first | done | rfl) | (rw [← List.append_assoc l0]; first | rfl | (rw [List.length_append]; rfl))
      (conv => whnf)
      refine Both.dec (fun h1 => ?_) (fun h1 => ?_)
      · (conv => whnf)
        (repeat (first | (refine ⟨_, hr, ?_⟩; conv => whnf) | (exact Out.same; conv => whnf) | (exact Out1.same; conv => whnf) | (apply QStepH.go; conv => whnf) | (refine Both.lit_true ?_; conv => whnf) | (refine Both.lit_false ?_; conv => whnf) | (apply QStep.go; conv => whnf) | (refine Need.mk (by first | omega | exact ⟨by omega, by omega⟩ | rfl | exact ⟨rfl, rfl⟩ | exact ⟨rfl, by omega, by omega⟩ | exact ⟨by omega, by omega, by omega⟩ | exact ⟨rfl, Nat.le_of_ble_eq_true rfl⟩) ?_; conv => whnf) | (refine ⟨_, rfl, ?_⟩; conv => whnf)))
        refine CallVC.of [0, 2] num_k ?_
        refine ⟨l[k].n.toNat, rfl, l[k].n.isLt, _, rfl, rfl, by rw [List.length_append]; omega, ?_⟩
        have hg : l[k].good = true := by simp [Call.good, h1]
        have hm : l[k].more = beb l[k].n.toNat 8 := by simp [Call.more, hg, Call.full, h1]
        (conv => whnf)
        refine ⟨k + 1, by omega, by omega, Weak.to [0, 1, 3] rfl rfl rfl ?_ ?_⟩
        · (repeat' ((conv => whnf); first | exact True.intro | (refine And.intro ?_ ?_)))
          all_goals first | rfl | exact congrArg (SV.int .i64) (by rw [wrap_i64 (by omega) (by omega)]; rfl)
        · rw [hO, hE, hm, hg]
          (repeat' ((conv => whnf); first | exact True.intro | (refine And.intro ?_ ?_)))
          all_goals first | rfl | exact .eq rfl | (rw [List.append_nil]; first | done | rfl) | (rw [← List.append_assoc l0]; first | rfl | (rw [List.length_append]; rfl))
      (conv => whnf)
      refine Both.dec (fun h2 => ?_) (fun h2 => ?_)
      · (conv => whnf)
        (repeat (first | (refine ⟨_, hr, ?_⟩; conv => whnf) | (exact Out.same; conv => whnf) | (exact Out1.same; conv => whnf) | (apply QStepH.go; conv => whnf) | (refine Both.lit_true ?_; conv => whnf) | (refine Both.lit_false ?_; conv => whnf) | (apply QStep.go; conv => whnf) | (refine Need.mk (by first | omega | exact ⟨by omega, by omega⟩ | rfl | exact ⟨rfl, rfl⟩ | exact ⟨rfl, by omega, by omega⟩ | exact ⟨by omega, by omega, by omega⟩ | exact ⟨rfl, Nat.le_of_ble_eq_true rfl⟩) ?_; conv => whnf) | (refine ⟨_, rfl, ?_⟩; conv => whnf)))
        refine CallVC.of [0, 2] text_k ?_
        refine ⟨_, rfl, rfl, by rw [List.length_append]; omega, ?_⟩
        rw [show decide (l[k].s.length ≤ 65535) = l[k].good by simp [Call.good, h2]]
        cases hg : l[k].good
        · have hm : l[k].more = [] := by simp [Call.more, hg]
          (conv => whnf)
          refine ⟨k + 1, by omega, by omega, Weak.to [0, 1, 3] rfl rfl rfl ?_ ?_⟩
          · (repeat' ((conv => whnf); first | exact True.intro | (refine And.intro ?_ ?_)))
            all_goals first | rfl | exact congrArg (SV.int .i64) (by rw [wrap_i64 (by omega) (by omega)]; rfl)
          · rw [hO, hE, hm, hg]
            (repeat' ((conv => whnf); first | exact True.intro | (refine And.intro ?_ ?_)))
            all_goals first | rfl | exact .eq rfl | (rw [List.append_nil]; first | done | rfl) | (rw [← List.append_assoc l0]; first | rfl | (rw [List.length_append]; rfl))
        · have hm : l[k].more = (beb l[k].s.length 2 ++ l[k].s) := by simp [Call.more, hg, Call.full, h2]
          (conv => whnf)
          refine ⟨k + 1, by omega, by omega, Weak.to [0, 1, 3] rfl rfl rfl ?_ ?_⟩
          · (repeat' ((conv => whnf); first | exact True.intro | (refine And.intro ?_ ?_)))
            all_goals first | rfl | exact congrArg (SV.int .i64) (by rw [wrap_i64 (by omega) (by omega)]; rfl)
          · rw [hO, hE, hm, hg]
            (repeat' ((conv => whnf); first | exact True.intro | (refine And.intro ?_ ?_)))
            all_goals first | rfl | exact .eq rfl | (rw [List.append_nil]; first | done | rfl) | (rw [← List.append_assoc l0]; first | rfl | (rw [List.length_append]; rfl))
      (conv => whnf)
      refine Both.dec (fun h3 => ?_) (fun h3 => ?_)
      · (conv => whnf)
        (repeat (first | (refine ⟨_, hr, ?_⟩; conv => whnf) | (exact Out.same; conv => whnf) | (exact Out1.same; conv => whnf) | (apply QStepH.go; conv => whnf) | (refine Both.lit_true ?_; conv => whnf) | (refine Both.lit_false ?_; conv => whnf) | (apply QStep.go; conv => whnf) | (refine Need.mk (by first | omega | exact ⟨by omega, by omega⟩ | rfl | exact ⟨rfl, rfl⟩ | exact ⟨rfl, by omega, by omega⟩ | exact ⟨by omega, by omega, by omega⟩ | exact ⟨rfl, Nat.le_of_ble_eq_true rfl⟩) ?_; conv => whnf) | (refine ⟨_, rfl, ?_⟩; conv => whnf)))
        refine CallVC.of [0, 2] raw_k ?_
        refine ⟨by omega, _, rfl, rfl, by rw [List.length_append]; omega, ?_⟩
        have hg : l[k].good = true := by simp [Call.good, h3]
        have hm : l[k].more = l[k].s := by simp [Call.more, hg, Call.full, h3]
        (conv => whnf)
        refine ⟨k + 1, by omega, by omega, Weak.to [0, 1, 3] rfl rfl rfl ?_ ?_⟩
        · (repeat' ((conv => whnf); first | exact True.intro | (refine And.intro ?_ ?_)))
          all_goals first | rfl | exact congrArg (SV.int .i64) (by rw [wrap_i64 (by omega) (by omega)]; rfl)
        · rw [hO, hE, hm, hg]
          (repeat' ((conv => whnf); first | exact True.intro | (refine And.intro ?_ ?_)))
          all_goals first | rfl | exact .eq rfl | (rw [List.append_nil]; first | done | rfl) | (rw [← List.append_assoc l0]; first | rfl | (rw [List.length_append]; rfl))
      · (conv => whnf)
        have hg : l[k].good = true := by simp [Call.good, h0, h1, h2]
        have hm : l[k].more = [] := by simp [Call.more, hg, Call.full, h0, h1, h2, h3]
        refine ⟨k + 1, by omega, by omega, Weak.le ?_ ?_⟩
        · (repeat' ((conv => whnf); first | exact True.intro | (refine And.intro ?_ ?_)))
          all_goals first | rfl | exact congrArg (SV.int .i64) (by rw [wrap_i64 (by omega) (by omega)]; rfl)
        · rw [hO, hE, hm, hg]
          (repeat' ((conv => whnf); first | exact True.intro | (refine And.intro ?_ ?_)))
          all_goals first | rfl | exact .eq rfl | (rw [List.append_nil]; first | done | rfl)
    · (conv => whnf)
      obtain rfl : k = l.length := by omega
      refine ⟨_, _, WeakV.refl _ _ _ _, ?_⟩
      rw [List.take_length]
      exact h
theorem puts_k : Contract Try.prog [] 10 putsS := ⟨⟨⟨_, rfl, rfl, rfl⟩⟩, puts_c⟩

def rbS : Spec := fun args H Q => match args, H with
  | [.int .u64 n, .int .i64 c], [] => ∃ v k : Nat, n = v ∧ v < 18446744073709551616 ∧ c = k ∧ k ≤ 8 ∧ Q (.str (beb v k)) []
  | _, _ => False
theorem rem_go (q : Nat) : IntKind.u8.wrap ((q : Int).tmod 256) = ((UInt8.ofNat q).toNat : Int) := by
  rw [Int.tmod_eq_emod_of_nonneg (by omega), wrap_u8_mod]
  simp
theorem quo_go (q : Nat) (hv : q < 18446744073709551616) : IntKind.u64.wrap ((q : Int).tdiv 256) = ((q / 256 : Nat) : Int) := by
  rw [Int.tdiv_eq_ediv_of_nonneg (by omega), wrap_u64 (by omega) (by omega)]
  omega
theorem cv_by (b : UInt8) : cvByte (.int .u8 (b.toNat : Int)) = b := by
  show UInt8.ofNat ((b.toNat : Int)).toNat = b
  rw [Int.toNat_natCast]
  simp
theorem rb_c : Meets Try.prog [] 30 rbS := by
  refine meets_of Γok Try.func30 rfl ?_
  intro args H Q h
  unfold rbS at h
  split at h
  case h_2 => exact h.elim
  obtain ⟨v, c, rfl, hv, rfl, hc, h⟩ := h
  (refine sx_sound Γok _ ?_; conv => whnf)
  refine loop_rule (fun j : Nat => ⟨[.int .u64 ((v / 256 ^ j : Nat) : Int), .int .i64 (c : Int), .any, .any, .any, .str (beb v j), .int .i64 (j : Int), .any, .any, .any, .any, .any, .any, .any, .any, .any, .any, .any, .any, .any, .any, .any], []⟩) (fun j => j ≤ c) (fun j => c - j) 0 (by omega) ?_ ?_
  · refine Weak.le ?_ ?_
    · (repeat' ((conv => whnf); first | exact True.intro | (refine And.intro ?_ ?_)))
      all_goals first | rfl | (rw [Nat.pow_zero, Nat.div_one])
    · (repeat' ((conv => whnf); first | exact True.intro | (refine And.intro ?_ ?_)))
  · intro j hj
    (refine sx_sound Γok _ ?_; conv => whnf)
    refine Both.dec (fun hlt => ?_) (fun hge => ?_)
    · (conv => whnf)
      (repeat (first | (refine Both.lit_true ?_; conv => whnf) | (refine Both.lit_false ?_; conv => whnf) | (refine Need.mk (by first | omega | exact ⟨by omega, by omega⟩ | rfl | exact ⟨rfl, rfl⟩ | exact ⟨rfl, Nat.le_of_ble_eq_true rfl⟩) ?_; conv => whnf)))
      rw [rem_go]
      refine Need.mk ⟨rfl, by simp [isU8]⟩ ?_
      (conv => whnf)
      refine Need.mk (by rw [beb_length]; simp; omega) ?_
      (conv => whnf)
      (repeat (first | (refine Both.lit_true ?_; conv => whnf) | (refine Both.lit_false ?_; conv => whnf) | (refine Need.mk (by first | omega | exact ⟨by omega, by omega⟩ | rfl | exact ⟨rfl, rfl⟩ | exact ⟨rfl, Nat.le_of_ble_eq_true rfl⟩) ?_; conv => whnf)))
      have hq : v / 256 ^ j < 18446744073709551616 := Nat.lt_of_le_of_lt (Nat.div_le_self _ _) hv
      refine ⟨j + 1, by omega, by omega, Weak.le ?_ ?_⟩
      · (repeat' ((conv => whnf); first | exact True.intro | (refine And.intro ?_ ?_)))
        all_goals first | rfl | exact congrArg (SV.int .u64) (by rw [quo_go _ hq, Nat.pow_succ, ← Nat.div_div_eq_div_mul]) | exact congrArg (SV.int .i64) (by rw [wrap_i64 (by omega) (by omega)]; rfl) | exact congrArg (fun x => SV.str (x :: beb v j)) (cv_by _)
      · (repeat' ((conv => whnf); first | exact True.intro | (refine And.intro ?_ ?_)))
    · obtain rfl : j = c := by omega
      (conv => whnf)
      exact ⟨_, _, WeakV.drop rfl, h⟩
theorem rb_k : Contract Try.prog [] 30 rbS := ⟨⟨⟨_, rfl, rfl, rfl⟩⟩, rb_c⟩
def trueS : Spec := fun args H Q => match args, H with
  | [], [] => Q (.bool true) []
  | _, _ => False
theorem awake_c : Meets Try.prog [] 8 trueS := by
  refine meets_of Γok Try.func8 rfl ?_
  intro args H Q h
  unfold trueS at h
  split at h
  case h_2 => exact h.elim
  (refine sx_sound Γok _ ?_; conv => whnf)
  refine CallVC.weak _ (Weak.wr 0 5 rfl) [0, 1] byte_k ?_
  refine ⟨[], rfl, rfl, by simp, ?_⟩
  (conv => whnf)
  refine CallVC.of [0, 2] text_k ?_
  refine ⟨_, rfl, rfl, by simp, ?_⟩
  (conv => whnf)
  refine CallVC.of [0, 3] num_k ?_
  refine ⟨258, rfl, by omega, _, rfl, rfl, by simp [beb_length], ?_⟩
  (conv => whnf)
  refine CallVC.of [0, 4] bytes_k ?_
  refine ⟨_, rfl, rfl, by simp [beb_length], ?_⟩
  (conv => whnf)
  refine Both.sure (by decide +kernel) ?_
  (conv => whnf)
  (repeat (first | (refine Both.lit_true ?_; conv => whnf) | (refine Both.lit_false ?_; conv => whnf) | (refine Need.mk (by first | omega | exact ⟨by omega, by omega⟩ | rfl | exact ⟨rfl, rfl⟩ | exact ⟨rfl, Nat.le_of_ble_eq_true rfl⟩) ?_; conv => whnf)))
  exact ⟨_, _, WeakV.drop rfl, h⟩
theorem awake_k : Contract Try.prog [] 8 trueS := ⟨⟨⟨_, rfl, rfl, rfl⟩⟩, awake_c⟩
end Go.LX
