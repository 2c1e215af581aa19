import Derived.Test.YtcmnomppneiiiaaNh
import Derived.Test.YtcmnomppneiiiaaNe
set_option maxRecDepth 100000
set_option maxHeartbeats 4000000
set_option autoImplicit false
set_option linter.unusedVariables false
set_option linter.unusedSimpArgs false
namespace Go.LX
open Go.Proofs

def allG (ix : Int) (m l : List Row) : Bool := plok ix && (goodR 2 m && goodR 4 l)
def cloBS : Spec := fun args H Q => match args, H with
  | [.ptr 0 0, .ptr 1 0, .ptr 2 0, .ptr 3 0], [.cells [.int .i64 0, .nil, .nilsl] 65, .cells [.int .u64 hg, .int .i64 ix] 35, .cells [.sl 5 n' cs' b'] 33, .cells [.sl 5 n cs b] 32] =>
    ∃ m l : List Row, n' = m.length ∧ cs' = m.flatMap Row.enI ∧ m.length ≤ 300 ∧ n = l.length ∧ cs = l.flatMap Row.enN ∧ l.length ≤ 300 ∧ (0 ≤ hg ∧ hg < 18446744073709551616) ∧
    ∀ e' l', e' = (if allG ix m l then 0 else 1) → (allG ix m l = true → l' = plB hg ix ++ (outR m ++ outR l)) → l'.length ≤ 70000 →
      Q (.tuple []) [.cells [.int .i64 e', .opt 0 1, .own 4] 65, .cells [.int .u64 hg, .int .i64 ix] 35, .cells [.sl 5 n' cs' b'] 33, .cells [.sl 5 n cs b] 32, .own 5 1 l'.length (bys l') true]
  | _, _ => False
theorem cloB_c : Meets Try.prog [] 22 cloBS := by
  refine meets_of Γok Try.func22 rfl ?_
  intro args H Q h
  unfold cloBS at h
  split at h
  case h_2 => exact h.elim
  rename_i hg ix n' cs' b' n cs b
  obtain ⟨m, l, rfl, rfl, hm, rfl, rfl, hl, hh, h⟩ := h
  (refine sx_sound Γok _ ?_; conv => whnf)
  (repeat (first | (exact Out.same; conv => whnf) | (exact Out1.same; conv => whnf) | (refine QAnd.mk ?_ ?_; conv => whnf) | (apply QStepH.go; conv => whnf) | (refine Both.lit_true ?_; conv => whnf) | (refine Both.lit_false ?_; conv => whnf) | (apply QStep.go; conv => whnf) | (refine Need.mk ?_ ?_; (focus (first | omega | exact ⟨by omega, by omega⟩ | rfl | exact ⟨rfl, rfl⟩ | exact ⟨rfl, by omega, by omega⟩ | exact ⟨by omega, by omega, by omega⟩ | exact ⟨rfl, Nat.le_of_ble_eq_true rfl⟩ | exact Nat.le_of_ble_eq_true rfl | (refine ⟨rfl, rfl, ?_⟩; simp [isFar, ofV0, CV.up, SV.renL, SV.ren] <;> fail) | (refine ⟨rfl, Nat.le_of_ble_eq_true rfl, ?_⟩; simp [isFar, ofV0, CV.up, SV.renL, SV.ren] <;> fail) | (simp <;> fail))); conv => whnf) | (refine ⟨_, rfl, ?_⟩; conv => whnf)))
  refine CallVC.autoW _ (Weak.wr 0 5 rfl) putPl_k (Need.mk hh ⟨[], rfl, rfl, by simp, ?_⟩)
  intro e1 l1 a1 a2 a3
  have a3 : l1.length ≤ 16 := by simpa using a3
  (conv => whnf)
  (repeat (first | (exact Out.same; conv => whnf) | (exact Out1.same; conv => whnf) | (refine QAnd.mk ?_ ?_; conv => whnf) | (apply QStepH.go; conv => whnf) | (refine Both.lit_true ?_; conv => whnf) | (refine Both.lit_false ?_; conv => whnf) | (apply QStep.go; conv => whnf) | (refine Need.mk ?_ ?_; (focus (first | omega | exact ⟨by omega, by omega⟩ | rfl | exact ⟨rfl, rfl⟩ | exact ⟨rfl, by omega, by omega⟩ | exact ⟨by omega, by omega, by omega⟩ | exact ⟨rfl, Nat.le_of_ble_eq_true rfl⟩ | exact Nat.le_of_ble_eq_true rfl | (refine ⟨rfl, rfl, ?_⟩; simp [isFar, ofV0, CV.up, SV.renL, SV.ren] <;> fail) | (refine ⟨rfl, Nat.le_of_ble_eq_true rfl, ?_⟩; simp [isFar, ofV0, CV.up, SV.renL, SV.ren] <;> fail) | (simp <;> fail))); conv => whnf) | (refine ⟨_, rfl, ?_⟩; conv => whnf)))
  refine CallVC.auto putAllItem_k ⟨l1, m, rfl, rfl, by omega, rfl, rfl, hm, ?_⟩
  intro e2 l2 b1 b2 b3
  (conv => whnf)
  (repeat (first | (exact Out.same; conv => whnf) | (exact Out1.same; conv => whnf) | (refine QAnd.mk ?_ ?_; conv => whnf) | (apply QStepH.go; conv => whnf) | (refine Both.lit_true ?_; conv => whnf) | (refine Both.lit_false ?_; conv => whnf) | (apply QStep.go; conv => whnf) | (refine Need.mk ?_ ?_; (focus (first | omega | exact ⟨by omega, by omega⟩ | rfl | exact ⟨rfl, rfl⟩ | exact ⟨rfl, by omega, by omega⟩ | exact ⟨by omega, by omega, by omega⟩ | exact ⟨rfl, Nat.le_of_ble_eq_true rfl⟩ | exact Nat.le_of_ble_eq_true rfl | (refine ⟨rfl, rfl, ?_⟩; simp [isFar, ofV0, CV.up, SV.renL, SV.ren] <;> fail) | (refine ⟨rfl, Nat.le_of_ble_eq_true rfl, ?_⟩; simp [isFar, ofV0, CV.up, SV.renL, SV.ren] <;> fail) | (simp <;> fail))); conv => whnf) | (refine ⟨_, rfl, ?_⟩; conv => whnf)))
  refine CallVC.auto putAllNote_k ⟨l2, l, rfl, rfl, by omega, rfl, rfl, hl, ?_⟩
  intro e3 l3 c1 c2 c3
  (conv => whnf)
  refine ⟨_, _, WeakV.auto ?_, h e3 l3 ?_ ?_ (by omega)⟩
  · (repeat' ((conv => whnf); first | exact True.intro | (refine And.intro ?_ ?_)))
    all_goals first | rfl | exact .eq rfl
  · rw [c1, b1, a1, allG]
    cases plok ix <;> cases goodR 2 m <;> cases goodR 4 l <;> rfl
  · intro hgd
    rw [allG, Bool.and_eq_true, Bool.and_eq_true] at hgd
    rw [c2 hgd.2.2, b2 hgd.2.1, a2 hgd.1]
    simp
theorem cloB_k : Contract Try.prog [] 22 cloBS := ⟨⟨⟨_, rfl, rfl, rfl⟩⟩, cloB_c⟩
def bytBS : Spec := fun args H Q => match args, H with
  | [.func (.func 22) [.ptr 0 0, .ptr 1 0, .ptr 2 0]], [.cells [.int .u64 hg, .int .i64 ix] 35, .cells [.sl 5 n' cs' b'] 33, .cells [.sl 5 n cs b] 32] =>
    ∃ m l : List Row, n' = m.length ∧ cs' = m.flatMap Row.enI ∧ m.length ≤ 300 ∧ n = l.length ∧ cs = l.flatMap Row.enN ∧ l.length ≤ 300 ∧ (0 ≤ hg ∧ hg < 18446744073709551616) ∧
    ∀ e' s', e' = (if allG ix m l then 0 else 1) → s' = (if allG ix m l then plB hg ix ++ (outR m ++ outR l) else []) → s'.length ≤ 70000 →
      Q (.tuple [.str s', .int .i64 e']) [.cells [.int .u64 hg, .int .i64 ix] 35, .cells [.sl 5 n' cs' b'] 33, .cells [.sl 5 n cs b] 32]
  | _, _ => False
theorem bytB_c : Meets Try.prog [] 10 bytBS := by
  refine meets_of Γok Try.func10 rfl ?_
  intro args H Q h
  unfold bytBS at h
  split at h
  case h_2 => exact h.elim
  rename_i hg ix n' cs' b' n cs b
  obtain ⟨m, l, rfl, rfl, hm, rfl, rfl, hl, hh, h⟩ := h
  (refine sx_sound Γok _ ?_; conv => whnf)
  (repeat (first | (exact Out.same; conv => whnf) | (exact Out1.same; conv => whnf) | (refine QAnd.mk ?_ ?_; conv => whnf) | (apply QStepH.go; conv => whnf) | (refine Both.lit_true ?_; conv => whnf) | (refine Both.lit_false ?_; conv => whnf) | (apply QStep.go; conv => whnf) | (refine Need.mk ?_ ?_; (focus (first | omega | exact ⟨by omega, by omega⟩ | rfl | exact ⟨rfl, rfl⟩ | exact ⟨rfl, by omega, by omega⟩ | exact ⟨by omega, by omega, by omega⟩ | exact ⟨rfl, Nat.le_of_ble_eq_true rfl⟩ | exact Nat.le_of_ble_eq_true rfl | (refine ⟨rfl, rfl, ?_⟩; simp [isFar, ofV0, CV.up, SV.renL, SV.ren] <;> fail) | (refine ⟨rfl, Nat.le_of_ble_eq_true rfl, ?_⟩; simp [isFar, ofV0, CV.up, SV.renL, SV.ren] <;> fail) | (simp <;> fail))); conv => whnf) | (refine ⟨_, rfl, ?_⟩; conv => whnf)))
  refine CallClo.auto cloB_k ⟨m, l, rfl, rfl, hm, rfl, rfl, hl, hh, ?_⟩
  intro e' l' h1 h2 h3
  (conv => whnf)
  refine CallVC.auto bytesA_k ⟨_, rfl, rfl, by omega, ?_⟩
  intro s' hs'
  (conv => whnf)
  have hz : IntKind.i64.wrap e' = e' := by
    rw [h1]
    split <;> rfl
  refine ⟨_, _, WeakV.auto ?_, h e' s' h1 ?_ ?_⟩
  · (repeat' ((conv => whnf); first | exact True.intro | (refine And.intro ?_ ?_)))
    · exact congrArg (fun x => SV.tuple [.str s', .int .i64 x]) (by first | exact hz | rfl)
    all_goals first | rfl | exact .eq rfl
  · rw [hs', h1]
    cases hgd : allG ix m l
    · rfl
    · rw [h2 hgd]; rfl
  · rw [hs']
    split
    · exact h3
    · simp
theorem bytB_k : Contract Try.prog [] 10 bytBS := ⟨⟨⟨_, rfl, rfl, rfl⟩⟩, bytB_c⟩
def gI0S : Spec := fun args H Q => match args, H with
  | [.ptr 0 0], [.cells [.int .i64 e, .str s] 83] => ∃ (r : List UInt8), e = 0 ∧ s = outR [] ++ r ∧ s.length < 1000000 ∧ Q .nilsl (rd 0 r)
  | _, _ => False
theorem gI0_k : Contract Try.prog [] 26 gI0S := gotItem_k.imp fun args H Q h => by
  unfold gI0S at h
  split at h
  case h_2 => exact h.elim
  obtain ⟨r, rfl, rfl, hl, h⟩ := h
  exact ⟨[], r, rfl, rfl, hl, rfl, fun _ => h, fun h0 => absurd rfl h0⟩
def gN0S : Spec := gI0S
theorem gN0_k : Contract Try.prog [] 28 gI0S := gotNote_k.imp fun args H Q h => by
  unfold gI0S at h
  split at h
  case h_2 => exact h.elim
  obtain ⟨r, rfl, rfl, hl, h⟩ := h
  exact ⟨[], r, rfl, rfl, hl, rfl, fun _ => h, fun h0 => absurd rfl h0⟩
def gI1S : Spec := fun args H Q => match args, H with
  | [.ptr 0 0], [.cells [.int .i64 e, .str s] 83] => ∃ (l : List Row) (r : List UInt8), e = 0 ∧ s = outR l ++ r ∧ s.length < 1000000 ∧ goodR 2 l = true ∧ l ≠ [] ∧ Q (.own 1) (rd 0 r ++ [.own 70 5 l.length (l.flatMap Row.enI) true])
  | _, _ => False
theorem gI1_k : Contract Try.prog [] 26 gI1S := gotItem_k.imp fun args H Q h => by
  unfold gI1S at h
  split at h
  case h_2 => exact h.elim
  obtain ⟨l, r, rfl, rfl, hl, hg, hne, h⟩ := h
  exact ⟨l, r, rfl, rfl, hl, hg, fun h0 => absurd h0 hne, fun _ => h⟩
def gN1S : Spec := fun args H Q => match args, H with
  | [.ptr 0 0], [.cells [.int .i64 e, .str s] 83] => ∃ (l : List Row) (r : List UInt8), e = 0 ∧ s = outR l ++ r ∧ s.length < 1000000 ∧ goodR 4 l = true ∧ l ≠ [] ∧ Q (.own 1) (rd 0 r ++ [.own 27 5 l.length (l.flatMap Row.enN) true])
  | _, _ => False
theorem gN1_k : Contract Try.prog [] 28 gN1S := gotNote_k.imp fun args H Q h => by
  unfold gN1S at h
  split at h
  case h_2 => exact h.elim
  obtain ⟨l, r, rfl, rfl, hl, hg, hne, h⟩ := h
  exact ⟨l, r, rfl, rfl, hl, hg, fun h0 => absurd h0 hne, fun _ => h⟩
def lawNBS : Spec := fun args H Q => match args, H with
  | [.sl 5 n cs b, .sl 5 n' cs' b', .agg [.int .u64 hg, .int .i64 ix]], [] => ∃ l m : List Row, n = l.length ∧ cs = l.flatMap Row.enN ∧ n' = m.length ∧ cs' = m.flatMap Row.enI ∧ (0 ≤ hg ∧ hg < 18446744073709551616) ∧ Q (.bool true) []
  | _, _ => False
theorem back_law : Meets Try.prog [] 5 lawNBS := by
  refine meets_of Γok Try.func5 rfl ?_
  intro args H Q h
  unfold lawNBS at h
  split at h
  case h_2 => exact h.elim
  rename_i n cs b n' cs' b' hg ix
  obtain ⟨l, m, rfl, rfl, rfl, rfl, hh, h⟩ := h
  (refine sx_sound Γok _ ?_; conv => whnf)
  (repeat (first | (exact Out.same; conv => whnf) | (exact Out1.same; conv => whnf) | (refine QAnd.mk ?_ ?_; conv => whnf) | (apply QStepH.go; conv => whnf) | (refine Both.lit_true ?_; conv => whnf) | (refine Both.lit_false ?_; conv => whnf) | (apply QStep.go; conv => whnf) | (refine Need.mk ?_ ?_; (focus (first | omega | exact ⟨by omega, by omega⟩ | rfl | exact ⟨rfl, rfl⟩ | exact ⟨rfl, by omega, by omega⟩ | exact ⟨by omega, by omega, by omega⟩ | exact ⟨rfl, Nat.le_of_ble_eq_true rfl⟩ | exact Nat.le_of_ble_eq_true rfl | (refine ⟨rfl, rfl, ?_⟩; simp [isFar, ofV0, CV.up, SV.renL, SV.ren] <;> fail) | (refine ⟨rfl, Nat.le_of_ble_eq_true rfl, ?_⟩; simp [isFar, ofV0, CV.up, SV.renL, SV.ren] <;> fail) | (simp <;> fail))); conv => whnf) | (refine ⟨_, rfl, ?_⟩; conv => whnf) | (refine CallVC.auto awake_k ?_; conv => whnf)))
  refine CallVC.auto few2_k ⟨l, m, rfl, rfl, rfl, rfl, ?_⟩
  intro r hr
  (conv => whnf)
  refine Both.cases (fun hb => ?_) (fun hb => ?_)
  · (conv => whnf)
    (repeat (first | (exact Out.same; conv => whnf) | (exact Out1.same; conv => whnf) | (refine QAnd.mk ?_ ?_; conv => whnf) | (apply QStepH.go; conv => whnf) | (refine Both.lit_true ?_; conv => whnf) | (refine Both.lit_false ?_; conv => whnf) | (apply QStep.go; conv => whnf) | (refine Need.mk ?_ ?_; (focus (first | omega | exact ⟨by omega, by omega⟩ | rfl | exact ⟨rfl, rfl⟩ | exact ⟨rfl, by omega, by omega⟩ | exact ⟨by omega, by omega, by omega⟩ | exact ⟨rfl, Nat.le_of_ble_eq_true rfl⟩ | exact Nat.le_of_ble_eq_true rfl | (refine ⟨rfl, rfl, ?_⟩; simp [isFar, ofV0, CV.up, SV.renL, SV.ren] <;> fail) | (refine ⟨rfl, Nat.le_of_ble_eq_true rfl, ?_⟩; simp [isFar, ofV0, CV.up, SV.renL, SV.ren] <;> fail) | (simp <;> fail))); conv => whnf) | (refine ⟨_, rfl, ?_⟩; conv => whnf)))
    exact ⟨_, _, WeakV.drop rfl, h⟩
  obtain ⟨hl, hm⟩ := hr (by simpa using hb)
  (conv => whnf)
  (repeat (first | (exact Out.same; conv => whnf) | (exact Out1.same; conv => whnf) | (refine QAnd.mk ?_ ?_; conv => whnf) | (apply QStepH.go; conv => whnf) | (refine Both.lit_true ?_; conv => whnf) | (refine Both.lit_false ?_; conv => whnf) | (apply QStep.go; conv => whnf) | (refine Need.mk ?_ ?_; (focus (first | omega | exact ⟨by omega, by omega⟩ | rfl | exact ⟨rfl, rfl⟩ | exact ⟨rfl, by omega, by omega⟩ | exact ⟨by omega, by omega, by omega⟩ | exact ⟨rfl, Nat.le_of_ble_eq_true rfl⟩ | exact Nat.le_of_ble_eq_true rfl | (refine ⟨rfl, rfl, ?_⟩; simp [isFar, ofV0, CV.up, SV.renL, SV.ren] <;> fail) | (refine ⟨rfl, Nat.le_of_ble_eq_true rfl, ?_⟩; simp [isFar, ofV0, CV.up, SV.renL, SV.ren] <;> fail) | (simp <;> fail))); conv => whnf) | (refine ⟨_, rfl, ?_⟩; conv => whnf)))
  refine CallVC.auto bytB_k ⟨m, l, rfl, rfl, hm, rfl, rfl, hl, hh, ?_⟩
  intro e s he hs hsl
  cases hga : allG ix m l
  · obtain rfl : e = 1 := by rw [he, hga]; rfl
    obtain rfl : s = [] := by rw [hs, hga]; rfl
    (conv => whnf)
    (repeat (first | (exact Out.same; conv => whnf) | (exact Out1.same; conv => whnf) | (refine QAnd.mk ?_ ?_; conv => whnf) | (apply QStepH.go; conv => whnf) | (refine Both.lit_true ?_; conv => whnf) | (refine Both.lit_false ?_; conv => whnf) | (apply QStep.go; conv => whnf) | (refine Need.mk ?_ ?_; (focus (first | omega | exact ⟨by omega, by omega⟩ | rfl | exact ⟨rfl, rfl⟩ | exact ⟨rfl, by omega, by omega⟩ | exact ⟨by omega, by omega, by omega⟩ | exact ⟨rfl, Nat.le_of_ble_eq_true rfl⟩ | exact Nat.le_of_ble_eq_true rfl | (refine ⟨rfl, rfl, ?_⟩; simp [isFar, ofV0, CV.up, SV.renL, SV.ren] <;> fail) | (refine ⟨rfl, Nat.le_of_ble_eq_true rfl, ?_⟩; simp [isFar, ofV0, CV.up, SV.renL, SV.ren] <;> fail) | (simp <;> fail))); conv => whnf) | (refine ⟨_, rfl, ?_⟩; conv => whnf)))
    refine ⟨_, _, WeakV.drop (congrArg SV.bool ?_), h⟩
    rfl
  obtain rfl : e = 0 := by rw [he, hga]; rfl
  have hs2 : s = plB hg ix ++ (outR m ++ outR l) := by rw [hs, hga]; rfl
  rw [allG, Bool.and_eq_true, Bool.and_eq_true] at hga
  obtain ⟨g1, g2, g3⟩ := hga
  clear hs he
  have hl1 : s.length < 1000000 := by omega
  have hl2 : (outR m ++ outR l).length < 1000000 := by
    rw [hs2, List.length_append] at hl1
    omega
  have hl3 : (outR l ++ []).length < 1000000 := by
    rw [List.length_append] at hl2
    rw [List.append_nil]
    omega
  have hla : outR l = outR l ++ [] := by rw [List.append_nil]
  have hl4 : (outR l).length < 1000000 := by rw [hla]; exact hl3
  cases m with
  | nil =>
    cases l with
    | nil =>
      (conv => whnf)
      (repeat (first | (exact Out.same; conv => whnf) | (exact Out1.same; conv => whnf) | (refine QAnd.mk ?_ ?_; conv => whnf) | (apply QStepH.go; conv => whnf) | (refine Both.lit_true ?_; conv => whnf) | (refine Both.lit_false ?_; conv => whnf) | (apply QStep.go; conv => whnf) | (refine Need.mk ?_ ?_; (focus (first | omega | exact ⟨by omega, by omega⟩ | rfl | exact ⟨rfl, rfl⟩ | exact ⟨rfl, by omega, by omega⟩ | exact ⟨by omega, by omega, by omega⟩ | exact ⟨rfl, Nat.le_of_ble_eq_true rfl⟩ | exact Nat.le_of_ble_eq_true rfl | (refine ⟨rfl, rfl, ?_⟩; simp [isFar, ofV0, CV.up, SV.renL, SV.ren] <;> fail) | (refine ⟨rfl, Nat.le_of_ble_eq_true rfl, ?_⟩; simp [isFar, ofV0, CV.up, SV.renL, SV.ren] <;> fail) | (simp <;> fail))); conv => whnf) | (refine ⟨_, rfl, ?_⟩; conv => whnf) | (refine CallVC.auto rnew_k ?_; conv => whnf)))
      (refine DrawVC.any Γok (by kernel_rfl) (by kernel_rfl) (by kernel_rfl) (by rfl) ?_; conv => whnf)
      (repeat (first | (refine CallVC.auto plGot_k ⟨hg, ix, _, rfl, hs2, hl1, hh, g1, ?_⟩; conv => whnf) | (refine CallVC.auto gI0_k ⟨_, rfl, rfl, hl2, ?_⟩; conv => whnf) | (refine CallVC.auto sameItem_k ⟨rfl, ?_⟩; conv => whnf) | (refine CallVC.auto gN0_k ⟨[], rfl, hla, hl4, ?_⟩; conv => whnf) | (refine CallVC.auto sameNote_k ⟨rfl, ?_⟩; conv => whnf) | (exact Out.same; conv => whnf) | (exact Out1.same; conv => whnf) | (refine QAnd.mk ?_ ?_; conv => whnf) | (apply QStepH.go; conv => whnf) | (refine Both.lit_true ?_; conv => whnf) | (refine Both.lit_false ?_; conv => whnf) | (apply QStep.go; conv => whnf) | (refine Need.mk ?_ ?_; (focus (first | omega | exact ⟨by omega, by omega⟩ | rfl | exact ⟨rfl, rfl⟩ | exact ⟨rfl, by omega, by omega⟩ | exact ⟨by omega, by omega, by omega⟩ | exact ⟨rfl, Nat.le_of_ble_eq_true rfl⟩ | exact Nat.le_of_ble_eq_true rfl | (refine ⟨rfl, rfl, ?_⟩; simp [isFar, ofV0, CV.up, SV.renL, SV.ren] <;> fail) | (refine ⟨rfl, Nat.le_of_ble_eq_true rfl, ?_⟩; simp [isFar, ofV0, CV.up, SV.renL, SV.ren] <;> fail) | (simp <;> fail))); conv => whnf) | (refine ⟨_, rfl, ?_⟩; conv => whnf) | (refine CallVC.auto end_k ?_; conv => whnf) | (refine Both.of_false ?_ ?_; (focus (first | rfl | (simp <;> fail))); conv => whnf) | (refine Both.of_true ?_ ?_; (focus (first | rfl | (simp <;> fail))); conv => whnf)))
      refine ⟨_, _, WeakV.drop (congrArg SV.bool ?_), h⟩
      rfl
    | cons c l =>
      (conv => whnf)
      (repeat (first | (exact Out.same; conv => whnf) | (exact Out1.same; conv => whnf) | (refine QAnd.mk ?_ ?_; conv => whnf) | (apply QStepH.go; conv => whnf) | (refine Both.lit_true ?_; conv => whnf) | (refine Both.lit_false ?_; conv => whnf) | (apply QStep.go; conv => whnf) | (refine Need.mk ?_ ?_; (focus (first | omega | exact ⟨by omega, by omega⟩ | rfl | exact ⟨rfl, rfl⟩ | exact ⟨rfl, by omega, by omega⟩ | exact ⟨by omega, by omega, by omega⟩ | exact ⟨rfl, Nat.le_of_ble_eq_true rfl⟩ | exact Nat.le_of_ble_eq_true rfl | (refine ⟨rfl, rfl, ?_⟩; simp [isFar, ofV0, CV.up, SV.renL, SV.ren] <;> fail) | (refine ⟨rfl, Nat.le_of_ble_eq_true rfl, ?_⟩; simp [isFar, ofV0, CV.up, SV.renL, SV.ren] <;> fail) | (simp <;> fail))); conv => whnf) | (refine ⟨_, rfl, ?_⟩; conv => whnf) | (refine CallVC.auto rnew_k ?_; conv => whnf)))
      (refine DrawVC.any Γok (by kernel_rfl) (by kernel_rfl) (by kernel_rfl) (by rfl) ?_; conv => whnf)
      (repeat (first | (refine CallVC.auto plGot_k ⟨hg, ix, _, rfl, hs2, hl1, hh, g1, ?_⟩; conv => whnf) | (refine CallVC.auto gI0_k ⟨_, rfl, rfl, hl2, ?_⟩; conv => whnf) | (refine CallVC.auto sameItem_k ⟨rfl, ?_⟩; conv => whnf) | (refine CallVC.auto gN1_k ⟨_, [], rfl, hla, hl4, g3, List.cons_ne_nil _ _, ?_⟩; conv => whnf) | (refine CallVC.auto sameNote_k ⟨_, rfl, rfl, rfl, rfl, hl, ?_⟩; conv => whnf) | (exact Out.same; conv => whnf) | (exact Out1.same; conv => whnf) | (refine QAnd.mk ?_ ?_; conv => whnf) | (apply QStepH.go; conv => whnf) | (refine Both.lit_true ?_; conv => whnf) | (refine Both.lit_false ?_; conv => whnf) | (apply QStep.go; conv => whnf) | (refine Need.mk ?_ ?_; (focus (first | omega | exact ⟨by omega, by omega⟩ | rfl | exact ⟨rfl, rfl⟩ | exact ⟨rfl, by omega, by omega⟩ | exact ⟨by omega, by omega, by omega⟩ | exact ⟨rfl, Nat.le_of_ble_eq_true rfl⟩ | exact Nat.le_of_ble_eq_true rfl | (refine ⟨rfl, rfl, ?_⟩; simp [isFar, ofV0, CV.up, SV.renL, SV.ren] <;> fail) | (refine ⟨rfl, Nat.le_of_ble_eq_true rfl, ?_⟩; simp [isFar, ofV0, CV.up, SV.renL, SV.ren] <;> fail) | (simp <;> fail))); conv => whnf) | (refine ⟨_, rfl, ?_⟩; conv => whnf) | (refine CallVC.auto end_k ?_; conv => whnf) | (refine Both.of_false ?_ ?_; (focus (first | rfl | (simp <;> fail))); conv => whnf) | (refine Both.of_true ?_ ?_; (focus (first | rfl | (simp <;> fail))); conv => whnf)))
      refine ⟨_, _, WeakV.drop (congrArg SV.bool ?_), h⟩
      rfl
  | cons c2 m =>
    cases l with
    | nil =>
      (conv => whnf)
      (repeat (first | (exact Out.same; conv => whnf) | (exact Out1.same; conv => whnf) | (refine QAnd.mk ?_ ?_; conv => whnf) | (apply QStepH.go; conv => whnf) | (refine Both.lit_true ?_; conv => whnf) | (refine Both.lit_false ?_; conv => whnf) | (apply QStep.go; conv => whnf) | (refine Need.mk ?_ ?_; (focus (first | omega | exact ⟨by omega, by omega⟩ | rfl | exact ⟨rfl, rfl⟩ | exact ⟨rfl, by omega, by omega⟩ | exact ⟨by omega, by omega, by omega⟩ | exact ⟨rfl, Nat.le_of_ble_eq_true rfl⟩ | exact Nat.le_of_ble_eq_true rfl | (refine ⟨rfl, rfl, ?_⟩; simp [isFar, ofV0, CV.up, SV.renL, SV.ren] <;> fail) | (refine ⟨rfl, Nat.le_of_ble_eq_true rfl, ?_⟩; simp [isFar, ofV0, CV.up, SV.renL, SV.ren] <;> fail) | (simp <;> fail))); conv => whnf) | (refine ⟨_, rfl, ?_⟩; conv => whnf) | (refine CallVC.auto rnew_k ?_; conv => whnf)))
      (refine DrawVC.any Γok (by kernel_rfl) (by kernel_rfl) (by kernel_rfl) (by rfl) ?_; conv => whnf)
      (repeat (first | (refine CallVC.auto plGot_k ⟨hg, ix, _, rfl, hs2, hl1, hh, g1, ?_⟩; conv => whnf) | (refine CallVC.auto gI1_k ⟨_, _, rfl, rfl, hl2, g2, List.cons_ne_nil _ _, ?_⟩; conv => whnf) | (refine CallVC.auto sameItem_k ⟨_, rfl, rfl, rfl, rfl, hm, ?_⟩; conv => whnf) | (refine CallVC.auto gN0_k ⟨[], rfl, hla, hl4, ?_⟩; conv => whnf) | (refine CallVC.auto sameNote_k ⟨rfl, ?_⟩; conv => whnf) | (exact Out.same; conv => whnf) | (exact Out1.same; conv => whnf) | (refine QAnd.mk ?_ ?_; conv => whnf) | (apply QStepH.go; conv => whnf) | (refine Both.lit_true ?_; conv => whnf) | (refine Both.lit_false ?_; conv => whnf) | (apply QStep.go; conv => whnf) | (refine Need.mk ?_ ?_; (focus (first | omega | exact ⟨by omega, by omega⟩ | rfl | exact ⟨rfl, rfl⟩ | exact ⟨rfl, by omega, by omega⟩ | exact ⟨by omega, by omega, by omega⟩ | exact ⟨rfl, Nat.le_of_ble_eq_true rfl⟩ | exact Nat.le_of_ble_eq_true rfl | (refine ⟨rfl, rfl, ?_⟩; simp [isFar, ofV0, CV.up, SV.renL, SV.ren] <;> fail) | (refine ⟨rfl, Nat.le_of_ble_eq_true rfl, ?_⟩; simp [isFar, ofV0, CV.up, SV.renL, SV.ren] <;> fail) | (simp <;> fail))); conv => whnf) | (refine ⟨_, rfl, ?_⟩; conv => whnf) | (refine CallVC.auto end_k ?_; conv => whnf) | (refine Both.of_false ?_ ?_; (focus (first | rfl | (simp <;> fail))); conv => whnf) | (refine Both.of_true ?_ ?_; (focus (first | rfl | (simp <;> fail))); conv => whnf)))
      refine ⟨_, _, WeakV.drop (congrArg SV.bool ?_), h⟩
      rfl
    | cons c l =>
      (conv => whnf)
      (repeat (first | (exact Out.same; conv => whnf) | (exact Out1.same; conv => whnf) | (refine QAnd.mk ?_ ?_; conv => whnf) | (apply QStepH.go; conv => whnf) | (refine Both.lit_true ?_; conv => whnf) | (refine Both.lit_false ?_; conv => whnf) | (apply QStep.go; conv => whnf) | (refine Need.mk ?_ ?_; (focus (first | omega | exact ⟨by omega, by omega⟩ | rfl | exact ⟨rfl, rfl⟩ | exact ⟨rfl, by omega, by omega⟩ | exact ⟨by omega, by omega, by omega⟩ | exact ⟨rfl, Nat.le_of_ble_eq_true rfl⟩ | exact Nat.le_of_ble_eq_true rfl | (refine ⟨rfl, rfl, ?_⟩; simp [isFar, ofV0, CV.up, SV.renL, SV.ren] <;> fail) | (refine ⟨rfl, Nat.le_of_ble_eq_true rfl, ?_⟩; simp [isFar, ofV0, CV.up, SV.renL, SV.ren] <;> fail) | (simp <;> fail))); conv => whnf) | (refine ⟨_, rfl, ?_⟩; conv => whnf) | (refine CallVC.auto rnew_k ?_; conv => whnf)))
      (refine DrawVC.any Γok (by kernel_rfl) (by kernel_rfl) (by kernel_rfl) (by rfl) ?_; conv => whnf)
      (repeat (first | (refine CallVC.auto plGot_k ⟨hg, ix, _, rfl, hs2, hl1, hh, g1, ?_⟩; conv => whnf) | (refine CallVC.auto gI1_k ⟨_, _, rfl, rfl, hl2, g2, List.cons_ne_nil _ _, ?_⟩; conv => whnf) | (refine CallVC.auto sameItem_k ⟨_, rfl, rfl, rfl, rfl, hm, ?_⟩; conv => whnf) | (refine CallVC.auto gN1_k ⟨_, [], rfl, hla, hl4, g3, List.cons_ne_nil _ _, ?_⟩; conv => whnf) | (refine CallVC.auto sameNote_k ⟨_, rfl, rfl, rfl, rfl, hl, ?_⟩; conv => whnf) | (exact Out.same; conv => whnf) | (exact Out1.same; conv => whnf) | (refine QAnd.mk ?_ ?_; conv => whnf) | (apply QStepH.go; conv => whnf) | (refine Both.lit_true ?_; conv => whnf) | (refine Both.lit_false ?_; conv => whnf) | (apply QStep.go; conv => whnf) | (refine Need.mk ?_ ?_; (focus (first | omega | exact ⟨by omega, by omega⟩ | rfl | exact ⟨rfl, rfl⟩ | exact ⟨rfl, by omega, by omega⟩ | exact ⟨by omega, by omega, by omega⟩ | exact ⟨rfl, Nat.le_of_ble_eq_true rfl⟩ | exact Nat.le_of_ble_eq_true rfl | (refine ⟨rfl, rfl, ?_⟩; simp [isFar, ofV0, CV.up, SV.renL, SV.ren] <;> fail) | (refine ⟨rfl, Nat.le_of_ble_eq_true rfl, ?_⟩; simp [isFar, ofV0, CV.up, SV.renL, SV.ren] <;> fail) | (simp <;> fail))); conv => whnf) | (refine ⟨_, rfl, ?_⟩; conv => whnf) | (refine CallVC.auto end_k ?_; conv => whnf) | (refine Both.of_false ?_ ?_; (focus (first | rfl | (simp <;> fail))); conv => whnf) | (refine Both.of_true ?_ ?_; (focus (first | rfl | (simp <;> fail))); conv => whnf)))
      refine ⟨_, _, WeakV.drop (congrArg SV.bool ?_), h⟩
      rfl
end Go.LX
