import Derived.Test.YtcmnomppneiiiaaNb
import Derived.Test.YtcmnomppneiiiaaNs
import Derived.Test.YtcmnomppneiiiaaWireB
set_option maxRecDepth 100000
set_option maxHeartbeats 4000000
set_option autoImplicit false
set_option linter.unusedVariables false
set_option linter.unusedSimpArgs false
namespace Go.LX
open Go.Proofs

/-! ## What is put into a fresh writer -/
def putsPost (mx : Int) (l0 : List UInt8) (l : List Row) (e : Int) (Q : SV → List LObj → Prop) : Prop :=
  ∀ e' l', e' = (if goodR mx l then e else errOf e) → (goodR mx l = true → l' = l0 ++ outR l) → l'.length ≤ l0.length + 30000 → Q (.tuple []) (wrN e' l')

def bytesAS : Spec := fun args H Q => match args, H with
  | [.ptr 0 0], [.cells [.int .i64 e, .opt 0 1, .own 1] 65, .own 5 1 m xs true] => ∃ l : List UInt8, xs = bys l ∧ m = l.length ∧ l.length < 1000000000 ∧
    ∀ s, s = (if e = 0 then l else []) → Q (.tuple [.str s, .int .i64 e]) [.cells [.int .i64 e, .opt 0 1, .own 1] 65, .gone]
  | _, _ => False
theorem bytesA_k : Contract Try.prog [] 30 bytesAS := bytes_k.imp fun args H Q h => by
  unfold bytesAS at h
  split at h
  case h_2 => exact h.elim
  obtain ⟨l, rfl, rfl, hl, h⟩ := h
  exact ⟨l, rfl, rfl, hl, h _ rfl⟩
/-! ## A place -/
def plok (i : Int) : Bool := decide (0 ≤ i ∧ i ≤ 65535)
def plB (h i : Int) : List UInt8 := beb h.toNat 8 ++ beb i.toNat 8
def putPlS : Spec := fun args H Q => match args, H with
  | [.ptr 0 0, .agg [.int .u64 hg, .int .i64 ix]], [.cells [.int .i64 e, .opt 0 1, .own 1] 65, .own 5 1 m xs true] =>
    Need (0 ≤ hg ∧ hg < 18446744073709551616) (∃ (l0 : List UInt8), xs = bys l0 ∧ m = l0.length ∧ l0.length < 1000000 ∧
      ∀ e' l', e' = (if plok ix then e else errOf e) → (plok ix = true → l' = l0 ++ plB hg ix) → l'.length ≤ l0.length + 16 → Q (.tuple []) (wrN e' l'))
  | _, _ => False
theorem wrap_u64_rng (n : Int) : 0 ≤ IntKind.u64.wrap n ∧ IntKind.u64.wrap n < 18446744073709551616 := by
  rw [wrap_u64_mod]
  omega
theorem putPl_c : Meets Try.prog [] 18 putPlS := by
  refine meets_of Γok Try.func18 rfl ?_
  intro args H Q h
  unfold putPlS at h
  split at h
  case h_2 => exact h.elim
  rename_i hg ix e m xs
  obtain ⟨hh, l0, rfl, rfl, hl0, h⟩ := h
  have bad : ¬ (0 ≤ ix ∧ ix ≤ 65535) → Q (.tuple []) (wrN (errOf e) (l0 ++ beb hg.toNat 8 ++ beb (IntKind.u64.wrap ix).toNat 8)) := fun h0 =>
    h _ _ (by rw [plok, decide_eq_false h0]; rfl) (fun h1 => by rw [plok, decide_eq_false h0] at h1; cases h1) (by simp [beb_length])
  (refine sx_sound Γok _ ?_; conv => whnf)
  (repeat (first | (exact Out.same; conv => whnf) | (exact Out1.same; conv => whnf) | (refine QAnd.mk ?_ ?_; conv => whnf) | (apply QStepH.go; conv => whnf) | (refine Both.lit_true ?_; conv => whnf) | (refine Both.lit_false ?_; conv => whnf) | (apply QStep.go; conv => whnf) | (refine Need.mk ?_ ?_; (focus (first | omega | exact ⟨by omega, by omega⟩ | rfl | exact ⟨rfl, rfl⟩ | exact ⟨rfl, by omega, by omega⟩ | exact ⟨by omega, by omega, by omega⟩ | exact ⟨rfl, Nat.le_of_ble_eq_true rfl⟩ | exact Nat.le_of_ble_eq_true rfl | (refine ⟨rfl, rfl, ?_⟩; simp [isFar, ofV0, CV.up, SV.renL, SV.ren] <;> fail) | (refine ⟨rfl, Nat.le_of_ble_eq_true rfl, ?_⟩; simp [isFar, ofV0, CV.up, SV.renL, SV.ren] <;> fail) | (simp <;> fail))); conv => whnf) | (refine ⟨_, rfl, ?_⟩; conv => whnf)))
  refine Both.dec (fun h1 => ?_) (fun h1 => ?_)
  · (conv => whnf)
    (repeat (first | (exact Out.same; conv => whnf) | (exact Out1.same; conv => whnf) | (refine QAnd.mk ?_ ?_; conv => whnf) | (apply QStepH.go; conv => whnf) | (refine Both.lit_true ?_; conv => whnf) | (refine Both.lit_false ?_; conv => whnf) | (apply QStep.go; conv => whnf) | (refine Need.mk ?_ ?_; (focus (first | omega | exact ⟨by omega, by omega⟩ | rfl | exact ⟨rfl, rfl⟩ | exact ⟨rfl, by omega, by omega⟩ | exact ⟨by omega, by omega, by omega⟩ | exact ⟨rfl, Nat.le_of_ble_eq_true rfl⟩ | exact Nat.le_of_ble_eq_true rfl | (refine ⟨rfl, rfl, ?_⟩; simp [isFar, ofV0, CV.up, SV.renL, SV.ren] <;> fail) | (refine ⟨rfl, Nat.le_of_ble_eq_true rfl, ?_⟩; simp [isFar, ofV0, CV.up, SV.renL, SV.ren] <;> fail) | (simp <;> fail))); conv => whnf) | (refine ⟨_, rfl, ?_⟩; conv => whnf)))
    refine CallVC.auto byteBad_k (Need.mk (by omega) ⟨l0, rfl, rfl, by omega, ?_⟩)
    (conv => whnf)
    (repeat (first | (exact Out.same; conv => whnf) | (exact Out1.same; conv => whnf) | (refine QAnd.mk ?_ ?_; conv => whnf) | (apply QStepH.go; conv => whnf) | (refine Both.lit_true ?_; conv => whnf) | (refine Both.lit_false ?_; conv => whnf) | (apply QStep.go; conv => whnf) | (refine Need.mk ?_ ?_; (focus (first | omega | exact ⟨by omega, by omega⟩ | rfl | exact ⟨rfl, rfl⟩ | exact ⟨rfl, by omega, by omega⟩ | exact ⟨by omega, by omega, by omega⟩ | exact ⟨rfl, Nat.le_of_ble_eq_true rfl⟩ | exact Nat.le_of_ble_eq_true rfl | (refine ⟨rfl, rfl, ?_⟩; simp [isFar, ofV0, CV.up, SV.renL, SV.ren] <;> fail) | (refine ⟨rfl, Nat.le_of_ble_eq_true rfl, ?_⟩; simp [isFar, ofV0, CV.up, SV.renL, SV.ren] <;> fail) | (simp <;> fail))); conv => whnf) | (refine ⟨_, rfl, ?_⟩; conv => whnf)))
    refine CallVC.auto numOk_k (Need.mk hh ⟨_, rfl, rfl, by omega, ?_⟩)
    (conv => whnf)
    (repeat (first | (exact Out.same; conv => whnf) | (exact Out1.same; conv => whnf) | (refine QAnd.mk ?_ ?_; conv => whnf) | (apply QStepH.go; conv => whnf) | (refine Both.lit_true ?_; conv => whnf) | (refine Both.lit_false ?_; conv => whnf) | (apply QStep.go; conv => whnf) | (refine Need.mk ?_ ?_; (focus (first | omega | exact ⟨by omega, by omega⟩ | rfl | exact ⟨rfl, rfl⟩ | exact ⟨rfl, by omega, by omega⟩ | exact ⟨by omega, by omega, by omega⟩ | exact ⟨rfl, Nat.le_of_ble_eq_true rfl⟩ | exact Nat.le_of_ble_eq_true rfl | (refine ⟨rfl, rfl, ?_⟩; simp [isFar, ofV0, CV.up, SV.renL, SV.ren] <;> fail) | (refine ⟨rfl, Nat.le_of_ble_eq_true rfl, ?_⟩; simp [isFar, ofV0, CV.up, SV.renL, SV.ren] <;> fail) | (simp <;> fail))); conv => whnf) | (refine ⟨_, rfl, ?_⟩; conv => whnf)))
    refine CallVC.auto numOk_k (Need.mk (wrap_u64_rng _) ⟨_, rfl, rfl, by simp [beb_length]; omega, ?_⟩)
    (conv => whnf)
    refine ⟨_, _, WeakV.auto ?_, bad (by omega)⟩
    (repeat' ((conv => whnf); first | exact True.intro | (refine And.intro ?_ ?_)))
    all_goals first | rfl | exact .eq rfl
  (conv => whnf)
  (repeat (first | (exact Out.same; conv => whnf) | (exact Out1.same; conv => whnf) | (refine QAnd.mk ?_ ?_; conv => whnf) | (apply QStepH.go; conv => whnf) | (refine Both.lit_true ?_; conv => whnf) | (refine Both.lit_false ?_; conv => whnf) | (apply QStep.go; conv => whnf) | (refine Need.mk ?_ ?_; (focus (first | omega | exact ⟨by omega, by omega⟩ | rfl | exact ⟨rfl, rfl⟩ | exact ⟨rfl, by omega, by omega⟩ | exact ⟨by omega, by omega, by omega⟩ | exact ⟨rfl, Nat.le_of_ble_eq_true rfl⟩ | exact Nat.le_of_ble_eq_true rfl | (refine ⟨rfl, rfl, ?_⟩; simp [isFar, ofV0, CV.up, SV.renL, SV.ren] <;> fail) | (refine ⟨rfl, Nat.le_of_ble_eq_true rfl, ?_⟩; simp [isFar, ofV0, CV.up, SV.renL, SV.ren] <;> fail) | (simp <;> fail))); conv => whnf) | (refine ⟨_, rfl, ?_⟩; conv => whnf)))
  refine Both.dec (fun h2 => ?_) (fun h2 => ?_)
  · (conv => whnf)
    (repeat (first | (exact Out.same; conv => whnf) | (exact Out1.same; conv => whnf) | (refine QAnd.mk ?_ ?_; conv => whnf) | (apply QStepH.go; conv => whnf) | (refine Both.lit_true ?_; conv => whnf) | (refine Both.lit_false ?_; conv => whnf) | (apply QStep.go; conv => whnf) | (refine Need.mk ?_ ?_; (focus (first | omega | exact ⟨by omega, by omega⟩ | rfl | exact ⟨rfl, rfl⟩ | exact ⟨rfl, by omega, by omega⟩ | exact ⟨by omega, by omega, by omega⟩ | exact ⟨rfl, Nat.le_of_ble_eq_true rfl⟩ | exact Nat.le_of_ble_eq_true rfl | (refine ⟨rfl, rfl, ?_⟩; simp [isFar, ofV0, CV.up, SV.renL, SV.ren] <;> fail) | (refine ⟨rfl, Nat.le_of_ble_eq_true rfl, ?_⟩; simp [isFar, ofV0, CV.up, SV.renL, SV.ren] <;> fail) | (simp <;> fail))); conv => whnf) | (refine ⟨_, rfl, ?_⟩; conv => whnf)))
    refine CallVC.auto byteBad_k (Need.mk (by omega) ⟨l0, rfl, rfl, by omega, ?_⟩)
    (conv => whnf)
    (repeat (first | (exact Out.same; conv => whnf) | (exact Out1.same; conv => whnf) | (refine QAnd.mk ?_ ?_; conv => whnf) | (apply QStepH.go; conv => whnf) | (refine Both.lit_true ?_; conv => whnf) | (refine Both.lit_false ?_; conv => whnf) | (apply QStep.go; conv => whnf) | (refine Need.mk ?_ ?_; (focus (first | omega | exact ⟨by omega, by omega⟩ | rfl | exact ⟨rfl, rfl⟩ | exact ⟨rfl, by omega, by omega⟩ | exact ⟨by omega, by omega, by omega⟩ | exact ⟨rfl, Nat.le_of_ble_eq_true rfl⟩ | exact Nat.le_of_ble_eq_true rfl | (refine ⟨rfl, rfl, ?_⟩; simp [isFar, ofV0, CV.up, SV.renL, SV.ren] <;> fail) | (refine ⟨rfl, Nat.le_of_ble_eq_true rfl, ?_⟩; simp [isFar, ofV0, CV.up, SV.renL, SV.ren] <;> fail) | (simp <;> fail))); conv => whnf) | (refine ⟨_, rfl, ?_⟩; conv => whnf)))
    refine CallVC.auto numOk_k (Need.mk hh ⟨_, rfl, rfl, by omega, ?_⟩)
    (conv => whnf)
    (repeat (first | (exact Out.same; conv => whnf) | (exact Out1.same; conv => whnf) | (refine QAnd.mk ?_ ?_; conv => whnf) | (apply QStepH.go; conv => whnf) | (refine Both.lit_true ?_; conv => whnf) | (refine Both.lit_false ?_; conv => whnf) | (apply QStep.go; conv => whnf) | (refine Need.mk ?_ ?_; (focus (first | omega | exact ⟨by omega, by omega⟩ | rfl | exact ⟨rfl, rfl⟩ | exact ⟨rfl, by omega, by omega⟩ | exact ⟨by omega, by omega, by omega⟩ | exact ⟨rfl, Nat.le_of_ble_eq_true rfl⟩ | exact Nat.le_of_ble_eq_true rfl | (refine ⟨rfl, rfl, ?_⟩; simp [isFar, ofV0, CV.up, SV.renL, SV.ren] <;> fail) | (refine ⟨rfl, Nat.le_of_ble_eq_true rfl, ?_⟩; simp [isFar, ofV0, CV.up, SV.renL, SV.ren] <;> fail) | (simp <;> fail))); conv => whnf) | (refine ⟨_, rfl, ?_⟩; conv => whnf)))
    refine CallVC.auto numOk_k (Need.mk (wrap_u64_rng _) ⟨_, rfl, rfl, by simp [beb_length]; omega, ?_⟩)
    (conv => whnf)
    refine ⟨_, _, WeakV.auto ?_, bad (by omega)⟩
    (repeat' ((conv => whnf); first | exact True.intro | (refine And.intro ?_ ?_)))
    all_goals first | rfl | exact .eq rfl
  (conv => whnf)
  (repeat (first | (exact Out.same; conv => whnf) | (exact Out1.same; conv => whnf) | (refine QAnd.mk ?_ ?_; conv => whnf) | (apply QStepH.go; conv => whnf) | (refine Both.lit_true ?_; conv => whnf) | (refine Both.lit_false ?_; conv => whnf) | (apply QStep.go; conv => whnf) | (refine Need.mk ?_ ?_; (focus (first | omega | exact ⟨by omega, by omega⟩ | rfl | exact ⟨rfl, rfl⟩ | exact ⟨rfl, by omega, by omega⟩ | exact ⟨by omega, by omega, by omega⟩ | exact ⟨rfl, Nat.le_of_ble_eq_true rfl⟩ | exact Nat.le_of_ble_eq_true rfl | (refine ⟨rfl, rfl, ?_⟩; simp [isFar, ofV0, CV.up, SV.renL, SV.ren] <;> fail) | (refine ⟨rfl, Nat.le_of_ble_eq_true rfl, ?_⟩; simp [isFar, ofV0, CV.up, SV.renL, SV.ren] <;> fail) | (simp <;> fail))); conv => whnf) | (refine ⟨_, rfl, ?_⟩; conv => whnf)))
  refine CallVC.auto numOk_k (Need.mk hh ⟨_, rfl, rfl, by omega, ?_⟩)
  (conv => whnf)
  (repeat (first | (exact Out.same; conv => whnf) | (exact Out1.same; conv => whnf) | (refine QAnd.mk ?_ ?_; conv => whnf) | (apply QStepH.go; conv => whnf) | (refine Both.lit_true ?_; conv => whnf) | (refine Both.lit_false ?_; conv => whnf) | (apply QStep.go; conv => whnf) | (refine Need.mk ?_ ?_; (focus (first | omega | exact ⟨by omega, by omega⟩ | rfl | exact ⟨rfl, rfl⟩ | exact ⟨rfl, by omega, by omega⟩ | exact ⟨by omega, by omega, by omega⟩ | exact ⟨rfl, Nat.le_of_ble_eq_true rfl⟩ | exact Nat.le_of_ble_eq_true rfl | (refine ⟨rfl, rfl, ?_⟩; simp [isFar, ofV0, CV.up, SV.renL, SV.ren] <;> fail) | (refine ⟨rfl, Nat.le_of_ble_eq_true rfl, ?_⟩; simp [isFar, ofV0, CV.up, SV.renL, SV.ren] <;> fail) | (simp <;> fail))); conv => whnf) | (refine ⟨_, rfl, ?_⟩; conv => whnf)))
  refine CallVC.auto numOk_k (Need.mk (wrap_u64_rng _) ⟨_, rfl, rfl, by simp [beb_length]; omega, ?_⟩)
  (conv => whnf)
  have hgd : plok ix = true := decide_eq_true ⟨by omega, by omega⟩
  have hw : IntKind.u64.wrap ix = ix := wrap_u64 (by omega) (by omega)
  refine ⟨_, _, WeakV.auto ?_, h e (l0 ++ beb hg.toNat 8 ++ beb (IntKind.u64.wrap ix).toNat 8) (by simp [hgd]) (fun _ => by rw [hw, plB, List.append_assoc]) (by simp [beb_length])⟩
  (repeat' ((conv => whnf); first | exact True.intro | (refine And.intro ?_ ?_)))
  all_goals first | rfl | exact .eq rfl
theorem putPl_k : Contract Try.prog [] 18 putPlS := ⟨⟨⟨_, rfl, rfl, rfl⟩⟩, putPl_c⟩
def cloPS : Spec := fun args H Q => match args, H with
  | [.ptr 0 0, .ptr 1 0], [.cells [.int .i64 0, .nil, .nilsl] 65, .cells [.int .u64 hg, .int .i64 ix] 35] => Need (0 ≤ hg ∧ hg < 18446744073709551616)
    (∀ e' l', e' = (if plok ix then 0 else 1) → (plok ix = true → l' = plB hg ix) → l'.length ≤ 16 → Q (.tuple []) [.cells [.int .i64 e', .opt 0 1, .own 2] 65, .cells [.int .u64 hg, .int .i64 ix] 35, .own 5 1 l'.length (bys l') true])
  | _, _ => False
theorem cloP_c : Meets Try.prog [] 17 cloPS := by
  refine meets_of Γok Try.func17 rfl ?_
  intro args H Q h
  unfold cloPS at h
  split at h
  case h_2 => exact h.elim
  obtain ⟨hh, h⟩ := h
  (refine sx_sound Γok _ ?_; conv => whnf)
  (repeat (first | (exact Out.same; conv => whnf) | (exact Out1.same; conv => whnf) | (refine QAnd.mk ?_ ?_; conv => whnf) | (apply QStepH.go; conv => whnf) | (refine Both.lit_true ?_; conv => whnf) | (refine Both.lit_false ?_; conv => whnf) | (apply QStep.go; conv => whnf) | (refine Need.mk ?_ ?_; (focus (first | omega | exact ⟨by omega, by omega⟩ | rfl | exact ⟨rfl, rfl⟩ | exact ⟨rfl, by omega, by omega⟩ | exact ⟨by omega, by omega, by omega⟩ | exact ⟨rfl, Nat.le_of_ble_eq_true rfl⟩ | exact Nat.le_of_ble_eq_true rfl | (refine ⟨rfl, rfl, ?_⟩; simp [isFar, ofV0, CV.up, SV.renL, SV.ren] <;> fail) | (refine ⟨rfl, Nat.le_of_ble_eq_true rfl, ?_⟩; simp [isFar, ofV0, CV.up, SV.renL, SV.ren] <;> fail) | (simp <;> fail))); conv => whnf) | (refine ⟨_, rfl, ?_⟩; conv => whnf)))
  refine CallVC.autoW _ (Weak.wr 0 5 rfl) putPl_k (Need.mk hh ⟨[], rfl, rfl, by simp, ?_⟩)
  intro e' l' h1 h2 h3
  (conv => whnf)
  refine ⟨_, _, WeakV.auto ?_, h e' l' h1 (fun hg => by rw [h2 hg]; rfl) (by simpa using h3)⟩
  (repeat' ((conv => whnf); first | exact True.intro | (refine And.intro ?_ ?_)))
  all_goals first | rfl | exact .eq rfl
theorem cloP_k : Contract Try.prog [] 17 cloPS := ⟨⟨⟨_, rfl, rfl, rfl⟩⟩, cloP_c⟩
def bytPS : Spec := fun args H Q => match args, H with
  | [.func (.func 17) [.ptr 0 0]], [.cells [.int .u64 hg, .int .i64 ix] 35] => Need (0 ≤ hg ∧ hg < 18446744073709551616)
    (∀ e' s', e' = (if plok ix then 0 else 1) → s' = (if plok ix then plB hg ix else []) → Q (.tuple [.str s', .int .i64 e']) [.cells [.int .u64 hg, .int .i64 ix] 35])
  | _, _ => False
theorem bytP_c : Meets Try.prog [] 10 bytPS := by
  refine meets_of Γok Try.func10 rfl ?_
  intro args H Q h
  unfold bytPS at h
  split at h
  case h_2 => exact h.elim
  rename_i hg ix
  obtain ⟨hh, h⟩ := h
  (refine sx_sound Γok _ ?_; conv => whnf)
  (repeat (first | (exact Out.same; conv => whnf) | (exact Out1.same; conv => whnf) | (refine QAnd.mk ?_ ?_; conv => whnf) | (apply QStepH.go; conv => whnf) | (refine Both.lit_true ?_; conv => whnf) | (refine Both.lit_false ?_; conv => whnf) | (apply QStep.go; conv => whnf) | (refine Need.mk ?_ ?_; (focus (first | omega | exact ⟨by omega, by omega⟩ | rfl | exact ⟨rfl, rfl⟩ | exact ⟨rfl, by omega, by omega⟩ | exact ⟨by omega, by omega, by omega⟩ | exact ⟨rfl, Nat.le_of_ble_eq_true rfl⟩ | exact Nat.le_of_ble_eq_true rfl | (refine ⟨rfl, rfl, ?_⟩; simp [isFar, ofV0, CV.up, SV.renL, SV.ren] <;> fail) | (refine ⟨rfl, Nat.le_of_ble_eq_true rfl, ?_⟩; simp [isFar, ofV0, CV.up, SV.renL, SV.ren] <;> fail) | (simp <;> fail))); conv => whnf) | (refine ⟨_, rfl, ?_⟩; conv => whnf)))
  refine CallClo.auto cloP_k (Need.mk hh ?_)
  intro e' l' h1 h2 h3
  (conv => whnf)
  refine CallVC.auto bytesA_k ⟨_, rfl, rfl, by omega, ?_⟩
  intro s' hs'
  (conv => whnf)
  have hz : IntKind.i64.wrap e' = e' := by
    rw [h1]
    split <;> rfl
  refine ⟨_, _, WeakV.auto ?_, h e' s' h1 ?_⟩
  · (repeat' ((conv => whnf); first | exact True.intro | (refine And.intro ?_ ?_)))
    · exact congrArg (fun x => SV.tuple [.str s', .int .i64 x]) (by first | exact hz | rfl)
    all_goals first | rfl | exact .eq rfl
  · rw [hs', h1]
    cases hgd : plok ix
    · rfl
    · rw [h2 hgd]; rfl
theorem bytP_k : Contract Try.prog [] 10 bytPS := ⟨⟨⟨_, rfl, rfl, rfl⟩⟩, bytP_c⟩

def putAllNoteS : Spec := fun args H Q => match args, H with
  | [.ptr 0 0, .sl 5 n cs b], [.cells [.int .i64 e, .opt 0 1, .own 1] 65, .own 5 1 m xs true] => ∃ (l0 : List UInt8) (l : List Row), xs = bys l0 ∧ m = l0.length ∧ l0.length < 1000000 ∧ n = l.length ∧ cs = l.flatMap Row.enN ∧ l.length ≤ 300 ∧ putsPost 4 l0 l e Q
  | _, _ => False
theorem putAllNote_c : Meets Try.prog [] 12 putAllNoteS := by
  refine meets_of Γok Try.func12 rfl ?_
  intro args H Q h
  unfold putAllNoteS at h
  split at h
  case h_2 => exact h.elim
  obtain ⟨l0, l, rfl, rfl, hl0, rfl, rfl, hlen, h⟩ := h
  (refine sx_sound Γok _ ?_; conv => whnf)
  refine CallVC.auto putNote_k ⟨l0, l, rfl, rfl, hl0, rfl, rfl, hlen, ?_⟩
  intro e' l' h1 h2 h3
  (conv => whnf)
  refine ⟨_, _, WeakV.auto ?_, h e' l' h1 h2 h3⟩
  (repeat' ((conv => whnf); first | exact True.intro | (refine And.intro ?_ ?_)))
  all_goals first | rfl | exact .eq rfl
theorem putAllNote_k : Contract Try.prog [] 12 putAllNoteS := ⟨⟨⟨_, rfl, rfl, rfl⟩⟩, putAllNote_c⟩
def cloNoteS : Spec := fun args H Q => match args, H with
  | [.ptr 0 0, .ptr 1 0], [.cells [.int .i64 0, .nil, .nilsl] 65, .cells [.sl 5 n cs b] 32] => ∃ l : List Row, n = l.length ∧ cs = l.flatMap Row.enN ∧ l.length ≤ 300 ∧
    ∀ e' l', e' = (if goodR 4 l then 0 else 1) → (goodR 4 l = true → l' = outR l) → l'.length ≤ 30000 → Q (.tuple []) [.cells [.int .i64 e', .opt 0 1, .own 2] 65, .cells [.sl 5 n cs b] 32, .own 5 1 l'.length (bys l') true]
  | _, _ => False
theorem cloNote_c : Meets Try.prog [] 11 cloNoteS := by
  refine meets_of Γok Try.func11 rfl ?_
  intro args H Q h
  unfold cloNoteS at h
  split at h
  case h_2 => exact h.elim
  obtain ⟨l, rfl, rfl, hlen, h⟩ := h
  (refine sx_sound Γok _ ?_; conv => whnf)
  (repeat (first | (exact Out.same; conv => whnf) | (exact Out1.same; conv => whnf) | (refine QAnd.mk ?_ ?_; conv => whnf) | (apply QStepH.go; conv => whnf) | (refine Both.lit_true ?_; conv => whnf) | (refine Both.lit_false ?_; conv => whnf) | (apply QStep.go; conv => whnf) | (refine Need.mk ?_ ?_; (focus (first | omega | exact ⟨by omega, by omega⟩ | rfl | exact ⟨rfl, rfl⟩ | exact ⟨rfl, by omega, by omega⟩ | exact ⟨by omega, by omega, by omega⟩ | exact ⟨rfl, Nat.le_of_ble_eq_true rfl⟩ | exact Nat.le_of_ble_eq_true rfl | (refine ⟨rfl, rfl, ?_⟩; simp [isFar, ofV0, CV.up, SV.renL, SV.ren] <;> fail) | (refine ⟨rfl, Nat.le_of_ble_eq_true rfl, ?_⟩; simp [isFar, ofV0, CV.up, SV.renL, SV.ren] <;> fail) | (simp <;> fail))); conv => whnf) | (refine ⟨_, rfl, ?_⟩; conv => whnf)))
  refine CallVC.autoW _ (Weak.wr 0 5 rfl) putAllNote_k ⟨[], l, rfl, rfl, by simp, rfl, rfl, hlen, ?_⟩
  intro e' l' h1 h2 h3
  (conv => whnf)
  refine ⟨_, _, WeakV.auto ?_, h e' l' h1 (fun hg => by rw [h2 hg]; rfl) (by simpa using h3)⟩
  (repeat' ((conv => whnf); first | exact True.intro | (refine And.intro ?_ ?_)))
  all_goals first | rfl | exact .eq rfl
theorem cloNote_k : Contract Try.prog [] 11 cloNoteS := ⟨⟨⟨_, rfl, rfl, rfl⟩⟩, cloNote_c⟩
def bytNoteS : Spec := fun args H Q => match args, H with
  | [.func (.func 11) [.ptr 0 0]], [.cells [.sl 5 n cs b] 32] => ∃ l : List Row, n = l.length ∧ cs = l.flatMap Row.enN ∧ l.length ≤ 300 ∧
    ∀ e' s', e' = (if goodR 4 l then 0 else 1) → s' = (if goodR 4 l then outR l else []) → Q (.tuple [.str s', .int .i64 e']) [.cells [.sl 5 n cs b] 32]
  | _, _ => False
theorem bytNote_c : Meets Try.prog [] 10 bytNoteS := by
  refine meets_of Γok Try.func10 rfl ?_
  intro args H Q h
  unfold bytNoteS at h
  split at h
  case h_2 => exact h.elim
  obtain ⟨l, rfl, rfl, hlen, h⟩ := h
  (refine sx_sound Γok _ ?_; conv => whnf)
  (repeat (first | (exact Out.same; conv => whnf) | (exact Out1.same; conv => whnf) | (refine QAnd.mk ?_ ?_; conv => whnf) | (apply QStepH.go; conv => whnf) | (refine Both.lit_true ?_; conv => whnf) | (refine Both.lit_false ?_; conv => whnf) | (apply QStep.go; conv => whnf) | (refine Need.mk ?_ ?_; (focus (first | omega | exact ⟨by omega, by omega⟩ | rfl | exact ⟨rfl, rfl⟩ | exact ⟨rfl, by omega, by omega⟩ | exact ⟨by omega, by omega, by omega⟩ | exact ⟨rfl, Nat.le_of_ble_eq_true rfl⟩ | exact Nat.le_of_ble_eq_true rfl | (refine ⟨rfl, rfl, ?_⟩; simp [isFar, ofV0, CV.up, SV.renL, SV.ren] <;> fail) | (refine ⟨rfl, Nat.le_of_ble_eq_true rfl, ?_⟩; simp [isFar, ofV0, CV.up, SV.renL, SV.ren] <;> fail) | (simp <;> fail))); conv => whnf) | (refine ⟨_, rfl, ?_⟩; conv => whnf)))
  refine CallClo.auto cloNote_k ⟨l, rfl, rfl, hlen, ?_⟩
  intro e' l' h1 h2 h3
  (conv => whnf)
  refine CallVC.auto bytesA_k ⟨_, rfl, rfl, by omega, ?_⟩
  intro s' hs'
  (conv => whnf)
  have hz : IntKind.i64.wrap e' = e' := by
    rw [h1]
    split <;> rfl
  refine ⟨_, _, WeakV.auto ?_, h e' s' h1 ?_⟩
  · (repeat' ((conv => whnf); first | exact True.intro | (refine And.intro ?_ ?_)))
    · exact congrArg (fun x => SV.tuple [.str s', .int .i64 x]) (by first | exact hz | rfl)
    all_goals first | rfl | exact .eq rfl
  · rw [hs', h1]
    cases hg : goodR 4 l
    · rfl
    · rw [h2 hg]; rfl
theorem bytNote_k : Contract Try.prog [] 10 bytNoteS := ⟨⟨⟨_, rfl, rfl, rfl⟩⟩, bytNote_c⟩

def putAllItemS : Spec := fun args H Q => match args, H with
  | [.ptr 0 0, .sl 5 n cs b], [.cells [.int .i64 e, .opt 0 1, .own 1] 65, .own 5 1 m xs true] => ∃ (l0 : List UInt8) (l : List Row), xs = bys l0 ∧ m = l0.length ∧ l0.length < 1000000 ∧ n = l.length ∧ cs = l.flatMap Row.enI ∧ l.length ≤ 300 ∧ putsPost 2 l0 l e Q
  | _, _ => False
theorem putAllItem_c : Meets Try.prog [] 15 putAllItemS := by
  refine meets_of Γok Try.func15 rfl ?_
  intro args H Q h
  unfold putAllItemS at h
  split at h
  case h_2 => exact h.elim
  obtain ⟨l0, l, rfl, rfl, hl0, rfl, rfl, hlen, h⟩ := h
  (refine sx_sound Γok _ ?_; conv => whnf)
  refine CallVC.auto putItem_k ⟨l0, l, rfl, rfl, hl0, rfl, rfl, hlen, ?_⟩
  intro e' l' h1 h2 h3
  (conv => whnf)
  refine ⟨_, _, WeakV.auto ?_, h e' l' h1 h2 h3⟩
  (repeat' ((conv => whnf); first | exact True.intro | (refine And.intro ?_ ?_)))
  all_goals first | rfl | exact .eq rfl
theorem putAllItem_k : Contract Try.prog [] 15 putAllItemS := ⟨⟨⟨_, rfl, rfl, rfl⟩⟩, putAllItem_c⟩
def cloItemS : Spec := fun args H Q => match args, H with
  | [.ptr 0 0, .ptr 1 0], [.cells [.int .i64 0, .nil, .nilsl] 65, .cells [.sl 5 n cs b] 33] => ∃ l : List Row, n = l.length ∧ cs = l.flatMap Row.enI ∧ l.length ≤ 300 ∧
    ∀ e' l', e' = (if goodR 2 l then 0 else 1) → (goodR 2 l = true → l' = outR l) → l'.length ≤ 30000 → Q (.tuple []) [.cells [.int .i64 e', .opt 0 1, .own 2] 65, .cells [.sl 5 n cs b] 33, .own 5 1 l'.length (bys l') true]
  | _, _ => False
theorem cloItem_c : Meets Try.prog [] 14 cloItemS := by
  refine meets_of Γok Try.func14 rfl ?_
  intro args H Q h
  unfold cloItemS at h
  split at h
  case h_2 => exact h.elim
  obtain ⟨l, rfl, rfl, hlen, h⟩ := h
  (refine sx_sound Γok _ ?_; conv => whnf)
  (repeat (first | (exact Out.same; conv => whnf) | (exact Out1.same; conv => whnf) | (refine QAnd.mk ?_ ?_; conv => whnf) | (apply QStepH.go; conv => whnf) | (refine Both.lit_true ?_; conv => whnf) | (refine Both.lit_false ?_; conv => whnf) | (apply QStep.go; conv => whnf) | (refine Need.mk ?_ ?_; (focus (first | omega | exact ⟨by omega, by omega⟩ | rfl | exact ⟨rfl, rfl⟩ | exact ⟨rfl, by omega, by omega⟩ | exact ⟨by omega, by omega, by omega⟩ | exact ⟨rfl, Nat.le_of_ble_eq_true rfl⟩ | exact Nat.le_of_ble_eq_true rfl | (refine ⟨rfl, rfl, ?_⟩; simp [isFar, ofV0, CV.up, SV.renL, SV.ren] <;> fail) | (refine ⟨rfl, Nat.le_of_ble_eq_true rfl, ?_⟩; simp [isFar, ofV0, CV.up, SV.renL, SV.ren] <;> fail) | (simp <;> fail))); conv => whnf) | (refine ⟨_, rfl, ?_⟩; conv => whnf)))
  refine CallVC.autoW _ (Weak.wr 0 5 rfl) putAllItem_k ⟨[], l, rfl, rfl, by simp, rfl, rfl, hlen, ?_⟩
  intro e' l' h1 h2 h3
  (conv => whnf)
  refine ⟨_, _, WeakV.auto ?_, h e' l' h1 (fun hg => by rw [h2 hg]; rfl) (by simpa using h3)⟩
  (repeat' ((conv => whnf); first | exact True.intro | (refine And.intro ?_ ?_)))
  all_goals first | rfl | exact .eq rfl
theorem cloItem_k : Contract Try.prog [] 14 cloItemS := ⟨⟨⟨_, rfl, rfl, rfl⟩⟩, cloItem_c⟩
def bytItemS : Spec := fun args H Q => match args, H with
  | [.func (.func 14) [.ptr 0 0]], [.cells [.sl 5 n cs b] 33] => ∃ l : List Row, n = l.length ∧ cs = l.flatMap Row.enI ∧ l.length ≤ 300 ∧
    ∀ e' s', e' = (if goodR 2 l then 0 else 1) → s' = (if goodR 2 l then outR l else []) → Q (.tuple [.str s', .int .i64 e']) [.cells [.sl 5 n cs b] 33]
  | _, _ => False
theorem bytItem_c : Meets Try.prog [] 10 bytItemS := by
  refine meets_of Γok Try.func10 rfl ?_
  intro args H Q h
  unfold bytItemS at h
  split at h
  case h_2 => exact h.elim
  obtain ⟨l, rfl, rfl, hlen, h⟩ := h
  (refine sx_sound Γok _ ?_; conv => whnf)
  (repeat (first | (exact Out.same; conv => whnf) | (exact Out1.same; conv => whnf) | (refine QAnd.mk ?_ ?_; conv => whnf) | (apply QStepH.go; conv => whnf) | (refine Both.lit_true ?_; conv => whnf) | (refine Both.lit_false ?_; conv => whnf) | (apply QStep.go; conv => whnf) | (refine Need.mk ?_ ?_; (focus (first | omega | exact ⟨by omega, by omega⟩ | rfl | exact ⟨rfl, rfl⟩ | exact ⟨rfl, by omega, by omega⟩ | exact ⟨by omega, by omega, by omega⟩ | exact ⟨rfl, Nat.le_of_ble_eq_true rfl⟩ | exact Nat.le_of_ble_eq_true rfl | (refine ⟨rfl, rfl, ?_⟩; simp [isFar, ofV0, CV.up, SV.renL, SV.ren] <;> fail) | (refine ⟨rfl, Nat.le_of_ble_eq_true rfl, ?_⟩; simp [isFar, ofV0, CV.up, SV.renL, SV.ren] <;> fail) | (simp <;> fail))); conv => whnf) | (refine ⟨_, rfl, ?_⟩; conv => whnf)))
  refine CallClo.auto cloItem_k ⟨l, rfl, rfl, hlen, ?_⟩
  intro e' l' h1 h2 h3
  (conv => whnf)
  refine CallVC.auto bytesA_k ⟨_, rfl, rfl, by omega, ?_⟩
  intro s' hs'
  (conv => whnf)
  have hz : IntKind.i64.wrap e' = e' := by
    rw [h1]
    split <;> rfl
  refine ⟨_, _, WeakV.auto ?_, h e' s' h1 ?_⟩
  · (repeat' ((conv => whnf); first | exact True.intro | (refine And.intro ?_ ?_)))
    · exact congrArg (fun x => SV.tuple [.str s', .int .i64 x]) (by first | exact hz | rfl)
    all_goals first | rfl | exact .eq rfl
  · rw [hs', h1]
    cases hg : goodR 2 l
    · rfl
    · rw [h2 hg]; rfl
theorem bytItem_k : Contract Try.prog [] 10 bytItemS := ⟨⟨⟨_, rfl, rfl, rfl⟩⟩, bytItem_c⟩
end Go.LX
