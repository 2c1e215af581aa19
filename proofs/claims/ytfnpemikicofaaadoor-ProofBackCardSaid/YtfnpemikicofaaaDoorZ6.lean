/- Own texts of this claim, in build order: Qk, Ql, Wq, Wd, Qm, Qn, Po, Qo, Qp, Qq, Qr, Rk. -/
import Derived.Test.YtfnpemikicofaaaDoorZ5
import Derived.Test.YtfnpemikicofaaaDoorRows
import Derived.Lib.LaidTab
import Derived.MakeChecks
import Derived.LaidMore
section
set_option maxRecDepth 100000
set_option maxHeartbeats 2000000
set_option autoImplicit false
set_option linter.unusedVariables false
set_option linter.unusedSimpArgs false
namespace Go.LX
open Go.Proofs

theorem LoopVC.postWeak {P : Program} {G : Gl} {N : Nat} {c : Code} {s : LS} {K : Exit → LS → Prop} (h : LoopVC P G N c s fun e s' => ∃ s2, Weak G N s' s2 ∧ K e s2) : LoopVC P G N c s K := ⟨fun X hX => WpX.postWeak (h.out X hX)⟩
def small9S : Spec := fun args H Q => match args, H with
  | [.ptr 0 0, .int .u64 m], [.cells [.int .i64 e, .str s] 121] => m = 4096 ∧ s.length < 1000000 ∧ Q (.int .i64 ((smallF e s).1 : Int)) (rd (smallF e s).2.1 (smallF e s).2.2)
  | _, _ => False
theorem small9_c : Meets Tryd.prog [] 65 small9S := by
  refine meets_of Γok Tryd.func65 rfl ?_
  intro args H Q h
  unfold small9S at h
  split at h
  case h_2 => exact h.elim
  rename_i m e s
  obtain ⟨rfl, hs, h⟩ := h
  unfold smallF at h
  (refine sx_sound Γok _ ?_; conv => whnf)
  (repeat (first | (refine CallVC.auto rnum_k (Need.mk hs ?_); conv => whnf) | (exact Out.same; conv => whnf) | (exact Out1.same; conv => whnf) | (refine QAnd.mk ?_ ?_; conv => whnf) | (apply QStepH.go; conv => whnf) | (refine Both.lit_true ?_; conv => whnf) | (refine Both.lit_false ?_; conv => whnf) | (apply QStep.go; conv => whnf) | (refine Need.mk ?_ ?_; (focus (first | omega | exact ⟨by omega, by omega⟩ | rfl | exact ⟨rfl, rfl⟩ | exact ⟨rfl, by omega, by omega⟩ | exact ⟨by omega, by omega, by omega⟩ | exact ⟨rfl, Nat.le_of_ble_eq_true rfl⟩ | exact Nat.le_of_ble_eq_true rfl | (refine ⟨rfl, rfl, ?_⟩; simp [isFar, ofV0, CV.up, SV.renL, SV.ren] <;> fail) | (refine ⟨rfl, Nat.le_of_ble_eq_true rfl, ?_⟩; simp [isFar, ofV0, CV.up, SV.renL, SV.ren] <;> fail) | (simp only [List.length_append, List.length_drop, List.length_take, List.length_replicate, List.length_map]; omega) | (simp <;> fail))); conv => whnf) | (refine ⟨_, rfl, ?_⟩; conv => whnf)))
  refine Both.dec (fun h1 => ?_) (fun h1 => ?_)
  · rw [if_pos (by omega)] at h
    (conv => whnf)
    (repeat (first | (exact Out.same; conv => whnf) | (exact Out1.same; conv => whnf) | (refine QAnd.mk ?_ ?_; conv => whnf) | (apply QStepH.go; conv => whnf) | (refine Both.lit_true ?_; conv => whnf) | (refine Both.lit_false ?_; conv => whnf) | (apply QStep.go; conv => whnf) | (refine Need.mk ?_ ?_; (focus (first | omega | exact ⟨by omega, by omega⟩ | rfl | exact ⟨rfl, rfl⟩ | exact ⟨rfl, by omega, by omega⟩ | exact ⟨by omega, by omega, by omega⟩ | exact ⟨rfl, Nat.le_of_ble_eq_true rfl⟩ | exact Nat.le_of_ble_eq_true rfl | (refine ⟨rfl, rfl, ?_⟩; simp [isFar, ofV0, CV.up, SV.renL, SV.ren] <;> fail) | (refine ⟨rfl, Nat.le_of_ble_eq_true rfl, ?_⟩; simp [isFar, ofV0, CV.up, SV.renL, SV.ren] <;> fail) | (simp only [List.length_append, List.length_drop, List.length_take, List.length_replicate, List.length_map]; omega) | (simp <;> fail))); conv => whnf) | (refine ⟨_, rfl, ?_⟩; conv => whnf)))
    refine CallVC.auto failA_k (fun e' he' => ?_)
    subst he'
    (conv => whnf)
    (repeat (first | (exact Out.same; conv => whnf) | (exact Out1.same; conv => whnf) | (refine QAnd.mk ?_ ?_; conv => whnf) | (apply QStepH.go; conv => whnf) | (refine Both.lit_true ?_; conv => whnf) | (refine Both.lit_false ?_; conv => whnf) | (apply QStep.go; conv => whnf) | (refine Need.mk ?_ ?_; (focus (first | omega | exact ⟨by omega, by omega⟩ | rfl | exact ⟨rfl, rfl⟩ | exact ⟨rfl, by omega, by omega⟩ | exact ⟨by omega, by omega, by omega⟩ | exact ⟨rfl, Nat.le_of_ble_eq_true rfl⟩ | exact Nat.le_of_ble_eq_true rfl | (refine ⟨rfl, rfl, ?_⟩; simp [isFar, ofV0, CV.up, SV.renL, SV.ren] <;> fail) | (refine ⟨rfl, Nat.le_of_ble_eq_true rfl, ?_⟩; simp [isFar, ofV0, CV.up, SV.renL, SV.ren] <;> fail) | (simp only [List.length_append, List.length_drop, List.length_take, List.length_replicate, List.length_map]; omega) | (simp <;> fail))); conv => whnf) | (refine ⟨_, rfl, ?_⟩; conv => whnf)))
    refine ⟨_, _, WeakV.auto ?_, h⟩
    (repeat' ((conv => whnf); first | exact True.intro | (refine And.intro ?_ ?_)))
    all_goals first | rfl | exact .eq rfl
  · rw [if_neg (by omega)] at h
    have hw : IntKind.i64.wrap ((rdV e 8 s : Nat) : Int) = ((rdV e 8 s : Nat) : Int) := wrap_i64 (by omega) (by omega)
    (conv => whnf)
    (repeat (first | (exact Out.same; conv => whnf) | (exact Out1.same; conv => whnf) | (refine QAnd.mk ?_ ?_; conv => whnf) | (apply QStepH.go; conv => whnf) | (refine Both.lit_true ?_; conv => whnf) | (refine Both.lit_false ?_; conv => whnf) | (apply QStep.go; conv => whnf) | (refine Need.mk ?_ ?_; (focus (first | omega | exact ⟨by omega, by omega⟩ | rfl | exact ⟨rfl, rfl⟩ | exact ⟨rfl, by omega, by omega⟩ | exact ⟨by omega, by omega, by omega⟩ | exact ⟨rfl, Nat.le_of_ble_eq_true rfl⟩ | exact Nat.le_of_ble_eq_true rfl | (refine ⟨rfl, rfl, ?_⟩; simp [isFar, ofV0, CV.up, SV.renL, SV.ren] <;> fail) | (refine ⟨rfl, Nat.le_of_ble_eq_true rfl, ?_⟩; simp [isFar, ofV0, CV.up, SV.renL, SV.ren] <;> fail) | (simp only [List.length_append, List.length_drop, List.length_take, List.length_replicate, List.length_map]; omega) | (simp <;> fail))); conv => whnf) | (refine ⟨_, rfl, ?_⟩; conv => whnf)))
    refine ⟨_, _, WeakV.auto ?_, h⟩
    (repeat' ((conv => whnf); first | exact True.intro | (refine And.intro ?_ ?_)))
    all_goals first | rfl | exact .eq rfl | exact congrArg (SV.int .i64) hw
theorem small9_k : Contract Tryd.prog [] 65 small9S := ⟨⟨⟨_, rfl, rfl, rfl⟩⟩, small9_c⟩
theorem smallF_len (e : Int) (s : Bs) : (smallF e s).2.2.length ≤ s.length := by
  unfold smallF
  split <;> exact rdS_len e 8 s
theorem textF_len (e : Int) (s : Bs) : (textF e s).2.2.length ≤ s.length := Nat.le_trans (rdS_len _ _ _) (rdS_len _ _ _)
theorem byteF_len (e : Int) (s : Bs) : (byteF e s).2.2.length ≤ s.length := rdS_len _ _ _
theorem pathF_len : ∀ (n : Nat) (e : Int) (s : Bs) (acc : List Bs), (pathF n e s acc).2.2.length ≤ s.length ∧ (pathF n e s acc).1.length ≤ acc.length + n
  | 0, e, s, acc => ⟨Nat.le_refl _, Nat.le_refl _⟩
  | n + 1, e, s, acc => by
    rw [pathF]
    by_cases he : e = 0
    · rw [if_pos he]
      have := pathF_len n (rdE e 32 s) (rdS e 32 s) (acc ++ [rdT e 32 s])
      rw [List.length_append, List.length_singleton] at this
      exact ⟨Nat.le_trans this.1 (rdS_len _ _ _), by omega⟩
    · rw [if_neg he]
      exact ⟨Nat.le_refl _, by show acc.length ≤ _; omega⟩
def rtextFS : Spec := fun args H Q => match args, H with
  | [.ptr 0 0], [.cells [.int .i64 e, .str s] 121] => s.length < 1000000 ∧ Q (.str (textF e s).1) (rd (textF e s).2.1 (textF e s).2.2)
  | _, _ => False
theorem rtextF_k : Contract Tryd.prog [] 66 rtextFS := rtext_k.imp fun args H Q h => by
  unfold rtextFS at h
  split at h
  case h_2 => exact h.elim
  exact Need.mk h.1 h.2
def rbyteFS : Spec := fun args H Q => match args, H with
  | [.ptr 0 0], [.cells [.int .i64 e, .str s] 121] => s.length < 1000000 ∧ Q (.int .i64 ((byteF e s).1 : Int)) (rd (byteF e s).2.1 (byteF e s).2.2)
  | _, _ => False
theorem rbyteF_k : Contract Tryd.prog [] 39 rbyteFS := rbyte_k.imp fun args H Q h => by
  unfold rbyteFS at h
  split at h
  case h_2 => exact h.elim
  exact Need.mk h.1 h.2
theorem far5 {i c : Int} {k v : Bs} {s n : Nat} {cs : List CV} {f : Bool} : ∀ y ∈ [SV.int .i64 i, SV.int .i64 c, SV.str k, SV.str v, SV.sl s n cs f], isFar y := by
  intro y hy
  simp only [List.mem_cons, List.mem_nil_iff, or_false] at hy
  rcases hy with rfl | rfl | rfl | rfl | rfl <;> trivial
def leaf9S : Spec := fun args H Q => match args, H with
  | [.ptr 0 0], [.cells [.int .i64 e, .str s] 121] => Need (s.length < 1000000) (Q (lfSV (leafF e s).1) (rd (leafF e s).2.1 (leafF e s).2.2))
  | _, _ => False
open Classical in
theorem leaf9_c : Meets Tryd.prog [] 40 leaf9S := by
  refine meets_of Γok Tryd.func40 rfl ?_
  intro args H Q h
  unfold leaf9S at h
  split at h
  case h_2 => exact h.elim
  rename_i e s
  obtain ⟨hs, h⟩ := h
  unfold leafF at h
  have l1 := smallF_len e s
  obtain ⟨A, hA⟩ : ∃ A, smallF e s = A := ⟨_, rfl⟩
  rw [hA] at h l1
  dsimp only at h
  have l2 := smallF_len A.2.1 A.2.2
  obtain ⟨B, hB⟩ : ∃ B, smallF A.2.1 A.2.2 = B := ⟨_, rfl⟩
  rw [hB] at h l2
  have l3 := textF_len B.2.1 B.2.2
  obtain ⟨K, hK⟩ : ∃ K, textF B.2.1 B.2.2 = K := ⟨_, rfl⟩
  rw [hK] at h l3
  have l4 := textF_len K.2.1 K.2.2
  obtain ⟨V, hV⟩ : ∃ V, textF K.2.1 K.2.2 = V := ⟨_, rfl⟩
  rw [hV] at h l4
  have l5 := byteF_len V.2.1 V.2.2
  have hN0 := rdV_lt1 V.2.1 V.2.2
  obtain ⟨N, hN⟩ : ∃ N, byteF V.2.1 V.2.2 = N := ⟨_, rfl⟩
  have hN1 : N.1 < 256 := by rw [← hN]; exact hN0
  rw [hN] at h l5
  obtain ⟨P, hP⟩ : ∃ P, pathF N.1 N.2.1 N.2.2 [] = P := ⟨_, rfl⟩
  have hPl := pathF_len N.1 N.2.1 N.2.2 []
  rw [hP] at h hPl
  have hPp : P.1.length ≤ 9223372036854775807 := by have := hPl.2; simp only [List.length_nil] at this; omega
  have s1 : A.2.2.length < 1000000 := by omega
  have s2 : B.2.2.length < 1000000 := by omega
  have s3 : K.2.2.length < 1000000 := by omega
  have s4 : V.2.2.length < 1000000 := by omega
  have s5 : N.2.2.length < 1000000 := by omega
  (refine sx_sound Γok _ ?_; conv => whnf)
  (repeat (first | (exact Out.same; conv => whnf) | (exact Out1.same; conv => whnf) | (refine QAnd.mk ?_ ?_; conv => whnf) | (apply QStepH.go; conv => whnf) | (refine Both.lit_true ?_; conv => whnf) | (refine Both.lit_false ?_; conv => whnf) | (apply QStep.go; conv => whnf) | (refine Need.mk ?_ ?_; (focus (first | omega | exact ⟨by omega, by omega⟩ | rfl | exact ⟨rfl, rfl⟩ | exact ⟨rfl, by omega, by omega⟩ | exact ⟨by omega, by omega, by omega⟩ | exact ⟨rfl, Nat.le_of_ble_eq_true rfl⟩ | exact Nat.le_of_ble_eq_true rfl | (refine ⟨rfl, rfl, ?_⟩; simp [isFar, ofV0, CV.up, SV.renL, SV.ren] <;> fail) | (refine ⟨rfl, Nat.le_of_ble_eq_true rfl, ?_⟩; simp [isFar, ofV0, CV.up, SV.renL, SV.ren] <;> fail) | (simp only [List.length_append, List.length_drop, List.length_take, List.length_replicate, List.length_map]; omega) | (simp <;> fail))); conv => whnf) | (refine ⟨_, rfl, ?_⟩; conv => whnf)))
  refine CallVC.auto small9_k ⟨rfl, hs, ?_⟩
  rw [hA]
  (conv => whnf)
  (repeat (first | (exact Out.same; conv => whnf) | (exact Out1.same; conv => whnf) | (refine QAnd.mk ?_ ?_; conv => whnf) | (apply QStepH.go; conv => whnf) | (refine Both.lit_true ?_; conv => whnf) | (refine Both.lit_false ?_; conv => whnf) | (apply QStep.go; conv => whnf) | (refine Need.mk ?_ ?_; (focus (first | omega | exact ⟨by omega, by omega⟩ | rfl | exact ⟨rfl, rfl⟩ | exact ⟨rfl, by omega, by omega⟩ | exact ⟨by omega, by omega, by omega⟩ | exact ⟨rfl, Nat.le_of_ble_eq_true rfl⟩ | exact Nat.le_of_ble_eq_true rfl | (refine ⟨rfl, rfl, ?_⟩; simp [isFar, ofV0, CV.up, SV.renL, SV.ren] <;> fail) | (refine ⟨rfl, Nat.le_of_ble_eq_true rfl, ?_⟩; simp [isFar, ofV0, CV.up, SV.renL, SV.ren] <;> fail) | (simp only [List.length_append, List.length_drop, List.length_take, List.length_replicate, List.length_map]; omega) | (simp <;> fail))); conv => whnf) | (refine ⟨_, rfl, ?_⟩; conv => whnf)))
  refine CallVC.auto small9_k ⟨rfl, s1, ?_⟩
  rw [hB]
  (conv => whnf)
  (repeat (first | (exact Out.same; conv => whnf) | (exact Out1.same; conv => whnf) | (refine QAnd.mk ?_ ?_; conv => whnf) | (apply QStepH.go; conv => whnf) | (refine Both.lit_true ?_; conv => whnf) | (refine Both.lit_false ?_; conv => whnf) | (apply QStep.go; conv => whnf) | (refine Need.mk ?_ ?_; (focus (first | omega | exact ⟨by omega, by omega⟩ | rfl | exact ⟨rfl, rfl⟩ | exact ⟨rfl, by omega, by omega⟩ | exact ⟨by omega, by omega, by omega⟩ | exact ⟨rfl, Nat.le_of_ble_eq_true rfl⟩ | exact Nat.le_of_ble_eq_true rfl | (refine ⟨rfl, rfl, ?_⟩; simp [isFar, ofV0, CV.up, SV.renL, SV.ren] <;> fail) | (refine ⟨rfl, Nat.le_of_ble_eq_true rfl, ?_⟩; simp [isFar, ofV0, CV.up, SV.renL, SV.ren] <;> fail) | (simp only [List.length_append, List.length_drop, List.length_take, List.length_replicate, List.length_map]; omega) | (simp <;> fail))); conv => whnf) | (refine ⟨_, rfl, ?_⟩; conv => whnf)))
  refine CallVC.auto rtextF_k ⟨s2, ?_⟩
  rw [hK]
  (conv => whnf)
  (repeat (first | (exact Out.same; conv => whnf) | (exact Out1.same; conv => whnf) | (refine QAnd.mk ?_ ?_; conv => whnf) | (apply QStepH.go; conv => whnf) | (refine Both.lit_true ?_; conv => whnf) | (refine Both.lit_false ?_; conv => whnf) | (apply QStep.go; conv => whnf) | (refine Need.mk ?_ ?_; (focus (first | omega | exact ⟨by omega, by omega⟩ | rfl | exact ⟨rfl, rfl⟩ | exact ⟨rfl, by omega, by omega⟩ | exact ⟨by omega, by omega, by omega⟩ | exact ⟨rfl, Nat.le_of_ble_eq_true rfl⟩ | exact Nat.le_of_ble_eq_true rfl | (refine ⟨rfl, rfl, ?_⟩; simp [isFar, ofV0, CV.up, SV.renL, SV.ren] <;> fail) | (refine ⟨rfl, Nat.le_of_ble_eq_true rfl, ?_⟩; simp [isFar, ofV0, CV.up, SV.renL, SV.ren] <;> fail) | (simp only [List.length_append, List.length_drop, List.length_take, List.length_replicate, List.length_map]; omega) | (simp <;> fail))); conv => whnf) | (refine ⟨_, rfl, ?_⟩; conv => whnf)))
  refine CallVC.auto rtextF_k ⟨s3, ?_⟩
  rw [hV]
  (conv => whnf)
  (repeat (first | (exact Out.same; conv => whnf) | (exact Out1.same; conv => whnf) | (refine QAnd.mk ?_ ?_; conv => whnf) | (apply QStepH.go; conv => whnf) | (refine Both.lit_true ?_; conv => whnf) | (refine Both.lit_false ?_; conv => whnf) | (apply QStep.go; conv => whnf) | (refine Need.mk ?_ ?_; (focus (first | omega | exact ⟨by omega, by omega⟩ | rfl | exact ⟨rfl, rfl⟩ | exact ⟨rfl, by omega, by omega⟩ | exact ⟨by omega, by omega, by omega⟩ | exact ⟨rfl, Nat.le_of_ble_eq_true rfl⟩ | exact Nat.le_of_ble_eq_true rfl | (refine ⟨rfl, rfl, ?_⟩; simp [isFar, ofV0, CV.up, SV.renL, SV.ren] <;> fail) | (refine ⟨rfl, Nat.le_of_ble_eq_true rfl, ?_⟩; simp [isFar, ofV0, CV.up, SV.renL, SV.ren] <;> fail) | (simp only [List.length_append, List.length_drop, List.length_take, List.length_replicate, List.length_map]; omega) | (simp <;> fail))); conv => whnf) | (refine ⟨_, rfl, ?_⟩; conv => whnf)))
  refine CallVC.auto rbyteF_k ⟨s4, ?_⟩
  rw [hN]
  (conv => whnf)
  (repeat (first | (exact Out.same; conv => whnf) | (exact Out1.same; conv => whnf) | (refine QAnd.mk ?_ ?_; conv => whnf) | (apply QStepH.go; conv => whnf) | (refine Both.lit_true ?_; conv => whnf) | (refine Both.lit_false ?_; conv => whnf) | (apply QStep.go; conv => whnf) | (refine Need.mk ?_ ?_; (focus (first | omega | exact ⟨by omega, by omega⟩ | rfl | exact ⟨rfl, rfl⟩ | exact ⟨rfl, by omega, by omega⟩ | exact ⟨by omega, by omega, by omega⟩ | exact ⟨rfl, Nat.le_of_ble_eq_true rfl⟩ | exact Nat.le_of_ble_eq_true rfl | (refine ⟨rfl, rfl, ?_⟩; simp [isFar, ofV0, CV.up, SV.renL, SV.ren] <;> fail) | (refine ⟨rfl, Nat.le_of_ble_eq_true rfl, ?_⟩; simp [isFar, ofV0, CV.up, SV.renL, SV.ren] <;> fail) | (simp only [List.length_append, List.length_drop, List.length_take, List.length_replicate, List.length_map]; omega) | (simp <;> fail))); conv => whnf) | (refine ⟨_, rfl, ?_⟩; conv => whnf)))
  refine LoopVC.postWeak ?_
  refine loop_rule (fun x : Nat × Int × Bs × List Bs => match x with | (n, e, s, acc) => ⟨[.ptr 0 0, .any, .ptr 1 0, .ptr 2 0, .int .i64 (n : Int), .any, .any, .any, .any, .any, .any, .any, .any, .any, .any, .any, .any, .any, .any, .any, .any, .any, .any, .any, .any, .any, .any, .any, .any, .any, .any, .any, .any, .any, .any, .any, .any, .any, .any, .any, .any, .any, .any, .any, .any, .any], [.cells [.int .i64 e, .str s] 121, .cells [.int .i64 0, .int .i64 0, .str [], .str [], .nilsl] 41, .cells [.int .i64 (A.1 : Int), .int .i64 (B.1 : Int), .str K.1, .str V.1, .own 3] 41, .own 9 1 acc.length (strs acc) true]⟩) (fun x => match x with | (n, e, s, acc) => pathF n e s acc = P ∧ s.length < 1000000 ∧ acc.length + n ≤ 255) (fun x => match x with | (n, e, s, acc) => n) (N.1, N.2.1, N.2.2, []) ⟨hP, s5, by show 0 + N.1 ≤ 255; omega⟩ ((Weak.ownNil 2 4 9 1 rfl rfl).trans (Weak.auto ?_)) ?_
  · (repeat' ((conv => whnf); first | exact True.intro | (refine And.intro ?_ ?_)))
    all_goals first | rfl | exact .eq rfl
  rintro ⟨n, e, t, acc⟩ ⟨hI, ht, hna⟩
  (refine sx_sound Γok _ ?_; conv => whnf)
  (repeat (first | (exact Out.same; conv => whnf) | (exact Out1.same; conv => whnf) | (refine QAnd.mk ?_ ?_; conv => whnf) | (apply QStepH.go; conv => whnf) | (refine Both.lit_true ?_; conv => whnf) | (refine Both.lit_false ?_; conv => whnf) | (apply QStep.go; conv => whnf) | (refine Need.mk ?_ ?_; (focus (first | omega | exact ⟨by omega, by omega⟩ | rfl | exact ⟨rfl, rfl⟩ | exact ⟨rfl, by omega, by omega⟩ | exact ⟨by omega, by omega, by omega⟩ | exact ⟨rfl, Nat.le_of_ble_eq_true rfl⟩ | exact Nat.le_of_ble_eq_true rfl | (refine ⟨rfl, rfl, ?_⟩; simp [isFar, ofV0, CV.up, SV.renL, SV.ren] <;> fail) | (refine ⟨rfl, Nat.le_of_ble_eq_true rfl, ?_⟩; simp [isFar, ofV0, CV.up, SV.renL, SV.ren] <;> fail) | (simp only [List.length_append, List.length_drop, List.length_take, List.length_replicate, List.length_map]; omega) | (simp <;> fail))); conv => whnf) | (refine ⟨_, rfl, ?_⟩; conv => whnf)))
  refine Both.dec (fun h1 => ?_) (fun h1 => ?_)
  · obtain ⟨n, rfl⟩ : ∃ n', n = n' + 1 := ⟨n - 1, by omega⟩
    rw [pathF] at hI
    have hn1 : IntKind.i64.wrap (((n + 1 : Nat) : Int) - 1) = (n : Int) := by rw [wrap_i64 (by omega) (by omega)]; omega
    have hcap : (acc.length + 1) * ti9.bytes ≤ 140737488355328 := by
      show (acc.length + 1) * 16 ≤ _
      omega
    have hsl := rdS_len e 32 t
    (conv => whnf)
    (repeat (first | (exact Out.same; conv => whnf) | (exact Out1.same; conv => whnf) | (refine QAnd.mk ?_ ?_; conv => whnf) | (apply QStepH.go; conv => whnf) | (refine Both.lit_true ?_; conv => whnf) | (refine Both.lit_false ?_; conv => whnf) | (apply QStep.go; conv => whnf) | (refine Need.mk ?_ ?_; (focus (first | omega | exact ⟨by omega, by omega⟩ | rfl | exact ⟨rfl, rfl⟩ | exact ⟨rfl, by omega, by omega⟩ | exact ⟨by omega, by omega, by omega⟩ | exact ⟨rfl, Nat.le_of_ble_eq_true rfl⟩ | exact Nat.le_of_ble_eq_true rfl | (refine ⟨rfl, rfl, ?_⟩; simp [isFar, ofV0, CV.up, SV.renL, SV.ren] <;> fail) | (refine ⟨rfl, Nat.le_of_ble_eq_true rfl, ?_⟩; simp [isFar, ofV0, CV.up, SV.renL, SV.ren] <;> fail) | (simp only [List.length_append, List.length_drop, List.length_take, List.length_replicate, List.length_map]; omega) | (simp <;> fail))); conv => whnf) | (refine ⟨_, rfl, ?_⟩; conv => whnf) | (refine CallVC.auto errA_k ?_; conv => whnf)))
    refine Both.dec (fun h2 => ?_) (fun h2 => ?_)
    · rw [if_pos h2] at hI
      have hA1 : (rdS e 32 t).length < 1000000 := by omega
      have hB1 : (acc ++ [rdT e 32 t]).length + n ≤ 255 := by rw [List.length_append, List.length_singleton]; omega
      have end1 : LObj.own 9 1 (acc.length + 1) (strs acc ++ [CV.str (rdT e 32 t)]) true = .own 9 1 (acc ++ [rdT e 32 t]).length (strs (acc ++ [rdT e 32 t])) true := by
        rw [List.length_append, ← strs_app]
        rfl
      (conv => whnf)
      (refine DrawVC.any Γok (by kernel_rfl) (by kernel_rfl) (by kernel_rfl) (by rfl) ?_; conv => whnf)
      (repeat (first | (refine CallVC.auto rraw_k ⟨ht, ?_⟩; conv => whnf) | (refine Need.mk hcap ?_; conv => whnf) | (exact Out.same; conv => whnf) | (exact Out1.same; conv => whnf) | (refine QAnd.mk ?_ ?_; conv => whnf) | (apply QStepH.go; conv => whnf) | (refine Both.lit_true ?_; conv => whnf) | (refine Both.lit_false ?_; conv => whnf) | (apply QStep.go; conv => whnf) | (refine Need.mk ?_ ?_; (focus (first | omega | exact ⟨by omega, by omega⟩ | rfl | exact ⟨rfl, rfl⟩ | exact ⟨rfl, by omega, by omega⟩ | exact ⟨by omega, by omega, by omega⟩ | exact ⟨rfl, Nat.le_of_ble_eq_true rfl⟩ | exact Nat.le_of_ble_eq_true rfl | (refine ⟨rfl, rfl, ?_⟩; simp [isFar, ofV0, CV.up, SV.renL, SV.ren] <;> fail) | (refine ⟨rfl, Nat.le_of_ble_eq_true rfl, ?_⟩; simp [isFar, ofV0, CV.up, SV.renL, SV.ren] <;> fail) | (simp only [List.length_append, List.length_drop, List.length_take, List.length_replicate, List.length_map]; omega) | (simp <;> fail))); conv => whnf) | (refine ⟨_, rfl, ?_⟩; conv => whnf)))
      refine ⟨(n, rdE e 32 t, rdS e 32 t, acc ++ [rdT e 32 t]), ⟨hI, hA1, hB1⟩, Nat.lt_succ_self n, Weak.auto ?_⟩
      (repeat' ((conv => whnf); first | exact True.intro | (refine And.intro ?_ ?_)))
      all_goals first | rfl | exact .eq rfl | exact congrArg (SV.int .i64) hn1 | exact end1 | exact .eq end1
    · rw [if_neg h2] at hI
      subst hI
      have hap : acc.length ≤ 9223372036854775807 := by omega
      (conv => whnf)
      (repeat (first | (exact Out.same; conv => whnf) | (exact Out1.same; conv => whnf) | (refine QAnd.mk ?_ ?_; conv => whnf) | (apply QStepH.go; conv => whnf) | (refine Both.lit_true ?_; conv => whnf) | (refine Both.lit_false ?_; conv => whnf) | (apply QStep.go; conv => whnf) | (refine Need.mk ?_ ?_; (focus (first | omega | exact ⟨by omega, by omega⟩ | rfl | exact ⟨rfl, rfl⟩ | exact ⟨rfl, by omega, by omega⟩ | exact ⟨by omega, by omega, by omega⟩ | exact ⟨rfl, Nat.le_of_ble_eq_true rfl⟩ | exact Nat.le_of_ble_eq_true rfl | (refine ⟨rfl, rfl, ?_⟩; simp [isFar, ofV0, CV.up, SV.renL, SV.ren] <;> fail) | (refine ⟨rfl, Nat.le_of_ble_eq_true rfl, ?_⟩; simp [isFar, ofV0, CV.up, SV.renL, SV.ren] <;> fail) | (simp only [List.length_append, List.length_drop, List.length_take, List.length_replicate, List.length_map]; omega) | (simp <;> fail))); conv => whnf) | (refine ⟨_, rfl, ?_⟩; conv => whnf)))
      refine ⟨_, Weak.pub 3 2 rfl rfl, ?_⟩
      (conv => whnf)
      (repeat (first | (refine CallVC.auto with_k ⟨acc, rfl, rfl, hap, ?_⟩; conv => whnf) | (exact Out.same; conv => whnf) | (exact Out1.same; conv => whnf) | (refine QAnd.mk ?_ ?_; conv => whnf) | (apply QStepH.go; conv => whnf) | (refine Both.lit_true ?_; conv => whnf) | (refine Both.lit_false ?_; conv => whnf) | (apply QStep.go; conv => whnf) | (refine Need.mk ?_ ?_; (focus (first | omega | exact ⟨by omega, by omega⟩ | rfl | exact ⟨rfl, rfl⟩ | exact ⟨rfl, by omega, by omega⟩ | exact ⟨by omega, by omega, by omega⟩ | exact ⟨rfl, Nat.le_of_ble_eq_true rfl⟩ | exact Nat.le_of_ble_eq_true rfl | (refine ⟨rfl, rfl, ?_⟩; simp [isFar, ofV0, CV.up, SV.renL, SV.ren] <;> fail) | (refine ⟨rfl, Nat.le_of_ble_eq_true rfl, ?_⟩; simp [isFar, ofV0, CV.up, SV.renL, SV.ren] <;> fail) | (simp only [List.length_append, List.length_drop, List.length_take, List.length_replicate, List.length_map]; omega) | (simp <;> fail))); conv => whnf) | (refine ⟨_, rfl, ?_⟩; conv => whnf)))
      by_cases hok : okLf ⟨(A.1 : Int), (B.1 : Int), K.1, V.1, acc⟩
      · have c1 : (!decide (okLf ⟨(A.1 : Int), (B.1 : Int), K.1, V.1, acc⟩)) = false := by rw [decide_eq_true hok]; rfl
        rw [if_pos hok] at h
        (repeat (first | (refine Both.of_false c1 ?_; conv => whnf) | (refine Need.mk ⟨rfl, rfl, far5⟩ ?_; conv => whnf) | (exact Out.same; conv => whnf) | (exact Out1.same; conv => whnf) | (refine QAnd.mk ?_ ?_; conv => whnf) | (apply QStepH.go; conv => whnf) | (refine Both.lit_true ?_; conv => whnf) | (refine Both.lit_false ?_; conv => whnf) | (apply QStep.go; conv => whnf) | (refine Need.mk ?_ ?_; (focus (first | omega | exact ⟨by omega, by omega⟩ | rfl | exact ⟨rfl, rfl⟩ | exact ⟨rfl, by omega, by omega⟩ | exact ⟨by omega, by omega, by omega⟩ | exact ⟨rfl, Nat.le_of_ble_eq_true rfl⟩ | exact Nat.le_of_ble_eq_true rfl | (refine ⟨rfl, rfl, ?_⟩; simp [isFar, ofV0, CV.up, SV.renL, SV.ren] <;> fail) | (refine ⟨rfl, Nat.le_of_ble_eq_true rfl, ?_⟩; simp [isFar, ofV0, CV.up, SV.renL, SV.ren] <;> fail) | (simp only [List.length_append, List.length_drop, List.length_take, List.length_replicate, List.length_map]; omega) | (simp <;> fail))); conv => whnf) | (refine ⟨_, rfl, ?_⟩; conv => whnf)))
        refine ⟨_, _, WeakV.auto ?_, h⟩
        (repeat' ((conv => whnf); first | exact True.intro | (refine And.intro ?_ ?_)))
        all_goals first | rfl | exact .eq rfl
      · have c1 : (!decide (okLf ⟨(A.1 : Int), (B.1 : Int), K.1, V.1, acc⟩)) = true := by rw [decide_eq_false hok]; rfl
        rw [if_neg hok] at h
        (repeat (first | (refine Both.of_true c1 ?_; conv => whnf) | (exact Out.same; conv => whnf) | (exact Out1.same; conv => whnf) | (refine QAnd.mk ?_ ?_; conv => whnf) | (apply QStepH.go; conv => whnf) | (refine Both.lit_true ?_; conv => whnf) | (refine Both.lit_false ?_; conv => whnf) | (apply QStep.go; conv => whnf) | (refine Need.mk ?_ ?_; (focus (first | omega | exact ⟨by omega, by omega⟩ | rfl | exact ⟨rfl, rfl⟩ | exact ⟨rfl, by omega, by omega⟩ | exact ⟨by omega, by omega, by omega⟩ | exact ⟨rfl, Nat.le_of_ble_eq_true rfl⟩ | exact Nat.le_of_ble_eq_true rfl | (refine ⟨rfl, rfl, ?_⟩; simp [isFar, ofV0, CV.up, SV.renL, SV.ren] <;> fail) | (refine ⟨rfl, Nat.le_of_ble_eq_true rfl, ?_⟩; simp [isFar, ofV0, CV.up, SV.renL, SV.ren] <;> fail) | (simp only [List.length_append, List.length_drop, List.length_take, List.length_replicate, List.length_map]; omega) | (simp <;> fail))); conv => whnf) | (refine ⟨_, rfl, ?_⟩; conv => whnf)))
        refine CallVC.auto failA_k (fun e' he' => ?_)
        subst he'
        (conv => whnf)
        (repeat (first | (refine Need.mk ⟨rfl, rfl, far5⟩ ?_; conv => whnf) | (exact Out.same; conv => whnf) | (exact Out1.same; conv => whnf) | (refine QAnd.mk ?_ ?_; conv => whnf) | (apply QStepH.go; conv => whnf) | (refine Both.lit_true ?_; conv => whnf) | (refine Both.lit_false ?_; conv => whnf) | (apply QStep.go; conv => whnf) | (refine Need.mk ?_ ?_; (focus (first | omega | exact ⟨by omega, by omega⟩ | rfl | exact ⟨rfl, rfl⟩ | exact ⟨rfl, by omega, by omega⟩ | exact ⟨by omega, by omega, by omega⟩ | exact ⟨rfl, Nat.le_of_ble_eq_true rfl⟩ | exact Nat.le_of_ble_eq_true rfl | (refine ⟨rfl, rfl, ?_⟩; simp [isFar, ofV0, CV.up, SV.renL, SV.ren] <;> fail) | (refine ⟨rfl, Nat.le_of_ble_eq_true rfl, ?_⟩; simp [isFar, ofV0, CV.up, SV.renL, SV.ren] <;> fail) | (simp only [List.length_append, List.length_drop, List.length_take, List.length_replicate, List.length_map]; omega) | (simp <;> fail))); conv => whnf) | (refine ⟨_, rfl, ?_⟩; conv => whnf)))
        refine ⟨_, _, WeakV.auto ?_, h⟩
        (repeat' ((conv => whnf); first | exact True.intro | (refine And.intro ?_ ?_)))
        all_goals first | rfl | exact .eq rfl
  · obtain rfl : n = 0 := by omega
    rw [pathF] at hI
    subst hI
    have hap : acc.length ≤ 9223372036854775807 := by omega
    (conv => whnf)
    (repeat (first | (exact Out.same; conv => whnf) | (exact Out1.same; conv => whnf) | (refine QAnd.mk ?_ ?_; conv => whnf) | (apply QStepH.go; conv => whnf) | (refine Both.lit_true ?_; conv => whnf) | (refine Both.lit_false ?_; conv => whnf) | (apply QStep.go; conv => whnf) | (refine Need.mk ?_ ?_; (focus (first | omega | exact ⟨by omega, by omega⟩ | rfl | exact ⟨rfl, rfl⟩ | exact ⟨rfl, by omega, by omega⟩ | exact ⟨by omega, by omega, by omega⟩ | exact ⟨rfl, Nat.le_of_ble_eq_true rfl⟩ | exact Nat.le_of_ble_eq_true rfl | (refine ⟨rfl, rfl, ?_⟩; simp [isFar, ofV0, CV.up, SV.renL, SV.ren] <;> fail) | (refine ⟨rfl, Nat.le_of_ble_eq_true rfl, ?_⟩; simp [isFar, ofV0, CV.up, SV.renL, SV.ren] <;> fail) | (simp only [List.length_append, List.length_drop, List.length_take, List.length_replicate, List.length_map]; omega) | (simp <;> fail))); conv => whnf) | (refine ⟨_, rfl, ?_⟩; conv => whnf)))
    refine ⟨_, Weak.pub 3 2 rfl rfl, ?_⟩
    (conv => whnf)
    (repeat (first | (refine CallVC.auto with_k ⟨acc, rfl, rfl, hap, ?_⟩; conv => whnf) | (exact Out.same; conv => whnf) | (exact Out1.same; conv => whnf) | (refine QAnd.mk ?_ ?_; conv => whnf) | (apply QStepH.go; conv => whnf) | (refine Both.lit_true ?_; conv => whnf) | (refine Both.lit_false ?_; conv => whnf) | (apply QStep.go; conv => whnf) | (refine Need.mk ?_ ?_; (focus (first | omega | exact ⟨by omega, by omega⟩ | rfl | exact ⟨rfl, rfl⟩ | exact ⟨rfl, by omega, by omega⟩ | exact ⟨by omega, by omega, by omega⟩ | exact ⟨rfl, Nat.le_of_ble_eq_true rfl⟩ | exact Nat.le_of_ble_eq_true rfl | (refine ⟨rfl, rfl, ?_⟩; simp [isFar, ofV0, CV.up, SV.renL, SV.ren] <;> fail) | (refine ⟨rfl, Nat.le_of_ble_eq_true rfl, ?_⟩; simp [isFar, ofV0, CV.up, SV.renL, SV.ren] <;> fail) | (simp only [List.length_append, List.length_drop, List.length_take, List.length_replicate, List.length_map]; omega) | (simp <;> fail))); conv => whnf) | (refine ⟨_, rfl, ?_⟩; conv => whnf)))
    by_cases hok : okLf ⟨(A.1 : Int), (B.1 : Int), K.1, V.1, acc⟩
    · have c1 : (!decide (okLf ⟨(A.1 : Int), (B.1 : Int), K.1, V.1, acc⟩)) = false := by rw [decide_eq_true hok]; rfl
      rw [if_pos hok] at h
      (repeat (first | (refine Both.of_false c1 ?_; conv => whnf) | (refine Need.mk ⟨rfl, rfl, far5⟩ ?_; conv => whnf) | (exact Out.same; conv => whnf) | (exact Out1.same; conv => whnf) | (refine QAnd.mk ?_ ?_; conv => whnf) | (apply QStepH.go; conv => whnf) | (refine Both.lit_true ?_; conv => whnf) | (refine Both.lit_false ?_; conv => whnf) | (apply QStep.go; conv => whnf) | (refine Need.mk ?_ ?_; (focus (first | omega | exact ⟨by omega, by omega⟩ | rfl | exact ⟨rfl, rfl⟩ | exact ⟨rfl, by omega, by omega⟩ | exact ⟨by omega, by omega, by omega⟩ | exact ⟨rfl, Nat.le_of_ble_eq_true rfl⟩ | exact Nat.le_of_ble_eq_true rfl | (refine ⟨rfl, rfl, ?_⟩; simp [isFar, ofV0, CV.up, SV.renL, SV.ren] <;> fail) | (refine ⟨rfl, Nat.le_of_ble_eq_true rfl, ?_⟩; simp [isFar, ofV0, CV.up, SV.renL, SV.ren] <;> fail) | (simp only [List.length_append, List.length_drop, List.length_take, List.length_replicate, List.length_map]; omega) | (simp <;> fail))); conv => whnf) | (refine ⟨_, rfl, ?_⟩; conv => whnf)))
      refine ⟨_, _, WeakV.auto ?_, h⟩
      (repeat' ((conv => whnf); first | exact True.intro | (refine And.intro ?_ ?_)))
      all_goals first | rfl | exact .eq rfl
    · have c1 : (!decide (okLf ⟨(A.1 : Int), (B.1 : Int), K.1, V.1, acc⟩)) = true := by rw [decide_eq_false hok]; rfl
      rw [if_neg hok] at h
      (repeat (first | (refine Both.of_true c1 ?_; conv => whnf) | (exact Out.same; conv => whnf) | (exact Out1.same; conv => whnf) | (refine QAnd.mk ?_ ?_; conv => whnf) | (apply QStepH.go; conv => whnf) | (refine Both.lit_true ?_; conv => whnf) | (refine Both.lit_false ?_; conv => whnf) | (apply QStep.go; conv => whnf) | (refine Need.mk ?_ ?_; (focus (first | omega | exact ⟨by omega, by omega⟩ | rfl | exact ⟨rfl, rfl⟩ | exact ⟨rfl, by omega, by omega⟩ | exact ⟨by omega, by omega, by omega⟩ | exact ⟨rfl, Nat.le_of_ble_eq_true rfl⟩ | exact Nat.le_of_ble_eq_true rfl | (refine ⟨rfl, rfl, ?_⟩; simp [isFar, ofV0, CV.up, SV.renL, SV.ren] <;> fail) | (refine ⟨rfl, Nat.le_of_ble_eq_true rfl, ?_⟩; simp [isFar, ofV0, CV.up, SV.renL, SV.ren] <;> fail) | (simp only [List.length_append, List.length_drop, List.length_take, List.length_replicate, List.length_map]; omega) | (simp <;> fail))); conv => whnf) | (refine ⟨_, rfl, ?_⟩; conv => whnf)))
      refine CallVC.auto failA_k (fun e' he' => ?_)
      subst he'
      (conv => whnf)
      (repeat (first | (refine Need.mk ⟨rfl, rfl, far5⟩ ?_; conv => whnf) | (exact Out.same; conv => whnf) | (exact Out1.same; conv => whnf) | (refine QAnd.mk ?_ ?_; conv => whnf) | (apply QStepH.go; conv => whnf) | (refine Both.lit_true ?_; conv => whnf) | (refine Both.lit_false ?_; conv => whnf) | (apply QStep.go; conv => whnf) | (refine Need.mk ?_ ?_; (focus (first | omega | exact ⟨by omega, by omega⟩ | rfl | exact ⟨rfl, rfl⟩ | exact ⟨rfl, by omega, by omega⟩ | exact ⟨by omega, by omega, by omega⟩ | exact ⟨rfl, Nat.le_of_ble_eq_true rfl⟩ | exact Nat.le_of_ble_eq_true rfl | (refine ⟨rfl, rfl, ?_⟩; simp [isFar, ofV0, CV.up, SV.renL, SV.ren] <;> fail) | (refine ⟨rfl, Nat.le_of_ble_eq_true rfl, ?_⟩; simp [isFar, ofV0, CV.up, SV.renL, SV.ren] <;> fail) | (simp only [List.length_append, List.length_drop, List.length_take, List.length_replicate, List.length_map]; omega) | (simp <;> fail))); conv => whnf) | (refine ⟨_, rfl, ?_⟩; conv => whnf)))
      refine ⟨_, _, WeakV.auto ?_, h⟩
      (repeat' ((conv => whnf); first | exact True.intro | (refine And.intro ?_ ?_)))
      all_goals first | rfl | exact .eq rfl
theorem leaf9_k : Contract Tryd.prog [] 40 leaf9S := ⟨⟨⟨_, rfl, rfl, rfl⟩⟩, leaf9_c⟩
end Go.LX
end
section
set_option maxRecDepth 100000
set_option maxHeartbeats 2000000
set_option autoImplicit false
set_option linter.unusedVariables false
set_option linter.unusedSimpArgs false
namespace Go.LX
open Go.Proofs

theorem leafF_len (e : Int) (s : Bs) : (leafF e s).2.2.length ≤ s.length := by
  unfold leafF
  dsimp only
  have l1 := smallF_len e s
  have l2 := smallF_len (smallF e s).2.1 (smallF e s).2.2
  have l3 := textF_len (smallF (smallF e s).2.1 (smallF e s).2.2).2.1 (smallF (smallF e s).2.1 (smallF e s).2.2).2.2
  have l4 := textF_len (textF (smallF (smallF e s).2.1 (smallF e s).2.2).2.1 (smallF (smallF e s).2.1 (smallF e s).2.2).2.2).2.1 (textF (smallF (smallF e s).2.1 (smallF e s).2.2).2.1 (smallF (smallF e s).2.1 (smallF e s).2.2).2.2).2.2
  refine Nat.le_trans (pathF_len _ _ _ _).1 ?_
  refine Nat.le_trans (byteF_len _ _) ?_
  omega
theorem parse_parts {a : Bool} {L : List Lf} {s : Bs} {A B : Nat × Int × Bs} (hA : byteF 0 s = A) (hB : byteF A.2.1 A.2.2 = B) (hf : fitsX L) (h : bytesX a L = s) : A.1 = (if a then 2 else 1) ∧ B = (L.length, 0, (L.map putL).flatten) := by
  have h1 := (parts_iff hf).1 h
  have l1 := hf.1
  obtain rfl := hA.symm.trans h1
  refine ⟨rfl, ?_⟩
  rw [← hB]
  exact (byte_iff (e := 0) (s := beb L.length 1 ++ (L.map putL).flatten) (s1 := (L.map putL).flatten) (v := L.length)).2 ⟨rfl, by omega, rfl⟩
theorem parse_bad1 {s : Bs} {A B : Nat × Int × Bs} (hA : byteF 0 s = A) (hB : byteF A.2.1 A.2.2 = B) (h : A.1 < 1 ∨ 2 < A.1 ∨ 2 < B.1) : parseV s = ((false, []), 5) := parseV_no fun ⟨r, hf, hr⟩ => by
  obtain ⟨q1, q2⟩ := parse_parts hA hB hf hr
  have l1 := hf.1
  rw [q2] at h
  have h : A.1 < 1 ∨ 2 < A.1 ∨ 2 < r.2.length := h
  cases hr1 : r.1 <;> rw [hr1] at q1 <;> simp at q1 <;> omega
theorem parse_bad2 {s : Bs} {A B : Nat × Int × Bs} {R : List Lf × Int × Bs} (hA : byteF 0 s = A) (hB : byteF A.2.1 A.2.2 = B) (hR : leavesF B.1 B.2.1 B.2.2 [] = R) (h : rdEnd R.2.1 R.2.2 ≠ 0) : parseV s = ((false, []), 5) := parseV_no fun ⟨r, hf, hr⟩ => by
  obtain ⟨q1, q2⟩ := parse_parts hA hB hf hr
  subst q2
  have := (leaves_iff r.2.length 0 ((r.2.map putL).flatten) [] r.2 []).2 ⟨rfl, r.2, rfl, rfl, hf.2, (List.append_nil _).symm⟩
  obtain rfl := hR.symm.trans this
  exact h (end_iff.2 ⟨rfl, rfl⟩)
theorem parse_ok {s : Bs} {A B : Nat × Int × Bs} {R : List Lf × Int × Bs} (hA : byteF 0 s = A) (hB : byteF A.2.1 A.2.2 = B) (hR : leavesF B.1 B.2.1 B.2.2 [] = R) (h1 : 1 ≤ A.1) (h2 : A.1 ≤ 2) (h3 : B.1 ≤ 2) (h : rdEnd R.2.1 R.2.2 = 0) : parseV s = ((decide ((A.1 : Int) = 2), R.1), 0) := by
  obtain ⟨e1, e2⟩ := end_iff.1 h
  have hR2 : leavesF B.1 B.2.1 B.2.2 [] = (R.1, 0, []) := by rw [hR, ← e2]; exact trip e1
  obtain ⟨b0, L, hL, hLl, hok, hs⟩ := (leaves_iff _ _ _ _ _ _).1 hR2
  obtain ⟨a0, bl, az⟩ := byte_iff.1 (hB.trans (trip b0))
  obtain ⟨_, al, ss⟩ := byte_iff.1 (hA.trans (trip a0))
  rw [List.nil_append] at hL
  rw [List.append_nil] at hs
  refine parseV_yes ⟨by rw [hL, hLl]; exact h3, by rw [hL]; exact hok⟩ ?_
  rw [ss, az, hs, hL]
  unfold bytesX
  rw [hLl]
  rcases (show A.1 = 1 ∨ A.1 = 2 by omega) with q | q
  · rw [q]
    rfl
  · rw [q]
    rfl
def pparseS : Spec := fun args H Q => match args, H with
  | [.str s], [] => s.length < 1000000 ∧ ∀ a L e, parseV s = ((a, L), e) → Q (.tuple [prSV a L, .int .i64 e]) []
  | _, _ => False
theorem pparse_c : Meets Tryd.prog [] 16 pparseS := by
  refine meets_of Γok Tryd.func16 rfl ?_
  intro args H Q h
  unfold pparseS at h
  split at h
  case h_2 => exact h.elim
  rename_i s
  obtain ⟨hs, h⟩ := h
  have l1 := byteF_len 0 s
  have hA0 := rdV_lt1 0 s
  obtain ⟨A, hA⟩ : ∃ A, byteF 0 s = A := ⟨_, rfl⟩
  have hA1 : A.1 < 256 := by rw [← hA]; exact hA0
  rw [hA] at l1
  have l2 := byteF_len A.2.1 A.2.2
  have hB0 := rdV_lt1 A.2.1 A.2.2
  obtain ⟨B, hB⟩ : ∃ B, byteF A.2.1 A.2.2 = B := ⟨_, rfl⟩
  have hB1 : B.1 < 256 := by rw [← hB]; exact hB0
  rw [hB] at l2
  obtain ⟨R, hR⟩ : ∃ R, leavesF B.1 B.2.1 B.2.2 [] = R := ⟨_, rfl⟩
  have s1 : A.2.2.length < 1000000 := by omega
  have s2 : B.2.2.length < 1000000 := by omega
  (refine sx_sound Γok _ ?_; conv => whnf)
  (repeat (first | (exact Out.same; conv => whnf) | (exact Out1.same; conv => whnf) | (refine QAnd.mk ?_ ?_; conv => whnf) | (apply QStepH.go; conv => whnf) | (refine Both.lit_true ?_; conv => whnf) | (refine Both.lit_false ?_; conv => whnf) | (apply QStep.go; conv => whnf) | (refine Need.mk ?_ ?_; (focus (first | omega | exact ⟨by omega, by omega⟩ | rfl | exact ⟨rfl, rfl⟩ | exact ⟨rfl, by omega, by omega⟩ | exact ⟨by omega, by omega, by omega⟩ | exact ⟨rfl, Nat.le_of_ble_eq_true rfl⟩ | exact Nat.le_of_ble_eq_true rfl | (refine ⟨rfl, rfl, ?_⟩; simp [isFar, ofV0, CV.up, SV.renL, SV.ren] <;> fail) | (refine ⟨rfl, Nat.le_of_ble_eq_true rfl, ?_⟩; simp [isFar, ofV0, CV.up, SV.renL, SV.ren] <;> fail) | (simp only [List.length_append, List.length_drop, List.length_take, List.length_replicate, List.length_map]; omega) | (simp <;> fail))); conv => whnf) | (refine ⟨_, rfl, ?_⟩; conv => whnf)))
  refine CallVC.auto rnew_k ?_
  (conv => whnf)
  (repeat (first | (exact Out.same; conv => whnf) | (exact Out1.same; conv => whnf) | (refine QAnd.mk ?_ ?_; conv => whnf) | (apply QStepH.go; conv => whnf) | (refine Both.lit_true ?_; conv => whnf) | (refine Both.lit_false ?_; conv => whnf) | (apply QStep.go; conv => whnf) | (refine Need.mk ?_ ?_; (focus (first | omega | exact ⟨by omega, by omega⟩ | rfl | exact ⟨rfl, rfl⟩ | exact ⟨rfl, by omega, by omega⟩ | exact ⟨by omega, by omega, by omega⟩ | exact ⟨rfl, Nat.le_of_ble_eq_true rfl⟩ | exact Nat.le_of_ble_eq_true rfl | (refine ⟨rfl, rfl, ?_⟩; simp [isFar, ofV0, CV.up, SV.renL, SV.ren] <;> fail) | (refine ⟨rfl, Nat.le_of_ble_eq_true rfl, ?_⟩; simp [isFar, ofV0, CV.up, SV.renL, SV.ren] <;> fail) | (simp only [List.length_append, List.length_drop, List.length_take, List.length_replicate, List.length_map]; omega) | (simp <;> fail))); conv => whnf) | (refine ⟨_, rfl, ?_⟩; conv => whnf)))
  refine CallVC.auto rbyteF_k ⟨hs, ?_⟩
  rw [hA]
  (conv => whnf)
  (repeat (first | (exact Out.same; conv => whnf) | (exact Out1.same; conv => whnf) | (refine QAnd.mk ?_ ?_; conv => whnf) | (apply QStepH.go; conv => whnf) | (refine Both.lit_true ?_; conv => whnf) | (refine Both.lit_false ?_; conv => whnf) | (apply QStep.go; conv => whnf) | (refine Need.mk ?_ ?_; (focus (first | omega | exact ⟨by omega, by omega⟩ | rfl | exact ⟨rfl, rfl⟩ | exact ⟨rfl, by omega, by omega⟩ | exact ⟨by omega, by omega, by omega⟩ | exact ⟨rfl, Nat.le_of_ble_eq_true rfl⟩ | exact Nat.le_of_ble_eq_true rfl | (refine ⟨rfl, rfl, ?_⟩; simp [isFar, ofV0, CV.up, SV.renL, SV.ren] <;> fail) | (refine ⟨rfl, Nat.le_of_ble_eq_true rfl, ?_⟩; simp [isFar, ofV0, CV.up, SV.renL, SV.ren] <;> fail) | (simp only [List.length_append, List.length_drop, List.length_take, List.length_replicate, List.length_map]; omega) | (simp <;> fail))); conv => whnf) | (refine ⟨_, rfl, ?_⟩; conv => whnf)))
  refine CallVC.auto rbyteF_k ⟨s1, ?_⟩
  rw [hB]
  (conv => whnf)
  (repeat (first | (exact Out.same; conv => whnf) | (exact Out1.same; conv => whnf) | (refine QAnd.mk ?_ ?_; conv => whnf) | (apply QStepH.go; conv => whnf) | (refine Both.lit_true ?_; conv => whnf) | (refine Both.lit_false ?_; conv => whnf) | (apply QStep.go; conv => whnf) | (refine Need.mk ?_ ?_; (focus (first | omega | exact ⟨by omega, by omega⟩ | rfl | exact ⟨rfl, rfl⟩ | exact ⟨rfl, by omega, by omega⟩ | exact ⟨by omega, by omega, by omega⟩ | exact ⟨rfl, Nat.le_of_ble_eq_true rfl⟩ | exact Nat.le_of_ble_eq_true rfl | (refine ⟨rfl, rfl, ?_⟩; simp [isFar, ofV0, CV.up, SV.renL, SV.ren] <;> fail) | (refine ⟨rfl, Nat.le_of_ble_eq_true rfl, ?_⟩; simp [isFar, ofV0, CV.up, SV.renL, SV.ren] <;> fail) | (simp only [List.length_append, List.length_drop, List.length_take, List.length_replicate, List.length_map]; omega) | (simp <;> fail))); conv => whnf) | (refine ⟨_, rfl, ?_⟩; conv => whnf)))
  refine Both.dec (fun h1 => ?_) (fun h1 => ?_)
  · have h := h _ _ _ (parse_bad1 hA hB (.inl (by omega)))
    (conv => whnf)
    (repeat (first | (exact Out.same; conv => whnf) | (exact Out1.same; conv => whnf) | (refine QAnd.mk ?_ ?_; conv => whnf) | (apply QStepH.go; conv => whnf) | (refine Both.lit_true ?_; conv => whnf) | (refine Both.lit_false ?_; conv => whnf) | (apply QStep.go; conv => whnf) | (refine Need.mk ?_ ?_; (focus (first | omega | exact ⟨by omega, by omega⟩ | rfl | exact ⟨rfl, rfl⟩ | exact ⟨rfl, by omega, by omega⟩ | exact ⟨by omega, by omega, by omega⟩ | exact ⟨rfl, Nat.le_of_ble_eq_true rfl⟩ | exact Nat.le_of_ble_eq_true rfl | (refine ⟨rfl, rfl, ?_⟩; simp [isFar, ofV0, CV.up, SV.renL, SV.ren] <;> fail) | (refine ⟨rfl, Nat.le_of_ble_eq_true rfl, ?_⟩; simp [isFar, ofV0, CV.up, SV.renL, SV.ren] <;> fail) | (simp only [List.length_append, List.length_drop, List.length_take, List.length_replicate, List.length_map]; omega) | (simp <;> fail))); conv => whnf) | (refine ⟨_, rfl, ?_⟩; conv => whnf)))
    exact ⟨_, _, (WeakV.drop rfl).trans (WeakV.val fun E w v => vr_nil2 5), h⟩
  (conv => whnf)
  (repeat (first | (exact Out.same; conv => whnf) | (exact Out1.same; conv => whnf) | (refine QAnd.mk ?_ ?_; conv => whnf) | (apply QStepH.go; conv => whnf) | (refine Both.lit_true ?_; conv => whnf) | (refine Both.lit_false ?_; conv => whnf) | (apply QStep.go; conv => whnf) | (refine Need.mk ?_ ?_; (focus (first | omega | exact ⟨by omega, by omega⟩ | rfl | exact ⟨rfl, rfl⟩ | exact ⟨rfl, by omega, by omega⟩ | exact ⟨by omega, by omega, by omega⟩ | exact ⟨rfl, Nat.le_of_ble_eq_true rfl⟩ | exact Nat.le_of_ble_eq_true rfl | (refine ⟨rfl, rfl, ?_⟩; simp [isFar, ofV0, CV.up, SV.renL, SV.ren] <;> fail) | (refine ⟨rfl, Nat.le_of_ble_eq_true rfl, ?_⟩; simp [isFar, ofV0, CV.up, SV.renL, SV.ren] <;> fail) | (simp only [List.length_append, List.length_drop, List.length_take, List.length_replicate, List.length_map]; omega) | (simp <;> fail))); conv => whnf) | (refine ⟨_, rfl, ?_⟩; conv => whnf)))
  refine Both.dec (fun h2 => ?_) (fun h2 => ?_)
  · have h := h _ _ _ (parse_bad1 hA hB (.inr (.inl (by omega))))
    (conv => whnf)
    (repeat (first | (exact Out.same; conv => whnf) | (exact Out1.same; conv => whnf) | (refine QAnd.mk ?_ ?_; conv => whnf) | (apply QStepH.go; conv => whnf) | (refine Both.lit_true ?_; conv => whnf) | (refine Both.lit_false ?_; conv => whnf) | (apply QStep.go; conv => whnf) | (refine Need.mk ?_ ?_; (focus (first | omega | exact ⟨by omega, by omega⟩ | rfl | exact ⟨rfl, rfl⟩ | exact ⟨rfl, by omega, by omega⟩ | exact ⟨by omega, by omega, by omega⟩ | exact ⟨rfl, Nat.le_of_ble_eq_true rfl⟩ | exact Nat.le_of_ble_eq_true rfl | (refine ⟨rfl, rfl, ?_⟩; simp [isFar, ofV0, CV.up, SV.renL, SV.ren] <;> fail) | (refine ⟨rfl, Nat.le_of_ble_eq_true rfl, ?_⟩; simp [isFar, ofV0, CV.up, SV.renL, SV.ren] <;> fail) | (simp only [List.length_append, List.length_drop, List.length_take, List.length_replicate, List.length_map]; omega) | (simp <;> fail))); conv => whnf) | (refine ⟨_, rfl, ?_⟩; conv => whnf)))
    exact ⟨_, _, (WeakV.drop rfl).trans (WeakV.val fun E w v => vr_nil2 5), h⟩
  (conv => whnf)
  (repeat (first | (exact Out.same; conv => whnf) | (exact Out1.same; conv => whnf) | (refine QAnd.mk ?_ ?_; conv => whnf) | (apply QStepH.go; conv => whnf) | (refine Both.lit_true ?_; conv => whnf) | (refine Both.lit_false ?_; conv => whnf) | (apply QStep.go; conv => whnf) | (refine Need.mk ?_ ?_; (focus (first | omega | exact ⟨by omega, by omega⟩ | rfl | exact ⟨rfl, rfl⟩ | exact ⟨rfl, by omega, by omega⟩ | exact ⟨by omega, by omega, by omega⟩ | exact ⟨rfl, Nat.le_of_ble_eq_true rfl⟩ | exact Nat.le_of_ble_eq_true rfl | (refine ⟨rfl, rfl, ?_⟩; simp [isFar, ofV0, CV.up, SV.renL, SV.ren] <;> fail) | (refine ⟨rfl, Nat.le_of_ble_eq_true rfl, ?_⟩; simp [isFar, ofV0, CV.up, SV.renL, SV.ren] <;> fail) | (simp only [List.length_append, List.length_drop, List.length_take, List.length_replicate, List.length_map]; omega) | (simp <;> fail))); conv => whnf) | (refine ⟨_, rfl, ?_⟩; conv => whnf)))
  refine Both.dec (fun h3 => ?_) (fun h3 => ?_)
  · have h := h _ _ _ (parse_bad1 hA hB (.inr (.inr (by omega))))
    (conv => whnf)
    (repeat (first | (exact Out.same; conv => whnf) | (exact Out1.same; conv => whnf) | (refine QAnd.mk ?_ ?_; conv => whnf) | (apply QStepH.go; conv => whnf) | (refine Both.lit_true ?_; conv => whnf) | (refine Both.lit_false ?_; conv => whnf) | (apply QStep.go; conv => whnf) | (refine Need.mk ?_ ?_; (focus (first | omega | exact ⟨by omega, by omega⟩ | rfl | exact ⟨rfl, rfl⟩ | exact ⟨rfl, by omega, by omega⟩ | exact ⟨by omega, by omega, by omega⟩ | exact ⟨rfl, Nat.le_of_ble_eq_true rfl⟩ | exact Nat.le_of_ble_eq_true rfl | (refine ⟨rfl, rfl, ?_⟩; simp [isFar, ofV0, CV.up, SV.renL, SV.ren] <;> fail) | (refine ⟨rfl, Nat.le_of_ble_eq_true rfl, ?_⟩; simp [isFar, ofV0, CV.up, SV.renL, SV.ren] <;> fail) | (simp only [List.length_append, List.length_drop, List.length_take, List.length_replicate, List.length_map]; omega) | (simp <;> fail))); conv => whnf) | (refine ⟨_, rfl, ?_⟩; conv => whnf)))
    exact ⟨_, _, (WeakV.drop rfl).trans (WeakV.val fun E w v => vr_nil2 5), h⟩
  (conv => whnf)
  (repeat (first | (exact Out.same; conv => whnf) | (exact Out1.same; conv => whnf) | (refine QAnd.mk ?_ ?_; conv => whnf) | (apply QStepH.go; conv => whnf) | (refine Both.lit_true ?_; conv => whnf) | (refine Both.lit_false ?_; conv => whnf) | (apply QStep.go; conv => whnf) | (refine Need.mk ?_ ?_; (focus (first | omega | exact ⟨by omega, by omega⟩ | rfl | exact ⟨rfl, rfl⟩ | exact ⟨rfl, by omega, by omega⟩ | exact ⟨by omega, by omega, by omega⟩ | exact ⟨rfl, Nat.le_of_ble_eq_true rfl⟩ | exact Nat.le_of_ble_eq_true rfl | (refine ⟨rfl, rfl, ?_⟩; simp [isFar, ofV0, CV.up, SV.renL, SV.ren] <;> fail) | (refine ⟨rfl, Nat.le_of_ble_eq_true rfl, ?_⟩; simp [isFar, ofV0, CV.up, SV.renL, SV.ren] <;> fail) | (simp only [List.length_append, List.length_drop, List.length_take, List.length_replicate, List.length_map]; omega) | (simp <;> fail))); conv => whnf) | (refine ⟨_, rfl, ?_⟩; conv => whnf)))
  refine LoopVC.postWeak ?_
  refine loop_rule (fun x : Nat × Int × Bs × List Lf => match x with | (k, e, t, acc) => ⟨[.any, .any, .ptr 0 0, .any, .ptr 1 0, .any, .any, .ptr 2 0, .any, .any, .any, .any, .any, .any, .any, .any, .any, .any, .any, .any, .any, .any, .any, .any, .any, .any, .any, .any, .int .i64 (B.1 : Int), .int .i64 (k : Int), .any, .any, .any, .any, .any, .any, .any, .any, .any, .any, .any, .any, .any, .any], [.cells [.bool false, .nilsl] 29, .cells [.int .i64 e, .str t] 121, .cells [.bool (decide ((A.1 : Int) = 2)), .own 3] 29, .own 41 5 acc.length (flL acc) true]⟩) (fun x => match x with | (k, e, t, acc) => leavesF (B.1 - k) e t acc = R ∧ t.length < 1000000 ∧ acc.length = k ∧ k ≤ B.1) (fun x => match x with | (k, e, t, acc) => B.1 - k) (0, B.2.1, B.2.2, []) ⟨hR, s2, rfl, Nat.zero_le _⟩ ((Weak.ownNil 2 1 41 5 rfl rfl).trans (Weak.auto ?_)) ?_
  · (repeat' ((conv => whnf); first | exact True.intro | (refine And.intro ?_ ?_)))
    all_goals first | rfl | exact .eq rfl
  rintro ⟨k, e, t, acc⟩ ⟨hI, ht, hak, hkB⟩
  (refine sx_sound Γok _ ?_; conv => whnf)
  (repeat (first | (exact Out.same; conv => whnf) | (exact Out1.same; conv => whnf) | (refine QAnd.mk ?_ ?_; conv => whnf) | (apply QStepH.go; conv => whnf) | (refine Both.lit_true ?_; conv => whnf) | (refine Both.lit_false ?_; conv => whnf) | (apply QStep.go; conv => whnf) | (refine Need.mk ?_ ?_; (focus (first | omega | exact ⟨by omega, by omega⟩ | rfl | exact ⟨rfl, rfl⟩ | exact ⟨rfl, by omega, by omega⟩ | exact ⟨by omega, by omega, by omega⟩ | exact ⟨rfl, Nat.le_of_ble_eq_true rfl⟩ | exact Nat.le_of_ble_eq_true rfl | (refine ⟨rfl, rfl, ?_⟩; simp [isFar, ofV0, CV.up, SV.renL, SV.ren] <;> fail) | (refine ⟨rfl, Nat.le_of_ble_eq_true rfl, ?_⟩; simp [isFar, ofV0, CV.up, SV.renL, SV.ren] <;> fail) | (simp only [List.length_append, List.length_drop, List.length_take, List.length_replicate, List.length_map]; omega) | (simp <;> fail))); conv => whnf) | (refine ⟨_, rfl, ?_⟩; conv => whnf)))
  refine Both.dec (fun h4 => ?_) (fun h4 => ?_)
  · have hk1 : IntKind.i64.wrap ((k : Int) + 1) = ((k + 1 : Nat) : Int) := by rw [wrap_i64 (by omega) (by omega)]; rfl
    have hcap : (acc.length + 1) * ti41.bytes ≤ 140737488355328 := by
      show (acc.length + 1) * 72 ≤ _
      omega
    rw [show B.1 - k = (B.1 - (k + 1)) + 1 by omega, leavesF] at hI
    have hA2 : (leafF e t).2.2.length < 1000000 := Nat.lt_of_le_of_lt (leafF_len e t) ht
    have hB2 : (acc ++ [(leafF e t).1]).length = k + 1 := by rw [List.length_append, List.length_singleton, hak]
    have hC2 : k + 1 ≤ B.1 := by omega
    have hD2 : B.1 - (k + 1) < B.1 - k := by omega
    have end1 : LObj.own 41 5 (acc.length + 1) (flL acc ++ [.int .i64 (leafF e t).1.i, .int .i64 (leafF e t).1.c, .str (leafF e t).1.k, .str (leafF e t).1.v, .sl 1 (leafF e t).1.p.length (strs (leafF e t).1.p) false]) true = .own 41 5 (acc ++ [(leafF e t).1]).length (flL (acc ++ [(leafF e t).1])) true := by
      rw [flL_app, flL_one, List.length_append]
      rfl
    (conv => whnf)
    (refine DrawVC.any Γok (by kernel_rfl) (by kernel_rfl) (by kernel_rfl) (by rfl) ?_; conv => whnf)
    (repeat (first | (refine CallVC.auto leaf9_k (Need.mk ht ?_); conv => whnf) | (refine Need.mk hcap ?_; conv => whnf) | (exact Out.same; conv => whnf) | (exact Out1.same; conv => whnf) | (refine QAnd.mk ?_ ?_; conv => whnf) | (apply QStepH.go; conv => whnf) | (refine Both.lit_true ?_; conv => whnf) | (refine Both.lit_false ?_; conv => whnf) | (apply QStep.go; conv => whnf) | (refine Need.mk ?_ ?_; (focus (first | omega | exact ⟨by omega, by omega⟩ | rfl | exact ⟨rfl, rfl⟩ | exact ⟨rfl, by omega, by omega⟩ | exact ⟨by omega, by omega, by omega⟩ | exact ⟨rfl, Nat.le_of_ble_eq_true rfl⟩ | exact Nat.le_of_ble_eq_true rfl | (refine ⟨rfl, rfl, ?_⟩; simp [isFar, ofV0, CV.up, SV.renL, SV.ren] <;> fail) | (refine ⟨rfl, Nat.le_of_ble_eq_true rfl, ?_⟩; simp [isFar, ofV0, CV.up, SV.renL, SV.ren] <;> fail) | (simp only [List.length_append, List.length_drop, List.length_take, List.length_replicate, List.length_map]; omega) | (simp <;> fail))); conv => whnf) | (refine ⟨_, rfl, ?_⟩; conv => whnf)))
    refine ⟨(k + 1, (leafF e t).2.1, (leafF e t).2.2, acc ++ [(leafF e t).1]), ⟨hI, hA2, hB2, hC2⟩, hD2, Weak.auto ?_⟩
    (repeat' ((conv => whnf); first | exact True.intro | (refine And.intro ?_ ?_)))
    all_goals first | rfl | exact .eq rfl | exact congrArg (SV.int .i64) hk1 | exact end1 | exact .eq end1
  have hkB2 : k = B.1 := by omega
  rw [hkB2, Nat.sub_self, leavesF] at hI
  subst hI
  (conv => whnf)
  (repeat (first | (exact Out.same; conv => whnf) | (exact Out1.same; conv => whnf) | (refine QAnd.mk ?_ ?_; conv => whnf) | (apply QStepH.go; conv => whnf) | (refine Both.lit_true ?_; conv => whnf) | (refine Both.lit_false ?_; conv => whnf) | (apply QStep.go; conv => whnf) | (refine Need.mk ?_ ?_; (focus (first | omega | exact ⟨by omega, by omega⟩ | rfl | exact ⟨rfl, rfl⟩ | exact ⟨rfl, by omega, by omega⟩ | exact ⟨by omega, by omega, by omega⟩ | exact ⟨rfl, Nat.le_of_ble_eq_true rfl⟩ | exact Nat.le_of_ble_eq_true rfl | (refine ⟨rfl, rfl, ?_⟩; simp [isFar, ofV0, CV.up, SV.renL, SV.ren] <;> fail) | (refine ⟨rfl, Nat.le_of_ble_eq_true rfl, ?_⟩; simp [isFar, ofV0, CV.up, SV.renL, SV.ren] <;> fail) | (simp only [List.length_append, List.length_drop, List.length_take, List.length_replicate, List.length_map]; omega) | (simp <;> fail))); conv => whnf) | (refine ⟨_, rfl, ?_⟩; conv => whnf)))
  refine ⟨_, Weak.pub 3 2 rfl rfl, ?_⟩
  (conv => whnf)
  (repeat (first | (exact Out.same; conv => whnf) | (exact Out1.same; conv => whnf) | (refine QAnd.mk ?_ ?_; conv => whnf) | (apply QStepH.go; conv => whnf) | (refine Both.lit_true ?_; conv => whnf) | (refine Both.lit_false ?_; conv => whnf) | (apply QStep.go; conv => whnf) | (refine Need.mk ?_ ?_; (focus (first | omega | exact ⟨by omega, by omega⟩ | rfl | exact ⟨rfl, rfl⟩ | exact ⟨rfl, by omega, by omega⟩ | exact ⟨by omega, by omega, by omega⟩ | exact ⟨rfl, Nat.le_of_ble_eq_true rfl⟩ | exact Nat.le_of_ble_eq_true rfl | (refine ⟨rfl, rfl, ?_⟩; simp [isFar, ofV0, CV.up, SV.renL, SV.ren] <;> fail) | (refine ⟨rfl, Nat.le_of_ble_eq_true rfl, ?_⟩; simp [isFar, ofV0, CV.up, SV.renL, SV.ren] <;> fail) | (simp only [List.length_append, List.length_drop, List.length_take, List.length_replicate, List.length_map]; omega) | (simp <;> fail))); conv => whnf) | (refine ⟨_, rfl, ?_⟩; conv => whnf) | (refine CallVC.auto end_k ?_; conv => whnf)))
  refine Both.dec_not (fun h5 => ?_) (fun h5 => ?_)
  · have h := h _ _ _ (parse_bad2 hA hB hR h5)
    (conv => whnf)
    (repeat (first | (exact Out.same; conv => whnf) | (exact Out1.same; conv => whnf) | (refine QAnd.mk ?_ ?_; conv => whnf) | (apply QStepH.go; conv => whnf) | (refine Both.lit_true ?_; conv => whnf) | (refine Both.lit_false ?_; conv => whnf) | (apply QStep.go; conv => whnf) | (refine Need.mk ?_ ?_; (focus (first | omega | exact ⟨by omega, by omega⟩ | rfl | exact ⟨rfl, rfl⟩ | exact ⟨rfl, by omega, by omega⟩ | exact ⟨by omega, by omega, by omega⟩ | exact ⟨rfl, Nat.le_of_ble_eq_true rfl⟩ | exact Nat.le_of_ble_eq_true rfl | (refine ⟨rfl, rfl, ?_⟩; simp [isFar, ofV0, CV.up, SV.renL, SV.ren] <;> fail) | (refine ⟨rfl, Nat.le_of_ble_eq_true rfl, ?_⟩; simp [isFar, ofV0, CV.up, SV.renL, SV.ren] <;> fail) | (simp only [List.length_append, List.length_drop, List.length_take, List.length_replicate, List.length_map]; omega) | (simp <;> fail))); conv => whnf) | (refine ⟨_, rfl, ?_⟩; conv => whnf)))
    exact ⟨_, _, (WeakV.drop rfl).trans (WeakV.val fun E w v => vr_nil2 5), h⟩
  · have h := h _ _ _ (parse_ok hA hB hR (by omega) (by omega) (by omega) h5)
    (conv => whnf)
    (repeat (first | (refine Need.mk ⟨rfl, rfl, far2⟩ ?_; conv => whnf) | (exact Out.same; conv => whnf) | (exact Out1.same; conv => whnf) | (refine QAnd.mk ?_ ?_; conv => whnf) | (apply QStepH.go; conv => whnf) | (refine Both.lit_true ?_; conv => whnf) | (refine Both.lit_false ?_; conv => whnf) | (apply QStep.go; conv => whnf) | (refine Need.mk ?_ ?_; (focus (first | omega | exact ⟨by omega, by omega⟩ | rfl | exact ⟨rfl, rfl⟩ | exact ⟨rfl, by omega, by omega⟩ | exact ⟨by omega, by omega, by omega⟩ | exact ⟨rfl, Nat.le_of_ble_eq_true rfl⟩ | exact Nat.le_of_ble_eq_true rfl | (refine ⟨rfl, rfl, ?_⟩; simp [isFar, ofV0, CV.up, SV.renL, SV.ren] <;> fail) | (refine ⟨rfl, Nat.le_of_ble_eq_true rfl, ?_⟩; simp [isFar, ofV0, CV.up, SV.renL, SV.ren] <;> fail) | (simp only [List.length_append, List.length_drop, List.length_take, List.length_replicate, List.length_map]; omega) | (simp <;> fail))); conv => whnf) | (refine ⟨_, rfl, ?_⟩; conv => whnf)))
    exact ⟨_, _, WeakV.drop rfl, h⟩
theorem pparse_k : Contract Tryd.prog [] 16 pparseS := ⟨⟨⟨_, rfl, rfl, rfl⟩⟩, pparse_c⟩
end Go.LX
end
section
set_option maxRecDepth 100000
set_option maxHeartbeats 4000000
set_option autoImplicit false
set_option linter.unusedVariables false
set_option linter.unusedSimpArgs false
namespace Go.LX
open Go.Proofs

end Go.LX
end
section
set_option maxRecDepth 100000
set_option maxHeartbeats 4000000
set_option autoImplicit false
set_option linter.unusedVariables false
set_option linter.unusedSimpArgs false
namespace Go.LX
open Go.Proofs

structure Call where
  kind : Int
  k : Int
  n : BitVec 64
  s : List UInt8
end Go.LX
end
section
set_option maxRecDepth 100000
set_option maxHeartbeats 2000000
set_option autoImplicit false
set_option linter.unusedVariables false
set_option linter.unusedSimpArgs false
namespace Go.LX
open Go.Proofs

end Go.LX
end
section
set_option maxRecDepth 100000
set_option maxHeartbeats 2000000
set_option autoImplicit false
set_option linter.unusedVariables false
set_option linter.unusedSimpArgs false
namespace Go.LX
open Go.Proofs

end Go.LX
end
section
set_option maxRecDepth 100000
set_option maxHeartbeats 1000000
set_option autoImplicit false
set_option linter.unusedVariables false
set_option linter.unusedSimpArgs false
namespace Go.LX
open Go.Proofs Go.RowKit Go.ChangeShapes Go.WideShapes Go.ChangeAt
section
variable {H : Type} {enc : TypeId × Value → H} {W : World}
structure Lf.inR (x : Lf) : Prop where
  i : -9223372036854775808 ≤ x.i ∧ x.i ≤ 9223372036854775807
  c : -9223372036854775808 ≤ x.c ∧ x.c ≤ 9223372036854775807
  p : x.p.length ≤ 9223372036854775807
structure PrA where
  a : Bool
  L : List Lf
structure PrA.ok (r : PrA) : Prop where
  L : r.L.length ≤ 9223372036854775807
  p : ∀ x ∈ r.L, x.inR
end
end Go.LX
end
section
set_option maxRecDepth 100000
set_option maxHeartbeats 2000000
set_option autoImplicit false
set_option linter.unusedVariables false
set_option linter.unusedSimpArgs false
namespace Go.LX
open Go.Proofs

theorem parseV_cases (s : Bs) : (∃ a L, fitsX L ∧ bytesX a L = s ∧ parseV s = ((a, L), 0)) ∨ parseV s = ((false, []), 5) := by
  by_cases h : ∃ r : Bool × List Lf, fitsX r.2 ∧ bytesX r.1 r.2 = s
  · obtain ⟨⟨a, L⟩, hf, hr⟩ := h
    exact .inl ⟨a, L, hf, hr, parseV_yes hf hr⟩
  · exact .inr (parseV_no h)
theorem fits_sm {L : List Lf} (h : fitsX L) : L.length ≤ 1000000 ∧ L.length < 1000000 ∧ ∀ x ∈ L, x.p.length ≤ 9223372036854775807 := by
  have := h.1
  exact ⟨by omega, by omega, fun x hx => Nat.le_trans (h.2 x hx).p (by decide)⟩
theorem bytesX_len {a : Bool} {L : List Lf} (h : fitsX L) : (bytesX a L).length < 1000000 := by
  rw [← bytesK_all]
  exact Nat.lt_of_le_of_lt (bytesK_len a h.2 (Nat.le_refl _) h.1) (by decide)
end Go.LX
end
section
set_option maxRecDepth 100000
set_option maxHeartbeats 2000000
set_option autoImplicit false
set_option linter.unusedVariables false
set_option linter.unusedSimpArgs false
namespace Go.LX
open Go.Proofs

def goodC (root : Bs) (x : Lf) : Bool := (climbP (txLeaf (x.k, x.v)) x.i x.c x.p).2 && decide ((climbP (txLeaf (x.k, x.v)) x.i x.c x.p).1 = root)
def clb1S : Spec := fun args H Q => match args, H with
  | [.agg [.int .i64 i, .int .i64 c, .str k, .str v, .sl 1 n cs false], .ptr 0 0], [.cells [.str root] 9] => ∃ p : List Bs, cs = strs p ∧ n = p.length ∧ p.length < 1000000 ∧ k.length < 50000 ∧ v.length < 50000 ∧
      Q (.bool (!goodC root ⟨i, c, k, v, p⟩)) [.cells [.str root] 9]
  | _, _ => False
theorem clb1_c {y0 : CV} {cs0 : List CV} (hK : KAt y0 cs0) : Meets Tryd.prog [(0, y0 :: cs0)] 76 clb1S := by
  refine meets_of Γok Tryd.func76 rfl ?_
  intro args H Q h
  unfold clb1S at h
  split at h
  case h_2 => exact h.elim
  rename_i i c k v n cs root
  obtain ⟨p, rfl, rfl, hp, hk, hv, h⟩ := h
  unfold goodC at h
  dsimp only at h
  obtain ⟨X, hX⟩ : ∃ X, climbP (txLeaf (k, v)) i c p = X := ⟨_, rfl⟩
  rw [hX] at h
  (refine sx_sound Γok _ ?_; conv => whnf)
  (repeat (first | (exact Out.same; conv => whnf) | (exact Out1.same; conv => whnf) | (refine QAnd.mk ?_ ?_; conv => whnf) | (apply QStepH.go; conv => whnf) | (refine Both.lit_true ?_; conv => whnf) | (refine Both.lit_false ?_; conv => whnf) | (apply QStep.go; conv => whnf) | (refine Need.mk ?_ ?_; (focus (first | omega | exact ⟨by omega, by omega⟩ | rfl | exact ⟨rfl, rfl⟩ | exact ⟨rfl, by omega, by omega⟩ | exact ⟨by omega, by omega, by omega⟩ | exact ⟨rfl, Nat.le_of_ble_eq_true rfl⟩ | exact Nat.le_of_ble_eq_true rfl | (refine ⟨rfl, rfl, ?_⟩; simp [isFar, ofV0, CV.up, SV.renL, SV.ren] <;> fail) | (refine ⟨rfl, Nat.le_of_ble_eq_true rfl, ?_⟩; simp [isFar, ofV0, CV.up, SV.renL, SV.ren] <;> fail) | (simp only [List.length_append, List.length_drop, List.length_take, List.length_replicate, List.length_map]; omega) | (simp <;> fail))); conv => whnf) | (refine ⟨_, rfl, ?_⟩; conv => whnf)))
  refine CallVC.auto (climb_k hK) ⟨p, rfl, rfl, hp, hk, hv, ?_⟩
  rw [hX]
  cases hx2 : X.2 with
  | false =>
    rw [hx2] at h
    (conv => whnf)
    (repeat (first | (exact Out.same; conv => whnf) | (exact Out1.same; conv => whnf) | (refine QAnd.mk ?_ ?_; conv => whnf) | (apply QStepH.go; conv => whnf) | (refine Both.lit_true ?_; conv => whnf) | (refine Both.lit_false ?_; conv => whnf) | (apply QStep.go; conv => whnf) | (refine Need.mk ?_ ?_; (focus (first | omega | exact ⟨by omega, by omega⟩ | rfl | exact ⟨rfl, rfl⟩ | exact ⟨rfl, by omega, by omega⟩ | exact ⟨by omega, by omega, by omega⟩ | exact ⟨rfl, Nat.le_of_ble_eq_true rfl⟩ | exact Nat.le_of_ble_eq_true rfl | (refine ⟨rfl, rfl, ?_⟩; simp [isFar, ofV0, CV.up, SV.renL, SV.ren] <;> fail) | (refine ⟨rfl, Nat.le_of_ble_eq_true rfl, ?_⟩; simp [isFar, ofV0, CV.up, SV.renL, SV.ren] <;> fail) | (simp only [List.length_append, List.length_drop, List.length_take, List.length_replicate, List.length_map]; omega) | (simp <;> fail))); conv => whnf) | (refine ⟨_, rfl, ?_⟩; conv => whnf)))
    refine ⟨_, _, WeakV.auto ?_, h⟩
    (repeat' ((conv => whnf); first | exact True.intro | (refine And.intro ?_ ?_)))
    all_goals first | rfl | exact .eq rfl
  | true =>
    rw [hx2] at h
    have h : Q (.bool (!decide (X.1 = root))) [.cells [.str root] 9] := h
    (conv => whnf)
    (repeat (first | (exact Out.same; conv => whnf) | (exact Out1.same; conv => whnf) | (refine QAnd.mk ?_ ?_; conv => whnf) | (apply QStepH.go; conv => whnf) | (refine Both.lit_true ?_; conv => whnf) | (refine Both.lit_false ?_; conv => whnf) | (apply QStep.go; conv => whnf) | (refine Need.mk ?_ ?_; (focus (first | omega | exact ⟨by omega, by omega⟩ | rfl | exact ⟨rfl, rfl⟩ | exact ⟨rfl, by omega, by omega⟩ | exact ⟨by omega, by omega, by omega⟩ | exact ⟨rfl, Nat.le_of_ble_eq_true rfl⟩ | exact Nat.le_of_ble_eq_true rfl | (refine ⟨rfl, rfl, ?_⟩; simp [isFar, ofV0, CV.up, SV.renL, SV.ren] <;> fail) | (refine ⟨rfl, Nat.le_of_ble_eq_true rfl, ?_⟩; simp [isFar, ofV0, CV.up, SV.renL, SV.ren] <;> fail) | (simp only [List.length_append, List.length_drop, List.length_take, List.length_replicate, List.length_map]; omega) | (simp <;> fail))); conv => whnf) | (refine ⟨_, rfl, ?_⟩; conv => whnf)))
    refine ⟨_, _, WeakV.auto ?_, h⟩
    (repeat' ((conv => whnf); first | exact True.intro | (refine And.intro ?_ ?_)))
    all_goals first | rfl | exact .eq rfl
theorem clb1_k {y0 : CV} {cs0 : List CV} (hK : KAt y0 cs0) : Contract Tryd.prog [(0, y0 :: cs0)] 76 clb1S := ⟨⟨⟨_, rfl, rfl, rfl⟩⟩, clb1_c hK⟩
def idx3S : Spec := fun args H Q => match args, H with
  | [.sl 5 n cs f, .func (.func 76) [.ptr 0 0]], [.cells [.str root] 9] => ∃ L : List Lf, cs = flL L ∧ n = L.length ∧ L.length ≤ 1000000 ∧ (∀ x ∈ L, okLf x) ∧ ∀ r : Int, (0 ≤ r ↔ ¬ ∀ x ∈ L, goodC root x = true) → Q (.int .i64 r) [.cells [.str root] 9]
  | _, _ => False
theorem idx3_c {y0 : CV} {cs0 : List CV} (hK : KAt y0 cs0) : Meets Tryd.prog [(0, y0 :: cs0)] 56 idx3S := by
  refine meets_of Γok Tryd.func56 rfl ?_
  intro args H Q h
  unfold idx3S at h
  split at h
  case h_2 => exact h.elim
  rename_i n cs f root
  obtain ⟨L, rfl, rfl, hL, hok, h⟩ := h
  (refine sx_sound Γok _ ?_; conv => whnf)
  (repeat (first | (exact Out.same; conv => whnf) | (exact Out1.same; conv => whnf) | (refine QAnd.mk ?_ ?_; conv => whnf) | (apply QStepH.go; conv => whnf) | (refine Both.lit_true ?_; conv => whnf) | (refine Both.lit_false ?_; conv => whnf) | (apply QStep.go; conv => whnf) | (refine Need.mk ?_ ?_; (focus (first | omega | exact ⟨by omega, by omega⟩ | rfl | exact ⟨rfl, rfl⟩ | exact ⟨rfl, by omega, by omega⟩ | exact ⟨by omega, by omega, by omega⟩ | exact ⟨rfl, Nat.le_of_ble_eq_true rfl⟩ | exact Nat.le_of_ble_eq_true rfl | (refine ⟨rfl, rfl, ?_⟩; simp [isFar, ofV0, CV.up, SV.renL, SV.ren] <;> fail) | (refine ⟨rfl, Nat.le_of_ble_eq_true rfl, ?_⟩; simp [isFar, ofV0, CV.up, SV.renL, SV.ren] <;> fail) | (simp only [List.length_append, List.length_drop, List.length_take, List.length_replicate, List.length_map]; omega) | (simp <;> fail))); conv => whnf) | (refine ⟨_, rfl, ?_⟩; conv => whnf)))
  refine loop_rule (fun k : Nat => ⟨[.sl 5 L.length (flL L) f, .func (.func 76) [.ptr 0 0], .any, .any, .any, .any, .any, .int .i64 ((L.length : Nat) : Int), .int .i64 (k : Int), .any, .any, .any, .any, .any, .any, .any, .any, .any, .any], [.cells [.str root] 9]⟩) (fun k => k ≤ L.length ∧ ∀ j, j < k → goodC root (L.getD j lf0) = true) (fun k => L.length - k) 0 ⟨Nat.zero_le _, fun j hj => absurd hj (by omega)⟩ (Weak.auto ?_) ?_
  · (repeat' ((conv => whnf); first | exact True.intro | (refine And.intro ?_ ?_)))
    all_goals first | rfl | exact .eq rfl
  rintro k ⟨hk, hall⟩
  (refine sx_sound Γok _ ?_; conv => whnf)
  (repeat (first | (exact Out.same; conv => whnf) | (exact Out1.same; conv => whnf) | (refine QAnd.mk ?_ ?_; conv => whnf) | (apply QStepH.go; conv => whnf) | (refine Both.lit_true ?_; conv => whnf) | (refine Both.lit_false ?_; conv => whnf) | (apply QStep.go; conv => whnf) | (refine Need.mk ?_ ?_; (focus (first | omega | exact ⟨by omega, by omega⟩ | rfl | exact ⟨rfl, rfl⟩ | exact ⟨rfl, by omega, by omega⟩ | exact ⟨by omega, by omega, by omega⟩ | exact ⟨rfl, Nat.le_of_ble_eq_true rfl⟩ | exact Nat.le_of_ble_eq_true rfl | (refine ⟨rfl, rfl, ?_⟩; simp [isFar, ofV0, CV.up, SV.renL, SV.ren] <;> fail) | (refine ⟨rfl, Nat.le_of_ble_eq_true rfl, ?_⟩; simp [isFar, ofV0, CV.up, SV.renL, SV.ren] <;> fail) | (simp only [List.length_append, List.length_drop, List.length_take, List.length_replicate, List.length_map]; omega) | (simp <;> fail))); conv => whnf) | (refine ⟨_, rfl, ?_⟩; conv => whnf)))
  refine Both.dec (fun hlt => ?_) (fun hge => ?_)
  · have hkl : k < L.length := by omega
    have hat := flL_at L hkl lf0
    obtain ⟨x, hx⟩ : ∃ x, L.getD k lf0 = x := ⟨_, rfl⟩
    have hxg : L[k] = x := by rw [← hx, List.getD_eq_getElem?_getD, List.getElem?_eq_getElem hkl]; rfl
    have hxm : x ∈ L := by rw [← hxg]; exact List.getElem_mem hkl
    have hxo := hok x hxm
    have e1 := hxo.k
    have e2 := hxo.v
    have e3 := hxo.p
    have m1 : x.p.length < 1000000 := by omega
    have m2 : x.k.length < 50000 := by omega
    have m3 : x.v.length < 50000 := by omega
    rw [hx] at hat
    have hat : ((flL L).drop (((k : Nat) : Int).toNat * 5)).take 5 = [CV.int .i64 x.i, .int .i64 x.c, .str x.k, .str x.v, .sl 1 x.p.length (strs x.p) false] := hat
    have hix : ti41.size = 5 ∧ (0 : Int) ≤ (k : Int) ∧ (k : Int) < ((L.length : Nat) : Int) := ⟨rfl, by omega, by omega⟩
    have hk1 : IntKind.i64.wrap ((k : Int) + 1) = ((k + 1 : Nat) : Int) := by rw [wrap_i64 (by omega) (by omega)]; rfl
    cases hg : goodC root x with
    | true =>
      have c1 : (!goodC root ⟨x.i, x.c, x.k, x.v, x.p⟩) = false := by rw [show goodC root ⟨x.i, x.c, x.k, x.v, x.p⟩ = true from hg]; rfl
      have hnext : ∀ j, j < k + 1 → goodC root (L.getD j lf0) = true := fun j hj => by
        rcases Nat.lt_or_ge j k with q | q
        · exact hall j q
        · rw [show j = k by omega, hx]
          exact hg
      (conv => whnf)
      (repeat (first | (refine Need.mk hix ?_; conv => whnf) | (refine ⟨_, hat, ?_⟩; conv => whnf) | (refine CallClo.auto (clb1_k hK) ⟨x.p, rfl, rfl, m1, m2, m3, ?_⟩; conv => whnf) | (refine Both.of_false c1 ?_; conv => whnf) | (exact Out.same; conv => whnf) | (exact Out1.same; conv => whnf) | (refine QAnd.mk ?_ ?_; conv => whnf) | (apply QStepH.go; conv => whnf) | (refine Both.lit_true ?_; conv => whnf) | (refine Both.lit_false ?_; conv => whnf) | (apply QStep.go; conv => whnf) | (refine Need.mk ?_ ?_; (focus (first | omega | exact ⟨by omega, by omega⟩ | rfl | exact ⟨rfl, rfl⟩ | exact ⟨rfl, by omega, by omega⟩ | exact ⟨by omega, by omega, by omega⟩ | exact ⟨rfl, Nat.le_of_ble_eq_true rfl⟩ | exact Nat.le_of_ble_eq_true rfl | (refine ⟨rfl, rfl, ?_⟩; simp [isFar, ofV0, CV.up, SV.renL, SV.ren] <;> fail) | (refine ⟨rfl, Nat.le_of_ble_eq_true rfl, ?_⟩; simp [isFar, ofV0, CV.up, SV.renL, SV.ren] <;> fail) | (simp only [List.length_append, List.length_drop, List.length_take, List.length_replicate, List.length_map]; omega) | (simp <;> fail))); conv => whnf) | (refine ⟨_, rfl, ?_⟩; conv => whnf)))
      refine ⟨k + 1, ⟨hkl, hnext⟩, by omega, Weak.auto ?_⟩
      (repeat' ((conv => whnf); first | exact True.intro | (refine And.intro ?_ ?_)))
      all_goals first | rfl | exact .eq rfl | exact congrArg (SV.int .i64) hk1
    | false =>
      have c1 : (!goodC root ⟨x.i, x.c, x.k, x.v, x.p⟩) = true := by rw [show goodC root ⟨x.i, x.c, x.k, x.v, x.p⟩ = false from hg]; rfl
      have h := h (k : Int) ⟨fun _ q => (by rw [q x hxm] at hg; cases hg), fun _ => by omega⟩
      (conv => whnf)
      (repeat (first | (refine Need.mk hix ?_; conv => whnf) | (refine ⟨_, hat, ?_⟩; conv => whnf) | (refine CallClo.auto (clb1_k hK) ⟨x.p, rfl, rfl, m1, m2, m3, ?_⟩; conv => whnf) | (refine Both.of_true c1 ?_; conv => whnf) | (exact Out.same; conv => whnf) | (exact Out1.same; conv => whnf) | (refine QAnd.mk ?_ ?_; conv => whnf) | (apply QStepH.go; conv => whnf) | (refine Both.lit_true ?_; conv => whnf) | (refine Both.lit_false ?_; conv => whnf) | (apply QStep.go; conv => whnf) | (refine Need.mk ?_ ?_; (focus (first | omega | exact ⟨by omega, by omega⟩ | rfl | exact ⟨rfl, rfl⟩ | exact ⟨rfl, by omega, by omega⟩ | exact ⟨by omega, by omega, by omega⟩ | exact ⟨rfl, Nat.le_of_ble_eq_true rfl⟩ | exact Nat.le_of_ble_eq_true rfl | (refine ⟨rfl, rfl, ?_⟩; simp [isFar, ofV0, CV.up, SV.renL, SV.ren] <;> fail) | (refine ⟨rfl, Nat.le_of_ble_eq_true rfl, ?_⟩; simp [isFar, ofV0, CV.up, SV.renL, SV.ren] <;> fail) | (simp only [List.length_append, List.length_drop, List.length_take, List.length_replicate, List.length_map]; omega) | (simp <;> fail))); conv => whnf) | (refine ⟨_, rfl, ?_⟩; conv => whnf)))
      refine ⟨_, _, WeakV.auto ?_, h⟩
      (repeat' ((conv => whnf); first | exact True.intro | (refine And.intro ?_ ?_)))
      all_goals first | rfl | exact .eq rfl
  · have h := h (-1) ⟨fun q => absurd q (by decide), fun q => absurd (fun x hx => by
      obtain ⟨j, hj, rfl⟩ := List.mem_iff_getElem.1 hx
      have := hall j (by omega)
      rw [List.getD_eq_getElem?_getD, List.getElem?_eq_getElem hj] at this
      exact this) q⟩
    (conv => whnf)
    (repeat (first | (exact Out.same; conv => whnf) | (exact Out1.same; conv => whnf) | (refine QAnd.mk ?_ ?_; conv => whnf) | (apply QStepH.go; conv => whnf) | (refine Both.lit_true ?_; conv => whnf) | (refine Both.lit_false ?_; conv => whnf) | (apply QStep.go; conv => whnf) | (refine Need.mk ?_ ?_; (focus (first | omega | exact ⟨by omega, by omega⟩ | rfl | exact ⟨rfl, rfl⟩ | exact ⟨rfl, by omega, by omega⟩ | exact ⟨by omega, by omega, by omega⟩ | exact ⟨rfl, Nat.le_of_ble_eq_true rfl⟩ | exact Nat.le_of_ble_eq_true rfl | (refine ⟨rfl, rfl, ?_⟩; simp [isFar, ofV0, CV.up, SV.renL, SV.ren] <;> fail) | (refine ⟨rfl, Nat.le_of_ble_eq_true rfl, ?_⟩; simp [isFar, ofV0, CV.up, SV.renL, SV.ren] <;> fail) | (simp only [List.length_append, List.length_drop, List.length_take, List.length_replicate, List.length_map]; omega) | (simp <;> fail))); conv => whnf) | (refine ⟨_, rfl, ?_⟩; conv => whnf)))
    refine ⟨_, _, WeakV.auto ?_, h⟩
    (repeat' ((conv => whnf); first | exact True.intro | (refine And.intro ?_ ?_)))
    all_goals first | rfl | exact .eq rfl
theorem idx3_k {y0 : CV} {cs0 : List CV} (hK : KAt y0 cs0) : Contract Tryd.prog [(0, y0 :: cs0)] 56 idx3S := ⟨⟨⟨_, rfl, rfl, rfl⟩⟩, idx3_c hK⟩
def con3S : Spec := fun args H Q => match args, H with
  | [.sl 5 n cs f, .func (.func 76) [.ptr 0 0]], [.cells [.str root] 9] => ∃ L : List Lf, cs = flL L ∧ n = L.length ∧ L.length ≤ 1000000 ∧ (∀ x ∈ L, okLf x) ∧ Q (.bool (decide (¬ ∀ x ∈ L, goodC root x = true))) [.cells [.str root] 9]
  | _, _ => False
theorem con3_c {y0 : CV} {cs0 : List CV} (hK : KAt y0 cs0) : Meets Tryd.prog [(0, y0 :: cs0)] 28 con3S := by
  refine meets_of Γok Tryd.func28 rfl ?_
  intro args H Q h
  unfold con3S at h
  split at h
  case h_2 => exact h.elim
  rename_i n cs f root
  obtain ⟨L, rfl, rfl, hL, hok, h⟩ := h
  (refine sx_sound Γok _ ?_; conv => whnf)
  (repeat (first | (exact Out.same; conv => whnf) | (exact Out1.same; conv => whnf) | (refine QAnd.mk ?_ ?_; conv => whnf) | (apply QStepH.go; conv => whnf) | (refine Both.lit_true ?_; conv => whnf) | (refine Both.lit_false ?_; conv => whnf) | (apply QStep.go; conv => whnf) | (refine Need.mk ?_ ?_; (focus (first | omega | exact ⟨by omega, by omega⟩ | rfl | exact ⟨rfl, rfl⟩ | exact ⟨rfl, by omega, by omega⟩ | exact ⟨by omega, by omega, by omega⟩ | exact ⟨rfl, Nat.le_of_ble_eq_true rfl⟩ | exact Nat.le_of_ble_eq_true rfl | (refine ⟨rfl, rfl, ?_⟩; simp [isFar, ofV0, CV.up, SV.renL, SV.ren] <;> fail) | (refine ⟨rfl, Nat.le_of_ble_eq_true rfl, ?_⟩; simp [isFar, ofV0, CV.up, SV.renL, SV.ren] <;> fail) | (simp only [List.length_append, List.length_drop, List.length_take, List.length_replicate, List.length_map]; omega) | (simp <;> fail))); conv => whnf) | (refine ⟨_, rfl, ?_⟩; conv => whnf)))
  refine CallVC.auto (idx3_k hK) ⟨L, rfl, rfl, hL, hok, fun r hr => ?_⟩
  have e : decide (0 ≤ r) = decide (¬ ∀ x ∈ L, goodC root x = true) := decide_eq_decide.2 hr
  rw [← e] at h
  (conv => whnf)
  (repeat (first | (exact Out.same; conv => whnf) | (exact Out1.same; conv => whnf) | (refine QAnd.mk ?_ ?_; conv => whnf) | (apply QStepH.go; conv => whnf) | (refine Both.lit_true ?_; conv => whnf) | (refine Both.lit_false ?_; conv => whnf) | (apply QStep.go; conv => whnf) | (refine Need.mk ?_ ?_; (focus (first | omega | exact ⟨by omega, by omega⟩ | rfl | exact ⟨rfl, rfl⟩ | exact ⟨rfl, by omega, by omega⟩ | exact ⟨by omega, by omega, by omega⟩ | exact ⟨rfl, Nat.le_of_ble_eq_true rfl⟩ | exact Nat.le_of_ble_eq_true rfl | (refine ⟨rfl, rfl, ?_⟩; simp [isFar, ofV0, CV.up, SV.renL, SV.ren] <;> fail) | (refine ⟨rfl, Nat.le_of_ble_eq_true rfl, ?_⟩; simp [isFar, ofV0, CV.up, SV.renL, SV.ren] <;> fail) | (simp only [List.length_append, List.length_drop, List.length_take, List.length_replicate, List.length_map]; omega) | (simp <;> fail))); conv => whnf) | (refine ⟨_, rfl, ?_⟩; conv => whnf)))
  refine ⟨_, _, WeakV.auto ?_, h⟩
  (repeat' ((conv => whnf); first | exact True.intro | (refine And.intro ?_ ?_)))
  all_goals first | rfl | exact .eq rfl
theorem con3_k {y0 : CV} {cs0 : List CV} (hK : KAt y0 cs0) : Contract Tryd.prog [(0, y0 :: cs0)] 28 con3S := ⟨⟨⟨_, rfl, rfl, rfl⟩⟩, con3_c hK⟩
def climb9S : Spec := fun args H Q => match args, H with
  | [.str root, .sl 5 n cs f], [] => ∃ L : List Lf, cs = flL L ∧ n = L.length ∧ L.length ≤ 1000000 ∧ (∀ x ∈ L, okLf x) ∧ Q (.bool (decide (∀ x ∈ L, goodC root x = true))) []
  | _, _ => False
theorem climb9_c {y0 : CV} {cs0 : List CV} (hK : KAt y0 cs0) : Meets Tryd.prog [(0, y0 :: cs0)] 48 climb9S := by
  refine meets_of Γok Tryd.func48 rfl ?_
  intro args H Q h
  unfold climb9S at h
  split at h
  case h_2 => exact h.elim
  rename_i root n cs f
  obtain ⟨L, rfl, rfl, hL, hok, h⟩ := h
  have e : (!decide (¬ ∀ x ∈ L, goodC root x = true)) = decide (∀ x ∈ L, goodC root x = true) := by
    by_cases q : ∀ x ∈ L, goodC root x = true
    · rw [decide_eq_false (fun u => u q), decide_eq_true q]
      rfl
    · rw [decide_eq_true q, decide_eq_false q]
      rfl
  rw [← e] at h
  (refine sx_sound Γok _ ?_; conv => whnf)
  (repeat (first | (refine CallVC.auto (con3_k hK) ⟨L, rfl, rfl, hL, hok, ?_⟩; conv => whnf) | (exact Out.same; conv => whnf) | (exact Out1.same; conv => whnf) | (refine QAnd.mk ?_ ?_; conv => whnf) | (apply QStepH.go; conv => whnf) | (refine Both.lit_true ?_; conv => whnf) | (refine Both.lit_false ?_; conv => whnf) | (apply QStep.go; conv => whnf) | (refine Need.mk ?_ ?_; (focus (first | omega | exact ⟨by omega, by omega⟩ | rfl | exact ⟨rfl, rfl⟩ | exact ⟨rfl, by omega, by omega⟩ | exact ⟨by omega, by omega, by omega⟩ | exact ⟨rfl, Nat.le_of_ble_eq_true rfl⟩ | exact Nat.le_of_ble_eq_true rfl | (refine ⟨rfl, rfl, ?_⟩; simp [isFar, ofV0, CV.up, SV.renL, SV.ren] <;> fail) | (refine ⟨rfl, Nat.le_of_ble_eq_true rfl, ?_⟩; simp [isFar, ofV0, CV.up, SV.renL, SV.ren] <;> fail) | (simp only [List.length_append, List.length_drop, List.length_take, List.length_replicate, List.length_map]; omega) | (simp <;> fail))); conv => whnf) | (refine ⟨_, rfl, ?_⟩; conv => whnf)))
  exact ⟨_, _, WeakV.drop rfl, h⟩
theorem climb9_k {y0 : CV} {cs0 : List CV} (hK : KAt y0 cs0) : Contract Tryd.prog [(0, y0 :: cs0)] 48 climb9S := ⟨⟨⟨_, rfl, rfl, rfl⟩⟩, climb9_c hK⟩
end Go.LX
end
section
set_option maxRecDepth 100000
set_option maxHeartbeats 2000000
set_option autoImplicit false
set_option linter.unusedVariables false
set_option linter.unusedSimpArgs false
namespace Go.LX
open Go.Proofs

def hasP (root s key value : Bs) : Prop := ∃ x : Lf, parseV s = ((false, [x]), 0) ∧ (x.k = key ∧ x.v = value) ∧ goodC root x = true
open Classical in
def hasS : Spec := fun args H Q => match args, H with
  | [.str root, .str s, .str key, .str value], [] => s.length < 1000000 ∧ Q (.bool (decide (hasP root s key value))) []
  | _, _ => False
open Classical in
theorem has_c {y0 : CV} {cs0 : List CV} (hK : KAt y0 cs0) : Meets Tryd.prog [(0, y0 :: cs0)] 19 hasS := by
  refine meets_of Γok Tryd.func19 rfl ?_
  intro args H Q h
  unfold hasS at h
  split at h
  case h_2 => exact h.elim
  rename_i root s key value
  obtain ⟨hs, h⟩ := h
  have cz : decide ((0 : Int) = 0) = true := rfl
  have c5 : decide ((5 : Int) = 0) = false := rfl
  have hno : (¬ hasP root s key value) → Q (.bool false) [] := fun q => by rw [decide_eq_false q] at h; exact h
  have hyes : hasP root s key value → Q (.bool true) [] := fun q => by rw [decide_eq_true q] at h; exact h
  clear h
  rcases parseV_cases s with ⟨a, L, hf, hr, hp⟩ | hp
  case inr =>
    have h := hno (fun ⟨x, q, _⟩ => by
      have := (Prod.mk.inj (hp.symm.trans q)).2
      cases this)
    (refine sx_sound Γok _ ?_; conv => whnf)
    (repeat (first | (exact Out.same; conv => whnf) | (exact Out1.same; conv => whnf) | (refine QAnd.mk ?_ ?_; conv => whnf) | (apply QStepH.go; conv => whnf) | (refine Both.lit_true ?_; conv => whnf) | (refine Both.lit_false ?_; conv => whnf) | (apply QStep.go; conv => whnf) | (refine Need.mk ?_ ?_; (focus (first | omega | exact ⟨by omega, by omega⟩ | rfl | exact ⟨rfl, rfl⟩ | exact ⟨rfl, by omega, by omega⟩ | exact ⟨by omega, by omega, by omega⟩ | exact ⟨rfl, Nat.le_of_ble_eq_true rfl⟩ | exact Nat.le_of_ble_eq_true rfl | (refine ⟨rfl, rfl, ?_⟩; simp [isFar, ofV0, CV.up, SV.renL, SV.ren] <;> fail) | (refine ⟨rfl, Nat.le_of_ble_eq_true rfl, ?_⟩; simp [isFar, ofV0, CV.up, SV.renL, SV.ren] <;> fail) | (simp only [List.length_append, List.length_drop, List.length_take, List.length_replicate, List.length_map]; omega) | (simp <;> fail))); conv => whnf) | (refine ⟨_, rfl, ?_⟩; conv => whnf)))
    refine CallVC.auto pparse_k.gl ⟨hs, fun a1 L1 e1 h1 => ?_⟩
    obtain ⟨u1, u3⟩ := Prod.mk.inj (h1.symm.trans hp)
    obtain ⟨u1, u2⟩ := Prod.mk.inj u1
    clear h1
    subst u1 u2 u3
    (conv => whnf)
    (repeat (first | (refine Both.of_false c5 ?_; conv => whnf) | (exact Out.same; conv => whnf) | (exact Out1.same; conv => whnf) | (refine QAnd.mk ?_ ?_; conv => whnf) | (apply QStepH.go; conv => whnf) | (refine Both.lit_true ?_; conv => whnf) | (refine Both.lit_false ?_; conv => whnf) | (apply QStep.go; conv => whnf) | (refine Need.mk ?_ ?_; (focus (first | omega | exact ⟨by omega, by omega⟩ | rfl | exact ⟨rfl, rfl⟩ | exact ⟨rfl, by omega, by omega⟩ | exact ⟨by omega, by omega, by omega⟩ | exact ⟨rfl, Nat.le_of_ble_eq_true rfl⟩ | exact Nat.le_of_ble_eq_true rfl | (refine ⟨rfl, rfl, ?_⟩; simp [isFar, ofV0, CV.up, SV.renL, SV.ren] <;> fail) | (refine ⟨rfl, Nat.le_of_ble_eq_true rfl, ?_⟩; simp [isFar, ofV0, CV.up, SV.renL, SV.ren] <;> fail) | (simp only [List.length_append, List.length_drop, List.length_take, List.length_replicate, List.length_map]; omega) | (simp <;> fail))); conv => whnf) | (refine ⟨_, rfl, ?_⟩; conv => whnf)))
    exact ⟨_, _, WeakV.drop rfl, h⟩
  (refine sx_sound Γok _ ?_; conv => whnf)
  (repeat (first | (exact Out.same; conv => whnf) | (exact Out1.same; conv => whnf) | (refine QAnd.mk ?_ ?_; conv => whnf) | (apply QStepH.go; conv => whnf) | (refine Both.lit_true ?_; conv => whnf) | (refine Both.lit_false ?_; conv => whnf) | (apply QStep.go; conv => whnf) | (refine Need.mk ?_ ?_; (focus (first | omega | exact ⟨by omega, by omega⟩ | rfl | exact ⟨rfl, rfl⟩ | exact ⟨rfl, by omega, by omega⟩ | exact ⟨by omega, by omega, by omega⟩ | exact ⟨rfl, Nat.le_of_ble_eq_true rfl⟩ | exact Nat.le_of_ble_eq_true rfl | (refine ⟨rfl, rfl, ?_⟩; simp [isFar, ofV0, CV.up, SV.renL, SV.ren] <;> fail) | (refine ⟨rfl, Nat.le_of_ble_eq_true rfl, ?_⟩; simp [isFar, ofV0, CV.up, SV.renL, SV.ren] <;> fail) | (simp only [List.length_append, List.length_drop, List.length_take, List.length_replicate, List.length_map]; omega) | (simp <;> fail))); conv => whnf) | (refine ⟨_, rfl, ?_⟩; conv => whnf)))
  refine CallVC.auto pparse_k.gl ⟨hs, fun a1 L1 e1 h1 => ?_⟩
  obtain ⟨u1, u3⟩ := Prod.mk.inj (h1.symm.trans hp)
  obtain ⟨u1, u2⟩ := Prod.mk.inj u1
  clear h1
  subst u1 u2 u3
  cases a1 with
  | true =>
    have h := hno (fun ⟨x, q, _⟩ => by
      have := (Prod.mk.inj (Prod.mk.inj (hp.symm.trans q)).1).1
      cases this)
    (conv => whnf)
    (repeat (first | (refine Both.of_true cz ?_; conv => whnf) | (exact Out.same; conv => whnf) | (exact Out1.same; conv => whnf) | (refine QAnd.mk ?_ ?_; conv => whnf) | (apply QStepH.go; conv => whnf) | (refine Both.lit_true ?_; conv => whnf) | (refine Both.lit_false ?_; conv => whnf) | (apply QStep.go; conv => whnf) | (refine Need.mk ?_ ?_; (focus (first | omega | exact ⟨by omega, by omega⟩ | rfl | exact ⟨rfl, rfl⟩ | exact ⟨rfl, by omega, by omega⟩ | exact ⟨by omega, by omega, by omega⟩ | exact ⟨rfl, Nat.le_of_ble_eq_true rfl⟩ | exact Nat.le_of_ble_eq_true rfl | (refine ⟨rfl, rfl, ?_⟩; simp [isFar, ofV0, CV.up, SV.renL, SV.ren] <;> fail) | (refine ⟨rfl, Nat.le_of_ble_eq_true rfl, ?_⟩; simp [isFar, ofV0, CV.up, SV.renL, SV.ren] <;> fail) | (simp only [List.length_append, List.length_drop, List.length_take, List.length_replicate, List.length_map]; omega) | (simp <;> fail))); conv => whnf) | (refine ⟨_, rfl, ?_⟩; conv => whnf)))
    exact ⟨_, _, WeakV.drop rfl, h⟩
  | false =>
  by_cases hl : L1.length = 1
  case neg =>
    have cl : decide (((L1.length : Nat) : Int) = 1) = false := decide_eq_false (by omega)
    have h := hno (fun ⟨x, q, _⟩ => by
      have := (Prod.mk.inj (Prod.mk.inj (hp.symm.trans q)).1).2
      rw [this] at hl
      exact hl rfl)
    (conv => whnf)
    (repeat (first | (refine Both.of_true cz ?_; conv => whnf) | (refine Both.of_false cl ?_; conv => whnf) | (exact Out.same; conv => whnf) | (exact Out1.same; conv => whnf) | (refine QAnd.mk ?_ ?_; conv => whnf) | (apply QStepH.go; conv => whnf) | (refine Both.lit_true ?_; conv => whnf) | (refine Both.lit_false ?_; conv => whnf) | (apply QStep.go; conv => whnf) | (refine Need.mk ?_ ?_; (focus (first | omega | exact ⟨by omega, by omega⟩ | rfl | exact ⟨rfl, rfl⟩ | exact ⟨rfl, by omega, by omega⟩ | exact ⟨by omega, by omega, by omega⟩ | exact ⟨rfl, Nat.le_of_ble_eq_true rfl⟩ | exact Nat.le_of_ble_eq_true rfl | (refine ⟨rfl, rfl, ?_⟩; simp [isFar, ofV0, CV.up, SV.renL, SV.ren] <;> fail) | (refine ⟨rfl, Nat.le_of_ble_eq_true rfl, ?_⟩; simp [isFar, ofV0, CV.up, SV.renL, SV.ren] <;> fail) | (simp only [List.length_append, List.length_drop, List.length_take, List.length_replicate, List.length_map]; omega) | (simp <;> fail))); conv => whnf) | (refine ⟨_, rfl, ?_⟩; conv => whnf)))
    exact ⟨_, _, WeakV.drop rfl, h⟩
  obtain ⟨x, rfl⟩ : ∃ x, L1 = [x] := List.length_eq_one_iff.1 hl
  have hxo := hf.2 x (List.mem_singleton.2 rfl)
  have cl : decide (((([x] : List Lf).length : Nat) : Int) = 1) = true := rfl
  have hat : ((flL [x]).drop ((0 : Int).toNat * 5)).take 5 = [CV.int .i64 x.i, .int .i64 x.c, .str x.k, .str x.v, .sl 1 x.p.length (strs x.p) false] := rfl
  have hix : ti41.size = 5 ∧ (0 : Int) ≤ 0 ∧ (0 : Int) < ((([x] : List Lf).length : Nat) : Int) := ⟨rfl, by omega, by simp⟩
  have ho1 : ([x] : List Lf).length ≤ 1000000 := by show 1 ≤ 1000000; decide
  have hoA : ∀ z ∈ [x], okLf z := fun z hz => by rw [List.mem_singleton.1 hz]; exact hxo
  by_cases hkv : x.k = key ∧ x.v = value
  case neg =>
    have ck : (decide (x.k = key) && (decide (x.v = value) && true)) = false := by
      by_cases q1 : x.k = key
      · rw [decide_eq_false (fun q2 : x.v = value => hkv ⟨q1, q2⟩)]
        simp
      · rw [decide_eq_false q1]
        rfl
    have h := hno (fun ⟨z, q, q2, _⟩ => by
      have := (Prod.mk.inj (Prod.mk.inj (hp.symm.trans q)).1).2
      obtain rfl : x = z := by simpa using this
      exact hkv q2)
    (conv => whnf)
    (repeat (first | (refine Both.of_true cz ?_; conv => whnf) | (refine Both.of_true cl ?_; conv => whnf) | (refine Need.mk hix ?_; conv => whnf) | (refine ⟨_, hat, ?_⟩; conv => whnf) | (refine Both.of_false ck ?_; conv => whnf) | (exact Out.same; conv => whnf) | (exact Out1.same; conv => whnf) | (refine QAnd.mk ?_ ?_; conv => whnf) | (apply QStepH.go; conv => whnf) | (refine Both.lit_true ?_; conv => whnf) | (refine Both.lit_false ?_; conv => whnf) | (apply QStep.go; conv => whnf) | (refine Need.mk ?_ ?_; (focus (first | omega | exact ⟨by omega, by omega⟩ | rfl | exact ⟨rfl, rfl⟩ | exact ⟨rfl, by omega, by omega⟩ | exact ⟨by omega, by omega, by omega⟩ | exact ⟨rfl, Nat.le_of_ble_eq_true rfl⟩ | exact Nat.le_of_ble_eq_true rfl | (refine ⟨rfl, rfl, ?_⟩; simp [isFar, ofV0, CV.up, SV.renL, SV.ren] <;> fail) | (refine ⟨rfl, Nat.le_of_ble_eq_true rfl, ?_⟩; simp [isFar, ofV0, CV.up, SV.renL, SV.ren] <;> fail) | (simp only [List.length_append, List.length_drop, List.length_take, List.length_replicate, List.length_map]; omega) | (simp <;> fail))); conv => whnf) | (refine ⟨_, rfl, ?_⟩; conv => whnf)))
    exact ⟨_, _, WeakV.drop rfl, h⟩
  have ck : (decide (x.k = key) && (decide (x.v = value) && true)) = true := by rw [decide_eq_true hkv.1, decide_eq_true hkv.2]; rfl
  have hfin : Q (.bool (decide (∀ z ∈ [x], goodC root z = true))) [] := by
    by_cases hg : goodC root x = true
    · rw [decide_eq_true (show ∀ z ∈ [x], goodC root z = true from fun z hz => by rw [List.mem_singleton.1 hz]; exact hg)]
      exact hyes ⟨x, hp, hkv, hg⟩
    · rw [decide_eq_false (fun q : ∀ z ∈ [x], goodC root z = true => hg (q x (List.mem_singleton.2 rfl)))]
      exact hno (fun ⟨z, q, _, q3⟩ => by
        have := (Prod.mk.inj (Prod.mk.inj (hp.symm.trans q)).1).2
        obtain rfl : x = z := by simpa using this
        exact hg q3)
  (conv => whnf)
  (repeat (first | (refine Both.of_true cz ?_; conv => whnf) | (refine Both.of_true cl ?_; conv => whnf) | (refine Need.mk hix ?_; conv => whnf) | (refine ⟨_, hat, ?_⟩; conv => whnf) | (refine Both.of_true ck ?_; conv => whnf) | (exact Out.same; conv => whnf) | (exact Out1.same; conv => whnf) | (refine QAnd.mk ?_ ?_; conv => whnf) | (apply QStepH.go; conv => whnf) | (refine Both.lit_true ?_; conv => whnf) | (refine Both.lit_false ?_; conv => whnf) | (apply QStep.go; conv => whnf) | (refine Need.mk ?_ ?_; (focus (first | omega | exact ⟨by omega, by omega⟩ | rfl | exact ⟨rfl, rfl⟩ | exact ⟨rfl, by omega, by omega⟩ | exact ⟨by omega, by omega, by omega⟩ | exact ⟨rfl, Nat.le_of_ble_eq_true rfl⟩ | exact Nat.le_of_ble_eq_true rfl | (refine ⟨rfl, rfl, ?_⟩; simp [isFar, ofV0, CV.up, SV.renL, SV.ren] <;> fail) | (refine ⟨rfl, Nat.le_of_ble_eq_true rfl, ?_⟩; simp [isFar, ofV0, CV.up, SV.renL, SV.ren] <;> fail) | (simp only [List.length_append, List.length_drop, List.length_take, List.length_replicate, List.length_map]; omega) | (simp <;> fail))); conv => whnf) | (refine ⟨_, rfl, ?_⟩; conv => whnf)))
  refine CallVC.auto (climb9_k hK) ⟨[x], rfl, rfl, ho1, hoA, ?_⟩
  (conv => whnf)
  (repeat (first | (exact Out.same; conv => whnf) | (exact Out1.same; conv => whnf) | (refine QAnd.mk ?_ ?_; conv => whnf) | (apply QStepH.go; conv => whnf) | (refine Both.lit_true ?_; conv => whnf) | (refine Both.lit_false ?_; conv => whnf) | (apply QStep.go; conv => whnf) | (refine Need.mk ?_ ?_; (focus (first | omega | exact ⟨by omega, by omega⟩ | rfl | exact ⟨rfl, rfl⟩ | exact ⟨rfl, by omega, by omega⟩ | exact ⟨by omega, by omega, by omega⟩ | exact ⟨rfl, Nat.le_of_ble_eq_true rfl⟩ | exact Nat.le_of_ble_eq_true rfl | (refine ⟨rfl, rfl, ?_⟩; simp [isFar, ofV0, CV.up, SV.renL, SV.ren] <;> fail) | (refine ⟨rfl, Nat.le_of_ble_eq_true rfl, ?_⟩; simp [isFar, ofV0, CV.up, SV.renL, SV.ren] <;> fail) | (simp only [List.length_append, List.length_drop, List.length_take, List.length_replicate, List.length_map]; omega) | (simp <;> fail))); conv => whnf) | (refine ⟨_, rfl, ?_⟩; conv => whnf)))
  exact ⟨_, _, WeakV.drop rfl, hfin⟩
theorem has_k {y0 : CV} {cs0 : List CV} (hK : KAt y0 cs0) : Contract Tryd.prog [(0, y0 :: cs0)] 19 hasS := ⟨⟨⟨_, rfl, rfl, rfl⟩⟩, has_c hK⟩
def standL (root key : Bs) : List Lf → Prop
  | [] => root = shaD (rootX [])
  | [x] => (x.i = 0 ∧ lessS key x.k = true) ∨ (x.i = x.c - 1 ∧ lessS x.k key = true)
  | x :: y :: _ => (x.c = y.c ∧ x.i + 1 = y.i) ∧ lessS x.k key = true ∧ lessS key y.k = true
def lacksP (root s key : Bs) : Prop := (1 ≤ key.length ∧ key.length ≤ 16) ∧ ∃ L : List Lf, parseV s = ((true, L), 0) ∧ (∀ x ∈ L, goodC root x = true) ∧ standL root key L
open Classical in
def lacksS : Spec := fun args H Q => match args, H with
  | [.str root, .str s, .str key], [] => s.length < 1000000 ∧ Q (.bool (decide (lacksP root s key))) []
  | _, _ => False
open Classical in
theorem lacks_c {y0 : CV} {cs0 : List CV} (hK : KAt y0 cs0) : Meets Tryd.prog [(0, y0 :: cs0)] 20 lacksS := by
  refine meets_of Γok Tryd.func20 rfl ?_
  intro args H Q h
  unfold lacksS at h
  split at h
  case h_2 => exact h.elim
  rename_i root s key
  obtain ⟨hs, h⟩ := h
  have cz : (!decide ((0 : Int) = 0)) = false := rfl
  have c5 : (!decide ((5 : Int) = 0)) = true := rfl
  have hno : (¬ lacksP root s key) → Q (.bool false) [] := fun q => by rw [decide_eq_false q] at h; exact h
  have hval : ∀ b : Bool, (b = true ↔ lacksP root s key) → Q (.bool b) [] := fun b q => by
    have e : b = decide (lacksP root s key) := by
      cases b with
      | true => exact (decide_eq_true (q.1 rfl)).symm
      | false => exact (decide_eq_false (fun u => by cases q.2 u)).symm
    rw [e]
    exact h
  clear h
  rcases parseV_cases s with ⟨a, L, hf, hr, hp⟩ | hp
  case inr =>
    have h := hno (fun ⟨_, L, q, _⟩ => by
      have := (Prod.mk.inj (hp.symm.trans q)).2
      cases this)
    (refine sx_sound Γok _ ?_; conv => whnf)
    (repeat (first | (exact Out.same; conv => whnf) | (exact Out1.same; conv => whnf) | (refine QAnd.mk ?_ ?_; conv => whnf) | (apply QStepH.go; conv => whnf) | (refine Both.lit_true ?_; conv => whnf) | (refine Both.lit_false ?_; conv => whnf) | (apply QStep.go; conv => whnf) | (refine Need.mk ?_ ?_; (focus (first | omega | exact ⟨by omega, by omega⟩ | rfl | exact ⟨rfl, rfl⟩ | exact ⟨rfl, by omega, by omega⟩ | exact ⟨by omega, by omega, by omega⟩ | exact ⟨rfl, Nat.le_of_ble_eq_true rfl⟩ | exact Nat.le_of_ble_eq_true rfl | (refine ⟨rfl, rfl, ?_⟩; simp [isFar, ofV0, CV.up, SV.renL, SV.ren] <;> fail) | (refine ⟨rfl, Nat.le_of_ble_eq_true rfl, ?_⟩; simp [isFar, ofV0, CV.up, SV.renL, SV.ren] <;> fail) | (simp only [List.length_append, List.length_drop, List.length_take, List.length_replicate, List.length_map]; omega) | (simp <;> fail))); conv => whnf) | (refine ⟨_, rfl, ?_⟩; conv => whnf)))
    refine CallVC.auto pparse_k.gl ⟨hs, fun a1 L1 e1 h1 => ?_⟩
    obtain ⟨u1, u3⟩ := Prod.mk.inj (h1.symm.trans hp)
    obtain ⟨u1, u2⟩ := Prod.mk.inj u1
    clear h1
    subst u1 u2 u3
    (conv => whnf)
    (repeat (first | (refine Both.of_true c5 ?_; conv => whnf) | (exact Out.same; conv => whnf) | (exact Out1.same; conv => whnf) | (refine QAnd.mk ?_ ?_; conv => whnf) | (apply QStepH.go; conv => whnf) | (refine Both.lit_true ?_; conv => whnf) | (refine Both.lit_false ?_; conv => whnf) | (apply QStep.go; conv => whnf) | (refine Need.mk ?_ ?_; (focus (first | omega | exact ⟨by omega, by omega⟩ | rfl | exact ⟨rfl, rfl⟩ | exact ⟨rfl, by omega, by omega⟩ | exact ⟨by omega, by omega, by omega⟩ | exact ⟨rfl, Nat.le_of_ble_eq_true rfl⟩ | exact Nat.le_of_ble_eq_true rfl | (refine ⟨rfl, rfl, ?_⟩; simp [isFar, ofV0, CV.up, SV.renL, SV.ren] <;> fail) | (refine ⟨rfl, Nat.le_of_ble_eq_true rfl, ?_⟩; simp [isFar, ofV0, CV.up, SV.renL, SV.ren] <;> fail) | (simp only [List.length_append, List.length_drop, List.length_take, List.length_replicate, List.length_map]; omega) | (simp <;> fail))); conv => whnf) | (refine ⟨_, rfl, ?_⟩; conv => whnf)))
    exact ⟨_, _, WeakV.drop rfl, h⟩
  (refine sx_sound Γok _ ?_; conv => whnf)
  (repeat (first | (exact Out.same; conv => whnf) | (exact Out1.same; conv => whnf) | (refine QAnd.mk ?_ ?_; conv => whnf) | (apply QStepH.go; conv => whnf) | (refine Both.lit_true ?_; conv => whnf) | (refine Both.lit_false ?_; conv => whnf) | (apply QStep.go; conv => whnf) | (refine Need.mk ?_ ?_; (focus (first | omega | exact ⟨by omega, by omega⟩ | rfl | exact ⟨rfl, rfl⟩ | exact ⟨rfl, by omega, by omega⟩ | exact ⟨by omega, by omega, by omega⟩ | exact ⟨rfl, Nat.le_of_ble_eq_true rfl⟩ | exact Nat.le_of_ble_eq_true rfl | (refine ⟨rfl, rfl, ?_⟩; simp [isFar, ofV0, CV.up, SV.renL, SV.ren] <;> fail) | (refine ⟨rfl, Nat.le_of_ble_eq_true rfl, ?_⟩; simp [isFar, ofV0, CV.up, SV.renL, SV.ren] <;> fail) | (simp only [List.length_append, List.length_drop, List.length_take, List.length_replicate, List.length_map]; omega) | (simp <;> fail))); conv => whnf) | (refine ⟨_, rfl, ?_⟩; conv => whnf)))
  refine CallVC.auto pparse_k.gl ⟨hs, fun a1 L1 e1 h1 => ?_⟩
  obtain ⟨u1, u3⟩ := Prod.mk.inj (h1.symm.trans hp)
  obtain ⟨u1, u2⟩ := Prod.mk.inj u1
  clear h1
  subst u1 u2 u3
  cases a1 with
  | false =>
    have h := hno (fun ⟨_, L, q, _⟩ => by
      have := (Prod.mk.inj (Prod.mk.inj (hp.symm.trans q)).1).1
      cases this)
    (conv => whnf)
    (repeat (first | (refine Both.of_false cz ?_; conv => whnf) | (exact Out.same; conv => whnf) | (exact Out1.same; conv => whnf) | (refine QAnd.mk ?_ ?_; conv => whnf) | (apply QStepH.go; conv => whnf) | (refine Both.lit_true ?_; conv => whnf) | (refine Both.lit_false ?_; conv => whnf) | (apply QStep.go; conv => whnf) | (refine Need.mk ?_ ?_; (focus (first | omega | exact ⟨by omega, by omega⟩ | rfl | exact ⟨rfl, rfl⟩ | exact ⟨rfl, by omega, by omega⟩ | exact ⟨by omega, by omega, by omega⟩ | exact ⟨rfl, Nat.le_of_ble_eq_true rfl⟩ | exact Nat.le_of_ble_eq_true rfl | (refine ⟨rfl, rfl, ?_⟩; simp [isFar, ofV0, CV.up, SV.renL, SV.ren] <;> fail) | (refine ⟨rfl, Nat.le_of_ble_eq_true rfl, ?_⟩; simp [isFar, ofV0, CV.up, SV.renL, SV.ren] <;> fail) | (simp only [List.length_append, List.length_drop, List.length_take, List.length_replicate, List.length_map]; omega) | (simp <;> fail))); conv => whnf) | (refine ⟨_, rfl, ?_⟩; conv => whnf)))
    exact ⟨_, _, WeakV.drop rfl, h⟩
  | true =>
  have hLu : ∀ L, parseV s = ((true, L), 0) → L1 = L := fun L q => (Prod.mk.inj (Prod.mk.inj (hp.symm.trans q)).1).2
  (conv => whnf)
  (repeat (first | (refine Both.of_false cz ?_; conv => whnf) | (exact Out.same; conv => whnf) | (exact Out1.same; conv => whnf) | (refine QAnd.mk ?_ ?_; conv => whnf) | (apply QStepH.go; conv => whnf) | (refine Both.lit_true ?_; conv => whnf) | (refine Both.lit_false ?_; conv => whnf) | (apply QStep.go; conv => whnf) | (refine Need.mk ?_ ?_; (focus (first | omega | exact ⟨by omega, by omega⟩ | rfl | exact ⟨rfl, rfl⟩ | exact ⟨rfl, by omega, by omega⟩ | exact ⟨by omega, by omega, by omega⟩ | exact ⟨rfl, Nat.le_of_ble_eq_true rfl⟩ | exact Nat.le_of_ble_eq_true rfl | (refine ⟨rfl, rfl, ?_⟩; simp [isFar, ofV0, CV.up, SV.renL, SV.ren] <;> fail) | (refine ⟨rfl, Nat.le_of_ble_eq_true rfl, ?_⟩; simp [isFar, ofV0, CV.up, SV.renL, SV.ren] <;> fail) | (simp only [List.length_append, List.length_drop, List.length_take, List.length_replicate, List.length_map]; omega) | (simp <;> fail))); conv => whnf) | (refine ⟨_, rfl, ?_⟩; conv => whnf)))
  refine Both.dec (fun k1 => ?_) (fun k1 => ?_)
  · have h := hno (fun q => by have := q.1; omega)
    (conv => whnf)
    (repeat (first | (exact Out.same; conv => whnf) | (exact Out1.same; conv => whnf) | (refine QAnd.mk ?_ ?_; conv => whnf) | (apply QStepH.go; conv => whnf) | (refine Both.lit_true ?_; conv => whnf) | (refine Both.lit_false ?_; conv => whnf) | (apply QStep.go; conv => whnf) | (refine Need.mk ?_ ?_; (focus (first | omega | exact ⟨by omega, by omega⟩ | rfl | exact ⟨rfl, rfl⟩ | exact ⟨rfl, by omega, by omega⟩ | exact ⟨by omega, by omega, by omega⟩ | exact ⟨rfl, Nat.le_of_ble_eq_true rfl⟩ | exact Nat.le_of_ble_eq_true rfl | (refine ⟨rfl, rfl, ?_⟩; simp [isFar, ofV0, CV.up, SV.renL, SV.ren] <;> fail) | (refine ⟨rfl, Nat.le_of_ble_eq_true rfl, ?_⟩; simp [isFar, ofV0, CV.up, SV.renL, SV.ren] <;> fail) | (simp only [List.length_append, List.length_drop, List.length_take, List.length_replicate, List.length_map]; omega) | (simp <;> fail))); conv => whnf) | (refine ⟨_, rfl, ?_⟩; conv => whnf)))
    exact ⟨_, _, WeakV.drop rfl, h⟩
  (conv => whnf)
  (repeat (first | (exact Out.same; conv => whnf) | (exact Out1.same; conv => whnf) | (refine QAnd.mk ?_ ?_; conv => whnf) | (apply QStepH.go; conv => whnf) | (refine Both.lit_true ?_; conv => whnf) | (refine Both.lit_false ?_; conv => whnf) | (apply QStep.go; conv => whnf) | (refine Need.mk ?_ ?_; (focus (first | omega | exact ⟨by omega, by omega⟩ | rfl | exact ⟨rfl, rfl⟩ | exact ⟨rfl, by omega, by omega⟩ | exact ⟨by omega, by omega, by omega⟩ | exact ⟨rfl, Nat.le_of_ble_eq_true rfl⟩ | exact Nat.le_of_ble_eq_true rfl | (refine ⟨rfl, rfl, ?_⟩; simp [isFar, ofV0, CV.up, SV.renL, SV.ren] <;> fail) | (refine ⟨rfl, Nat.le_of_ble_eq_true rfl, ?_⟩; simp [isFar, ofV0, CV.up, SV.renL, SV.ren] <;> fail) | (simp only [List.length_append, List.length_drop, List.length_take, List.length_replicate, List.length_map]; omega) | (simp <;> fail))); conv => whnf) | (refine ⟨_, rfl, ?_⟩; conv => whnf)))
  refine Both.dec (fun k2 => ?_) (fun k2 => ?_)
  · have h := hno (fun q => by have := q.1; omega)
    (conv => whnf)
    (repeat (first | (exact Out.same; conv => whnf) | (exact Out1.same; conv => whnf) | (refine QAnd.mk ?_ ?_; conv => whnf) | (apply QStepH.go; conv => whnf) | (refine Both.lit_true ?_; conv => whnf) | (refine Both.lit_false ?_; conv => whnf) | (apply QStep.go; conv => whnf) | (refine Need.mk ?_ ?_; (focus (first | omega | exact ⟨by omega, by omega⟩ | rfl | exact ⟨rfl, rfl⟩ | exact ⟨rfl, by omega, by omega⟩ | exact ⟨by omega, by omega, by omega⟩ | exact ⟨rfl, Nat.le_of_ble_eq_true rfl⟩ | exact Nat.le_of_ble_eq_true rfl | (refine ⟨rfl, rfl, ?_⟩; simp [isFar, ofV0, CV.up, SV.renL, SV.ren] <;> fail) | (refine ⟨rfl, Nat.le_of_ble_eq_true rfl, ?_⟩; simp [isFar, ofV0, CV.up, SV.renL, SV.ren] <;> fail) | (simp only [List.length_append, List.length_drop, List.length_take, List.length_replicate, List.length_map]; omega) | (simp <;> fail))); conv => whnf) | (refine ⟨_, rfl, ?_⟩; conv => whnf)))
    exact ⟨_, _, WeakV.drop rfl, h⟩
  have hkl : 1 ≤ key.length ∧ key.length ≤ 16 := by omega
  (conv => whnf)
  (repeat (first | (exact Out.same; conv => whnf) | (exact Out1.same; conv => whnf) | (refine QAnd.mk ?_ ?_; conv => whnf) | (apply QStepH.go; conv => whnf) | (refine Both.lit_true ?_; conv => whnf) | (refine Both.lit_false ?_; conv => whnf) | (apply QStep.go; conv => whnf) | (refine Need.mk ?_ ?_; (focus (first | omega | exact ⟨by omega, by omega⟩ | rfl | exact ⟨rfl, rfl⟩ | exact ⟨rfl, by omega, by omega⟩ | exact ⟨by omega, by omega, by omega⟩ | exact ⟨rfl, Nat.le_of_ble_eq_true rfl⟩ | exact Nat.le_of_ble_eq_true rfl | (refine ⟨rfl, rfl, ?_⟩; simp [isFar, ofV0, CV.up, SV.renL, SV.ren] <;> fail) | (refine ⟨rfl, Nat.le_of_ble_eq_true rfl, ?_⟩; simp [isFar, ofV0, CV.up, SV.renL, SV.ren] <;> fail) | (simp only [List.length_append, List.length_drop, List.length_take, List.length_replicate, List.length_map]; omega) | (simp <;> fail))); conv => whnf) | (refine ⟨_, rfl, ?_⟩; conv => whnf)))
  refine CallVC.auto (climb9_k hK) ⟨L1, rfl, rfl, (fits_sm hf).1, hf.2, ?_⟩
  by_cases hall : ∀ x ∈ L1, goodC root x = true
  case neg =>
    have ca : (!decide (∀ x ∈ L1, goodC root x = true)) = true := by rw [decide_eq_false hall]; rfl
    have h := hno (fun ⟨_, L, q, q2, _⟩ => hall (by rw [hLu L q]; exact q2))
    (conv => whnf)
    (repeat (first | (refine Both.of_true ca ?_; conv => whnf) | (exact Out.same; conv => whnf) | (exact Out1.same; conv => whnf) | (refine QAnd.mk ?_ ?_; conv => whnf) | (apply QStepH.go; conv => whnf) | (refine Both.lit_true ?_; conv => whnf) | (refine Both.lit_false ?_; conv => whnf) | (apply QStep.go; conv => whnf) | (refine Need.mk ?_ ?_; (focus (first | omega | exact ⟨by omega, by omega⟩ | rfl | exact ⟨rfl, rfl⟩ | exact ⟨rfl, by omega, by omega⟩ | exact ⟨by omega, by omega, by omega⟩ | exact ⟨rfl, Nat.le_of_ble_eq_true rfl⟩ | exact Nat.le_of_ble_eq_true rfl | (refine ⟨rfl, rfl, ?_⟩; simp [isFar, ofV0, CV.up, SV.renL, SV.ren] <;> fail) | (refine ⟨rfl, Nat.le_of_ble_eq_true rfl, ?_⟩; simp [isFar, ofV0, CV.up, SV.renL, SV.ren] <;> fail) | (simp only [List.length_append, List.length_drop, List.length_take, List.length_replicate, List.length_map]; omega) | (simp <;> fail))); conv => whnf) | (refine ⟨_, rfl, ?_⟩; conv => whnf)))
    exact ⟨_, _, WeakV.drop rfl, h⟩
  have ca : (!decide (∀ x ∈ L1, goodC root x = true)) = false := by rw [decide_eq_true hall]; rfl
  have hfin : ∀ b : Bool, (b = true ↔ standL root key L1) → Q (.bool b) [] := fun b q => hval b (q.trans ⟨fun u => ⟨hkl, L1, hp, hall, u⟩, fun ⟨_, L, v, _, u⟩ => by rw [hLu L v]; exact u⟩)
  clear hno hval
  have hlen := hf.1
  (conv => whnf)
  (repeat (first | (refine Both.of_false ca ?_; conv => whnf) | (exact Out.same; conv => whnf) | (exact Out1.same; conv => whnf) | (refine QAnd.mk ?_ ?_; conv => whnf) | (apply QStepH.go; conv => whnf) | (refine Both.lit_true ?_; conv => whnf) | (refine Both.lit_false ?_; conv => whnf) | (apply QStep.go; conv => whnf) | (refine Need.mk ?_ ?_; (focus (first | omega | exact ⟨by omega, by omega⟩ | rfl | exact ⟨rfl, rfl⟩ | exact ⟨rfl, by omega, by omega⟩ | exact ⟨by omega, by omega, by omega⟩ | exact ⟨rfl, Nat.le_of_ble_eq_true rfl⟩ | exact Nat.le_of_ble_eq_true rfl | (refine ⟨rfl, rfl, ?_⟩; simp [isFar, ofV0, CV.up, SV.renL, SV.ren] <;> fail) | (refine ⟨rfl, Nat.le_of_ble_eq_true rfl, ?_⟩; simp [isFar, ofV0, CV.up, SV.renL, SV.ren] <;> fail) | (simp only [List.length_append, List.length_drop, List.length_take, List.length_replicate, List.length_map]; omega) | (simp <;> fail))); conv => whnf) | (refine ⟨_, rfl, ?_⟩; conv => whnf)))
  match L1, hlen, hf, hfin with
  | [], _, _, hfin =>
    have c0 : decide (((([] : List Lf).length : Nat) : Int) = 0) = true := rfl
    have hfin := hfin (decide (root = shaD (topX 0 []))) (by
      show _ ↔ root = shaD (rootX [])
      exact ⟨fun u => of_decide_eq_true u, fun u => decide_eq_true u⟩)
    (conv => whnf)
    (repeat (first | (refine Both.of_true c0 ?_; conv => whnf) | (exact Out.same; conv => whnf) | (exact Out1.same; conv => whnf) | (refine QAnd.mk ?_ ?_; conv => whnf) | (apply QStepH.go; conv => whnf) | (refine Both.lit_true ?_; conv => whnf) | (refine Both.lit_false ?_; conv => whnf) | (apply QStep.go; conv => whnf) | (refine Need.mk ?_ ?_; (focus (first | omega | exact ⟨by omega, by omega⟩ | rfl | exact ⟨rfl, rfl⟩ | exact ⟨rfl, by omega, by omega⟩ | exact ⟨by omega, by omega, by omega⟩ | exact ⟨rfl, Nat.le_of_ble_eq_true rfl⟩ | exact Nat.le_of_ble_eq_true rfl | (refine ⟨rfl, rfl, ?_⟩; simp [isFar, ofV0, CV.up, SV.renL, SV.ren] <;> fail) | (refine ⟨rfl, Nat.le_of_ble_eq_true rfl, ?_⟩; simp [isFar, ofV0, CV.up, SV.renL, SV.ren] <;> fail) | (simp only [List.length_append, List.length_drop, List.length_take, List.length_replicate, List.length_map]; omega) | (simp <;> fail))); conv => whnf) | (refine ⟨_, rfl, ?_⟩; conv => whnf)))
    refine CallVC.auto (mroot_k hK) ?_
    (conv => whnf)
    (repeat (first | (exact Out.same; conv => whnf) | (exact Out1.same; conv => whnf) | (refine QAnd.mk ?_ ?_; conv => whnf) | (apply QStepH.go; conv => whnf) | (refine Both.lit_true ?_; conv => whnf) | (refine Both.lit_false ?_; conv => whnf) | (apply QStep.go; conv => whnf) | (refine Need.mk ?_ ?_; (focus (first | omega | exact ⟨by omega, by omega⟩ | rfl | exact ⟨rfl, rfl⟩ | exact ⟨rfl, by omega, by omega⟩ | exact ⟨by omega, by omega, by omega⟩ | exact ⟨rfl, Nat.le_of_ble_eq_true rfl⟩ | exact Nat.le_of_ble_eq_true rfl | (refine ⟨rfl, rfl, ?_⟩; simp [isFar, ofV0, CV.up, SV.renL, SV.ren] <;> fail) | (refine ⟨rfl, Nat.le_of_ble_eq_true rfl, ?_⟩; simp [isFar, ofV0, CV.up, SV.renL, SV.ren] <;> fail) | (simp only [List.length_append, List.length_drop, List.length_take, List.length_replicate, List.length_map]; omega) | (simp <;> fail))); conv => whnf) | (refine ⟨_, rfl, ?_⟩; conv => whnf)))
    exact ⟨_, _, WeakV.drop rfl, hfin⟩
  | [x], _, hf, hfin =>
    have hxo := hf.2 x (List.mem_singleton.2 rfl)
    have hxc := hxo.c
    have c0 : decide (((([x] : List Lf).length : Nat) : Int) = 0) = false := rfl
    have c1 : decide (((([x] : List Lf).length : Nat) : Int) = 1) = true := rfl
    have hat : ((flL [x]).drop ((0 : Int).toNat * 5)).take 5 = [CV.int .i64 x.i, .int .i64 x.c, .str x.k, .str x.v, .sl 1 x.p.length (strs x.p) false] := rfl
    have hix : ti41.size = 5 ∧ (0 : Int) ≤ 0 ∧ (0 : Int) < ((([x] : List Lf).length : Nat) : Int) := ⟨rfl, by omega, by simp⟩
    have hwc : IntKind.i64.wrap (x.c - 1) = x.c - 1 := wrap_i64 (by omega) (by omega)
    have hfin : ∀ b : Bool, (b = true ↔ (x.i = 0 ∧ lessS key x.k = true) ∨ (x.i = x.c - 1 ∧ lessS x.k key = true)) → Q (.bool b) [] := hfin
    by_cases q1 : x.i = 0
    · have e1 : decide (x.i = 0) = true := decide_eq_true q1
      cases b1 : lessS key x.k with
      | true =>
        have h := hfin true ⟨fun _ => .inl ⟨q1, b1⟩, fun _ => rfl⟩
        (conv => whnf)
        (repeat (first | (refine Both.of_false c0 ?_; conv => whnf) | (refine Both.of_true c1 ?_; conv => whnf) | (exact Out.same; conv => whnf) | (exact Out1.same; conv => whnf) | (refine QAnd.mk ?_ ?_; conv => whnf) | (apply QStepH.go; conv => whnf) | (refine Both.lit_true ?_; conv => whnf) | (refine Both.lit_false ?_; conv => whnf) | (apply QStep.go; conv => whnf) | (refine Need.mk ?_ ?_; (focus (first | omega | exact ⟨by omega, by omega⟩ | rfl | exact ⟨rfl, rfl⟩ | exact ⟨rfl, by omega, by omega⟩ | exact ⟨by omega, by omega, by omega⟩ | exact ⟨rfl, Nat.le_of_ble_eq_true rfl⟩ | exact Nat.le_of_ble_eq_true rfl | (refine ⟨rfl, rfl, ?_⟩; simp [isFar, ofV0, CV.up, SV.renL, SV.ren] <;> fail) | (refine ⟨rfl, Nat.le_of_ble_eq_true rfl, ?_⟩; simp [isFar, ofV0, CV.up, SV.renL, SV.ren] <;> fail) | (simp only [List.length_append, List.length_drop, List.length_take, List.length_replicate, List.length_map]; omega) | (simp <;> fail))); conv => whnf) | (refine ⟨_, rfl, ?_⟩; conv => whnf)))
        (refine DrawVC.any Γok (by kernel_rfl) (by kernel_rfl) (by kernel_rfl) (by rfl) ?_; conv => whnf)
        (repeat (first | (refine Need.mk hix ?_; conv => whnf) | (refine ⟨_, hat, ?_⟩; conv => whnf) | (refine Both.of_true e1 ?_; conv => whnf) | (refine Both.of_true b1 ?_; conv => whnf) | (exact Out.same; conv => whnf) | (exact Out1.same; conv => whnf) | (refine QAnd.mk ?_ ?_; conv => whnf) | (apply QStepH.go; conv => whnf) | (refine Both.lit_true ?_; conv => whnf) | (refine Both.lit_false ?_; conv => whnf) | (apply QStep.go; conv => whnf) | (refine Need.mk ?_ ?_; (focus (first | omega | exact ⟨by omega, by omega⟩ | rfl | exact ⟨rfl, rfl⟩ | exact ⟨rfl, by omega, by omega⟩ | exact ⟨by omega, by omega, by omega⟩ | exact ⟨rfl, Nat.le_of_ble_eq_true rfl⟩ | exact Nat.le_of_ble_eq_true rfl | (refine ⟨rfl, rfl, ?_⟩; simp [isFar, ofV0, CV.up, SV.renL, SV.ren] <;> fail) | (refine ⟨rfl, Nat.le_of_ble_eq_true rfl, ?_⟩; simp [isFar, ofV0, CV.up, SV.renL, SV.ren] <;> fail) | (simp only [List.length_append, List.length_drop, List.length_take, List.length_replicate, List.length_map]; omega) | (simp <;> fail))); conv => whnf) | (refine ⟨_, rfl, ?_⟩; conv => whnf)))
        exact ⟨_, _, WeakV.drop rfl, h⟩
      | false =>
        by_cases q2 : x.i = x.c - 1
        · have e2 : decide (x.i = IntKind.i64.wrap (x.c - 1)) = true := by rw [hwc]; exact decide_eq_true q2
          have h := hfin (lessS x.k key) ⟨fun u => .inr ⟨q2, u⟩, fun u => by
            rcases u with u | u
            · rw [b1] at u; cases u.2
            · exact u.2⟩
          (conv => whnf)
          (repeat (first | (refine Both.of_false c0 ?_; conv => whnf) | (refine Both.of_true c1 ?_; conv => whnf) | (exact Out.same; conv => whnf) | (exact Out1.same; conv => whnf) | (refine QAnd.mk ?_ ?_; conv => whnf) | (apply QStepH.go; conv => whnf) | (refine Both.lit_true ?_; conv => whnf) | (refine Both.lit_false ?_; conv => whnf) | (apply QStep.go; conv => whnf) | (refine Need.mk ?_ ?_; (focus (first | omega | exact ⟨by omega, by omega⟩ | rfl | exact ⟨rfl, rfl⟩ | exact ⟨rfl, by omega, by omega⟩ | exact ⟨by omega, by omega, by omega⟩ | exact ⟨rfl, Nat.le_of_ble_eq_true rfl⟩ | exact Nat.le_of_ble_eq_true rfl | (refine ⟨rfl, rfl, ?_⟩; simp [isFar, ofV0, CV.up, SV.renL, SV.ren] <;> fail) | (refine ⟨rfl, Nat.le_of_ble_eq_true rfl, ?_⟩; simp [isFar, ofV0, CV.up, SV.renL, SV.ren] <;> fail) | (simp only [List.length_append, List.length_drop, List.length_take, List.length_replicate, List.length_map]; omega) | (simp <;> fail))); conv => whnf) | (refine ⟨_, rfl, ?_⟩; conv => whnf)))
          (refine DrawVC.any Γok (by kernel_rfl) (by kernel_rfl) (by kernel_rfl) (by rfl) ?_; conv => whnf)
          (repeat (first | (refine Need.mk hix ?_; conv => whnf) | (refine ⟨_, hat, ?_⟩; conv => whnf) | (refine Both.of_true e1 ?_; conv => whnf) | (refine Both.of_false b1 ?_; conv => whnf) | (refine Both.of_true e2 ?_; conv => whnf) | (exact Out.same; conv => whnf) | (exact Out1.same; conv => whnf) | (refine QAnd.mk ?_ ?_; conv => whnf) | (apply QStepH.go; conv => whnf) | (refine Both.lit_true ?_; conv => whnf) | (refine Both.lit_false ?_; conv => whnf) | (apply QStep.go; conv => whnf) | (refine Need.mk ?_ ?_; (focus (first | omega | exact ⟨by omega, by omega⟩ | rfl | exact ⟨rfl, rfl⟩ | exact ⟨rfl, by omega, by omega⟩ | exact ⟨by omega, by omega, by omega⟩ | exact ⟨rfl, Nat.le_of_ble_eq_true rfl⟩ | exact Nat.le_of_ble_eq_true rfl | (refine ⟨rfl, rfl, ?_⟩; simp [isFar, ofV0, CV.up, SV.renL, SV.ren] <;> fail) | (refine ⟨rfl, Nat.le_of_ble_eq_true rfl, ?_⟩; simp [isFar, ofV0, CV.up, SV.renL, SV.ren] <;> fail) | (simp only [List.length_append, List.length_drop, List.length_take, List.length_replicate, List.length_map]; omega) | (simp <;> fail))); conv => whnf) | (refine ⟨_, rfl, ?_⟩; conv => whnf)))
          exact ⟨_, _, WeakV.drop rfl, h⟩
        · have e2 : decide (x.i = IntKind.i64.wrap (x.c - 1)) = false := by rw [hwc]; exact decide_eq_false q2
          have h := hfin false ⟨fun u => (by cases u), fun u => by
            rcases u with u | u
            · rw [b1] at u; cases u.2
            · exact absurd u.1 q2⟩
          (conv => whnf)
          (repeat (first | (refine Both.of_false c0 ?_; conv => whnf) | (refine Both.of_true c1 ?_; conv => whnf) | (exact Out.same; conv => whnf) | (exact Out1.same; conv => whnf) | (refine QAnd.mk ?_ ?_; conv => whnf) | (apply QStepH.go; conv => whnf) | (refine Both.lit_true ?_; conv => whnf) | (refine Both.lit_false ?_; conv => whnf) | (apply QStep.go; conv => whnf) | (refine Need.mk ?_ ?_; (focus (first | omega | exact ⟨by omega, by omega⟩ | rfl | exact ⟨rfl, rfl⟩ | exact ⟨rfl, by omega, by omega⟩ | exact ⟨by omega, by omega, by omega⟩ | exact ⟨rfl, Nat.le_of_ble_eq_true rfl⟩ | exact Nat.le_of_ble_eq_true rfl | (refine ⟨rfl, rfl, ?_⟩; simp [isFar, ofV0, CV.up, SV.renL, SV.ren] <;> fail) | (refine ⟨rfl, Nat.le_of_ble_eq_true rfl, ?_⟩; simp [isFar, ofV0, CV.up, SV.renL, SV.ren] <;> fail) | (simp only [List.length_append, List.length_drop, List.length_take, List.length_replicate, List.length_map]; omega) | (simp <;> fail))); conv => whnf) | (refine ⟨_, rfl, ?_⟩; conv => whnf)))
          (refine DrawVC.any Γok (by kernel_rfl) (by kernel_rfl) (by kernel_rfl) (by rfl) ?_; conv => whnf)
          (repeat (first | (refine Need.mk hix ?_; conv => whnf) | (refine ⟨_, hat, ?_⟩; conv => whnf) | (refine Both.of_true e1 ?_; conv => whnf) | (refine Both.of_false b1 ?_; conv => whnf) | (refine Both.of_false e2 ?_; conv => whnf) | (exact Out.same; conv => whnf) | (exact Out1.same; conv => whnf) | (refine QAnd.mk ?_ ?_; conv => whnf) | (apply QStepH.go; conv => whnf) | (refine Both.lit_true ?_; conv => whnf) | (refine Both.lit_false ?_; conv => whnf) | (apply QStep.go; conv => whnf) | (refine Need.mk ?_ ?_; (focus (first | omega | exact ⟨by omega, by omega⟩ | rfl | exact ⟨rfl, rfl⟩ | exact ⟨rfl, by omega, by omega⟩ | exact ⟨by omega, by omega, by omega⟩ | exact ⟨rfl, Nat.le_of_ble_eq_true rfl⟩ | exact Nat.le_of_ble_eq_true rfl | (refine ⟨rfl, rfl, ?_⟩; simp [isFar, ofV0, CV.up, SV.renL, SV.ren] <;> fail) | (refine ⟨rfl, Nat.le_of_ble_eq_true rfl, ?_⟩; simp [isFar, ofV0, CV.up, SV.renL, SV.ren] <;> fail) | (simp only [List.length_append, List.length_drop, List.length_take, List.length_replicate, List.length_map]; omega) | (simp <;> fail))); conv => whnf) | (refine ⟨_, rfl, ?_⟩; conv => whnf)))
          exact ⟨_, _, WeakV.drop rfl, h⟩
    · have e1 : decide (x.i = 0) = false := decide_eq_false q1
      by_cases q2 : x.i = x.c - 1
      · have e2 : decide (x.i = IntKind.i64.wrap (x.c - 1)) = true := by rw [hwc]; exact decide_eq_true q2
        have h := hfin (lessS x.k key) ⟨fun u => .inr ⟨q2, u⟩, fun u => by
          rcases u with u | u
          · exact absurd u.1 q1
          · exact u.2⟩
        (conv => whnf)
        (repeat (first | (refine Both.of_false c0 ?_; conv => whnf) | (refine Both.of_true c1 ?_; conv => whnf) | (exact Out.same; conv => whnf) | (exact Out1.same; conv => whnf) | (refine QAnd.mk ?_ ?_; conv => whnf) | (apply QStepH.go; conv => whnf) | (refine Both.lit_true ?_; conv => whnf) | (refine Both.lit_false ?_; conv => whnf) | (apply QStep.go; conv => whnf) | (refine Need.mk ?_ ?_; (focus (first | omega | exact ⟨by omega, by omega⟩ | rfl | exact ⟨rfl, rfl⟩ | exact ⟨rfl, by omega, by omega⟩ | exact ⟨by omega, by omega, by omega⟩ | exact ⟨rfl, Nat.le_of_ble_eq_true rfl⟩ | exact Nat.le_of_ble_eq_true rfl | (refine ⟨rfl, rfl, ?_⟩; simp [isFar, ofV0, CV.up, SV.renL, SV.ren] <;> fail) | (refine ⟨rfl, Nat.le_of_ble_eq_true rfl, ?_⟩; simp [isFar, ofV0, CV.up, SV.renL, SV.ren] <;> fail) | (simp only [List.length_append, List.length_drop, List.length_take, List.length_replicate, List.length_map]; omega) | (simp <;> fail))); conv => whnf) | (refine ⟨_, rfl, ?_⟩; conv => whnf)))
        (refine DrawVC.any Γok (by kernel_rfl) (by kernel_rfl) (by kernel_rfl) (by rfl) ?_; conv => whnf)
        (repeat (first | (refine Need.mk hix ?_; conv => whnf) | (refine ⟨_, hat, ?_⟩; conv => whnf) | (refine Both.of_false e1 ?_; conv => whnf) | (refine Both.of_true e2 ?_; conv => whnf) | (exact Out.same; conv => whnf) | (exact Out1.same; conv => whnf) | (refine QAnd.mk ?_ ?_; conv => whnf) | (apply QStepH.go; conv => whnf) | (refine Both.lit_true ?_; conv => whnf) | (refine Both.lit_false ?_; conv => whnf) | (apply QStep.go; conv => whnf) | (refine Need.mk ?_ ?_; (focus (first | omega | exact ⟨by omega, by omega⟩ | rfl | exact ⟨rfl, rfl⟩ | exact ⟨rfl, by omega, by omega⟩ | exact ⟨by omega, by omega, by omega⟩ | exact ⟨rfl, Nat.le_of_ble_eq_true rfl⟩ | exact Nat.le_of_ble_eq_true rfl | (refine ⟨rfl, rfl, ?_⟩; simp [isFar, ofV0, CV.up, SV.renL, SV.ren] <;> fail) | (refine ⟨rfl, Nat.le_of_ble_eq_true rfl, ?_⟩; simp [isFar, ofV0, CV.up, SV.renL, SV.ren] <;> fail) | (simp only [List.length_append, List.length_drop, List.length_take, List.length_replicate, List.length_map]; omega) | (simp <;> fail))); conv => whnf) | (refine ⟨_, rfl, ?_⟩; conv => whnf)))
        exact ⟨_, _, WeakV.drop rfl, h⟩
      · have e2 : decide (x.i = IntKind.i64.wrap (x.c - 1)) = false := by rw [hwc]; exact decide_eq_false q2
        have h := hfin false ⟨fun u => (by cases u), fun u => by
          rcases u with u | u
          · exact absurd u.1 q1
          · exact absurd u.1 q2⟩
        (conv => whnf)
        (repeat (first | (refine Both.of_false c0 ?_; conv => whnf) | (refine Both.of_true c1 ?_; conv => whnf) | (exact Out.same; conv => whnf) | (exact Out1.same; conv => whnf) | (refine QAnd.mk ?_ ?_; conv => whnf) | (apply QStepH.go; conv => whnf) | (refine Both.lit_true ?_; conv => whnf) | (refine Both.lit_false ?_; conv => whnf) | (apply QStep.go; conv => whnf) | (refine Need.mk ?_ ?_; (focus (first | omega | exact ⟨by omega, by omega⟩ | rfl | exact ⟨rfl, rfl⟩ | exact ⟨rfl, by omega, by omega⟩ | exact ⟨by omega, by omega, by omega⟩ | exact ⟨rfl, Nat.le_of_ble_eq_true rfl⟩ | exact Nat.le_of_ble_eq_true rfl | (refine ⟨rfl, rfl, ?_⟩; simp [isFar, ofV0, CV.up, SV.renL, SV.ren] <;> fail) | (refine ⟨rfl, Nat.le_of_ble_eq_true rfl, ?_⟩; simp [isFar, ofV0, CV.up, SV.renL, SV.ren] <;> fail) | (simp only [List.length_append, List.length_drop, List.length_take, List.length_replicate, List.length_map]; omega) | (simp <;> fail))); conv => whnf) | (refine ⟨_, rfl, ?_⟩; conv => whnf)))
        (refine DrawVC.any Γok (by kernel_rfl) (by kernel_rfl) (by kernel_rfl) (by rfl) ?_; conv => whnf)
        (repeat (first | (refine Need.mk hix ?_; conv => whnf) | (refine ⟨_, hat, ?_⟩; conv => whnf) | (refine Both.of_false e1 ?_; conv => whnf) | (refine Both.of_false e2 ?_; conv => whnf) | (exact Out.same; conv => whnf) | (exact Out1.same; conv => whnf) | (refine QAnd.mk ?_ ?_; conv => whnf) | (apply QStepH.go; conv => whnf) | (refine Both.lit_true ?_; conv => whnf) | (refine Both.lit_false ?_; conv => whnf) | (apply QStep.go; conv => whnf) | (refine Need.mk ?_ ?_; (focus (first | omega | exact ⟨by omega, by omega⟩ | rfl | exact ⟨rfl, rfl⟩ | exact ⟨rfl, by omega, by omega⟩ | exact ⟨by omega, by omega, by omega⟩ | exact ⟨rfl, Nat.le_of_ble_eq_true rfl⟩ | exact Nat.le_of_ble_eq_true rfl | (refine ⟨rfl, rfl, ?_⟩; simp [isFar, ofV0, CV.up, SV.renL, SV.ren] <;> fail) | (refine ⟨rfl, Nat.le_of_ble_eq_true rfl, ?_⟩; simp [isFar, ofV0, CV.up, SV.renL, SV.ren] <;> fail) | (simp only [List.length_append, List.length_drop, List.length_take, List.length_replicate, List.length_map]; omega) | (simp <;> fail))); conv => whnf) | (refine ⟨_, rfl, ?_⟩; conv => whnf)))
        exact ⟨_, _, WeakV.drop rfl, h⟩
  | [x, y], _, hf, hfin =>
    have hxo := hf.2 x (by simp)
    have hxi := hxo.i
    have c0 : decide (((([x, y] : List Lf).length : Nat) : Int) = 0) = false := rfl
    have c1 : decide (((([x, y] : List Lf).length : Nat) : Int) = 1) = false := rfl
    have hat0 : ((flL [x, y]).drop ((0 : Int).toNat * 5)).take 5 = [CV.int .i64 x.i, .int .i64 x.c, .str x.k, .str x.v, .sl 1 x.p.length (strs x.p) false] := rfl
    have hix0 : ti41.size = 5 ∧ (0 : Int) ≤ 0 ∧ (0 : Int) < ((([x, y] : List Lf).length : Nat) : Int) := ⟨rfl, by omega, by simp⟩
    have hat1 : ((flL [x, y]).drop ((1 : Int).toNat * 5)).take 5 = [CV.int .i64 y.i, .int .i64 y.c, .str y.k, .str y.v, .sl 1 y.p.length (strs y.p) false] := rfl
    have hix1 : ti41.size = 5 ∧ (0 : Int) ≤ 1 ∧ (1 : Int) < ((([x, y] : List Lf).length : Nat) : Int) := ⟨rfl, by omega, by simp⟩
    have hwi : IntKind.i64.wrap (x.i + 1) = x.i + 1 := wrap_i64 (by omega) (by omega)
    have hfin : ∀ b : Bool, (b = true ↔ (x.c = y.c ∧ x.i + 1 = y.i) ∧ lessS x.k key = true ∧ lessS key y.k = true) → Q (.bool b) [] := hfin
    by_cases q1 : x.c = y.c
    · have e1 : decide (x.c = y.c) = true := decide_eq_true q1
      by_cases q2 : x.i + 1 = y.i
      · have e2 : decide (IntKind.i64.wrap (x.i + 1) = y.i) = true := by rw [hwi]; exact decide_eq_true q2
        cases b1 : lessS x.k key with
        | true =>
          have h := hfin (lessS key y.k) ⟨fun u => ⟨⟨q1, q2⟩, b1, u⟩, fun u => u.2.2⟩
          (conv => whnf)
          (repeat (first | (refine Both.of_false c0 ?_; conv => whnf) | (refine Both.of_false c1 ?_; conv => whnf) | (exact Out.same; conv => whnf) | (exact Out1.same; conv => whnf) | (refine QAnd.mk ?_ ?_; conv => whnf) | (apply QStepH.go; conv => whnf) | (refine Both.lit_true ?_; conv => whnf) | (refine Both.lit_false ?_; conv => whnf) | (apply QStep.go; conv => whnf) | (refine Need.mk ?_ ?_; (focus (first | omega | exact ⟨by omega, by omega⟩ | rfl | exact ⟨rfl, rfl⟩ | exact ⟨rfl, by omega, by omega⟩ | exact ⟨by omega, by omega, by omega⟩ | exact ⟨rfl, Nat.le_of_ble_eq_true rfl⟩ | exact Nat.le_of_ble_eq_true rfl | (refine ⟨rfl, rfl, ?_⟩; simp [isFar, ofV0, CV.up, SV.renL, SV.ren] <;> fail) | (refine ⟨rfl, Nat.le_of_ble_eq_true rfl, ?_⟩; simp [isFar, ofV0, CV.up, SV.renL, SV.ren] <;> fail) | (simp only [List.length_append, List.length_drop, List.length_take, List.length_replicate, List.length_map]; omega) | (simp <;> fail))); conv => whnf) | (refine ⟨_, rfl, ?_⟩; conv => whnf)))
          (refine DrawVC.any Γok (by kernel_rfl) (by kernel_rfl) (by kernel_rfl) (by rfl) ?_; conv => whnf)
          (repeat (first | (refine Need.mk hix0 ?_; conv => whnf) | (refine Need.mk hix1 ?_; conv => whnf) | (refine ⟨_, hat0, ?_⟩; conv => whnf) | (refine ⟨_, hat1, ?_⟩; conv => whnf) | (refine Both.of_true e1 ?_; conv => whnf) | (refine Both.of_true e2 ?_; conv => whnf) | (refine Both.of_true b1 ?_; conv => whnf) | (exact Out.same; conv => whnf) | (exact Out1.same; conv => whnf) | (refine QAnd.mk ?_ ?_; conv => whnf) | (apply QStepH.go; conv => whnf) | (refine Both.lit_true ?_; conv => whnf) | (refine Both.lit_false ?_; conv => whnf) | (apply QStep.go; conv => whnf) | (refine Need.mk ?_ ?_; (focus (first | omega | exact ⟨by omega, by omega⟩ | rfl | exact ⟨rfl, rfl⟩ | exact ⟨rfl, by omega, by omega⟩ | exact ⟨by omega, by omega, by omega⟩ | exact ⟨rfl, Nat.le_of_ble_eq_true rfl⟩ | exact Nat.le_of_ble_eq_true rfl | (refine ⟨rfl, rfl, ?_⟩; simp [isFar, ofV0, CV.up, SV.renL, SV.ren] <;> fail) | (refine ⟨rfl, Nat.le_of_ble_eq_true rfl, ?_⟩; simp [isFar, ofV0, CV.up, SV.renL, SV.ren] <;> fail) | (simp only [List.length_append, List.length_drop, List.length_take, List.length_replicate, List.length_map]; omega) | (simp <;> fail))); conv => whnf) | (refine ⟨_, rfl, ?_⟩; conv => whnf)))
          exact ⟨_, _, WeakV.drop rfl, h⟩
        | false =>
          have h := hfin false ⟨fun u => (by cases u), fun u => by rw [b1] at u; cases u.2.1⟩
          (conv => whnf)
          (repeat (first | (refine Both.of_false c0 ?_; conv => whnf) | (refine Both.of_false c1 ?_; conv => whnf) | (exact Out.same; conv => whnf) | (exact Out1.same; conv => whnf) | (refine QAnd.mk ?_ ?_; conv => whnf) | (apply QStepH.go; conv => whnf) | (refine Both.lit_true ?_; conv => whnf) | (refine Both.lit_false ?_; conv => whnf) | (apply QStep.go; conv => whnf) | (refine Need.mk ?_ ?_; (focus (first | omega | exact ⟨by omega, by omega⟩ | rfl | exact ⟨rfl, rfl⟩ | exact ⟨rfl, by omega, by omega⟩ | exact ⟨by omega, by omega, by omega⟩ | exact ⟨rfl, Nat.le_of_ble_eq_true rfl⟩ | exact Nat.le_of_ble_eq_true rfl | (refine ⟨rfl, rfl, ?_⟩; simp [isFar, ofV0, CV.up, SV.renL, SV.ren] <;> fail) | (refine ⟨rfl, Nat.le_of_ble_eq_true rfl, ?_⟩; simp [isFar, ofV0, CV.up, SV.renL, SV.ren] <;> fail) | (simp only [List.length_append, List.length_drop, List.length_take, List.length_replicate, List.length_map]; omega) | (simp <;> fail))); conv => whnf) | (refine ⟨_, rfl, ?_⟩; conv => whnf)))
          (refine DrawVC.any Γok (by kernel_rfl) (by kernel_rfl) (by kernel_rfl) (by rfl) ?_; conv => whnf)
          (repeat (first | (refine Need.mk hix0 ?_; conv => whnf) | (refine Need.mk hix1 ?_; conv => whnf) | (refine ⟨_, hat0, ?_⟩; conv => whnf) | (refine ⟨_, hat1, ?_⟩; conv => whnf) | (refine Both.of_true e1 ?_; conv => whnf) | (refine Both.of_true e2 ?_; conv => whnf) | (refine Both.of_false b1 ?_; conv => whnf) | (exact Out.same; conv => whnf) | (exact Out1.same; conv => whnf) | (refine QAnd.mk ?_ ?_; conv => whnf) | (apply QStepH.go; conv => whnf) | (refine Both.lit_true ?_; conv => whnf) | (refine Both.lit_false ?_; conv => whnf) | (apply QStep.go; conv => whnf) | (refine Need.mk ?_ ?_; (focus (first | omega | exact ⟨by omega, by omega⟩ | rfl | exact ⟨rfl, rfl⟩ | exact ⟨rfl, by omega, by omega⟩ | exact ⟨by omega, by omega, by omega⟩ | exact ⟨rfl, Nat.le_of_ble_eq_true rfl⟩ | exact Nat.le_of_ble_eq_true rfl | (refine ⟨rfl, rfl, ?_⟩; simp [isFar, ofV0, CV.up, SV.renL, SV.ren] <;> fail) | (refine ⟨rfl, Nat.le_of_ble_eq_true rfl, ?_⟩; simp [isFar, ofV0, CV.up, SV.renL, SV.ren] <;> fail) | (simp only [List.length_append, List.length_drop, List.length_take, List.length_replicate, List.length_map]; omega) | (simp <;> fail))); conv => whnf) | (refine ⟨_, rfl, ?_⟩; conv => whnf)))
          exact ⟨_, _, WeakV.drop rfl, h⟩
      · have e2 : decide (IntKind.i64.wrap (x.i + 1) = y.i) = false := by rw [hwi]; exact decide_eq_false q2
        have h := hfin false ⟨fun u => (by cases u), fun u => absurd u.1.2 q2⟩
        (conv => whnf)
        (repeat (first | (refine Both.of_false c0 ?_; conv => whnf) | (refine Both.of_false c1 ?_; conv => whnf) | (exact Out.same; conv => whnf) | (exact Out1.same; conv => whnf) | (refine QAnd.mk ?_ ?_; conv => whnf) | (apply QStepH.go; conv => whnf) | (refine Both.lit_true ?_; conv => whnf) | (refine Both.lit_false ?_; conv => whnf) | (apply QStep.go; conv => whnf) | (refine Need.mk ?_ ?_; (focus (first | omega | exact ⟨by omega, by omega⟩ | rfl | exact ⟨rfl, rfl⟩ | exact ⟨rfl, by omega, by omega⟩ | exact ⟨by omega, by omega, by omega⟩ | exact ⟨rfl, Nat.le_of_ble_eq_true rfl⟩ | exact Nat.le_of_ble_eq_true rfl | (refine ⟨rfl, rfl, ?_⟩; simp [isFar, ofV0, CV.up, SV.renL, SV.ren] <;> fail) | (refine ⟨rfl, Nat.le_of_ble_eq_true rfl, ?_⟩; simp [isFar, ofV0, CV.up, SV.renL, SV.ren] <;> fail) | (simp only [List.length_append, List.length_drop, List.length_take, List.length_replicate, List.length_map]; omega) | (simp <;> fail))); conv => whnf) | (refine ⟨_, rfl, ?_⟩; conv => whnf)))
        (refine DrawVC.any Γok (by kernel_rfl) (by kernel_rfl) (by kernel_rfl) (by rfl) ?_; conv => whnf)
        (repeat (first | (refine Need.mk hix0 ?_; conv => whnf) | (refine Need.mk hix1 ?_; conv => whnf) | (refine ⟨_, hat0, ?_⟩; conv => whnf) | (refine ⟨_, hat1, ?_⟩; conv => whnf) | (refine Both.of_true e1 ?_; conv => whnf) | (refine Both.of_false e2 ?_; conv => whnf) | (exact Out.same; conv => whnf) | (exact Out1.same; conv => whnf) | (refine QAnd.mk ?_ ?_; conv => whnf) | (apply QStepH.go; conv => whnf) | (refine Both.lit_true ?_; conv => whnf) | (refine Both.lit_false ?_; conv => whnf) | (apply QStep.go; conv => whnf) | (refine Need.mk ?_ ?_; (focus (first | omega | exact ⟨by omega, by omega⟩ | rfl | exact ⟨rfl, rfl⟩ | exact ⟨rfl, by omega, by omega⟩ | exact ⟨by omega, by omega, by omega⟩ | exact ⟨rfl, Nat.le_of_ble_eq_true rfl⟩ | exact Nat.le_of_ble_eq_true rfl | (refine ⟨rfl, rfl, ?_⟩; simp [isFar, ofV0, CV.up, SV.renL, SV.ren] <;> fail) | (refine ⟨rfl, Nat.le_of_ble_eq_true rfl, ?_⟩; simp [isFar, ofV0, CV.up, SV.renL, SV.ren] <;> fail) | (simp only [List.length_append, List.length_drop, List.length_take, List.length_replicate, List.length_map]; omega) | (simp <;> fail))); conv => whnf) | (refine ⟨_, rfl, ?_⟩; conv => whnf)))
        exact ⟨_, _, WeakV.drop rfl, h⟩
    · have e1 : decide (x.c = y.c) = false := decide_eq_false q1
      have h := hfin false ⟨fun u => (by cases u), fun u => absurd u.1.1 q1⟩
      (conv => whnf)
      (repeat (first | (refine Both.of_false c0 ?_; conv => whnf) | (refine Both.of_false c1 ?_; conv => whnf) | (exact Out.same; conv => whnf) | (exact Out1.same; conv => whnf) | (refine QAnd.mk ?_ ?_; conv => whnf) | (apply QStepH.go; conv => whnf) | (refine Both.lit_true ?_; conv => whnf) | (refine Both.lit_false ?_; conv => whnf) | (apply QStep.go; conv => whnf) | (refine Need.mk ?_ ?_; (focus (first | omega | exact ⟨by omega, by omega⟩ | rfl | exact ⟨rfl, rfl⟩ | exact ⟨rfl, by omega, by omega⟩ | exact ⟨by omega, by omega, by omega⟩ | exact ⟨rfl, Nat.le_of_ble_eq_true rfl⟩ | exact Nat.le_of_ble_eq_true rfl | (refine ⟨rfl, rfl, ?_⟩; simp [isFar, ofV0, CV.up, SV.renL, SV.ren] <;> fail) | (refine ⟨rfl, Nat.le_of_ble_eq_true rfl, ?_⟩; simp [isFar, ofV0, CV.up, SV.renL, SV.ren] <;> fail) | (simp only [List.length_append, List.length_drop, List.length_take, List.length_replicate, List.length_map]; omega) | (simp <;> fail))); conv => whnf) | (refine ⟨_, rfl, ?_⟩; conv => whnf)))
      (refine DrawVC.any Γok (by kernel_rfl) (by kernel_rfl) (by kernel_rfl) (by rfl) ?_; conv => whnf)
      (repeat (first | (refine Need.mk hix0 ?_; conv => whnf) | (refine Need.mk hix1 ?_; conv => whnf) | (refine ⟨_, hat0, ?_⟩; conv => whnf) | (refine ⟨_, hat1, ?_⟩; conv => whnf) | (refine Both.of_false e1 ?_; conv => whnf) | (exact Out.same; conv => whnf) | (exact Out1.same; conv => whnf) | (refine QAnd.mk ?_ ?_; conv => whnf) | (apply QStepH.go; conv => whnf) | (refine Both.lit_true ?_; conv => whnf) | (refine Both.lit_false ?_; conv => whnf) | (apply QStep.go; conv => whnf) | (refine Need.mk ?_ ?_; (focus (first | omega | exact ⟨by omega, by omega⟩ | rfl | exact ⟨rfl, rfl⟩ | exact ⟨rfl, by omega, by omega⟩ | exact ⟨by omega, by omega, by omega⟩ | exact ⟨rfl, Nat.le_of_ble_eq_true rfl⟩ | exact Nat.le_of_ble_eq_true rfl | (refine ⟨rfl, rfl, ?_⟩; simp [isFar, ofV0, CV.up, SV.renL, SV.ren] <;> fail) | (refine ⟨rfl, Nat.le_of_ble_eq_true rfl, ?_⟩; simp [isFar, ofV0, CV.up, SV.renL, SV.ren] <;> fail) | (simp only [List.length_append, List.length_drop, List.length_take, List.length_replicate, List.length_map]; omega) | (simp <;> fail))); conv => whnf) | (refine ⟨_, rfl, ?_⟩; conv => whnf)))
      exact ⟨_, _, WeakV.drop rfl, h⟩
  | _ :: _ :: _ :: _, hl3, _, _ => exact absurd hl3 (by simp)
theorem lacks_k {y0 : CV} {cs0 : List CV} (hK : KAt y0 cs0) : Contract Tryd.prog [(0, y0 :: cs0)] 20 lacksS := ⟨⟨⟨_, rfl, rfl, rfl⟩⟩, lacks_c hK⟩
end Go.LX
end
section
set_option maxRecDepth 100000
set_option maxHeartbeats 2000000
set_option autoImplicit false
set_option linter.unusedVariables false
set_option linter.unusedSimpArgs false
namespace Go.LX
open Go.Proofs

theorem dep_log : ∀ (d i n : Nat), n ≤ 2 ^ d → depP i n ≤ d
  | 0, i, n, h => by
    rw [depP_one (by simpa using h)]
    exact Nat.le_refl _
  | d + 1, i, n, h => by
    by_cases h1 : n ≤ 1
    · rw [depP_one h1]
      exact Nat.zero_le _
    · have hp : (2 : Nat) ^ (d + 1) = 2 * 2 ^ d := by rw [Nat.pow_succ, Nat.mul_comm]
      have hl : lft n ≤ 2 ^ d := by
        unfold lft
        refine Nat.pow_le_pow_right (by decide) ?_
        have : Nat.log2 (n - 1) < d + 1 := (Nat.log2_lt (by omega)).2 (by omega)
        omega
      have hl2 := lft_le (n := n) (by omega)
      rw [depP_two h1]
      split
      · have := dep_log d i (lft n) hl
        omega
      · have := dep_log d (i - lft n) (n - lft n) (by omega)
        omega
theorem made_ok {l : List Pr} {k : Nat} (h40 : l.length ≤ 40) (hs : ∀ p ∈ l, p.1.length ≤ 16 ∧ p.2.length ≤ 64) (hk : k < l.length) : okLf (madeL l k) := by
  have hd := path_dep l.length l k (Nat.le_refl _)
  have hm : l.getD k ([], []) ∈ l := by
    rw [List.getD_eq_getElem?_getD, List.getElem?_eq_getElem hk]
    exact List.getElem_mem _
  have hp := hs _ hm
  have hdl := dep_log 6 k l.length (by omega)
  exact ⟨by show 0 ≤ (k : Int) ∧ (k : Int) ≤ 4096; omega, by show 0 ≤ (l.length : Int) ∧ (l.length : Int) ≤ 4096; omega, hp.1, hp.2, by show (pathP l k).length ≤ 16; rw [hd.1]; omega, hd.2⟩
theorem made_good {l : List Pr} {k : Nat} (h40 : l.length ≤ 40) (hk : k < l.length) : goodC (shaD (rootX l)) (madeL l k) = true := by
  have h := back_right h40 hk
  have e : txLeaf ((madeL l k).k, (madeL l k).v) = txLeaf (l.getD k ([], [])) := rfl
  unfold goodC
  rw [e]
  show ((climbP (txLeaf (l.getD k ([], []))) (k : Int) (l.length : Int) (pathP l k)).2 && _) = true
  rw [h]
  simp
  exact congrArg Prod.fst h
def absM (l : List Pr) (k : Nat) : List Lf := (if 0 < k then [madeL l (k - 1)] else []) ++ (if k < l.length then [madeL l k] else [])
theorem absM_mem {l : List Pr} {k : Nat} (hk : k ≤ l.length) {x : Lf} (hx : x ∈ absM l k) : ∃ j, j < l.length ∧ x = madeL l j := by
  unfold absM at hx
  rcases List.mem_append.1 hx with hx | hx
  · split at hx
    · exact ⟨k - 1, by omega, List.mem_singleton.1 hx⟩
    · cases hx
  · split at hx
    · rename_i h
      exact ⟨k, h, List.mem_singleton.1 hx⟩
    · cases hx
theorem absM_len (l : List Pr) (k : Nat) : (absM l k).length ≤ 2 := by
  unfold absM
  rw [List.length_append]
  split <;> split <;> exact Nat.le_of_ble_eq_true rfl
theorem absM_stand {l : List Pr} {key : Bs} {k : Nat} (hp : IsPlace l key k) (hc : ¬ (k < l.length ∧ kAt l k = key)) : standL (shaD (rootX l)) key (absM l k) := by
  have hle := hp.le
  have hhi : k < l.length → lessS key (kAt l k) = true := fun q => by
    have h1 := hp.hi k (Nat.le_refl _) q
    have h2 := less_tri0 (kAt l k) key
    rw [h1, decide_eq_false (fun u => hc ⟨q, u⟩), Bool.or_false] at h2
    simpa using h2.symm
  unfold absM
  by_cases h1 : 0 < k
  · have hlo := hp.lo (k - 1) (by omega)
    by_cases h2 : k < l.length
    · rw [if_pos h1, if_pos h2]
      exact ⟨⟨rfl, by show ((k - 1 : Nat) : Int) + 1 = (k : Int); omega⟩, hlo, hhi h2⟩
    · rw [if_pos h1, if_neg h2]
      exact .inr ⟨by show ((k - 1 : Nat) : Int) = (l.length : Int) - 1; omega, hlo⟩
  · by_cases h2 : k < l.length
    · rw [if_neg h1, if_pos h2]
      exact .inl ⟨by show (k : Int) = 0; omega, hhi h2⟩
    · rw [if_neg h1, if_neg h2]
      have : l = [] := List.eq_nil_of_length_eq_zero (by omega)
      rw [this]
      rfl
def lawBack9S : Spec := fun args H Q => match args, H with
  | [.sl 2 n cs f, .str key, .str other], [] => ∃ l : List Pr, n = l.length ∧ cs = flP l ∧ l.length ≤ 9223372036854775807 ∧ Q (.bool true) []
  | _, _ => False
open Classical in
theorem back9_law {y0 : CV} {cs0 : List CV} (hK : KAt y0 cs0) : Meets Tryd.prog [(0, y0 :: cs0)] 5 lawBack9S := by
  refine meets_of Γok Tryd.func5 rfl ?_
  intro args H Q h
  unfold lawBack9S at h
  split at h
  case h_2 => exact h.elim
  rename_i n cs f key other
  obtain ⟨l, rfl, rfl, hl, h⟩ := h
  by_cases hf : l.length ≤ 40 ∧ chkV l = 0
  case neg =>
    have c1 : (!decide (l.length ≤ 40 ∧ chkV l = 0)) = true := by rw [decide_eq_false hf]; rfl
    (refine sx_sound Γok _ ?_; conv => whnf)
    (repeat (first | (exact Out.same; conv => whnf) | (exact Out1.same; conv => whnf) | (refine QAnd.mk ?_ ?_; conv => whnf) | (apply QStepH.go; conv => whnf) | (refine Both.lit_true ?_; conv => whnf) | (refine Both.lit_false ?_; conv => whnf) | (apply QStep.go; conv => whnf) | (refine Need.mk ?_ ?_; (focus (first | omega | exact ⟨by omega, by omega⟩ | rfl | exact ⟨rfl, rfl⟩ | exact ⟨rfl, by omega, by omega⟩ | exact ⟨by omega, by omega, by omega⟩ | exact ⟨rfl, Nat.le_of_ble_eq_true rfl⟩ | exact Nat.le_of_ble_eq_true rfl | (refine ⟨rfl, rfl, ?_⟩; simp [isFar, ofV0, CV.up, SV.renL, SV.ren] <;> fail) | (refine ⟨rfl, Nat.le_of_ble_eq_true rfl, ?_⟩; simp [isFar, ofV0, CV.up, SV.renL, SV.ren] <;> fail) | (simp only [List.length_append, List.length_drop, List.length_take, List.length_replicate, List.length_map]; omega) | (simp <;> fail))); conv => whnf) | (refine ⟨_, rfl, ?_⟩; conv => whnf) | (refine CallVC.auto (awake9_k hK) ?_; conv => whnf)))
    refine CallVC.auto few9_k.gl ⟨l, rfl, rfl, hl, ?_⟩
    rw [show decide (l.length ≤ 40 ∧ chkV l = 0) = false from decide_eq_false hf]
    (conv => whnf)
    (repeat (first | (exact Out.same; conv => whnf) | (exact Out1.same; conv => whnf) | (refine QAnd.mk ?_ ?_; conv => whnf) | (apply QStepH.go; conv => whnf) | (refine Both.lit_true ?_; conv => whnf) | (refine Both.lit_false ?_; conv => whnf) | (apply QStep.go; conv => whnf) | (refine Need.mk ?_ ?_; (focus (first | omega | exact ⟨by omega, by omega⟩ | rfl | exact ⟨rfl, rfl⟩ | exact ⟨rfl, by omega, by omega⟩ | exact ⟨by omega, by omega, by omega⟩ | exact ⟨rfl, Nat.le_of_ble_eq_true rfl⟩ | exact Nat.le_of_ble_eq_true rfl | (refine ⟨rfl, rfl, ?_⟩; simp [isFar, ofV0, CV.up, SV.renL, SV.ren] <;> fail) | (refine ⟨rfl, Nat.le_of_ble_eq_true rfl, ?_⟩; simp [isFar, ofV0, CV.up, SV.renL, SV.ren] <;> fail) | (simp only [List.length_append, List.length_drop, List.length_take, List.length_replicate, List.length_map]; omega) | (simp <;> fail))); conv => whnf) | (refine ⟨_, rfl, ?_⟩; conv => whnf)))
    exact ⟨_, _, WeakV.drop rfl, h⟩
  have hsort := chk_sort hf.2
  have hsm := (chk_short hf.2).2
  have h60 : l.length < 60000 := by omega
  have hok : ∀ p ∈ l, okP p := fun p hp => by
    have := hsm p hp
    exact ⟨by omega, by omega⟩
  (refine sx_sound Γok _ ?_; conv => whnf)
  (repeat (first | (exact Out.same; conv => whnf) | (exact Out1.same; conv => whnf) | (refine QAnd.mk ?_ ?_; conv => whnf) | (apply QStepH.go; conv => whnf) | (refine Both.lit_true ?_; conv => whnf) | (refine Both.lit_false ?_; conv => whnf) | (apply QStep.go; conv => whnf) | (refine Need.mk ?_ ?_; (focus (first | omega | exact ⟨by omega, by omega⟩ | rfl | exact ⟨rfl, rfl⟩ | exact ⟨rfl, by omega, by omega⟩ | exact ⟨by omega, by omega, by omega⟩ | exact ⟨rfl, Nat.le_of_ble_eq_true rfl⟩ | exact Nat.le_of_ble_eq_true rfl | (refine ⟨rfl, rfl, ?_⟩; simp [isFar, ofV0, CV.up, SV.renL, SV.ren] <;> fail) | (refine ⟨rfl, Nat.le_of_ble_eq_true rfl, ?_⟩; simp [isFar, ofV0, CV.up, SV.renL, SV.ren] <;> fail) | (simp only [List.length_append, List.length_drop, List.length_take, List.length_replicate, List.length_map]; omega) | (simp <;> fail))); conv => whnf) | (refine ⟨_, rfl, ?_⟩; conv => whnf) | (refine CallVC.auto (awake9_k hK) ?_; conv => whnf)))
  refine CallVC.auto few9_k.gl ⟨l, rfl, rfl, hl, ?_⟩
  rw [show decide (l.length ≤ 40 ∧ chkV l = 0) = true from decide_eq_true hf]
  (conv => whnf)
  (repeat (first | (exact Out.same; conv => whnf) | (exact Out1.same; conv => whnf) | (refine QAnd.mk ?_ ?_; conv => whnf) | (apply QStepH.go; conv => whnf) | (refine Both.lit_true ?_; conv => whnf) | (refine Both.lit_false ?_; conv => whnf) | (apply QStep.go; conv => whnf) | (refine Need.mk ?_ ?_; (focus (first | omega | exact ⟨by omega, by omega⟩ | rfl | exact ⟨rfl, rfl⟩ | exact ⟨rfl, by omega, by omega⟩ | exact ⟨by omega, by omega, by omega⟩ | exact ⟨rfl, Nat.le_of_ble_eq_true rfl⟩ | exact Nat.le_of_ble_eq_true rfl | (refine ⟨rfl, rfl, ?_⟩; simp [isFar, ofV0, CV.up, SV.renL, SV.ren] <;> fail) | (refine ⟨rfl, Nat.le_of_ble_eq_true rfl, ?_⟩; simp [isFar, ofV0, CV.up, SV.renL, SV.ren] <;> fail) | (simp only [List.length_append, List.length_drop, List.length_take, List.length_replicate, List.length_map]; omega) | (simp <;> fail))); conv => whnf) | (refine ⟨_, rfl, ?_⟩; conv => whnf)))
  refine Both.dec (fun h1 => ?_) (fun h1 => ?_)
  · (conv => whnf)
    (repeat (first | (exact Out.same; conv => whnf) | (exact Out1.same; conv => whnf) | (refine QAnd.mk ?_ ?_; conv => whnf) | (apply QStepH.go; conv => whnf) | (refine Both.lit_true ?_; conv => whnf) | (refine Both.lit_false ?_; conv => whnf) | (apply QStep.go; conv => whnf) | (refine Need.mk ?_ ?_; (focus (first | omega | exact ⟨by omega, by omega⟩ | rfl | exact ⟨rfl, rfl⟩ | exact ⟨rfl, by omega, by omega⟩ | exact ⟨by omega, by omega, by omega⟩ | exact ⟨rfl, Nat.le_of_ble_eq_true rfl⟩ | exact Nat.le_of_ble_eq_true rfl | (refine ⟨rfl, rfl, ?_⟩; simp [isFar, ofV0, CV.up, SV.renL, SV.ren] <;> fail) | (refine ⟨rfl, Nat.le_of_ble_eq_true rfl, ?_⟩; simp [isFar, ofV0, CV.up, SV.renL, SV.ren] <;> fail) | (simp only [List.length_append, List.length_drop, List.length_take, List.length_replicate, List.length_map]; omega) | (simp <;> fail))); conv => whnf) | (refine ⟨_, rfl, ?_⟩; conv => whnf)))
    exact ⟨_, _, WeakV.drop rfl, h⟩
  (conv => whnf)
  (repeat (first | (exact Out.same; conv => whnf) | (exact Out1.same; conv => whnf) | (refine QAnd.mk ?_ ?_; conv => whnf) | (apply QStepH.go; conv => whnf) | (refine Both.lit_true ?_; conv => whnf) | (refine Both.lit_false ?_; conv => whnf) | (apply QStep.go; conv => whnf) | (refine Need.mk ?_ ?_; (focus (first | omega | exact ⟨by omega, by omega⟩ | rfl | exact ⟨rfl, rfl⟩ | exact ⟨rfl, by omega, by omega⟩ | exact ⟨by omega, by omega, by omega⟩ | exact ⟨rfl, Nat.le_of_ble_eq_true rfl⟩ | exact Nat.le_of_ble_eq_true rfl | (refine ⟨rfl, rfl, ?_⟩; simp [isFar, ofV0, CV.up, SV.renL, SV.ren] <;> fail) | (refine ⟨rfl, Nat.le_of_ble_eq_true rfl, ?_⟩; simp [isFar, ofV0, CV.up, SV.renL, SV.ren] <;> fail) | (simp only [List.length_append, List.length_drop, List.length_take, List.length_replicate, List.length_map]; omega) | (simp <;> fail))); conv => whnf) | (refine ⟨_, rfl, ?_⟩; conv => whnf)))
  refine Both.dec (fun h2 => ?_) (fun h2 => ?_)
  · (conv => whnf)
    (repeat (first | (exact Out.same; conv => whnf) | (exact Out1.same; conv => whnf) | (refine QAnd.mk ?_ ?_; conv => whnf) | (apply QStepH.go; conv => whnf) | (refine Both.lit_true ?_; conv => whnf) | (refine Both.lit_false ?_; conv => whnf) | (apply QStep.go; conv => whnf) | (refine Need.mk ?_ ?_; (focus (first | omega | exact ⟨by omega, by omega⟩ | rfl | exact ⟨rfl, rfl⟩ | exact ⟨rfl, by omega, by omega⟩ | exact ⟨by omega, by omega, by omega⟩ | exact ⟨rfl, Nat.le_of_ble_eq_true rfl⟩ | exact Nat.le_of_ble_eq_true rfl | (refine ⟨rfl, rfl, ?_⟩; simp [isFar, ofV0, CV.up, SV.renL, SV.ren] <;> fail) | (refine ⟨rfl, Nat.le_of_ble_eq_true rfl, ?_⟩; simp [isFar, ofV0, CV.up, SV.renL, SV.ren] <;> fail) | (simp only [List.length_append, List.length_drop, List.length_take, List.length_replicate, List.length_map]; omega) | (simp <;> fail))); conv => whnf) | (refine ⟨_, rfl, ?_⟩; conv => whnf)))
    exact ⟨_, _, WeakV.drop rfl, h⟩
  (conv => whnf)
  (repeat (first | (exact Out.same; conv => whnf) | (exact Out1.same; conv => whnf) | (refine QAnd.mk ?_ ?_; conv => whnf) | (apply QStepH.go; conv => whnf) | (refine Both.lit_true ?_; conv => whnf) | (refine Both.lit_false ?_; conv => whnf) | (apply QStep.go; conv => whnf) | (refine Need.mk ?_ ?_; (focus (first | omega | exact ⟨by omega, by omega⟩ | rfl | exact ⟨rfl, rfl⟩ | exact ⟨rfl, by omega, by omega⟩ | exact ⟨by omega, by omega, by omega⟩ | exact ⟨rfl, Nat.le_of_ble_eq_true rfl⟩ | exact Nat.le_of_ble_eq_true rfl | (refine ⟨rfl, rfl, ?_⟩; simp [isFar, ofV0, CV.up, SV.renL, SV.ren] <;> fail) | (refine ⟨rfl, Nat.le_of_ble_eq_true rfl, ?_⟩; simp [isFar, ofV0, CV.up, SV.renL, SV.ren] <;> fail) | (simp only [List.length_append, List.length_drop, List.length_take, List.length_replicate, List.length_map]; omega) | (simp <;> fail))); conv => whnf) | (refine ⟨_, rfl, ?_⟩; conv => whnf)))
  refine Both.dec (fun h3 => ?_) (fun h3 => ?_)
  · (conv => whnf)
    (repeat (first | (exact Out.same; conv => whnf) | (exact Out1.same; conv => whnf) | (refine QAnd.mk ?_ ?_; conv => whnf) | (apply QStepH.go; conv => whnf) | (refine Both.lit_true ?_; conv => whnf) | (refine Both.lit_false ?_; conv => whnf) | (apply QStep.go; conv => whnf) | (refine Need.mk ?_ ?_; (focus (first | omega | exact ⟨by omega, by omega⟩ | rfl | exact ⟨rfl, rfl⟩ | exact ⟨rfl, by omega, by omega⟩ | exact ⟨by omega, by omega, by omega⟩ | exact ⟨rfl, Nat.le_of_ble_eq_true rfl⟩ | exact Nat.le_of_ble_eq_true rfl | (refine ⟨rfl, rfl, ?_⟩; simp [isFar, ofV0, CV.up, SV.renL, SV.ren] <;> fail) | (refine ⟨rfl, Nat.le_of_ble_eq_true rfl, ?_⟩; simp [isFar, ofV0, CV.up, SV.renL, SV.ren] <;> fail) | (simp only [List.length_append, List.length_drop, List.length_take, List.length_replicate, List.length_map]; omega) | (simp <;> fail))); conv => whnf) | (refine ⟨_, rfl, ?_⟩; conv => whnf)))
    exact ⟨_, _, WeakV.drop rfl, h⟩
  have hkey : 1 ≤ key.length ∧ key.length ≤ 16 := by omega
  have hnb : ¬ (key.length < 1 ∨ 16 < key.length) := by omega
  obtain ⟨k, hk⟩ := place_ex hsort key
  have hkl := hk.le
  (conv => whnf)
  (repeat (first | (exact Out.same; conv => whnf) | (exact Out1.same; conv => whnf) | (refine QAnd.mk ?_ ?_; conv => whnf) | (apply QStepH.go; conv => whnf) | (refine Both.lit_true ?_; conv => whnf) | (refine Both.lit_false ?_; conv => whnf) | (apply QStep.go; conv => whnf) | (refine Need.mk ?_ ?_; (focus (first | omega | exact ⟨by omega, by omega⟩ | rfl | exact ⟨rfl, rfl⟩ | exact ⟨rfl, by omega, by omega⟩ | exact ⟨by omega, by omega, by omega⟩ | exact ⟨rfl, Nat.le_of_ble_eq_true rfl⟩ | exact Nat.le_of_ble_eq_true rfl | (refine ⟨rfl, rfl, ?_⟩; simp [isFar, ofV0, CV.up, SV.renL, SV.ren] <;> fail) | (refine ⟨rfl, Nat.le_of_ble_eq_true rfl, ?_⟩; simp [isFar, ofV0, CV.up, SV.renL, SV.ren] <;> fail) | (simp only [List.length_append, List.length_drop, List.length_take, List.length_replicate, List.length_map]; omega) | (simp <;> fail))); conv => whnf) | (refine ⟨_, rfl, ?_⟩; conv => whnf)))
  refine CallVC.auto (mroot_k hK) ⟨l, rfl, rfl, h60, hok, ?_⟩
  obtain ⟨root, hroot⟩ : ∃ r, shaD (rootX l) = r := ⟨_, rfl⟩
  rw [hroot]
  (conv => whnf)
  (repeat (first | (exact Out.same; conv => whnf) | (exact Out1.same; conv => whnf) | (refine QAnd.mk ?_ ?_; conv => whnf) | (apply QStepH.go; conv => whnf) | (refine Both.lit_true ?_; conv => whnf) | (refine Both.lit_false ?_; conv => whnf) | (apply QStep.go; conv => whnf) | (refine Need.mk ?_ ?_; (focus (first | omega | exact ⟨by omega, by omega⟩ | rfl | exact ⟨rfl, rfl⟩ | exact ⟨rfl, by omega, by omega⟩ | exact ⟨by omega, by omega, by omega⟩ | exact ⟨rfl, Nat.le_of_ble_eq_true rfl⟩ | exact Nat.le_of_ble_eq_true rfl | (refine ⟨rfl, rfl, ?_⟩; simp [isFar, ofV0, CV.up, SV.renL, SV.ren] <;> fail) | (refine ⟨rfl, Nat.le_of_ble_eq_true rfl, ?_⟩; simp [isFar, ofV0, CV.up, SV.renL, SV.ren] <;> fail) | (simp only [List.length_append, List.length_drop, List.length_take, List.length_replicate, List.length_map]; omega) | (simp <;> fail))); conv => whnf) | (refine ⟨_, rfl, ?_⟩; conv => whnf)))
  by_cases hc : k < l.length ∧ kAt l k = key
  · have hfit : fitsX [madeL l k] := ⟨by show 1 ≤ 2; decide, fun x hx => by rw [List.mem_singleton.1 hx]; exact made_ok hf.1 hsm hc.1⟩
    refine CallVC.auto (mpres_k hK) ⟨l, rfl, rfl, h60, hok, hsort, fun k1 L1 f1 hk1 he1 => ?_⟩
    have q1 := hk1.eq hk
    subst q1
    obtain ⟨u1, u2⟩ := Prod.mk.inj (he1.trans (if_pos hc))
    clear he1
    subst u1 u2
    (conv => whnf)
    (repeat (first | (exact Out.same; conv => whnf) | (exact Out1.same; conv => whnf) | (refine QAnd.mk ?_ ?_; conv => whnf) | (apply QStepH.go; conv => whnf) | (refine Both.lit_true ?_; conv => whnf) | (refine Both.lit_false ?_; conv => whnf) | (apply QStep.go; conv => whnf) | (refine Need.mk ?_ ?_; (focus (first | omega | exact ⟨by omega, by omega⟩ | rfl | exact ⟨rfl, rfl⟩ | exact ⟨rfl, by omega, by omega⟩ | exact ⟨by omega, by omega, by omega⟩ | exact ⟨rfl, Nat.le_of_ble_eq_true rfl⟩ | exact Nat.le_of_ble_eq_true rfl | (refine ⟨rfl, rfl, ?_⟩; simp [isFar, ofV0, CV.up, SV.renL, SV.ren] <;> fail) | (refine ⟨rfl, Nat.le_of_ble_eq_true rfl, ?_⟩; simp [isFar, ofV0, CV.up, SV.renL, SV.ren] <;> fail) | (simp only [List.length_append, List.length_drop, List.length_take, List.length_replicate, List.length_map]; omega) | (simp <;> fail))); conv => whnf) | (refine ⟨_, rfl, ?_⟩; conv => whnf)))
    refine CallVC.auto (mabs_k hK) ⟨l, rfl, rfl, h60, hok, hsort, fun k2 b2 L2 f2 hk2 he2 => ?_⟩
    have q2 := hk2.eq hk1
    subst q2
    obtain ⟨u1, u4⟩ := Prod.mk.inj (he2.trans (abs_found hnb hc))
    obtain ⟨u2, u3⟩ := Prod.mk.inj u4
    clear he2 u4
    subst u1 u2 u3
    have hbv : bytesV false [madeL l k2] = (bytesX false [madeL l k2], 0) := by unfold bytesV; rw [if_pos hfit]
    (conv => whnf)
    (repeat (first | (exact Out.same; conv => whnf) | (exact Out1.same; conv => whnf) | (refine QAnd.mk ?_ ?_; conv => whnf) | (apply QStepH.go; conv => whnf) | (refine Both.lit_true ?_; conv => whnf) | (refine Both.lit_false ?_; conv => whnf) | (apply QStep.go; conv => whnf) | (refine Need.mk ?_ ?_; (focus (first | omega | exact ⟨by omega, by omega⟩ | rfl | exact ⟨rfl, rfl⟩ | exact ⟨rfl, by omega, by omega⟩ | exact ⟨by omega, by omega, by omega⟩ | exact ⟨rfl, Nat.le_of_ble_eq_true rfl⟩ | exact Nat.le_of_ble_eq_true rfl | (refine ⟨rfl, rfl, ?_⟩; simp [isFar, ofV0, CV.up, SV.renL, SV.ren] <;> fail) | (refine ⟨rfl, Nat.le_of_ble_eq_true rfl, ?_⟩; simp [isFar, ofV0, CV.up, SV.renL, SV.ren] <;> fail) | (simp only [List.length_append, List.length_drop, List.length_take, List.length_replicate, List.length_map]; omega) | (simp <;> fail))); conv => whnf) | (refine ⟨_, rfl, ?_⟩; conv => whnf)))
    refine CallVC.auto pbytes_k.gl ⟨[madeL l k2], rfl, rfl, (fits_sm hfit).1, (fits_sm hfit).2.2, fun s3 g3 he3 => ?_⟩
    obtain ⟨u1, u2⟩ := Prod.mk.inj (he3.trans hbv)
    clear he3
    subst u1 u2
    have hix : ti41.size = 5 ∧ (0 : Int) ≤ 0 ∧ (0 : Int) < ((([madeL l k2] : List Lf).length : Nat) : Int) := ⟨rfl, by omega, by simp⟩
    have hat : ((flL [madeL l k2]).drop ((0 : Int).toNat * 5)).take 5 = [CV.int .i64 (madeL l k2).i, .int .i64 (madeL l k2).c, .str (madeL l k2).k, .str (madeL l k2).v, .sl 1 (madeL l k2).p.length (strs (madeL l k2).p) false] := rfl
    have hpv : parseV (bytesX false [madeL l k2]) = ((false, [madeL l k2]), 0) := parseV_yes hfit rfl
    have hlen := bytesX_len (a := false) hfit
    have hv : hasP root (bytesX false [madeL l k2]) key (madeL l k2).v := ⟨madeL l k2, hpv, ⟨hc.2, rfl⟩, by rw [← hroot]; exact made_good hf.1 hc.1⟩
    have hno : ¬ lacksP root (bytesX false [madeL l k2]) key := fun ⟨_, L, q, _⟩ => by
      have := (Prod.mk.inj (Prod.mk.inj (hpv.symm.trans q)).1).1
      cases this
    have hoth : ¬ other = (madeL l k2).v → ¬ hasP root (bytesX false [madeL l k2]) key other := fun hne ⟨z, q, ⟨_, q2⟩, _⟩ => by
      have := (Prod.mk.inj (Prod.mk.inj (hpv.symm.trans q)).1).2
      obtain rfl : madeL l k2 = z := by simpa using this
      exact hne q2.symm
    (conv => whnf)
    (repeat (first | (refine Need.mk hix ?_; conv => whnf) | (refine ⟨_, hat, ?_⟩; conv => whnf) | (exact Out.same; conv => whnf) | (exact Out1.same; conv => whnf) | (refine QAnd.mk ?_ ?_; conv => whnf) | (apply QStepH.go; conv => whnf) | (refine Both.lit_true ?_; conv => whnf) | (refine Both.lit_false ?_; conv => whnf) | (apply QStep.go; conv => whnf) | (refine Need.mk ?_ ?_; (focus (first | omega | exact ⟨by omega, by omega⟩ | rfl | exact ⟨rfl, rfl⟩ | exact ⟨rfl, by omega, by omega⟩ | exact ⟨by omega, by omega, by omega⟩ | exact ⟨rfl, Nat.le_of_ble_eq_true rfl⟩ | exact Nat.le_of_ble_eq_true rfl | (refine ⟨rfl, rfl, ?_⟩; simp [isFar, ofV0, CV.up, SV.renL, SV.ren] <;> fail) | (refine ⟨rfl, Nat.le_of_ble_eq_true rfl, ?_⟩; simp [isFar, ofV0, CV.up, SV.renL, SV.ren] <;> fail) | (simp only [List.length_append, List.length_drop, List.length_take, List.length_replicate, List.length_map]; omega) | (simp <;> fail))); conv => whnf) | (refine ⟨_, rfl, ?_⟩; conv => whnf)))
    refine CallVC.auto (has_k hK) ⟨hlen, ?_⟩
    rw [decide_eq_true hv]
    (conv => whnf)
    (repeat (first | (exact Out.same; conv => whnf) | (exact Out1.same; conv => whnf) | (refine QAnd.mk ?_ ?_; conv => whnf) | (apply QStepH.go; conv => whnf) | (refine Both.lit_true ?_; conv => whnf) | (refine Both.lit_false ?_; conv => whnf) | (apply QStep.go; conv => whnf) | (refine Need.mk ?_ ?_; (focus (first | omega | exact ⟨by omega, by omega⟩ | rfl | exact ⟨rfl, rfl⟩ | exact ⟨rfl, by omega, by omega⟩ | exact ⟨by omega, by omega, by omega⟩ | exact ⟨rfl, Nat.le_of_ble_eq_true rfl⟩ | exact Nat.le_of_ble_eq_true rfl | (refine ⟨rfl, rfl, ?_⟩; simp [isFar, ofV0, CV.up, SV.renL, SV.ren] <;> fail) | (refine ⟨rfl, Nat.le_of_ble_eq_true rfl, ?_⟩; simp [isFar, ofV0, CV.up, SV.renL, SV.ren] <;> fail) | (simp only [List.length_append, List.length_drop, List.length_take, List.length_replicate, List.length_map]; omega) | (simp <;> fail))); conv => whnf) | (refine ⟨_, rfl, ?_⟩; conv => whnf)))
    refine CallVC.auto (lacks_k hK) ⟨hlen, ?_⟩
    rw [decide_eq_false hno]
    (conv => whnf)
    (repeat (first | (exact Out.same; conv => whnf) | (exact Out1.same; conv => whnf) | (refine QAnd.mk ?_ ?_; conv => whnf) | (apply QStepH.go; conv => whnf) | (refine Both.lit_true ?_; conv => whnf) | (refine Both.lit_false ?_; conv => whnf) | (apply QStep.go; conv => whnf) | (refine Need.mk ?_ ?_; (focus (first | omega | exact ⟨by omega, by omega⟩ | rfl | exact ⟨rfl, rfl⟩ | exact ⟨rfl, by omega, by omega⟩ | exact ⟨by omega, by omega, by omega⟩ | exact ⟨rfl, Nat.le_of_ble_eq_true rfl⟩ | exact Nat.le_of_ble_eq_true rfl | (refine ⟨rfl, rfl, ?_⟩; simp [isFar, ofV0, CV.up, SV.renL, SV.ren] <;> fail) | (refine ⟨rfl, Nat.le_of_ble_eq_true rfl, ?_⟩; simp [isFar, ofV0, CV.up, SV.renL, SV.ren] <;> fail) | (simp only [List.length_append, List.length_drop, List.length_take, List.length_replicate, List.length_map]; omega) | (simp <;> fail))); conv => whnf) | (refine ⟨_, rfl, ?_⟩; conv => whnf)))
    refine Both.dec (fun g5 => ?_) (fun g5 => ?_)
    · (conv => whnf)
      (repeat (first | (exact Out.same; conv => whnf) | (exact Out1.same; conv => whnf) | (refine QAnd.mk ?_ ?_; conv => whnf) | (apply QStepH.go; conv => whnf) | (refine Both.lit_true ?_; conv => whnf) | (refine Both.lit_false ?_; conv => whnf) | (apply QStep.go; conv => whnf) | (refine Need.mk ?_ ?_; (focus (first | omega | exact ⟨by omega, by omega⟩ | rfl | exact ⟨rfl, rfl⟩ | exact ⟨rfl, by omega, by omega⟩ | exact ⟨by omega, by omega, by omega⟩ | exact ⟨rfl, Nat.le_of_ble_eq_true rfl⟩ | exact Nat.le_of_ble_eq_true rfl | (refine ⟨rfl, rfl, ?_⟩; simp [isFar, ofV0, CV.up, SV.renL, SV.ren] <;> fail) | (refine ⟨rfl, Nat.le_of_ble_eq_true rfl, ?_⟩; simp [isFar, ofV0, CV.up, SV.renL, SV.ren] <;> fail) | (simp only [List.length_append, List.length_drop, List.length_take, List.length_replicate, List.length_map]; omega) | (simp <;> fail))); conv => whnf) | (refine ⟨_, rfl, ?_⟩; conv => whnf)))
      exact ⟨_, _, WeakV.drop rfl, h⟩
    · (conv => whnf)
      (repeat (first | (exact Out.same; conv => whnf) | (exact Out1.same; conv => whnf) | (refine QAnd.mk ?_ ?_; conv => whnf) | (apply QStepH.go; conv => whnf) | (refine Both.lit_true ?_; conv => whnf) | (refine Both.lit_false ?_; conv => whnf) | (apply QStep.go; conv => whnf) | (refine Need.mk ?_ ?_; (focus (first | omega | exact ⟨by omega, by omega⟩ | rfl | exact ⟨rfl, rfl⟩ | exact ⟨rfl, by omega, by omega⟩ | exact ⟨by omega, by omega, by omega⟩ | exact ⟨rfl, Nat.le_of_ble_eq_true rfl⟩ | exact Nat.le_of_ble_eq_true rfl | (refine ⟨rfl, rfl, ?_⟩; simp [isFar, ofV0, CV.up, SV.renL, SV.ren] <;> fail) | (refine ⟨rfl, Nat.le_of_ble_eq_true rfl, ?_⟩; simp [isFar, ofV0, CV.up, SV.renL, SV.ren] <;> fail) | (simp only [List.length_append, List.length_drop, List.length_take, List.length_replicate, List.length_map]; omega) | (simp <;> fail))); conv => whnf) | (refine ⟨_, rfl, ?_⟩; conv => whnf)))
      refine CallVC.auto (has_k hK) ⟨hlen, ?_⟩
      rw [decide_eq_false (hoth g5)]
      (conv => whnf)
      (repeat (first | (exact Out.same; conv => whnf) | (exact Out1.same; conv => whnf) | (refine QAnd.mk ?_ ?_; conv => whnf) | (apply QStepH.go; conv => whnf) | (refine Both.lit_true ?_; conv => whnf) | (refine Both.lit_false ?_; conv => whnf) | (apply QStep.go; conv => whnf) | (refine Need.mk ?_ ?_; (focus (first | omega | exact ⟨by omega, by omega⟩ | rfl | exact ⟨rfl, rfl⟩ | exact ⟨rfl, by omega, by omega⟩ | exact ⟨by omega, by omega, by omega⟩ | exact ⟨rfl, Nat.le_of_ble_eq_true rfl⟩ | exact Nat.le_of_ble_eq_true rfl | (refine ⟨rfl, rfl, ?_⟩; simp [isFar, ofV0, CV.up, SV.renL, SV.ren] <;> fail) | (refine ⟨rfl, Nat.le_of_ble_eq_true rfl, ?_⟩; simp [isFar, ofV0, CV.up, SV.renL, SV.ren] <;> fail) | (simp only [List.length_append, List.length_drop, List.length_take, List.length_replicate, List.length_map]; omega) | (simp <;> fail))); conv => whnf) | (refine ⟨_, rfl, ?_⟩; conv => whnf)))
      exact ⟨_, _, WeakV.drop rfl, h⟩
  · refine CallVC.auto (mpres_k hK) ⟨l, rfl, rfl, h60, hok, hsort, fun k1 L1 f1 hk1 he1 => ?_⟩
    have q1 := hk1.eq hk
    subst q1
    obtain ⟨u1, u2⟩ := Prod.mk.inj (he1.trans (if_neg hc))
    clear he1
    subst u1 u2
    (conv => whnf)
    (repeat (first | (exact Out.same; conv => whnf) | (exact Out1.same; conv => whnf) | (refine QAnd.mk ?_ ?_; conv => whnf) | (apply QStepH.go; conv => whnf) | (refine Both.lit_true ?_; conv => whnf) | (refine Both.lit_false ?_; conv => whnf) | (apply QStep.go; conv => whnf) | (refine Need.mk ?_ ?_; (focus (first | omega | exact ⟨by omega, by omega⟩ | rfl | exact ⟨rfl, rfl⟩ | exact ⟨rfl, by omega, by omega⟩ | exact ⟨by omega, by omega, by omega⟩ | exact ⟨rfl, Nat.le_of_ble_eq_true rfl⟩ | exact Nat.le_of_ble_eq_true rfl | (refine ⟨rfl, rfl, ?_⟩; simp [isFar, ofV0, CV.up, SV.renL, SV.ren] <;> fail) | (refine ⟨rfl, Nat.le_of_ble_eq_true rfl, ?_⟩; simp [isFar, ofV0, CV.up, SV.renL, SV.ren] <;> fail) | (simp only [List.length_append, List.length_drop, List.length_take, List.length_replicate, List.length_map]; omega) | (simp <;> fail))); conv => whnf) | (refine ⟨_, rfl, ?_⟩; conv => whnf)))
    refine CallVC.auto (mabs_k hK) ⟨l, rfl, rfl, h60, hok, hsort, fun k2 b2 L2 f2 hk2 he2 => ?_⟩
    have q2 := hk2.eq hk1
    subst q2
    obtain ⟨u1, u4⟩ := Prod.mk.inj (he2.trans (abs_yes hnb hc))
    obtain ⟨u2, u3⟩ := Prod.mk.inj u4
    clear he2 u4
    subst u1 u2 u3
    have hfitA : fitsX (absM l k2) := ⟨absM_len l k2, fun x hx => by
      obtain ⟨j, hj, rfl⟩ := absM_mem hkl hx
      exact made_ok hf.1 hsm hj⟩
    have hbv : bytesV true (absM l k2) = (bytesX true (absM l k2), 0) := by unfold bytesV; rw [if_pos hfitA]
    (conv => whnf)
    (repeat (first | (exact Out.same; conv => whnf) | (exact Out1.same; conv => whnf) | (refine QAnd.mk ?_ ?_; conv => whnf) | (apply QStepH.go; conv => whnf) | (refine Both.lit_true ?_; conv => whnf) | (refine Both.lit_false ?_; conv => whnf) | (apply QStep.go; conv => whnf) | (refine Need.mk ?_ ?_; (focus (first | omega | exact ⟨by omega, by omega⟩ | rfl | exact ⟨rfl, rfl⟩ | exact ⟨rfl, by omega, by omega⟩ | exact ⟨by omega, by omega, by omega⟩ | exact ⟨rfl, Nat.le_of_ble_eq_true rfl⟩ | exact Nat.le_of_ble_eq_true rfl | (refine ⟨rfl, rfl, ?_⟩; simp [isFar, ofV0, CV.up, SV.renL, SV.ren] <;> fail) | (refine ⟨rfl, Nat.le_of_ble_eq_true rfl, ?_⟩; simp [isFar, ofV0, CV.up, SV.renL, SV.ren] <;> fail) | (simp only [List.length_append, List.length_drop, List.length_take, List.length_replicate, List.length_map]; omega) | (simp <;> fail))); conv => whnf) | (refine ⟨_, rfl, ?_⟩; conv => whnf)))
    refine CallVC.auto pbytes_k.gl ⟨absM l k2, rfl, rfl, (fits_sm hfitA).1, (fits_sm hfitA).2.2, fun s3 g3 he3 => ?_⟩
    obtain ⟨u1, u2⟩ := Prod.mk.inj (he3.trans hbv)
    clear he3
    subst u1 u2
    have hpv : parseV (bytesX true (absM l k2)) = ((true, absM l k2), 0) := parseV_yes hfitA rfl
    have hlen := bytesX_len (a := true) hfitA
    have hno : ¬ hasP root (bytesX true (absM l k2)) key other := fun ⟨_, q, _⟩ => by
      have := (Prod.mk.inj (Prod.mk.inj (hpv.symm.trans q)).1).1
      cases this
    have hv : lacksP root (bytesX true (absM l k2)) key := ⟨hkey, absM l k2, hpv, fun x hx => by
      obtain ⟨j, hj, rfl⟩ := absM_mem hkl hx
      rw [← hroot]
      exact made_good hf.1 hj, by rw [← hroot]; exact absM_stand hk1 hc⟩
    (conv => whnf)
    (repeat (first | (exact Out.same; conv => whnf) | (exact Out1.same; conv => whnf) | (refine QAnd.mk ?_ ?_; conv => whnf) | (apply QStepH.go; conv => whnf) | (refine Both.lit_true ?_; conv => whnf) | (refine Both.lit_false ?_; conv => whnf) | (apply QStep.go; conv => whnf) | (refine Need.mk ?_ ?_; (focus (first | omega | exact ⟨by omega, by omega⟩ | rfl | exact ⟨rfl, rfl⟩ | exact ⟨rfl, by omega, by omega⟩ | exact ⟨by omega, by omega, by omega⟩ | exact ⟨rfl, Nat.le_of_ble_eq_true rfl⟩ | exact Nat.le_of_ble_eq_true rfl | (refine ⟨rfl, rfl, ?_⟩; simp [isFar, ofV0, CV.up, SV.renL, SV.ren] <;> fail) | (refine ⟨rfl, Nat.le_of_ble_eq_true rfl, ?_⟩; simp [isFar, ofV0, CV.up, SV.renL, SV.ren] <;> fail) | (simp only [List.length_append, List.length_drop, List.length_take, List.length_replicate, List.length_map]; omega) | (simp <;> fail))); conv => whnf) | (refine ⟨_, rfl, ?_⟩; conv => whnf)))
    refine CallVC.auto (lacks_k hK) ⟨hlen, ?_⟩
    rw [decide_eq_true hv]
    (conv => whnf)
    (repeat (first | (exact Out.same; conv => whnf) | (exact Out1.same; conv => whnf) | (refine QAnd.mk ?_ ?_; conv => whnf) | (apply QStepH.go; conv => whnf) | (refine Both.lit_true ?_; conv => whnf) | (refine Both.lit_false ?_; conv => whnf) | (apply QStep.go; conv => whnf) | (refine Need.mk ?_ ?_; (focus (first | omega | exact ⟨by omega, by omega⟩ | rfl | exact ⟨rfl, rfl⟩ | exact ⟨rfl, by omega, by omega⟩ | exact ⟨by omega, by omega, by omega⟩ | exact ⟨rfl, Nat.le_of_ble_eq_true rfl⟩ | exact Nat.le_of_ble_eq_true rfl | (refine ⟨rfl, rfl, ?_⟩; simp [isFar, ofV0, CV.up, SV.renL, SV.ren] <;> fail) | (refine ⟨rfl, Nat.le_of_ble_eq_true rfl, ?_⟩; simp [isFar, ofV0, CV.up, SV.renL, SV.ren] <;> fail) | (simp only [List.length_append, List.length_drop, List.length_take, List.length_replicate, List.length_map]; omega) | (simp <;> fail))); conv => whnf) | (refine ⟨_, rfl, ?_⟩; conv => whnf)))
    refine CallVC.auto (has_k hK) ⟨hlen, ?_⟩
    rw [decide_eq_false hno]
    (conv => whnf)
    (repeat (first | (exact Out.same; conv => whnf) | (exact Out1.same; conv => whnf) | (refine QAnd.mk ?_ ?_; conv => whnf) | (apply QStepH.go; conv => whnf) | (refine Both.lit_true ?_; conv => whnf) | (refine Both.lit_false ?_; conv => whnf) | (apply QStep.go; conv => whnf) | (refine Need.mk ?_ ?_; (focus (first | omega | exact ⟨by omega, by omega⟩ | rfl | exact ⟨rfl, rfl⟩ | exact ⟨rfl, by omega, by omega⟩ | exact ⟨by omega, by omega, by omega⟩ | exact ⟨rfl, Nat.le_of_ble_eq_true rfl⟩ | exact Nat.le_of_ble_eq_true rfl | (refine ⟨rfl, rfl, ?_⟩; simp [isFar, ofV0, CV.up, SV.renL, SV.ren] <;> fail) | (refine ⟨rfl, Nat.le_of_ble_eq_true rfl, ?_⟩; simp [isFar, ofV0, CV.up, SV.renL, SV.ren] <;> fail) | (simp only [List.length_append, List.length_drop, List.length_take, List.length_replicate, List.length_map]; omega) | (simp <;> fail))); conv => whnf) | (refine ⟨_, rfl, ?_⟩; conv => whnf)))
    exact ⟨_, _, WeakV.drop rfl, h⟩
end Go.LX
end
section
set_option maxRecDepth 100000
set_option maxHeartbeats 4000000
set_option autoImplicit false
set_option linter.unusedVariables false
set_option linter.unusedSimpArgs false
namespace Go.LX
open Go.Proofs Go.Proofs.YtfnpemikicofaaaDoor Go.RowKit Go.ChangeShapes Go.WideShapes Go.ChangeAt

theorem law_runG {P : Program} {G : Gl} {f : FuncId} {S : Spec} (hM : Meets P G f S) {svs : List SV} {vs : List Value} {W : World} (hv : VRs (E0 W) W svs vs) (hg : GlOk (E0 W) W G) (hS : S svs [] fun r _ => r = .bool true) :
    Calls P f vs.toArray W fun e W' => e = .returned (.bool true) ∧ Below W.heap.size W W' := by
  refine (hM svs [] _ hS (E0 W) W vs hv (rel0 W) hg).mono ?_
  rintro e W' ⟨v, r, H', E', rfl, rfl, hv, _, hst, _⟩
  cases hv
  exact ⟨rfl, hst.os, hst.tape, hst.output, hst.size, fun k hk => hst.keep k hk (fun ⟨i, o, h, _⟩ => by simp at h)⟩
def kzs : List Int := kT.map fun x => u32 x
def kG : Gl := [(0, CV.int .u32 (u32 0x428a2f98#32) :: (kT.tail.map fun x => CV.int .u32 (u32 x)))]
theorem kG_at : KAt (CV.int .u32 (u32 0x428a2f98#32)) (kT.tail.map fun x => CV.int .u32 (u32 x)) := fun t ht => k_at ht
abbrev laidK : List (String × DataW Unit) := [("carrack/sha.k", Rows.laid_carrack_sha_k)]
theorem laidK_eq : laidK = [("carrack/sha.k", Lib.tabData .u32 kzs)] := by kernel_rfl
theorem gK : Tryd.prog.globalNamed "carrack/sha.k" = some 0 := by kernel_rfl
theorem tK : (Tryd.prog.globals[0]?).map (·.type) = some 164 := by kernel_rfl
theorem gl_of_laid {W : World} (h : laidMetH Tryd.prog laidK W) : GlOk (E0 W) W kG := by
  rw [MakeChecks.laidMetH_plain _ _ _ (by kernel_rfl), laidK_eq] at h
  have hT := Lib.tabIs_of_head gK tK Tryd.underlying164 Tryd.underlying101 (by kernel_rfl) (by kernel_rfl) h
  have hc := fun i hi => hT.cell gK i hi
  refine ⟨fun g cs hm => ?_⟩
  have hm : (g, cs) = (0, CV.int .u32 (u32 0x428a2f98#32) :: (kT.tail.map fun x => CV.int .u32 (u32 x))) := List.mem_singleton.1 hm
  cases hm
  have hcs : (CV.int .u32 (u32 0x428a2f98#32) :: (kT.tail.map fun x => CV.int .u32 (u32 x))) = kzs.map fun z => CV.int .u32 z := by
    rw [kzs, List.map_map]
    rfl
  refine ⟨?_, kzs.map fun z => Value.int .u32 z, ?_, fun j v hj => ?_⟩
  · have h0 := hc 0 (by decide)
    show 0 < W.heap.size
    by_cases hz : 0 < W.heap.size
    · exact hz
    · exfalso
      have hn : W.heap[0]? = none := Array.getElem?_eq_none (by omega)
      unfold World.cell? at h0
      rw [hn] at h0
      cases h0
  · rw [hcs]
    refine ⟨by rw [List.length_map, List.length_map], fun j x v hx hv => ?_⟩
    rw [List.getElem?_map, Option.map_eq_some_iff] at hx hv
    obtain ⟨z, hz, rfl⟩ := hx
    obtain ⟨z', hz', rfl⟩ := hv
    cases hz.symm.trans hz'
    exact .int _ _
  · rw [List.getElem?_map, Option.map_eq_some_iff] at hj
    obtain ⟨z, hz, rfl⟩ := hj
    have hlt : j < kzs.length := by
      rcases Nat.lt_or_ge j kzs.length with h1 | h1
      · exact h1
      · rw [List.getElem?_eq_none h1] at hz; cases hz
    have := hc j hlt
    rw [List.getD_eq_getElem?_getD, hz] at this
    exact this
theorem doorK_met (os : Os) (args : Array Value) : laidMetH Tryd.prog laidK ((World.doorLaid Tryd.prog 400 os).forCall (fun _ _ => 0) ⟨#[], args, []⟩).memory :=
  laidMetH_of_parts3 (fuel := 8) (laidMet_of_run' 8 (by kernel_rfl) (by kernel_rfl)) (by kernel_rfl) (by kernel_rfl)
end Go.LX
end
