import Derived.Test.YtiokggkoidiicaaDoorFv
import Derived.Test.YtiokggkoidiicaaDoorLp
set_option maxRecDepth 100000
set_option maxHeartbeats 2000000
set_option autoImplicit false
set_option linter.unusedVariables false
set_option linter.unusedSimpArgs false
namespace Go.LX
open Go.Proofs

/-! ## FrameBack -/
def scanPS : Spec := fun args H Q => match args, H with
  | [.int .i64 z, .int .u64 g, .str s], [] => ∃ zn gn : Nat, z = zn ∧ g = gn ∧ 64 ≤ zn ∧ zn ≤ 512 ∧ gn < 18446744073709551616 ∧ s.length ≤ 100000000 ∧
    ∀ l : List Bz, ∀ n : Nat, scanA zn gn s = (l, n) → Q (.tuple [.sl 1 l.length (strL l) false, .int .i64 (n : Int)]) []
  | _, _ => False
theorem fscanP_k : Contract Tryd.prog [] 8 scanPS := fscan_k.post fun args H Q h => by
  unfold scanPS at h
  split at h
  case h_2 => exact h.elim
  obtain ⟨zn, gn, rfl, rfl, hz1, hz2, hg, hl, h⟩ := h
  have hr : rightN (zn : Int) = true := decide_eq_true (by omega)
  refine ⟨gn, rfl, hg, hl, fun q => absurd (hr.symm.trans q) (by decide), fun _ l n hln => ?_⟩
  rw [Int.toNat_natCast] at hln
  exact ⟨_, _, (WeakV.pubTup (e := 9) (sz := 1) (n := l.length) (xs := strL l) (wr := true) 0 rfl).trans (WeakV.drop rfl), h l n hln⟩
theorem sl_cut (l : List Bz) (k : Nat) : List.drop (Int.toNat 0 * 1) (List.take (((k : Nat) : Int).toNat * 1) (strL l)) = strL (l.take k) := by
  rw [Int.toNat_natCast, show Int.toNat 0 * 1 = 0 from rfl, List.drop_zero, Nat.mul_one]
  show List.take k (List.map CV.str l) = List.map CV.str (l.take k)
  rw [List.map_take]
theorem sl_num (k : Nat) : (((k : Nat) : Int)).toNat - Int.toNat 0 = k := by
  rw [Int.toNat_natCast]
  rfl
def lawBack5S : Spec := fun args H Q => match args, H with
  | [.int .i64 z, .int .u64 g, .sl 1 n cs f, .int .i64 bad, .int .u32 y, .str more], [] => ∃ L : List Bz, n = L.length ∧ cs = strL L ∧ (0 ≤ g ∧ g < 18446744073709551616) ∧ (∃ r : BitVec 32, y = u32 r) ∧ Q (.bool true) []
  | _, _ => False
theorem back5_law : Meets Tryd.prog [] 5 lawBack5S := by
  refine meets_of Γok Tryd.func5 rfl ?_
  intro args H Q h
  unfold lawBack5S at h
  split at h
  case h_2 => exact h.elim
  rename_i z g n cs f bad y more
  obtain ⟨L, rfl, rfl, hg, ⟨y, rfl⟩, h⟩ := h
  obtain ⟨gn, rfl⟩ := Int.eq_ofNat_of_zero_le hg.1
  have hg1 : gn < 18446744073709551616 := by omega
  (refine sx_sound Γok _ ?_; conv => whnf)
  (repeat (first | (exact Out.same; conv => whnf) | (exact Out1.same; conv => whnf) | (refine QAnd.mk ?_ ?_; conv => whnf) | (apply QStepH.go; conv => whnf) | (refine Both.lit_true ?_; conv => whnf) | (refine Both.lit_false ?_; conv => whnf) | (apply QStep.go; conv => whnf) | (refine Need.mk ?_ ?_; (focus (first | omega | exact ⟨by omega, by omega⟩ | rfl | exact ⟨rfl, rfl⟩ | exact ⟨rfl, by omega, by omega⟩ | exact ⟨by omega, by omega, by omega⟩ | exact ⟨rfl, Nat.le_of_ble_eq_true rfl⟩ | exact Nat.le_of_ble_eq_true rfl | (refine ⟨rfl, rfl, ?_⟩; simp [isFar, ofV0, CV.up, SV.renL, SV.ren] <;> fail) | (refine ⟨rfl, Nat.le_of_ble_eq_true rfl, ?_⟩; simp [isFar, ofV0, CV.up, SV.renL, SV.ren] <;> fail) | (simp only [List.length_append, List.length_drop, List.length_take, List.length_replicate, List.length_map]; omega) | (simp <;> fail))); conv => whnf) | (refine ⟨_, rfl, ?_⟩; conv => whnf) | (refine CallVC.auto fawake_k ?_; conv => whnf)))
  refine Both.dec (fun h5 => ?_) (fun h5 => ?_)
  · (conv => whnf)
    (repeat (first | (exact Out.same; conv => whnf) | (exact Out1.same; conv => whnf) | (refine QAnd.mk ?_ ?_; conv => whnf) | (apply QStepH.go; conv => whnf) | (refine Both.lit_true ?_; conv => whnf) | (refine Both.lit_false ?_; conv => whnf) | (apply QStep.go; conv => whnf) | (refine Need.mk ?_ ?_; (focus (first | omega | exact ⟨by omega, by omega⟩ | rfl | exact ⟨rfl, rfl⟩ | exact ⟨rfl, by omega, by omega⟩ | exact ⟨by omega, by omega, by omega⟩ | exact ⟨rfl, Nat.le_of_ble_eq_true rfl⟩ | exact Nat.le_of_ble_eq_true rfl | (refine ⟨rfl, rfl, ?_⟩; simp [isFar, ofV0, CV.up, SV.renL, SV.ren] <;> fail) | (refine ⟨rfl, Nat.le_of_ble_eq_true rfl, ?_⟩; simp [isFar, ofV0, CV.up, SV.renL, SV.ren] <;> fail) | (simp only [List.length_append, List.length_drop, List.length_take, List.length_replicate, List.length_map]; omega) | (simp <;> fail))); conv => whnf) | (refine ⟨_, rfl, ?_⟩; conv => whnf)))
    exact ⟨_, _, WeakV.drop rfl, h⟩
  (conv => whnf)
  (repeat (first | (exact Out.same; conv => whnf) | (exact Out1.same; conv => whnf) | (refine QAnd.mk ?_ ?_; conv => whnf) | (apply QStepH.go; conv => whnf) | (refine Both.lit_true ?_; conv => whnf) | (refine Both.lit_false ?_; conv => whnf) | (apply QStep.go; conv => whnf) | (refine Need.mk ?_ ?_; (focus (first | omega | exact ⟨by omega, by omega⟩ | rfl | exact ⟨rfl, rfl⟩ | exact ⟨rfl, by omega, by omega⟩ | exact ⟨by omega, by omega, by omega⟩ | exact ⟨rfl, Nat.le_of_ble_eq_true rfl⟩ | exact Nat.le_of_ble_eq_true rfl | (refine ⟨rfl, rfl, ?_⟩; simp [isFar, ofV0, CV.up, SV.renL, SV.ren] <;> fail) | (refine ⟨rfl, Nat.le_of_ble_eq_true rfl, ?_⟩; simp [isFar, ofV0, CV.up, SV.renL, SV.ren] <;> fail) | (simp only [List.length_append, List.length_drop, List.length_take, List.length_replicate, List.length_map]; omega) | (simp <;> fail))); conv => whnf) | (refine ⟨_, rfl, ?_⟩; conv => whnf)))
  refine Both.dec (fun h6 => ?_) (fun h6 => ?_)
  · (conv => whnf)
    (repeat (first | (exact Out.same; conv => whnf) | (exact Out1.same; conv => whnf) | (refine QAnd.mk ?_ ?_; conv => whnf) | (apply QStepH.go; conv => whnf) | (refine Both.lit_true ?_; conv => whnf) | (refine Both.lit_false ?_; conv => whnf) | (apply QStep.go; conv => whnf) | (refine Need.mk ?_ ?_; (focus (first | omega | exact ⟨by omega, by omega⟩ | rfl | exact ⟨rfl, rfl⟩ | exact ⟨rfl, by omega, by omega⟩ | exact ⟨by omega, by omega, by omega⟩ | exact ⟨rfl, Nat.le_of_ble_eq_true rfl⟩ | exact Nat.le_of_ble_eq_true rfl | (refine ⟨rfl, rfl, ?_⟩; simp [isFar, ofV0, CV.up, SV.renL, SV.ren] <;> fail) | (refine ⟨rfl, Nat.le_of_ble_eq_true rfl, ?_⟩; simp [isFar, ofV0, CV.up, SV.renL, SV.ren] <;> fail) | (simp only [List.length_append, List.length_drop, List.length_take, List.length_replicate, List.length_map]; omega) | (simp <;> fail))); conv => whnf) | (refine ⟨_, rfl, ?_⟩; conv => whnf)))
    exact ⟨_, _, WeakV.drop rfl, h⟩
  (conv => whnf)
  (repeat (first | (exact Out.same; conv => whnf) | (exact Out1.same; conv => whnf) | (refine QAnd.mk ?_ ?_; conv => whnf) | (apply QStepH.go; conv => whnf) | (refine Both.lit_true ?_; conv => whnf) | (refine Both.lit_false ?_; conv => whnf) | (apply QStep.go; conv => whnf) | (refine Need.mk ?_ ?_; (focus (first | omega | exact ⟨by omega, by omega⟩ | rfl | exact ⟨rfl, rfl⟩ | exact ⟨rfl, by omega, by omega⟩ | exact ⟨by omega, by omega, by omega⟩ | exact ⟨rfl, Nat.le_of_ble_eq_true rfl⟩ | exact Nat.le_of_ble_eq_true rfl | (refine ⟨rfl, rfl, ?_⟩; simp [isFar, ofV0, CV.up, SV.renL, SV.ren] <;> fail) | (refine ⟨rfl, Nat.le_of_ble_eq_true rfl, ?_⟩; simp [isFar, ofV0, CV.up, SV.renL, SV.ren] <;> fail) | (simp only [List.length_append, List.length_drop, List.length_take, List.length_replicate, List.length_map]; omega) | (simp <;> fail))); conv => whnf) | (refine ⟨_, rfl, ?_⟩; conv => whnf)))
  refine Both.dec (fun h7 => ?_) (fun h7 => ?_)
  · (conv => whnf)
    (repeat (first | (exact Out.same; conv => whnf) | (exact Out1.same; conv => whnf) | (refine QAnd.mk ?_ ?_; conv => whnf) | (apply QStepH.go; conv => whnf) | (refine Both.lit_true ?_; conv => whnf) | (refine Both.lit_false ?_; conv => whnf) | (apply QStep.go; conv => whnf) | (refine Need.mk ?_ ?_; (focus (first | omega | exact ⟨by omega, by omega⟩ | rfl | exact ⟨rfl, rfl⟩ | exact ⟨rfl, by omega, by omega⟩ | exact ⟨by omega, by omega, by omega⟩ | exact ⟨rfl, Nat.le_of_ble_eq_true rfl⟩ | exact Nat.le_of_ble_eq_true rfl | (refine ⟨rfl, rfl, ?_⟩; simp [isFar, ofV0, CV.up, SV.renL, SV.ren] <;> fail) | (refine ⟨rfl, Nat.le_of_ble_eq_true rfl, ?_⟩; simp [isFar, ofV0, CV.up, SV.renL, SV.ren] <;> fail) | (simp only [List.length_append, List.length_drop, List.length_take, List.length_replicate, List.length_map]; omega) | (simp <;> fail))); conv => whnf) | (refine ⟨_, rfl, ?_⟩; conv => whnf)))
    exact ⟨_, _, WeakV.drop rfl, h⟩
  (conv => whnf)
  (repeat (first | (exact Out.same; conv => whnf) | (exact Out1.same; conv => whnf) | (refine QAnd.mk ?_ ?_; conv => whnf) | (apply QStepH.go; conv => whnf) | (refine Both.lit_true ?_; conv => whnf) | (refine Both.lit_false ?_; conv => whnf) | (apply QStep.go; conv => whnf) | (refine Need.mk ?_ ?_; (focus (first | omega | exact ⟨by omega, by omega⟩ | rfl | exact ⟨rfl, rfl⟩ | exact ⟨rfl, by omega, by omega⟩ | exact ⟨by omega, by omega, by omega⟩ | exact ⟨rfl, Nat.le_of_ble_eq_true rfl⟩ | exact Nat.le_of_ble_eq_true rfl | (refine ⟨rfl, rfl, ?_⟩; simp [isFar, ofV0, CV.up, SV.renL, SV.ren] <;> fail) | (refine ⟨rfl, Nat.le_of_ble_eq_true rfl, ?_⟩; simp [isFar, ofV0, CV.up, SV.renL, SV.ren] <;> fail) | (simp only [List.length_append, List.length_drop, List.length_take, List.length_replicate, List.length_map]; omega) | (simp <;> fail))); conv => whnf) | (refine ⟨_, rfl, ?_⟩; conv => whnf)))
  refine Both.dec (fun h8 => ?_) (fun h8 => ?_)
  · (conv => whnf)
    (repeat (first | (exact Out.same; conv => whnf) | (exact Out1.same; conv => whnf) | (refine QAnd.mk ?_ ?_; conv => whnf) | (apply QStepH.go; conv => whnf) | (refine Both.lit_true ?_; conv => whnf) | (refine Both.lit_false ?_; conv => whnf) | (apply QStep.go; conv => whnf) | (refine Need.mk ?_ ?_; (focus (first | omega | exact ⟨by omega, by omega⟩ | rfl | exact ⟨rfl, rfl⟩ | exact ⟨rfl, by omega, by omega⟩ | exact ⟨by omega, by omega, by omega⟩ | exact ⟨rfl, Nat.le_of_ble_eq_true rfl⟩ | exact Nat.le_of_ble_eq_true rfl | (refine ⟨rfl, rfl, ?_⟩; simp [isFar, ofV0, CV.up, SV.renL, SV.ren] <;> fail) | (refine ⟨rfl, Nat.le_of_ble_eq_true rfl, ?_⟩; simp [isFar, ofV0, CV.up, SV.renL, SV.ren] <;> fail) | (simp only [List.length_append, List.length_drop, List.length_take, List.length_replicate, List.length_map]; omega) | (simp <;> fail))); conv => whnf) | (refine ⟨_, rfl, ?_⟩; conv => whnf)))
    exact ⟨_, _, WeakV.drop rfl, h⟩
  obtain ⟨zn, rfl⟩ := Int.eq_ofNat_of_zero_le (show 0 ≤ z by omega)
  have hz : 64 ≤ zn ∧ zn ≤ 512 := by omega
  have hL : L.length ≤ 10 := by omega
  have hatL : ∀ k, k < L.length → (strL L)[((k : Nat) : Int).toNat]? = some (CV.str (L.getD k [])) := fun k hk => strL_at L hk
  have c0 : (!decide ((0 : Int) = 0)) = false := rfl
  have hsecb : ∀ k, k ≤ L.length → (∀ i, i < k → (L.getD i []).length ≤ 600) → secs zn (L.take k) ≤ 106 * k := by
    intro k
    induction k with
    | zero => intro _ _; exact Nat.le_refl _
    | succ k ih =>
      intro hk hi
      have := ih (by omega) (fun i q => hi i (by omega))
      have h1 := hi k (by omega)
      have h2 := np_small (n := (L.getD k []).length) hz (by omega)
      rw [secs_take_succ zn L (by omega)]
      omega
  (conv => whnf)
  (repeat (first | (exact Out.same; conv => whnf) | (exact Out1.same; conv => whnf) | (refine QAnd.mk ?_ ?_; conv => whnf) | (apply QStepH.go; conv => whnf) | (refine Both.lit_true ?_; conv => whnf) | (refine Both.lit_false ?_; conv => whnf) | (apply QStep.go; conv => whnf) | (refine Need.mk ?_ ?_; (focus (first | omega | exact ⟨by omega, by omega⟩ | rfl | exact ⟨rfl, rfl⟩ | exact ⟨rfl, by omega, by omega⟩ | exact ⟨by omega, by omega, by omega⟩ | exact ⟨rfl, Nat.le_of_ble_eq_true rfl⟩ | exact Nat.le_of_ble_eq_true rfl | (refine ⟨rfl, rfl, ?_⟩; simp [isFar, ofV0, CV.up, SV.renL, SV.ren] <;> fail) | (refine ⟨rfl, Nat.le_of_ble_eq_true rfl, ?_⟩; simp [isFar, ofV0, CV.up, SV.renL, SV.ren] <;> fail) | (simp only [List.length_append, List.length_drop, List.length_take, List.length_replicate, List.length_map]; omega) | (simp <;> fail))); conv => whnf) | (refine ⟨_, rfl, ?_⟩; conv => whnf)))
  refine loop_rule (fun k : Nat => ⟨[.int .i64 (zn : Int), .int .u64 (gn : Int), .sl 1 L.length (strL L) f, .int .i64 bad, .int .u32 (u32 y), .str more, .any, .any, .any, .any, .any, .any, .any, .str (textOf zn gn 0 (L.take k)), .own 0, .int .i64 (k : Int), .any, .any, .any, .any, .any, .any, .any, .any, .any, .any, .any, .any, .any, .any, .any, .any, .any, .any, .any, .any, .any, .any, .any, .any, .any, .any, .any, .any, .any, .any, .any, .any, .any, .any, .any, .any, .any, .any, .any, .any, .any, .any, .any, .any, .any, .any, .any, .any, .any, .any, .any, .any, .any, .any, .any, .any, .any, .any, .any, .any, .any, .any, .any, .any, .any, .any, .any, .any, .any, .any, .any, .any, .any, .any, .any, .any, .any, .any, .any, .any, .any, .any, .any, .any, .any, .any, .any, .any, .any, .any, .any, .any, .any, .any, .any, .any, .any, .any, .any, .any, .any, .any, .any, .any, .any, .any, .any, .any, .any, .any, .any, .any, .any, .any, .any, .any, .any, .any, .any, .any, .any, .any, .any, .any, .any, .any, .any, .any, .any, .any, .any, .any, .any, .any, .any, .any, .any, .any, .any, .any, .any, .any, .any, .any, .any, .any, .any, .any, .any, .any, .any, .any, .any, .any, .any, .any, .any, .any, .any, .any, .any, .any, .any, .any, .any, .any, .any, .any, .any, .any, .any, .any, .any, .any, .any, .any, .any, .any, .any, .any, .any, .any, .any, .any, .any, .any, .any, .any, .any, .any, .any, .any, .any, .any, .any, .any, .any, .any, .any, .any, .any, .any, .any, .any, .any, .any], [.own 3 1 k ((endsOf zn L k).map (CV.int .i64)) true]⟩) (fun k => k ≤ L.length ∧ ∀ i, i < k → (L.getD i []).length ≤ 600) (fun k => L.length - k) 0 ⟨Nat.zero_le _, fun i q => absurd q (by omega)⟩ ((Weak.ownNilT 14 3 1 rfl).trans (Weak.auto ?_)) ?_
  · (repeat' ((conv => whnf); first | exact True.intro | (refine And.intro ?_ ?_)))
    all_goals first | rfl | exact .eq rfl
  rintro k ⟨hk, hi600⟩
  have hsk := hsecb k hk hi600
  have htl := text_size (z := zn) hz gn (L.take k) 0
  have htb : secs zn (L.take k) * zn ≤ 1060 * 512 := Nat.mul_le_mul (by omega) hz.2
  (refine sx_sound Γok _ ?_; conv => whnf)
  (repeat (first | (exact Out.same; conv => whnf) | (exact Out1.same; conv => whnf) | (refine QAnd.mk ?_ ?_; conv => whnf) | (apply QStepH.go; conv => whnf) | (refine Both.lit_true ?_; conv => whnf) | (refine Both.lit_false ?_; conv => whnf) | (apply QStep.go; conv => whnf) | (refine Need.mk ?_ ?_; (focus (first | omega | exact ⟨by omega, by omega⟩ | rfl | exact ⟨rfl, rfl⟩ | exact ⟨rfl, by omega, by omega⟩ | exact ⟨by omega, by omega, by omega⟩ | exact ⟨rfl, Nat.le_of_ble_eq_true rfl⟩ | exact Nat.le_of_ble_eq_true rfl | (refine ⟨rfl, rfl, ?_⟩; simp [isFar, ofV0, CV.up, SV.renL, SV.ren] <;> fail) | (refine ⟨rfl, Nat.le_of_ble_eq_true rfl, ?_⟩; simp [isFar, ofV0, CV.up, SV.renL, SV.ren] <;> fail) | (simp only [List.length_append, List.length_drop, List.length_take, List.length_replicate, List.length_map]; omega) | (simp <;> fail))); conv => whnf) | (refine ⟨_, rfl, ?_⟩; conv => whnf)))
  refine Both.dec (fun hlt => ?_) (fun hge => ?_)
  · have hkn : k < L.length := by omega
    have hat := hatL k hkn
    have hku : IntKind.u64.wrap (k : Int) = (k : Int) := wrap_u64 (by omega) (by omega)
    have hk1 : IntKind.i64.wrap ((k : Int) + 1) = ((k + 1 : Nat) : Int) := by rw [wrap_i64 (by omega) (by omega)]; rfl
    obtain ⟨s, hs⟩ : ∃ s, L.getD k [] = s := ⟨_, rfl⟩
    have hnextS := secs_take_succ zn L hkn
    have hnextT := textOf_succ zn gn L hkn
    rw [hs] at hat hnextS hnextT
    (conv => whnf)
    (repeat (first | (refine ⟨_, hat, ?_⟩; conv => whnf) | (exact Out.same; conv => whnf) | (exact Out1.same; conv => whnf) | (refine QAnd.mk ?_ ?_; conv => whnf) | (apply QStepH.go; conv => whnf) | (refine Both.lit_true ?_; conv => whnf) | (refine Both.lit_false ?_; conv => whnf) | (apply QStep.go; conv => whnf) | (refine Need.mk ?_ ?_; (focus (first | omega | exact ⟨by omega, by omega⟩ | rfl | exact ⟨rfl, rfl⟩ | exact ⟨rfl, by omega, by omega⟩ | exact ⟨by omega, by omega, by omega⟩ | exact ⟨rfl, Nat.le_of_ble_eq_true rfl⟩ | exact Nat.le_of_ble_eq_true rfl | (refine ⟨rfl, rfl, ?_⟩; simp [isFar, ofV0, CV.up, SV.renL, SV.ren] <;> fail) | (refine ⟨rfl, Nat.le_of_ble_eq_true rfl, ?_⟩; simp [isFar, ofV0, CV.up, SV.renL, SV.ren] <;> fail) | (simp only [List.length_append, List.length_drop, List.length_take, List.length_replicate, List.length_map]; omega) | (simp <;> fail))); conv => whnf) | (refine ⟨_, rfl, ?_⟩; conv => whnf)))
    refine Both.dec (fun h9 => ?_) (fun h9 => ?_)
    · (conv => whnf)
      (repeat (first | (exact Out.same; conv => whnf) | (exact Out1.same; conv => whnf) | (refine QAnd.mk ?_ ?_; conv => whnf) | (apply QStepH.go; conv => whnf) | (refine Both.lit_true ?_; conv => whnf) | (refine Both.lit_false ?_; conv => whnf) | (apply QStep.go; conv => whnf) | (refine Need.mk ?_ ?_; (focus (first | omega | exact ⟨by omega, by omega⟩ | rfl | exact ⟨rfl, rfl⟩ | exact ⟨rfl, by omega, by omega⟩ | exact ⟨by omega, by omega, by omega⟩ | exact ⟨rfl, Nat.le_of_ble_eq_true rfl⟩ | exact Nat.le_of_ble_eq_true rfl | (refine ⟨rfl, rfl, ?_⟩; simp [isFar, ofV0, CV.up, SV.renL, SV.ren] <;> fail) | (refine ⟨rfl, Nat.le_of_ble_eq_true rfl, ?_⟩; simp [isFar, ofV0, CV.up, SV.renL, SV.ren] <;> fail) | (simp only [List.length_append, List.length_drop, List.length_take, List.length_replicate, List.length_map]; omega) | (simp <;> fail))); conv => whnf) | (refine ⟨_, rfl, ?_⟩; conv => whnf)))
      exact ⟨_, _, WeakV.drop rfl, h⟩
    have hs600 : s.length ≤ 600 := by omega
    have hpv := parts_yes (z := (zn : Int)) (n := s.length) (by omega) (by omega)
    rw [Int.toNat_natCast] at hpv
    have hnp := npar_pos (zn - 25) s.length
    have hnb := np_small (n := s.length) hz (by omega)
    have hlen := splitL_len zn gn k s
    have hsize : ∀ x ∈ splitL zn gn k s, x.length = zn := fun x hx => splitL_size hz hx
    have hall := flat_size hsize
    obtain ⟨S, hS⟩ : ∃ S, splitL zn gn k s = S := ⟨_, rfl⟩
    obtain ⟨T, hT⟩ : ∃ T, textOf zn gn 0 (L.take k) = T := ⟨_, rfl⟩
    rw [hS] at hlen hall hsize hnextT
    rw [hT] at htl hnextT
    have hatS : ∀ j, j < S.length → (strL S)[((j : Nat) : Int).toNat]? = some (CV.str (S.getD j [])) := fun j hj => strL_at S hj
    have cp : (!decide (((S.length : Nat) : Int) = ((partsV (zn : Int) (s.length : Int) : Nat) : Int))) = false := by rw [hpv, hlen]; simp
    (conv => whnf)
    (repeat (first | (refine ⟨_, hat, ?_⟩; conv => whnf) | (exact Out.same; conv => whnf) | (exact Out1.same; conv => whnf) | (refine QAnd.mk ?_ ?_; conv => whnf) | (apply QStepH.go; conv => whnf) | (refine Both.lit_true ?_; conv => whnf) | (refine Both.lit_false ?_; conv => whnf) | (apply QStep.go; conv => whnf) | (refine Need.mk ?_ ?_; (focus (first | omega | exact ⟨by omega, by omega⟩ | rfl | exact ⟨rfl, rfl⟩ | exact ⟨rfl, by omega, by omega⟩ | exact ⟨by omega, by omega, by omega⟩ | exact ⟨rfl, Nat.le_of_ble_eq_true rfl⟩ | exact Nat.le_of_ble_eq_true rfl | (refine ⟨rfl, rfl, ?_⟩; simp [isFar, ofV0, CV.up, SV.renL, SV.ren] <;> fail) | (refine ⟨rfl, Nat.le_of_ble_eq_true rfl, ?_⟩; simp [isFar, ofV0, CV.up, SV.renL, SV.ren] <;> fail) | (simp only [List.length_append, List.length_drop, List.length_take, List.length_replicate, List.length_map]; omega) | (simp <;> fail))); conv => whnf) | (refine ⟨_, rfl, ?_⟩; conv => whnf)))
    refine CallVC.auto fsplit_k ⟨gn, k, rfl, hku, hg1, by omega, by omega, fun q => absurd q (by omega), fun _ => ?_⟩
    rw [Int.toNat_natCast, hS]
    (conv => whnf)
    (repeat (first | (refine ⟨_, hat, ?_⟩; conv => whnf) | (refine Both.of_false c0 ?_; conv => whnf) | (refine Both.of_false cp ?_; conv => whnf) | (exact Out.same; conv => whnf) | (exact Out1.same; conv => whnf) | (refine QAnd.mk ?_ ?_; conv => whnf) | (apply QStepH.go; conv => whnf) | (refine Both.lit_true ?_; conv => whnf) | (refine Both.lit_false ?_; conv => whnf) | (apply QStep.go; conv => whnf) | (refine Need.mk ?_ ?_; (focus (first | omega | exact ⟨by omega, by omega⟩ | rfl | exact ⟨rfl, rfl⟩ | exact ⟨rfl, by omega, by omega⟩ | exact ⟨by omega, by omega, by omega⟩ | exact ⟨rfl, Nat.le_of_ble_eq_true rfl⟩ | exact Nat.le_of_ble_eq_true rfl | (refine ⟨rfl, rfl, ?_⟩; simp [isFar, ofV0, CV.up, SV.renL, SV.ren] <;> fail) | (refine ⟨rfl, Nat.le_of_ble_eq_true rfl, ?_⟩; simp [isFar, ofV0, CV.up, SV.renL, SV.ren] <;> fail) | (simp only [List.length_append, List.length_drop, List.length_take, List.length_replicate, List.length_map]; omega) | (simp <;> fail))); conv => whnf) | (refine ⟨_, rfl, ?_⟩; conv => whnf) | (refine CallVC.auto parts_k ?_; conv => whnf)))
    rw [hT]
    refine loop_rule (fun j : Nat => ⟨[.int .i64 (zn : Int), .int .u64 (gn : Int), .sl 1 L.length (strL L) f, .int .i64 bad, .int .u32 (u32 y), .str more, .any, .any, .any, .any, .any, .any, .any, .str (T ++ (S.take j).flatten), .own 0, .int .i64 (k : Int), .own 1, .any, .int .i64 (j : Int), .any, .any, .any, .any, .any, .any, .any, .any, .any, .any, .any, .any, .any, .any, .any, .any, .any, .any, .any, .any, .any, .any, .any, .any, .any, .any, .any, .any, .any, .any, .any, .any, .any, .any, .any, .any, .any, .any, .any, .any, .any, .any, .any, .any, .any, .any, .any, .any, .any, .any, .any, .any, .any, .any, .any, .any, .any, .any, .any, .any, .any, .any, .any, .any, .any, .any, .any, .any, .any, .any, .any, .any, .any, .any, .any, .any, .any, .any, .any, .any, .any, .any, .any, .any, .any, .any, .any, .any, .any, .any, .any, .any, .any, .any, .any, .any, .any, .any, .any, .any, .any, .any, .any, .any, .any, .any, .any, .any, .any, .any, .any, .any, .any, .any, .any, .any, .any, .any, .any, .any, .any, .any, .any, .any, .any, .any, .any, .any, .any, .any, .any, .any, .any, .any, .any, .any, .any, .any, .any, .any, .any, .any, .any, .any, .any, .any, .any, .any, .any, .any, .any, .any, .any, .any, .any, .any, .any, .any, .any, .any, .any, .any, .any, .any, .any, .any, .any, .any, .any, .any, .any, .any, .any, .any, .any, .any, .any, .any, .any, .any, .any, .any, .any, .any, .any, .any, .any, .any, .any, .any, .any, .any, .any, .any, .any, .any, .any, .any, .any, .any, .any, .any, .any], [.own 3 1 k ((endsOf zn L k).map (CV.int .i64)) true, .own 9 1 S.length (strL S) true]⟩) (fun j => j ≤ S.length) (fun j => S.length - j) 0 (Nat.zero_le _) (Weak.auto ?_) ?_
    · (repeat' ((conv => whnf); first | exact True.intro | (refine And.intro ?_ ?_)))
      all_goals first | rfl | exact .eq rfl | exact congrArg SV.str (List.append_nil _).symm
    intro j hj
    (refine sx_sound Γok _ ?_; conv => whnf)
    (repeat (first | (exact Out.same; conv => whnf) | (exact Out1.same; conv => whnf) | (refine QAnd.mk ?_ ?_; conv => whnf) | (apply QStepH.go; conv => whnf) | (refine Both.lit_true ?_; conv => whnf) | (refine Both.lit_false ?_; conv => whnf) | (apply QStep.go; conv => whnf) | (refine Need.mk ?_ ?_; (focus (first | omega | exact ⟨by omega, by omega⟩ | rfl | exact ⟨rfl, rfl⟩ | exact ⟨rfl, by omega, by omega⟩ | exact ⟨by omega, by omega, by omega⟩ | exact ⟨rfl, Nat.le_of_ble_eq_true rfl⟩ | exact Nat.le_of_ble_eq_true rfl | (refine ⟨rfl, rfl, ?_⟩; simp [isFar, ofV0, CV.up, SV.renL, SV.ren] <;> fail) | (refine ⟨rfl, Nat.le_of_ble_eq_true rfl, ?_⟩; simp [isFar, ofV0, CV.up, SV.renL, SV.ren] <;> fail) | (simp only [List.length_append, List.length_drop, List.length_take, List.length_replicate, List.length_map]; omega) | (simp <;> fail))); conv => whnf) | (refine ⟨_, rfl, ?_⟩; conv => whnf)))
    refine Both.dec (fun hjl => ?_) (fun hjg => ?_)
    · have hjn : j < S.length := by omega
      have hat2 := hatS j hjn
      have hfl := flat_len hsize j (by omega)
      have hjz : j * zn ≤ 106 * 512 := Nat.mul_le_mul (by omega) hz.2
      have hel : (S.getD j []).length = zn := by
        refine hsize _ ?_
        rw [List.getD_eq_getElem?_getD, List.getElem?_eq_getElem hjn]
        exact List.getElem_mem hjn
      have ce : (!decide ((((S.getD j []).length : Nat) : Int) = (zn : Int))) = false := by rw [hel]; simp
      have hcat : (T ++ (S.take j).flatten).length + (S.getD j []).length ≤ 9223372036854775807 := by rw [List.length_append]; omega
      have hnext : T ++ (S.take j).flatten ++ S.getD j [] = T ++ (S.take (j + 1)).flatten := by rw [List.append_assoc, flat_take hjn]
      have hj1 : IntKind.i64.wrap ((j : Int) + 1) = ((j + 1 : Nat) : Int) := by rw [wrap_i64 (by omega) (by omega)]; rfl
      (conv => whnf)
      (repeat (first | (refine ⟨_, hat2, ?_⟩; conv => whnf) | (refine Both.of_false ce ?_; conv => whnf) | (refine Need.mk hcat ?_; conv => whnf) | (exact Out.same; conv => whnf) | (exact Out1.same; conv => whnf) | (refine QAnd.mk ?_ ?_; conv => whnf) | (apply QStepH.go; conv => whnf) | (refine Both.lit_true ?_; conv => whnf) | (refine Both.lit_false ?_; conv => whnf) | (apply QStep.go; conv => whnf) | (refine Need.mk ?_ ?_; (focus (first | omega | exact ⟨by omega, by omega⟩ | rfl | exact ⟨rfl, rfl⟩ | exact ⟨rfl, by omega, by omega⟩ | exact ⟨by omega, by omega, by omega⟩ | exact ⟨rfl, Nat.le_of_ble_eq_true rfl⟩ | exact Nat.le_of_ble_eq_true rfl | (refine ⟨rfl, rfl, ?_⟩; simp [isFar, ofV0, CV.up, SV.renL, SV.ren] <;> fail) | (refine ⟨rfl, Nat.le_of_ble_eq_true rfl, ?_⟩; simp [isFar, ofV0, CV.up, SV.renL, SV.ren] <;> fail) | (simp only [List.length_append, List.length_drop, List.length_take, List.length_replicate, List.length_map]; omega) | (simp <;> fail))); conv => whnf) | (refine ⟨_, rfl, ?_⟩; conv => whnf)))
      refine ⟨j + 1, by omega, by omega, Weak.auto ?_⟩
      (repeat' ((conv => whnf); first | exact True.intro | (refine And.intro ?_ ?_)))
      all_goals first | rfl | exact .eq rfl | exact congrArg (SV.int .i64) hj1 | exact congrArg SV.str hnext
    have hjn : j = S.length := by omega
    subst hjn
    rw [List.take_length, ← hnextT]
    have hcap : (k + 1) * ti3.bytes ≤ 140737488355328 := by
      show (k + 1) * 8 ≤ _
      omega
    have hi6 : ∀ i, i < k + 1 → (L.getD i []).length ≤ 600 := fun i q => by
      rcases Nat.lt_or_ge i k with q1 | q1
      · exact hi600 i q1
      · rw [show i = k by omega, hs]
        exact hs600
    have htl2 := text_size (z := zn) hz gn (L.take (k + 1)) 0
    have hquo : IntKind.i64.wrap (Int.tdiv (((textOf zn gn 0 (L.take (k + 1))).length : Nat) : Int) (zn : Int)) = ((secs zn (L.take (k + 1)) : Nat) : Int) := by
      have h1 := hsecb (k + 1) (by omega) hi6
      rw [htl2, show ((secs zn (L.take (k + 1)) * zn : Nat) : Int).tdiv (zn : Int) = ((secs zn (L.take (k + 1)) * zn / zn : Nat) : Int) from rfl, Nat.mul_div_cancel _ (by omega), wrap_i64 (by omega) (by omega)]
    have hends : (endsOf zn L k).map (CV.int .i64) ++ [CV.int .i64 ((secs zn (L.take (k + 1)) : Nat) : Int)] = (endsOf zn L (k + 1)).map (CV.int .i64) := by rw [endsOf_succ, List.map_append]; rfl
    (conv => whnf)
    (repeat (first | (refine Need.mk hcap ?_; conv => whnf) | (exact Out.same; conv => whnf) | (exact Out1.same; conv => whnf) | (refine QAnd.mk ?_ ?_; conv => whnf) | (apply QStepH.go; conv => whnf) | (refine Both.lit_true ?_; conv => whnf) | (refine Both.lit_false ?_; conv => whnf) | (apply QStep.go; conv => whnf) | (refine Need.mk ?_ ?_; (focus (first | omega | exact ⟨by omega, by omega⟩ | rfl | exact ⟨rfl, rfl⟩ | exact ⟨rfl, by omega, by omega⟩ | exact ⟨by omega, by omega, by omega⟩ | exact ⟨rfl, Nat.le_of_ble_eq_true rfl⟩ | exact Nat.le_of_ble_eq_true rfl | (refine ⟨rfl, rfl, ?_⟩; simp [isFar, ofV0, CV.up, SV.renL, SV.ren] <;> fail) | (refine ⟨rfl, Nat.le_of_ble_eq_true rfl, ?_⟩; simp [isFar, ofV0, CV.up, SV.renL, SV.ren] <;> fail) | (simp only [List.length_append, List.length_drop, List.length_take, List.length_replicate, List.length_map]; omega) | (simp <;> fail))); conv => whnf) | (refine ⟨_, rfl, ?_⟩; conv => whnf)))
    have end2 : (endsOf zn L k).map (CV.int .i64) ++ [CV.int .i64 (IntKind.i64.wrap (Int.tdiv (((textOf zn gn 0 (L.take (k + 1))).length : Nat) : Int) (zn : Int)))] = (endsOf zn L (k + 1)).map (CV.int .i64) := by rw [hquo]; exact hends
    refine ⟨k + 1, ⟨by omega, hi6⟩, by omega, Weak.auto ?_⟩
    (repeat' ((conv => whnf); first | exact True.intro | (refine And.intro ?_ ?_)))
    all_goals first | rfl | exact .eq rfl | exact congrArg (SV.int .i64) hk1 | exact congrArg (fun l => LObj.own 3 1 (k + 1) l true) end2
  have hkn : k = L.length := by omega
  subst hkn
  have hl4 : ∀ t ∈ L, t.length ≤ 4096 := fun t ht => by
    obtain ⟨i, hi, rfl⟩ := List.mem_iff_getElem.1 ht
    have := hi600 i hi
    rw [List.getD_eq_getElem?_getD, List.getElem?_eq_getElem hi] at this
    exact Nat.le_trans this (by decide)
  have hn64 : L.length < 18446744073709551616 := by omega
  have hsc := scan_all hz hg1 L hl4 hn64
  have hscm := scan_more hz hg1 L more hl4 hn64
  have hscw := fun (j w : Nat) (hy : y ≠ 0) (hw : w < L.length) (h1 : secs zn (L.take w) ≤ j) (h2 : j < secs zn (L.take (w + 1))) => scan_whole hz hg1 L j w y hy hl4 hn64 hw h1 h2
  have htk : L.take L.length = L := List.take_length
  rw [htk] at htl htb hsk ⊢
  obtain ⟨T, hT⟩ : ∃ T, textOf zn gn 0 L = T := ⟨_, rfl⟩
  rw [hT] at hsc hscm hscw htl
  obtain ⟨used, hu⟩ : ∃ u, secs zn L = u := ⟨_, rfl⟩
  rw [hu] at hsc hscm htl htb hsk
  have e1 : decide (L = L) = true := decide_eq_true rfl
  have hLm : L.length ≤ 9223372036854775807 := by omega
  have hwu : IntKind.i64.wrap ((used : Int) * (zn : Int)) = ((used * zn : Nat) : Int) := by rw [← Int.natCast_mul, wrap_i64 (by omega) (by omega)]
  have cu : (!decide (IntKind.i64.wrap ((used : Int) * (zn : Int)) = ((T.length : Nat) : Int))) = false := by rw [hwu, htl]; simp
  have ct : (!decide (L = L)) = false := by simp
  have hcat : T.length + more.length ≤ 9223372036854775807 := by omega
  have hcm : (T ++ more).length ≤ 100000000 := by rw [List.length_append]; omega
  rw [hT]
  (conv => whnf)
  (repeat (first | (exact Out.same; conv => whnf) | (exact Out1.same; conv => whnf) | (refine QAnd.mk ?_ ?_; conv => whnf) | (apply QStepH.go; conv => whnf) | (refine Both.lit_true ?_; conv => whnf) | (refine Both.lit_false ?_; conv => whnf) | (apply QStep.go; conv => whnf) | (refine Need.mk ?_ ?_; (focus (first | omega | exact ⟨by omega, by omega⟩ | rfl | exact ⟨rfl, rfl⟩ | exact ⟨rfl, by omega, by omega⟩ | exact ⟨by omega, by omega, by omega⟩ | exact ⟨rfl, Nat.le_of_ble_eq_true rfl⟩ | exact Nat.le_of_ble_eq_true rfl | (refine ⟨rfl, rfl, ?_⟩; simp [isFar, ofV0, CV.up, SV.renL, SV.ren] <;> fail) | (refine ⟨rfl, Nat.le_of_ble_eq_true rfl, ?_⟩; simp [isFar, ofV0, CV.up, SV.renL, SV.ren] <;> fail) | (simp only [List.length_append, List.length_drop, List.length_take, List.length_replicate, List.length_map]; omega) | (simp <;> fail))); conv => whnf) | (refine ⟨_, rfl, ?_⟩; conv => whnf)))
  refine CallVC.auto fscanP_k ⟨zn, gn, rfl, rfl, hz.1, hz.2, hg1, by omega, fun m n hmn => ?_⟩
  rw [hsc] at hmn
  obtain ⟨rfl, rfl⟩ := Prod.mk.inj hmn
  (conv => whnf)
  (repeat (first | (exact Out.same; conv => whnf) | (exact Out1.same; conv => whnf) | (refine QAnd.mk ?_ ?_; conv => whnf) | (apply QStepH.go; conv => whnf) | (refine Both.lit_true ?_; conv => whnf) | (refine Both.lit_false ?_; conv => whnf) | (apply QStep.go; conv => whnf) | (refine Need.mk ?_ ?_; (focus (first | omega | exact ⟨by omega, by omega⟩ | rfl | exact ⟨rfl, rfl⟩ | exact ⟨rfl, by omega, by omega⟩ | exact ⟨by omega, by omega, by omega⟩ | exact ⟨rfl, Nat.le_of_ble_eq_true rfl⟩ | exact Nat.le_of_ble_eq_true rfl | (refine ⟨rfl, rfl, ?_⟩; simp [isFar, ofV0, CV.up, SV.renL, SV.ren] <;> fail) | (refine ⟨rfl, Nat.le_of_ble_eq_true rfl, ?_⟩; simp [isFar, ofV0, CV.up, SV.renL, SV.ren] <;> fail) | (simp only [List.length_append, List.length_drop, List.length_take, List.length_replicate, List.length_map]; omega) | (simp <;> fail))); conv => whnf) | (refine ⟨_, rfl, ?_⟩; conv => whnf)))
  refine CallVC.auto texts_k ⟨L, L, rfl, rfl, rfl, rfl, hLm, hLm, ?_⟩
  (conv => whnf)
  (repeat (first | (refine Both.of_false ct ?_; conv => whnf) | (refine Both.of_false cu ?_; conv => whnf) | (refine Need.mk hcat ?_; conv => whnf) | (exact Out.same; conv => whnf) | (exact Out1.same; conv => whnf) | (refine QAnd.mk ?_ ?_; conv => whnf) | (apply QStepH.go; conv => whnf) | (refine Both.lit_true ?_; conv => whnf) | (refine Both.lit_false ?_; conv => whnf) | (apply QStep.go; conv => whnf) | (refine Need.mk ?_ ?_; (focus (first | omega | exact ⟨by omega, by omega⟩ | rfl | exact ⟨rfl, rfl⟩ | exact ⟨rfl, by omega, by omega⟩ | exact ⟨by omega, by omega, by omega⟩ | exact ⟨rfl, Nat.le_of_ble_eq_true rfl⟩ | exact Nat.le_of_ble_eq_true rfl | (refine ⟨rfl, rfl, ?_⟩; simp [isFar, ofV0, CV.up, SV.renL, SV.ren] <;> fail) | (refine ⟨rfl, Nat.le_of_ble_eq_true rfl, ?_⟩; simp [isFar, ofV0, CV.up, SV.renL, SV.ren] <;> fail) | (simp only [List.length_append, List.length_drop, List.length_take, List.length_replicate, List.length_map]; omega) | (simp <;> fail))); conv => whnf) | (refine ⟨_, rfl, ?_⟩; conv => whnf)))
  refine CallVC.auto fscanP_k ⟨zn, gn, rfl, rfl, hz.1, hz.2, hg1, hcm, fun m2 n2 hmn => ?_⟩
  rw [hmn] at hscm
  obtain ⟨⟨rest, hrest⟩, hle⟩ := hscm
  have hrest : L ++ rest = m2 := hrest
  have hle : used ≤ n2 := hle
  have hroom := scanA_room (z := zn) (g := gn) (s := T ++ more) hz.1
  rw [hmn] at hroom
  have hr1 : n2 * zn ≤ (T ++ more).length := hroom.1
  have hr2 : m2.length ≤ n2 := hroom.2
  have hr3 : n2 * 1 ≤ n2 * zn := Nat.mul_le_mul_left _ (by omega)
  have hml : m2.length = L.length + rest.length := by rw [← hrest, List.length_append]
  have cl : decide (((m2.length : Nat) : Int) < ((L.length : Nat) : Int)) = false := decide_eq_false (by omega)
  have ck : decide ((n2 : Int) < (used : Int)) = false := decide_eq_false (by omega)
  (conv => whnf)
  (repeat (first | (refine Both.of_false cl ?_; conv => whnf) | (exact Out.same; conv => whnf) | (exact Out1.same; conv => whnf) | (refine QAnd.mk ?_ ?_; conv => whnf) | (apply QStepH.go; conv => whnf) | (refine Both.lit_true ?_; conv => whnf) | (refine Both.lit_false ?_; conv => whnf) | (apply QStep.go; conv => whnf) | (refine Need.mk ?_ ?_; (focus (first | omega | exact ⟨by omega, by omega⟩ | rfl | exact ⟨rfl, rfl⟩ | exact ⟨rfl, by omega, by omega⟩ | exact ⟨by omega, by omega, by omega⟩ | exact ⟨rfl, Nat.le_of_ble_eq_true rfl⟩ | exact Nat.le_of_ble_eq_true rfl | (refine ⟨rfl, rfl, ?_⟩; simp [isFar, ofV0, CV.up, SV.renL, SV.ren] <;> fail) | (refine ⟨rfl, Nat.le_of_ble_eq_true rfl, ?_⟩; simp [isFar, ofV0, CV.up, SV.renL, SV.ren] <;> fail) | (simp only [List.length_append, List.length_drop, List.length_take, List.length_replicate, List.length_map]; omega) | (simp <;> fail))); conv => whnf) | (refine ⟨_, rfl, ?_⟩; conv => whnf)))
  have hcut : List.drop (Int.toNat 0 * 1) (List.take (((L.length : Nat) : Int).toNat * 1) (strL m2)) = strL L := by rw [sl_cut, ← hrest, List.take_left]
  refine CallVC.auto texts_k ⟨L, L, hcut, rfl, sl_num _, rfl, hLm, hLm, ?_⟩
  (conv => whnf)
  (repeat (first | (refine Both.of_false ct ?_; conv => whnf) | (refine Both.of_false ck ?_; conv => whnf) | (exact Out.same; conv => whnf) | (exact Out1.same; conv => whnf) | (refine QAnd.mk ?_ ?_; conv => whnf) | (apply QStepH.go; conv => whnf) | (refine Both.lit_true ?_; conv => whnf) | (refine Both.lit_false ?_; conv => whnf) | (apply QStep.go; conv => whnf) | (refine Need.mk ?_ ?_; (focus (first | omega | exact ⟨by omega, by omega⟩ | rfl | exact ⟨rfl, rfl⟩ | exact ⟨rfl, by omega, by omega⟩ | exact ⟨by omega, by omega, by omega⟩ | exact ⟨rfl, Nat.le_of_ble_eq_true rfl⟩ | exact Nat.le_of_ble_eq_true rfl | (refine ⟨rfl, rfl, ?_⟩; simp [isFar, ofV0, CV.up, SV.renL, SV.ren] <;> fail) | (refine ⟨rfl, Nat.le_of_ble_eq_true rfl, ?_⟩; simp [isFar, ofV0, CV.up, SV.renL, SV.ren] <;> fail) | (simp only [List.length_append, List.length_drop, List.length_take, List.length_replicate, List.length_map]; omega) | (simp <;> fail))); conv => whnf) | (refine ⟨_, rfl, ?_⟩; conv => whnf)))
  refine Both.dec (fun hb0 => ?_) (fun hb0 => ?_)
  · (conv => whnf)
    (repeat (first | (exact Out.same; conv => whnf) | (exact Out1.same; conv => whnf) | (refine QAnd.mk ?_ ?_; conv => whnf) | (apply QStepH.go; conv => whnf) | (refine Both.lit_true ?_; conv => whnf) | (refine Both.lit_false ?_; conv => whnf) | (apply QStep.go; conv => whnf) | (refine Need.mk ?_ ?_; (focus (first | omega | exact ⟨by omega, by omega⟩ | rfl | exact ⟨rfl, rfl⟩ | exact ⟨rfl, by omega, by omega⟩ | exact ⟨by omega, by omega, by omega⟩ | exact ⟨rfl, Nat.le_of_ble_eq_true rfl⟩ | exact Nat.le_of_ble_eq_true rfl | (refine ⟨rfl, rfl, ?_⟩; simp [isFar, ofV0, CV.up, SV.renL, SV.ren] <;> fail) | (refine ⟨rfl, Nat.le_of_ble_eq_true rfl, ?_⟩; simp [isFar, ofV0, CV.up, SV.renL, SV.ren] <;> fail) | (simp only [List.length_append, List.length_drop, List.length_take, List.length_replicate, List.length_map]; omega) | (simp <;> fail))); conv => whnf) | (refine ⟨_, rfl, ?_⟩; conv => whnf)))
    exact ⟨_, _, WeakV.drop rfl, h⟩
  (conv => whnf)
  (repeat (first | (exact Out.same; conv => whnf) | (exact Out1.same; conv => whnf) | (refine QAnd.mk ?_ ?_; conv => whnf) | (apply QStepH.go; conv => whnf) | (refine Both.lit_true ?_; conv => whnf) | (refine Both.lit_false ?_; conv => whnf) | (apply QStep.go; conv => whnf) | (refine Need.mk ?_ ?_; (focus (first | omega | exact ⟨by omega, by omega⟩ | rfl | exact ⟨rfl, rfl⟩ | exact ⟨rfl, by omega, by omega⟩ | exact ⟨by omega, by omega, by omega⟩ | exact ⟨rfl, Nat.le_of_ble_eq_true rfl⟩ | exact Nat.le_of_ble_eq_true rfl | (refine ⟨rfl, rfl, ?_⟩; simp [isFar, ofV0, CV.up, SV.renL, SV.ren] <;> fail) | (refine ⟨rfl, Nat.le_of_ble_eq_true rfl, ?_⟩; simp [isFar, ofV0, CV.up, SV.renL, SV.ren] <;> fail) | (simp only [List.length_append, List.length_drop, List.length_take, List.length_replicate, List.length_map]; omega) | (simp <;> fail))); conv => whnf) | (refine ⟨_, rfl, ?_⟩; conv => whnf)))
  refine Both.dec (fun hb1 => ?_) (fun hb1 => ?_)
  · (conv => whnf)
    (repeat (first | (exact Out.same; conv => whnf) | (exact Out1.same; conv => whnf) | (refine QAnd.mk ?_ ?_; conv => whnf) | (apply QStepH.go; conv => whnf) | (refine Both.lit_true ?_; conv => whnf) | (refine Both.lit_false ?_; conv => whnf) | (apply QStep.go; conv => whnf) | (refine Need.mk ?_ ?_; (focus (first | omega | exact ⟨by omega, by omega⟩ | rfl | exact ⟨rfl, rfl⟩ | exact ⟨rfl, by omega, by omega⟩ | exact ⟨by omega, by omega, by omega⟩ | exact ⟨rfl, Nat.le_of_ble_eq_true rfl⟩ | exact Nat.le_of_ble_eq_true rfl | (refine ⟨rfl, rfl, ?_⟩; simp [isFar, ofV0, CV.up, SV.renL, SV.ren] <;> fail) | (refine ⟨rfl, Nat.le_of_ble_eq_true rfl, ?_⟩; simp [isFar, ofV0, CV.up, SV.renL, SV.ren] <;> fail) | (simp only [List.length_append, List.length_drop, List.length_take, List.length_replicate, List.length_map]; omega) | (simp <;> fail))); conv => whnf) | (refine ⟨_, rfl, ?_⟩; conv => whnf)))
    exact ⟨_, _, WeakV.drop rfl, h⟩
  (conv => whnf)
  (repeat (first | (exact Out.same; conv => whnf) | (exact Out1.same; conv => whnf) | (refine QAnd.mk ?_ ?_; conv => whnf) | (apply QStepH.go; conv => whnf) | (refine Both.lit_true ?_; conv => whnf) | (refine Both.lit_false ?_; conv => whnf) | (apply QStep.go; conv => whnf) | (refine Need.mk ?_ ?_; (focus (first | omega | exact ⟨by omega, by omega⟩ | rfl | exact ⟨rfl, rfl⟩ | exact ⟨rfl, by omega, by omega⟩ | exact ⟨by omega, by omega, by omega⟩ | exact ⟨rfl, Nat.le_of_ble_eq_true rfl⟩ | exact Nat.le_of_ble_eq_true rfl | (refine ⟨rfl, rfl, ?_⟩; simp [isFar, ofV0, CV.up, SV.renL, SV.ren] <;> fail) | (refine ⟨rfl, Nat.le_of_ble_eq_true rfl, ?_⟩; simp [isFar, ofV0, CV.up, SV.renL, SV.ren] <;> fail) | (simp only [List.length_append, List.length_drop, List.length_take, List.length_replicate, List.length_map]; omega) | (simp <;> fail))); conv => whnf) | (refine ⟨_, rfl, ?_⟩; conv => whnf)))
  refine Both.dec (fun hy => ?_) (fun hy => ?_)
  · (conv => whnf)
    (repeat (first | (exact Out.same; conv => whnf) | (exact Out1.same; conv => whnf) | (refine QAnd.mk ?_ ?_; conv => whnf) | (apply QStepH.go; conv => whnf) | (refine Both.lit_true ?_; conv => whnf) | (refine Both.lit_false ?_; conv => whnf) | (apply QStep.go; conv => whnf) | (refine Need.mk ?_ ?_; (focus (first | omega | exact ⟨by omega, by omega⟩ | rfl | exact ⟨rfl, rfl⟩ | exact ⟨rfl, by omega, by omega⟩ | exact ⟨by omega, by omega, by omega⟩ | exact ⟨rfl, Nat.le_of_ble_eq_true rfl⟩ | exact Nat.le_of_ble_eq_true rfl | (refine ⟨rfl, rfl, ?_⟩; simp [isFar, ofV0, CV.up, SV.renL, SV.ren] <;> fail) | (refine ⟨rfl, Nat.le_of_ble_eq_true rfl, ?_⟩; simp [isFar, ofV0, CV.up, SV.renL, SV.ren] <;> fail) | (simp only [List.length_append, List.length_drop, List.length_take, List.length_replicate, List.length_map]; omega) | (simp <;> fail))); conv => whnf) | (refine ⟨_, rfl, ?_⟩; conv => whnf)))
    exact ⟨_, _, WeakV.drop rfl, h⟩
  obtain ⟨j, rfl⟩ := Int.eq_ofNat_of_zero_le (show 0 ≤ bad by omega)
  have hju : j < used := by omega
  have hy0 : y ≠ 0 := fun h2 => hy (by rw [h2]; rfl)
  have hjz : (j + 1) * zn ≤ used * zn := Nat.mul_le_mul_right _ hju
  have hjz1 : (j + 1) * zn = j * zn + zn := by rw [Nat.add_mul, Nat.one_mul]
  have hscw := fun (w : Nat) => hscw j w hy0
  have hwj : IntKind.i64.wrap ((j : Int) * (zn : Int)) = ((j * zn : Nat) : Int) := by rw [← Int.natCast_mul, wrap_i64 (by omega) (by omega)]
  obtain ⟨m, hm⟩ : ∃ m, j * zn = m := ⟨_, rfl⟩
  rw [hm] at hwj hscw
  have hmz : m + zn ≤ T.length := by omega
  (conv => whnf)
  (repeat (first | (exact Out.same; conv => whnf) | (exact Out1.same; conv => whnf) | (refine QAnd.mk ?_ ?_; conv => whnf) | (apply QStepH.go; conv => whnf) | (refine Both.lit_true ?_; conv => whnf) | (refine Both.lit_false ?_; conv => whnf) | (apply QStep.go; conv => whnf) | (refine Need.mk ?_ ?_; (focus (first | omega | exact ⟨by omega, by omega⟩ | rfl | exact ⟨rfl, rfl⟩ | exact ⟨rfl, by omega, by omega⟩ | exact ⟨by omega, by omega, by omega⟩ | exact ⟨rfl, Nat.le_of_ble_eq_true rfl⟩ | exact Nat.le_of_ble_eq_true rfl | (refine ⟨rfl, rfl, ?_⟩; simp [isFar, ofV0, CV.up, SV.renL, SV.ren] <;> fail) | (refine ⟨rfl, Nat.le_of_ble_eq_true rfl, ?_⟩; simp [isFar, ofV0, CV.up, SV.renL, SV.ren] <;> fail) | (simp only [List.length_append, List.length_drop, List.length_take, List.length_replicate, List.length_map]; omega) | (simp <;> fail))); conv => whnf) | (refine ⟨_, rfl, ?_⟩; conv => whnf)))
  refine loop_rule (fun k : Nat => ⟨[.int .i64 (zn : Int), .int .u64 (gn : Int), .sl 1 L.length (strL L) f, .int .i64 (j : Int), .int .u32 (u32 y), .any, .any, .any, .any, .any, .any, .any, .any, .any, .own 0, .any, .any, .any, .any, .any, .any, .any, .any, .own 1, .int .i64 (k : Int), .any, .any, .any, .any, .any, .any, .any, .any, .any, .any, .any, .any, .any, .any, .any, .any, .any, .any, .any, .any, .any, .any, .any, .any, .any, .any, .any, .any, .any, .any, .any, .any, .any, .any, .any, .any, .any, .any, .any, .any, .any, .any, .any, .any, .any, .any, .any, .any, .any, .any, .any, .any, .any, .any, .any, .any, .any, .any, .any, .any, .any, .any, .any, .any, .any, .any, .any, .any, .any, .any, .any, .any, .any, .any, .any, .any, .any, .any, .any, .any, .any, .any, .any, .any, .any, .any, .any, .any, .any, .any, .any, .any, .any, .any, .any, .any, .any, .any, .any, .any, .any, .any, .any, .any, .any, .any, .any, .any, .any, .any, .any, .any, .any, .any, .any, .any, .any, .any, .any, .any, .any, .any, .any, .any, .any, .any, .any, .any, .any, .any, .any, .any, .any, .any, .any, .any, .any, .any, .any, .any, .any, .any, .any, .any, .any, .any, .any, .any, .any, .any, .any, .any, .any, .any, .any, .any, .any, .any, .any, .any, .any, .any, .any, .any, .any, .any, .any, .any, .any, .any, .any, .any, .any, .any, .any, .any, .any, .any, .any, .any, .any, .any, .any, .any, .any, .any, .any, .any, .any, .any, .any, .any, .any, .any, .any, .any, .any], [.own 3 1 L.length ((endsOf zn L L.length).map (CV.int .i64)) true, .own 5 1 T.length (bys (patch T m y k)) true]⟩) (fun k => k ≤ 4) (fun k => 4 - k) 0 (by omega) (Weak.auto ?_) ?_
  · (repeat' ((conv => whnf); first | exact True.intro | (refine And.intro ?_ ?_)))
    all_goals first | rfl | exact .eq rfl
  intro k hk
  (refine sx_sound Γok _ ?_; conv => whnf)
  (repeat (first | (exact Out.same; conv => whnf) | (exact Out1.same; conv => whnf) | (refine QAnd.mk ?_ ?_; conv => whnf) | (apply QStepH.go; conv => whnf) | (refine Both.lit_true ?_; conv => whnf) | (refine Both.lit_false ?_; conv => whnf) | (apply QStep.go; conv => whnf) | (refine Need.mk ?_ ?_; (focus (first | omega | exact ⟨by omega, by omega⟩ | rfl | exact ⟨rfl, rfl⟩ | exact ⟨rfl, by omega, by omega⟩ | exact ⟨by omega, by omega, by omega⟩ | exact ⟨rfl, Nat.le_of_ble_eq_true rfl⟩ | exact Nat.le_of_ble_eq_true rfl | (refine ⟨rfl, rfl, ?_⟩; simp [isFar, ofV0, CV.up, SV.renL, SV.ren] <;> fail) | (refine ⟨rfl, Nat.le_of_ble_eq_true rfl, ?_⟩; simp [isFar, ofV0, CV.up, SV.renL, SV.ren] <;> fail) | (simp only [List.length_append, List.length_drop, List.length_take, List.length_replicate, List.length_map]; omega) | (simp <;> fail))); conv => whnf) | (refine ⟨_, rfl, ?_⟩; conv => whnf)))
  refine Both.dec (fun hlt => ?_) (fun hge => ?_)
  · have hk4 : k < 4 := by omega
    have hw5 : IntKind.i64.wrap (IntKind.i64.wrap ((j : Int) * (zn : Int)) + (k : Int)) = ((m + k : Nat) : Int) := by rw [hwj, wrap_i64 (by omega) (by omega)]; omega
    have hw8 : IntKind.i64.wrap (8 * (k : Int)) = ((8 * k : Nat) : Int) := by rw [wrap_i64 (by omega) (by omega)]; omega
    have hwr : IntKind.i64.wrap ((k : Int) + 1) = ((k + 1 : Nat) : Int) := by rw [wrap_i64 (by omega) (by omega)]; omega
    have hgl : m + k < (patch T m y k).length := by rw [patch_len]; omega
    have hget := bys_get' hgl
    have hset := patch_bys (patch T m y k) y (m + k) k hk4
    have hlb : ((m + k : Nat) : Int).toNat < (bys (patch T m y k)).length := by rw [bys, List.length_map, Int.toNat_natCast]; exact hgl
    have hgetR : (bys (patch T m y k))[(IntKind.i64.wrap (IntKind.i64.wrap ((j : Int) * (zn : Int)) + (k : Int))).toNat]? = _ := (congrArg (fun i : Int => (bys (patch T m y k))[i.toNat]?) hw5).trans hget
    have hsetR : (bys (patch T m y k)).set (IntKind.i64.wrap (IntKind.i64.wrap ((j : Int) * (zn : Int)) + (k : Int))).toNat (.int .u8 (bitXor .u8 (((patch T m y k).getD (m + k) 0).toNat : Int) (IntKind.u8.wrap (shrI .u32 (u32 y) (IntKind.i64.wrap (8 * (k : Int))))))) = bys (patch T m y (k + 1)) := by rw [hw5, hw8]; exact hset
    have hned : (1 : Nat) = 1 ∧ (IntKind.i64.wrap (IntKind.i64.wrap ((j : Int) * (zn : Int)) + (k : Int))).toNat < (bys (patch T m y k)).length := ⟨rfl, by rw [hw5]; exact hlb⟩
    have hix : (1 : Nat) = 1 ∧ (0 : Int) ≤ IntKind.i64.wrap (IntKind.i64.wrap ((j : Int) * (zn : Int)) + (k : Int)) ∧ IntKind.i64.wrap (IntKind.i64.wrap ((j : Int) * (zn : Int)) + (k : Int)) < ((T.length : Nat) : Int) := ⟨rfl, by rw [hw5]; omega, by rw [hw5]; omega⟩
    have hsh : (0 : Int) ≤ IntKind.i64.wrap (8 * (k : Int)) := by rw [hw8]; omega
    (conv => whnf)
    (repeat (first | (exact Out.same; conv => whnf) | (exact Out1.same; conv => whnf) | (refine QAnd.mk ?_ ?_; conv => whnf) | (apply QStepH.go; conv => whnf) | (refine Both.lit_true ?_; conv => whnf) | (refine Both.lit_false ?_; conv => whnf) | (apply QStep.go; conv => whnf) | (refine Need.mk ?_ ?_; (focus (first | omega | exact ⟨by omega, by omega⟩ | rfl | exact ⟨rfl, rfl⟩ | exact ⟨rfl, by omega, by omega⟩ | exact ⟨by omega, by omega, by omega⟩ | exact ⟨rfl, Nat.le_of_ble_eq_true rfl⟩ | exact Nat.le_of_ble_eq_true rfl | (refine ⟨rfl, rfl, ?_⟩; simp [isFar, ofV0, CV.up, SV.renL, SV.ren] <;> fail) | (refine ⟨rfl, Nat.le_of_ble_eq_true rfl, ?_⟩; simp [isFar, ofV0, CV.up, SV.renL, SV.ren] <;> fail) | (simp only [List.length_append, List.length_drop, List.length_take, List.length_replicate, List.length_map]; omega) | (simp <;> fail))); conv => whnf) | (refine ⟨_, rfl, ?_⟩; conv => whnf)))
    (refine DrawVC.any Γok (by kernel_rfl) (by kernel_rfl) (by kernel_rfl) (by rfl) ?_; conv => whnf)
    (repeat (first | (refine Need.mk hix ?_; conv => whnf) | (refine ⟨_, hgetR, ?_⟩; conv => whnf) | (refine Need.mk hned ?_; conv => whnf) | (refine Need.mk hsh ?_; conv => whnf) | (exact Out.same; conv => whnf) | (exact Out1.same; conv => whnf) | (refine QAnd.mk ?_ ?_; conv => whnf) | (apply QStepH.go; conv => whnf) | (refine Both.lit_true ?_; conv => whnf) | (refine Both.lit_false ?_; conv => whnf) | (apply QStep.go; conv => whnf) | (refine Need.mk ?_ ?_; (focus (first | omega | exact ⟨by omega, by omega⟩ | rfl | exact ⟨rfl, rfl⟩ | exact ⟨rfl, by omega, by omega⟩ | exact ⟨by omega, by omega, by omega⟩ | exact ⟨rfl, Nat.le_of_ble_eq_true rfl⟩ | exact Nat.le_of_ble_eq_true rfl | (refine ⟨rfl, rfl, ?_⟩; simp [isFar, ofV0, CV.up, SV.renL, SV.ren] <;> fail) | (refine ⟨rfl, Nat.le_of_ble_eq_true rfl, ?_⟩; simp [isFar, ofV0, CV.up, SV.renL, SV.ren] <;> fail) | (simp only [List.length_append, List.length_drop, List.length_take, List.length_replicate, List.length_map]; omega) | (simp <;> fail))); conv => whnf) | (refine ⟨_, rfl, ?_⟩; conv => whnf)))
    refine ⟨k + 1, by omega, by omega, Weak.auto ?_⟩
    (repeat' ((conv => whnf); first | exact True.intro | (refine And.intro ?_ ?_)))
    all_goals first | rfl | exact .eq rfl | exact congrArg (SV.int .i64) hwr | exact congrArg (fun l => LObj.own 5 1 T.length l true) hsetR
  have hk4 : k = 4 := by omega
  subst hk4
  have hfar : (bys (patch T m y 4)).length = T.length ∧ ∀ x ∈ bys (patch T m y 4), isU8 x = true := ⟨by rw [bys, List.length_map, patch_len], bys_u8' _⟩
  have hbb : (bys (patch T m y 4)).map cvByte = patch T m y 4 := bys_bytes' _
  have htl5 : ((bys (patch T m y 4)).map cvByte).length ≤ 100000000 := by rw [hbb, patch_len]; omega
  have hatE : ∀ w, w < L.length → ((endsOf zn L L.length).map (CV.int .i64))[((w : Nat) : Int).toNat]? = some (CV.int .i64 ((secs zn (L.take (w + 1)) : Nat) : Int)) := fun w hw => by
    rw [Int.toNat_natCast, List.getElem?_map]
    unfold endsOf
    rw [List.getElem?_map, List.getElem?_range hw]
    rfl
  (conv => whnf)
  (repeat (first | (exact Out.same; conv => whnf) | (exact Out1.same; conv => whnf) | (refine QAnd.mk ?_ ?_; conv => whnf) | (apply QStepH.go; conv => whnf) | (refine Both.lit_true ?_; conv => whnf) | (refine Both.lit_false ?_; conv => whnf) | (apply QStep.go; conv => whnf) | (refine Need.mk ?_ ?_; (focus (first | omega | exact ⟨by omega, by omega⟩ | rfl | exact ⟨rfl, rfl⟩ | exact ⟨rfl, by omega, by omega⟩ | exact ⟨by omega, by omega, by omega⟩ | exact ⟨rfl, Nat.le_of_ble_eq_true rfl⟩ | exact Nat.le_of_ble_eq_true rfl | (refine ⟨rfl, rfl, ?_⟩; simp [isFar, ofV0, CV.up, SV.renL, SV.ren] <;> fail) | (refine ⟨rfl, Nat.le_of_ble_eq_true rfl, ?_⟩; simp [isFar, ofV0, CV.up, SV.renL, SV.ren] <;> fail) | (simp only [List.length_append, List.length_drop, List.length_take, List.length_replicate, List.length_map]; omega) | (simp <;> fail))); conv => whnf) | (refine ⟨_, rfl, ?_⟩; conv => whnf)))
  refine loop_rule (fun w : Nat => ⟨[.int .i64 (zn : Int), .int .u64 (gn : Int), .sl 1 L.length (strL L) f, .int .i64 (j : Int), .any, .any, .any, .any, .any, .any, .any, .any, .any, .any, .own 0, .any, .any, .any, .any, .any, .any, .any, .any, .own 1, .any, .int .i64 (w : Int), .any, .any, .any, .any, .any, .any, .any, .any, .any, .any, .any, .any, .any, .any, .any, .any, .any, .any, .any, .any, .any, .any, .any, .any, .any, .any, .any, .any, .any, .any, .any, .any, .any, .any, .any, .any, .any, .any, .any, .any, .any, .any, .any, .any, .any, .any, .any, .any, .any, .any, .any, .any, .any, .any, .any, .any, .any, .any, .any, .any, .any, .any, .any, .any, .any, .any, .any, .any, .any, .any, .any, .any, .any, .any, .any, .any, .any, .any, .any, .any, .any, .any, .any, .any, .any, .any, .any, .any, .any, .any, .any, .any, .any, .any, .any, .any, .any, .any, .any, .any, .any, .any, .any, .any, .any, .any, .any, .any, .any, .any, .any, .any, .any, .any, .any, .any, .any, .any, .any, .any, .any, .any, .any, .any, .any, .any, .any, .any, .any, .any, .any, .any, .any, .any, .any, .any, .any, .any, .any, .any, .any, .any, .any, .any, .any, .any, .any, .any, .any, .any, .any, .any, .any, .any, .any, .any, .any, .any, .any, .any, .any, .any, .any, .any, .any, .any, .any, .any, .any, .any, .any, .any, .any, .any, .any, .any, .any, .any, .any, .any, .any, .any, .any, .any, .any, .any, .any, .any, .any, .any, .any, .any, .any, .any, .any, .any], [.own 3 1 L.length ((endsOf zn L L.length).map (CV.int .i64)) true, .own 5 1 T.length (bys (patch T m y 4)) true]⟩) (fun w => w ≤ L.length ∧ secs zn (L.take w) ≤ j) (fun w => L.length - w) 0 ⟨Nat.zero_le _, Nat.zero_le _⟩ (Weak.auto ?_) ?_
  · (repeat' ((conv => whnf); first | exact True.intro | (refine And.intro ?_ ?_)))
    all_goals first | rfl | exact .eq rfl
  rintro w ⟨hwl, hwj2⟩
  (refine sx_sound Γok _ ?_; conv => whnf)
  (repeat (first | (exact Out.same; conv => whnf) | (exact Out1.same; conv => whnf) | (refine QAnd.mk ?_ ?_; conv => whnf) | (apply QStepH.go; conv => whnf) | (refine Both.lit_true ?_; conv => whnf) | (refine Both.lit_false ?_; conv => whnf) | (apply QStep.go; conv => whnf) | (refine Need.mk ?_ ?_; (focus (first | omega | exact ⟨by omega, by omega⟩ | rfl | exact ⟨rfl, rfl⟩ | exact ⟨rfl, by omega, by omega⟩ | exact ⟨by omega, by omega, by omega⟩ | exact ⟨rfl, Nat.le_of_ble_eq_true rfl⟩ | exact Nat.le_of_ble_eq_true rfl | (refine ⟨rfl, rfl, ?_⟩; simp [isFar, ofV0, CV.up, SV.renL, SV.ren] <;> fail) | (refine ⟨rfl, Nat.le_of_ble_eq_true rfl, ?_⟩; simp [isFar, ofV0, CV.up, SV.renL, SV.ren] <;> fail) | (simp only [List.length_append, List.length_drop, List.length_take, List.length_replicate, List.length_map]; omega) | (simp <;> fail))); conv => whnf) | (refine ⟨_, rfl, ?_⟩; conv => whnf)))
  refine Both.dec (fun hlt => ?_) (fun hge => ?_)
  case refine_2 =>
    exfalso
    have : w = L.length := by omega
    rw [this, htk, hu] at hwj2
    omega
  have hwn : w < L.length := by omega
  have hat3 := hatE w hwn
  have hwr : IntKind.i64.wrap ((w : Int) + 1) = ((w + 1 : Nat) : Int) := by rw [wrap_i64 (by omega) (by omega)]; omega
  (conv => whnf)
  (repeat (first | (refine ⟨_, hat3, ?_⟩; conv => whnf) | (exact Out.same; conv => whnf) | (exact Out1.same; conv => whnf) | (refine QAnd.mk ?_ ?_; conv => whnf) | (apply QStepH.go; conv => whnf) | (refine Both.lit_true ?_; conv => whnf) | (refine Both.lit_false ?_; conv => whnf) | (apply QStep.go; conv => whnf) | (refine Need.mk ?_ ?_; (focus (first | omega | exact ⟨by omega, by omega⟩ | rfl | exact ⟨rfl, rfl⟩ | exact ⟨rfl, by omega, by omega⟩ | exact ⟨by omega, by omega, by omega⟩ | exact ⟨rfl, Nat.le_of_ble_eq_true rfl⟩ | exact Nat.le_of_ble_eq_true rfl | (refine ⟨rfl, rfl, ?_⟩; simp [isFar, ofV0, CV.up, SV.renL, SV.ren] <;> fail) | (refine ⟨rfl, Nat.le_of_ble_eq_true rfl, ?_⟩; simp [isFar, ofV0, CV.up, SV.renL, SV.ren] <;> fail) | (simp only [List.length_append, List.length_drop, List.length_take, List.length_replicate, List.length_map]; omega) | (simp <;> fail))); conv => whnf) | (refine ⟨_, rfl, ?_⟩; conv => whnf)))
  refine Both.dec (fun hle2 => ?_) (fun hgt => ?_)
  · (conv => whnf)
    (repeat (first | (exact Out.same; conv => whnf) | (exact Out1.same; conv => whnf) | (refine QAnd.mk ?_ ?_; conv => whnf) | (apply QStepH.go; conv => whnf) | (refine Both.lit_true ?_; conv => whnf) | (refine Both.lit_false ?_; conv => whnf) | (apply QStep.go; conv => whnf) | (refine Need.mk ?_ ?_; (focus (first | omega | exact ⟨by omega, by omega⟩ | rfl | exact ⟨rfl, rfl⟩ | exact ⟨rfl, by omega, by omega⟩ | exact ⟨by omega, by omega, by omega⟩ | exact ⟨rfl, Nat.le_of_ble_eq_true rfl⟩ | exact Nat.le_of_ble_eq_true rfl | (refine ⟨rfl, rfl, ?_⟩; simp [isFar, ofV0, CV.up, SV.renL, SV.ren] <;> fail) | (refine ⟨rfl, Nat.le_of_ble_eq_true rfl, ?_⟩; simp [isFar, ofV0, CV.up, SV.renL, SV.ren] <;> fail) | (simp only [List.length_append, List.length_drop, List.length_take, List.length_replicate, List.length_map]; omega) | (simp <;> fail))); conv => whnf) | (refine ⟨_, rfl, ?_⟩; conv => whnf)))
    refine ⟨w + 1, ⟨by omega, by omega⟩, by omega, Weak.auto ?_⟩
    (repeat' ((conv => whnf); first | exact True.intro | (refine And.intro ?_ ?_)))
    all_goals first | rfl | exact .eq rfl | exact congrArg (SV.int .i64) hwr
  have hfin := hscw w hwn hwj2 (by omega)
  have hwm : (L.take w).length ≤ 9223372036854775807 := by rw [List.length_take]; omega
  have hwlen : (((w : Nat) : Int)).toNat - Int.toNat 0 = (L.take w).length := by rw [sl_num, List.length_take]; omega
  have e2 : decide (L.take w = L.take w) = true := decide_eq_true rfl
  (conv => whnf)
  (repeat (first | (refine Need.mk hfar ?_; conv => whnf) | (exact Out.same; conv => whnf) | (exact Out1.same; conv => whnf) | (refine QAnd.mk ?_ ?_; conv => whnf) | (apply QStepH.go; conv => whnf) | (refine Both.lit_true ?_; conv => whnf) | (refine Both.lit_false ?_; conv => whnf) | (apply QStep.go; conv => whnf) | (refine Need.mk ?_ ?_; (focus (first | omega | exact ⟨by omega, by omega⟩ | rfl | exact ⟨rfl, rfl⟩ | exact ⟨rfl, by omega, by omega⟩ | exact ⟨by omega, by omega, by omega⟩ | exact ⟨rfl, Nat.le_of_ble_eq_true rfl⟩ | exact Nat.le_of_ble_eq_true rfl | (refine ⟨rfl, rfl, ?_⟩; simp [isFar, ofV0, CV.up, SV.renL, SV.ren] <;> fail) | (refine ⟨rfl, Nat.le_of_ble_eq_true rfl, ?_⟩; simp [isFar, ofV0, CV.up, SV.renL, SV.ren] <;> fail) | (simp only [List.length_append, List.length_drop, List.length_take, List.length_replicate, List.length_map]; omega) | (simp <;> fail))); conv => whnf) | (refine ⟨_, rfl, ?_⟩; conv => whnf)))
  refine CallVC.auto fscanP_k ⟨zn, gn, rfl, rfl, hz.1, hz.2, hg1, htl5, fun m3 n3 hmn3 => ?_⟩
  rw [hbb, hfin] at hmn3
  obtain ⟨rfl, rfl⟩ := Prod.mk.inj hmn3
  (conv => whnf)
  (repeat (first | (exact Out.same; conv => whnf) | (exact Out1.same; conv => whnf) | (refine QAnd.mk ?_ ?_; conv => whnf) | (apply QStepH.go; conv => whnf) | (refine Both.lit_true ?_; conv => whnf) | (refine Both.lit_false ?_; conv => whnf) | (apply QStep.go; conv => whnf) | (refine Need.mk ?_ ?_; (focus (first | omega | exact ⟨by omega, by omega⟩ | rfl | exact ⟨rfl, rfl⟩ | exact ⟨rfl, by omega, by omega⟩ | exact ⟨by omega, by omega, by omega⟩ | exact ⟨rfl, Nat.le_of_ble_eq_true rfl⟩ | exact Nat.le_of_ble_eq_true rfl | (refine ⟨rfl, rfl, ?_⟩; simp [isFar, ofV0, CV.up, SV.renL, SV.ren] <;> fail) | (refine ⟨rfl, Nat.le_of_ble_eq_true rfl, ?_⟩; simp [isFar, ofV0, CV.up, SV.renL, SV.ren] <;> fail) | (simp only [List.length_append, List.length_drop, List.length_take, List.length_replicate, List.length_map]; omega) | (simp <;> fail))); conv => whnf) | (refine ⟨_, rfl, ?_⟩; conv => whnf)))
  refine CallVC.auto texts_k ⟨L.take w, L.take w, rfl, sl_cut L w, rfl, hwlen, hwm, hwm, ?_⟩
  rw [e2]
  (conv => whnf)
  (repeat (first | (exact Out.same; conv => whnf) | (exact Out1.same; conv => whnf) | (refine QAnd.mk ?_ ?_; conv => whnf) | (apply QStepH.go; conv => whnf) | (refine Both.lit_true ?_; conv => whnf) | (refine Both.lit_false ?_; conv => whnf) | (apply QStep.go; conv => whnf) | (refine Need.mk ?_ ?_; (focus (first | omega | exact ⟨by omega, by omega⟩ | rfl | exact ⟨rfl, rfl⟩ | exact ⟨rfl, by omega, by omega⟩ | exact ⟨by omega, by omega, by omega⟩ | exact ⟨rfl, Nat.le_of_ble_eq_true rfl⟩ | exact Nat.le_of_ble_eq_true rfl | (refine ⟨rfl, rfl, ?_⟩; simp [isFar, ofV0, CV.up, SV.renL, SV.ren] <;> fail) | (refine ⟨rfl, Nat.le_of_ble_eq_true rfl, ?_⟩; simp [isFar, ofV0, CV.up, SV.renL, SV.ren] <;> fail) | (simp only [List.length_append, List.length_drop, List.length_take, List.length_replicate, List.length_map]; omega) | (simp <;> fail))); conv => whnf) | (refine ⟨_, rfl, ?_⟩; conv => whnf)))
  exact ⟨_, _, WeakV.drop rfl, h⟩
end Go.LX
