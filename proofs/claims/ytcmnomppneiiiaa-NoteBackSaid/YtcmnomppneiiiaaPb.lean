import Derived.Test.YtcmnomppneiiiaaPa
set_option maxRecDepth 100000
set_option maxHeartbeats 4000000
set_option autoImplicit false
set_option linter.unusedVariables false
set_option linter.unusedSimpArgs false
namespace Go.LX
open Go.Proofs

/-! ## A packet is written, and read -/
def pmore (f s t : Int) (d : List UInt8) : List UInt8 := if pok f s t d then pbytes f s t d else []
theorem pbytes_len (f s t : Int) (d : List UInt8) : (pbytes f s t d).length = 19 + d.length := by
  simp [pbytes, beb_length]
  omega
theorem pmore_len (f s t : Int) (d : List UInt8) : (pmore f s t d).length ≤ 83 := by
  unfold pmore
  split
  · rename_i h
    simp [pok] at h
    rw [pbytes_len]
    omega
  · simp
def pputS : Spec := fun args H Q => match args, H with
  | [.ptr 0 0, .agg [.int .i64 f, .int .u64 s, .int .u64 t, .str d]], [.cells [.int .i64 e, .opt 0 1, .own 1] 65, .own 5 1 m xs true] =>
    Need ((0 ≤ s ∧ s < 18446744073709551616) ∧ 0 ≤ t ∧ t < 18446744073709551616) (∃ l : List UInt8, xs = bys l ∧ m = l.length ∧ l.length < 5000000 ∧
      ∀ e' l', e' = (if pok f s t d then e else errOf e) → l' = l ++ pmore f s t d → Q (.tuple []) (wrN e' l'))
  | _, _ => False
theorem pput_c : Meets Try.prog [] 52 pputS := by
  refine meets_of Γok Try.func52 rfl ?_
  intro args H Q h
  unfold pputS at h
  split at h
  case h_2 => exact h.elim
  rename_i f s t d e m xs
  obtain ⟨⟨hs, ht⟩, l, rfl, rfl, hl, h⟩ := h
  (refine sx_sound Γok _ ?_; conv => whnf)
  (repeat (first | (exact Out.same; conv => whnf) | (exact Out1.same; conv => whnf) | (refine QAnd.mk ?_ ?_; conv => whnf) | (apply QStepH.go; conv => whnf) | (refine Both.lit_true ?_; conv => whnf) | (refine Both.lit_false ?_; conv => whnf) | (apply QStep.go; conv => whnf) | (refine Need.mk ?_ ?_; (focus (first | omega | exact ⟨by omega, by omega⟩ | rfl | exact ⟨rfl, rfl⟩ | exact ⟨rfl, by omega, by omega⟩ | exact ⟨by omega, by omega, by omega⟩ | exact ⟨rfl, Nat.le_of_ble_eq_true rfl⟩ | exact Nat.le_of_ble_eq_true rfl | (refine ⟨rfl, rfl, ?_⟩; simp [isFar, ofV0, CV.up, SV.renL, SV.ren] <;> fail) | (refine ⟨rfl, Nat.le_of_ble_eq_true rfl, ?_⟩; simp [isFar, ofV0, CV.up, SV.renL, SV.ren] <;> fail) | (simp <;> fail))); conv => whnf) | (refine ⟨_, rfl, ?_⟩; conv => whnf)))
  refine CallVC.auto pcheck_k ?_
  (conv => whnf)
  intro x hx
  cases hp : pok f s t d
  · obtain rfl : x = 1 := by rw [hx, hp]; rfl
    (conv => whnf)
    (repeat (first | (exact Out.same; conv => whnf) | (exact Out1.same; conv => whnf) | (refine QAnd.mk ?_ ?_; conv => whnf) | (apply QStepH.go; conv => whnf) | (refine Both.lit_true ?_; conv => whnf) | (refine Both.lit_false ?_; conv => whnf) | (apply QStep.go; conv => whnf) | (refine Need.mk ?_ ?_; (focus (first | omega | exact ⟨by omega, by omega⟩ | rfl | exact ⟨rfl, rfl⟩ | exact ⟨rfl, by omega, by omega⟩ | exact ⟨by omega, by omega, by omega⟩ | exact ⟨rfl, Nat.le_of_ble_eq_true rfl⟩ | exact Nat.le_of_ble_eq_true rfl | (refine ⟨rfl, rfl, ?_⟩; simp [isFar, ofV0, CV.up, SV.renL, SV.ren] <;> fail) | (refine ⟨rfl, Nat.le_of_ble_eq_true rfl, ?_⟩; simp [isFar, ofV0, CV.up, SV.renL, SV.ren] <;> fail) | (simp <;> fail))); conv => whnf) | (refine ⟨_, rfl, ?_⟩; conv => whnf)))
    refine CallVC.auto byteBad_k (Need.mk (by omega) ⟨l, rfl, rfl, by omega, ?_⟩)
    (conv => whnf)
    refine ⟨_, _, WeakV.auto ?_, h (errOf e) l (by simp [hp]) (by simp [pmore, hp])⟩
    (repeat' ((conv => whnf); first | exact True.intro | (refine And.intro ?_ ?_)))
    all_goals first | rfl | exact .eq rfl | (simp; done)
  · obtain rfl : x = 0 := by rw [hx, hp]; rfl
    have hb : 0 ≤ f ∧ f ≤ 1 ∧ d.length ≤ 64 := by
      simp [pok] at hp
      omega
    (conv => whnf)
    (repeat (first | (exact Out.same; conv => whnf) | (exact Out1.same; conv => whnf) | (refine QAnd.mk ?_ ?_; conv => whnf) | (apply QStepH.go; conv => whnf) | (refine Both.lit_true ?_; conv => whnf) | (refine Both.lit_false ?_; conv => whnf) | (apply QStep.go; conv => whnf) | (refine Need.mk ?_ ?_; (focus (first | omega | exact ⟨by omega, by omega⟩ | rfl | exact ⟨rfl, rfl⟩ | exact ⟨rfl, by omega, by omega⟩ | exact ⟨by omega, by omega, by omega⟩ | exact ⟨rfl, Nat.le_of_ble_eq_true rfl⟩ | exact Nat.le_of_ble_eq_true rfl | (refine ⟨rfl, rfl, ?_⟩; simp [isFar, ofV0, CV.up, SV.renL, SV.ren] <;> fail) | (refine ⟨rfl, Nat.le_of_ble_eq_true rfl, ?_⟩; simp [isFar, ofV0, CV.up, SV.renL, SV.ren] <;> fail) | (simp <;> fail))); conv => whnf) | (refine ⟨_, rfl, ?_⟩; conv => whnf)))
    refine CallVC.auto byteOk_k (Need.mk (by omega) ⟨l, rfl, rfl, by omega, ?_⟩)
    (conv => whnf)
    (repeat (first | (exact Out.same; conv => whnf) | (exact Out1.same; conv => whnf) | (refine QAnd.mk ?_ ?_; conv => whnf) | (apply QStepH.go; conv => whnf) | (refine Both.lit_true ?_; conv => whnf) | (refine Both.lit_false ?_; conv => whnf) | (apply QStep.go; conv => whnf) | (refine Need.mk ?_ ?_; (focus (first | omega | exact ⟨by omega, by omega⟩ | rfl | exact ⟨rfl, rfl⟩ | exact ⟨rfl, by omega, by omega⟩ | exact ⟨by omega, by omega, by omega⟩ | exact ⟨rfl, Nat.le_of_ble_eq_true rfl⟩ | exact Nat.le_of_ble_eq_true rfl | (refine ⟨rfl, rfl, ?_⟩; simp [isFar, ofV0, CV.up, SV.renL, SV.ren] <;> fail) | (refine ⟨rfl, Nat.le_of_ble_eq_true rfl, ?_⟩; simp [isFar, ofV0, CV.up, SV.renL, SV.ren] <;> fail) | (simp <;> fail))); conv => whnf) | (refine ⟨_, rfl, ?_⟩; conv => whnf)))
    refine CallVC.auto numOk_k (Need.mk hs ⟨_, rfl, rfl, by simp; omega, ?_⟩)
    (conv => whnf)
    (repeat (first | (exact Out.same; conv => whnf) | (exact Out1.same; conv => whnf) | (refine QAnd.mk ?_ ?_; conv => whnf) | (apply QStepH.go; conv => whnf) | (refine Both.lit_true ?_; conv => whnf) | (refine Both.lit_false ?_; conv => whnf) | (apply QStep.go; conv => whnf) | (refine Need.mk ?_ ?_; (focus (first | omega | exact ⟨by omega, by omega⟩ | rfl | exact ⟨rfl, rfl⟩ | exact ⟨rfl, by omega, by omega⟩ | exact ⟨by omega, by omega, by omega⟩ | exact ⟨rfl, Nat.le_of_ble_eq_true rfl⟩ | exact Nat.le_of_ble_eq_true rfl | (refine ⟨rfl, rfl, ?_⟩; simp [isFar, ofV0, CV.up, SV.renL, SV.ren] <;> fail) | (refine ⟨rfl, Nat.le_of_ble_eq_true rfl, ?_⟩; simp [isFar, ofV0, CV.up, SV.renL, SV.ren] <;> fail) | (simp <;> fail))); conv => whnf) | (refine ⟨_, rfl, ?_⟩; conv => whnf)))
    refine CallVC.auto numOk_k (Need.mk ht ⟨_, rfl, rfl, by simp [beb_length]; omega, ?_⟩)
    (conv => whnf)
    (repeat (first | (exact Out.same; conv => whnf) | (exact Out1.same; conv => whnf) | (refine QAnd.mk ?_ ?_; conv => whnf) | (apply QStepH.go; conv => whnf) | (refine Both.lit_true ?_; conv => whnf) | (refine Both.lit_false ?_; conv => whnf) | (apply QStep.go; conv => whnf) | (refine Need.mk ?_ ?_; (focus (first | omega | exact ⟨by omega, by omega⟩ | rfl | exact ⟨rfl, rfl⟩ | exact ⟨rfl, by omega, by omega⟩ | exact ⟨by omega, by omega, by omega⟩ | exact ⟨rfl, Nat.le_of_ble_eq_true rfl⟩ | exact Nat.le_of_ble_eq_true rfl | (refine ⟨rfl, rfl, ?_⟩; simp [isFar, ofV0, CV.up, SV.renL, SV.ren] <;> fail) | (refine ⟨rfl, Nat.le_of_ble_eq_true rfl, ?_⟩; simp [isFar, ofV0, CV.up, SV.renL, SV.ren] <;> fail) | (simp <;> fail))); conv => whnf) | (refine ⟨_, rfl, ?_⟩; conv => whnf)))
    refine CallVC.auto textOk_k (Need.mk (by omega) ⟨_, rfl, rfl, by simp [beb_length]; omega, ?_⟩)
    (conv => whnf)
    refine ⟨_, _, WeakV.auto ?_, h e (l ++ pmore f s t d) (by simp [hp]) rfl⟩
    have he : l ++ [UInt8.ofNat f.toNat] ++ beb s.toNat 8 ++ beb t.toNat 8 ++ (beb d.length 2 ++ d) = l ++ pmore f s t d := by
      rw [pmore, hp, if_pos rfl, pbytes]
      simp [beb]
    rw [← he]
    (repeat' ((conv => whnf); first | exact True.intro | (refine And.intro ?_ ?_)))
    all_goals first | rfl | exact .eq rfl
theorem pput_k : Contract Try.prog [] 52 pputS := ⟨⟨⟨_, rfl, rfl, rfl⟩⟩, pput_c⟩

/-- A reader behind so many bytes. -/
def nx (q : Int × List UInt8) (n : Int) : Int × List UInt8 := (rdE q.1 n q.2, rdS q.1 n q.2)
theorem nx_len (q : Int × List UInt8) (n : Int) : (nx q n).2.length ≤ q.2.length := rdS_len _ _ _
def pgF (q : Int × List UInt8) : Int := (rdV q.1 1 q.2 : Int)
def pgQ (q : Int × List UInt8) : Int := (rdV (nx q 1).1 8 (nx q 1).2 : Int)
def pgT (q : Int × List UInt8) : Int := (rdV (nx (nx q 1) 8).1 8 (nx (nx q 1) 8).2 : Int)
def pg3 (q : Int × List UInt8) : Int × List UInt8 := nx (nx (nx q 1) 8) 8
def pgN (q : Int × List UInt8) : Int := (rdV (pg3 q).1 2 (pg3 q).2 : Int)
def pg4 (q : Int × List UInt8) : Int × List UInt8 := nx (pg3 q) 2
def pgD (q : Int × List UInt8) : List UInt8 := rdT (pg4 q).1 (pgN q) (pg4 q).2
def pg5 (q : Int × List UInt8) : Int × List UInt8 := nx (pg4 q) (pgN q)
/-- The error that is remembered in the end. -/
def pgE (q : Int × List UInt8) : Int := if pok (pgF q) (pgQ q) (pgT q) (pgD q) then (pg5 q).1 else if (pg5 q).1 = 0 then 5 else (pg5 q).1
def pgetS : Spec := fun args H Q => match args, H with
  | [.ptr 0 0], [.cells [.int .i64 e, .str s] 83] => Need (s.length < 1000000) (∀ (f u t e' : Int) (d s' : List UInt8), e' = pgE (e, s) → s' = (pg5 (e, s)).2 →
      ((e' = 0 ∧ f = pgF (e, s) ∧ u = pgQ (e, s) ∧ t = pgT (e, s) ∧ d = pgD (e, s) ∧ pok f u t d = true) ∨ (e' ≠ 0 ∧ f = 0 ∧ u = 0 ∧ t = 0 ∧ d = [])) → Q (.agg [.int .i64 f, .int .u64 u, .int .u64 t, .str d]) (rd e' s'))
  | _, _ => False
theorem pget_c : Meets Try.prog [] 56 pgetS := by
  refine meets_of Γok Try.func56 rfl ?_
  intro args H Q h
  unfold pgetS at h
  split at h
  case h_2 => exact h.elim
  rename_i e s
  obtain ⟨hs, h⟩ := h
  have l1 := nx_len (e, s) 1
  have l2 := nx_len (nx (e, s) 1) 8
  have l3 := nx_len (nx (nx (e, s) 1) 8) 8
  have l1' : (e, s).2.length = s.length := rfl
  (refine sx_sound Γok _ ?_; conv => whnf)
  refine CallVC.auto rbyte_k (Need.mk hs ?_)
  (conv => whnf)
  refine CallVC.auto rnum_k (Need.mk (show (nx (e, s) 1).2.length < 1000000 by omega) ?_)
  (conv => whnf)
  refine CallVC.auto rnum_k (Need.mk (show (nx (nx (e, s) 1) 8).2.length < 1000000 by omega) ?_)
  (conv => whnf)
  refine CallVC.auto rtext_k (Need.mk (show (pg3 (e, s)).2.length < 1000000 by unfold pg3; omega) ?_)
  (conv => whnf)
  (repeat (first | (exact Out.same; conv => whnf) | (exact Out1.same; conv => whnf) | (refine QAnd.mk ?_ ?_; conv => whnf) | (apply QStepH.go; conv => whnf) | (refine Both.lit_true ?_; conv => whnf) | (refine Both.lit_false ?_; conv => whnf) | (apply QStep.go; conv => whnf) | (refine Need.mk ?_ ?_; (focus (first | omega | exact ⟨by omega, by omega⟩ | rfl | exact ⟨rfl, rfl⟩ | exact ⟨rfl, by omega, by omega⟩ | exact ⟨by omega, by omega, by omega⟩ | exact ⟨rfl, Nat.le_of_ble_eq_true rfl⟩ | exact Nat.le_of_ble_eq_true rfl | (refine ⟨rfl, rfl, ?_⟩; simp [isFar, ofV0, CV.up, SV.renL, SV.ren] <;> fail) | (refine ⟨rfl, Nat.le_of_ble_eq_true rfl, ?_⟩; simp [isFar, ofV0, CV.up, SV.renL, SV.ren] <;> fail) | (simp <;> fail))); conv => whnf) | (refine ⟨_, rfl, ?_⟩; conv => whnf)))
  refine CallVC.auto pcheck_k ?_
  (conv => whnf)
  intro x hx
  change x = okE (pok (pgF (e, s)) (pgQ (e, s)) (pgT (e, s)) (pgD (e, s))) at hx
  have hE : pgE (e, s) = if pok (pgF (e, s)) (pgQ (e, s)) (pgT (e, s)) (pgD (e, s)) then (pg5 (e, s)).1 else if (pg5 (e, s)).1 = 0 then 5 else (pg5 (e, s)).1 := rfl
  cases hp : pok (pgF (e, s)) (pgQ (e, s)) (pgT (e, s)) (pgD (e, s))
  · obtain rfl : x = 1 := by rw [hx, hp]; rfl
    (conv => whnf)
    (repeat (first | (exact Out.same; conv => whnf) | (exact Out1.same; conv => whnf) | (refine QAnd.mk ?_ ?_; conv => whnf) | (apply QStepH.go; conv => whnf) | (refine Both.lit_true ?_; conv => whnf) | (refine Both.lit_false ?_; conv => whnf) | (apply QStep.go; conv => whnf) | (refine Need.mk ?_ ?_; (focus (first | omega | exact ⟨by omega, by omega⟩ | rfl | exact ⟨rfl, rfl⟩ | exact ⟨rfl, by omega, by omega⟩ | exact ⟨by omega, by omega, by omega⟩ | exact ⟨rfl, Nat.le_of_ble_eq_true rfl⟩ | exact Nat.le_of_ble_eq_true rfl | (refine ⟨rfl, rfl, ?_⟩; simp [isFar, ofV0, CV.up, SV.renL, SV.ren] <;> fail) | (refine ⟨rfl, Nat.le_of_ble_eq_true rfl, ?_⟩; simp [isFar, ofV0, CV.up, SV.renL, SV.ren] <;> fail) | (simp <;> fail))); conv => whnf) | (refine ⟨_, rfl, ?_⟩; conv => whnf)))
    refine CallVC.auto failA_k ?_
    intro e' he'
    change e' = (if (pg5 (e, s)).1 = 0 then 5 else (pg5 (e, s)).1) at he'
    rw [hp] at hE
    have hEe : e' = pgE (e, s) := by rw [he', hE]; rfl
    have hne : ¬ e' = 0 := by
      rw [he']
      split <;> omega
    (conv => whnf)
    (repeat (first | (exact Out.same; conv => whnf) | (exact Out1.same; conv => whnf) | (refine QAnd.mk ?_ ?_; conv => whnf) | (apply QStepH.go; conv => whnf) | (refine Both.lit_true ?_; conv => whnf) | (refine Both.lit_false ?_; conv => whnf) | (apply QStep.go; conv => whnf) | (refine Need.mk ?_ ?_; (focus (first | omega | exact ⟨by omega, by omega⟩ | rfl | exact ⟨rfl, rfl⟩ | exact ⟨rfl, by omega, by omega⟩ | exact ⟨by omega, by omega, by omega⟩ | exact ⟨rfl, Nat.le_of_ble_eq_true rfl⟩ | exact Nat.le_of_ble_eq_true rfl | (refine ⟨rfl, rfl, ?_⟩; simp [isFar, ofV0, CV.up, SV.renL, SV.ren] <;> fail) | (refine ⟨rfl, Nat.le_of_ble_eq_true rfl, ?_⟩; simp [isFar, ofV0, CV.up, SV.renL, SV.ren] <;> fail) | (simp <;> fail))); conv => whnf) | (refine ⟨_, rfl, ?_⟩; conv => whnf) | (refine CallVC.auto errA_k ?_; conv => whnf) | (refine Both.of_false ?_ ?_; (focus (first | rfl | (simp [hne] <;> fail))); conv => whnf) | (refine Both.of_true ?_ ?_; (focus (first | rfl | (simp [hne] <;> fail))); conv => whnf)))
    refine ⟨_, _, WeakV.auto ?_, h 0 0 0 e' [] (pg5 (e, s)).2 hEe rfl (.inr ⟨hne, rfl, rfl, rfl, rfl⟩)⟩
    (repeat' ((conv => whnf); first | exact True.intro | (refine And.intro ?_ ?_)))
    all_goals first | rfl | exact .eq rfl
  · obtain rfl : x = 0 := by rw [hx, hp]; rfl
    rw [hp, if_pos rfl] at hE
    (conv => whnf)
    (repeat (first | (exact Out.same; conv => whnf) | (exact Out1.same; conv => whnf) | (refine QAnd.mk ?_ ?_; conv => whnf) | (apply QStepH.go; conv => whnf) | (refine Both.lit_true ?_; conv => whnf) | (refine Both.lit_false ?_; conv => whnf) | (apply QStep.go; conv => whnf) | (refine Need.mk ?_ ?_; (focus (first | omega | exact ⟨by omega, by omega⟩ | rfl | exact ⟨rfl, rfl⟩ | exact ⟨rfl, by omega, by omega⟩ | exact ⟨by omega, by omega, by omega⟩ | exact ⟨rfl, Nat.le_of_ble_eq_true rfl⟩ | exact Nat.le_of_ble_eq_true rfl | (refine ⟨rfl, rfl, ?_⟩; simp [isFar, ofV0, CV.up, SV.renL, SV.ren] <;> fail) | (refine ⟨rfl, Nat.le_of_ble_eq_true rfl, ?_⟩; simp [isFar, ofV0, CV.up, SV.renL, SV.ren] <;> fail) | (simp <;> fail))); conv => whnf) | (refine ⟨_, rfl, ?_⟩; conv => whnf) | (refine CallVC.auto errA_k ?_; conv => whnf)))
    refine Both.dec_not (fun hne => ?_) (fun h0 => ?_)
    · (conv => whnf)
      (repeat (first | (exact Out.same; conv => whnf) | (exact Out1.same; conv => whnf) | (refine QAnd.mk ?_ ?_; conv => whnf) | (apply QStepH.go; conv => whnf) | (refine Both.lit_true ?_; conv => whnf) | (refine Both.lit_false ?_; conv => whnf) | (apply QStep.go; conv => whnf) | (refine Need.mk ?_ ?_; (focus (first | omega | exact ⟨by omega, by omega⟩ | rfl | exact ⟨rfl, rfl⟩ | exact ⟨rfl, by omega, by omega⟩ | exact ⟨by omega, by omega, by omega⟩ | exact ⟨rfl, Nat.le_of_ble_eq_true rfl⟩ | exact Nat.le_of_ble_eq_true rfl | (refine ⟨rfl, rfl, ?_⟩; simp [isFar, ofV0, CV.up, SV.renL, SV.ren] <;> fail) | (refine ⟨rfl, Nat.le_of_ble_eq_true rfl, ?_⟩; simp [isFar, ofV0, CV.up, SV.renL, SV.ren] <;> fail) | (simp <;> fail))); conv => whnf) | (refine ⟨_, rfl, ?_⟩; conv => whnf)))
      refine ⟨_, _, WeakV.auto ?_, h 0 0 0 (pg5 (e, s)).1 [] (pg5 (e, s)).2 hE.symm rfl (.inr ⟨hne, rfl, rfl, rfl, rfl⟩)⟩
      (repeat' ((conv => whnf); first | exact True.intro | (refine And.intro ?_ ?_)))
      all_goals first | rfl | exact .eq rfl
    · (conv => whnf)
      (repeat (first | (exact Out.same; conv => whnf) | (exact Out1.same; conv => whnf) | (refine QAnd.mk ?_ ?_; conv => whnf) | (apply QStepH.go; conv => whnf) | (refine Both.lit_true ?_; conv => whnf) | (refine Both.lit_false ?_; conv => whnf) | (apply QStep.go; conv => whnf) | (refine Need.mk ?_ ?_; (focus (first | omega | exact ⟨by omega, by omega⟩ | rfl | exact ⟨rfl, rfl⟩ | exact ⟨rfl, by omega, by omega⟩ | exact ⟨by omega, by omega, by omega⟩ | exact ⟨rfl, Nat.le_of_ble_eq_true rfl⟩ | exact Nat.le_of_ble_eq_true rfl | (refine ⟨rfl, rfl, ?_⟩; simp [isFar, ofV0, CV.up, SV.renL, SV.ren] <;> fail) | (refine ⟨rfl, Nat.le_of_ble_eq_true rfl, ?_⟩; simp [isFar, ofV0, CV.up, SV.renL, SV.ren] <;> fail) | (simp <;> fail))); conv => whnf) | (refine ⟨_, rfl, ?_⟩; conv => whnf)))
      refine ⟨_, _, WeakV.auto ?_, h (pgF (e, s)) (pgQ (e, s)) (pgT (e, s)) (pg5 (e, s)).1 (pgD (e, s)) (pg5 (e, s)).2 hE.symm rfl (.inl ⟨h0, rfl, rfl, rfl, rfl, hp⟩)⟩
      (repeat' ((conv => whnf); first | exact True.intro | (refine And.intro ?_ ?_)))
      all_goals first | rfl | exact .eq rfl
theorem pget_k : Contract Try.prog [] 56 pgetS := ⟨⟨⟨_, rfl, rfl, rfl⟩⟩, pget_c⟩
end Go.LX
