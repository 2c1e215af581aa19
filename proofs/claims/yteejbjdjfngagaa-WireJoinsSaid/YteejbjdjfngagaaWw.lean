import Derived.Test.YteejbjdjfngagaaWu
set_option maxRecDepth 100000
set_option maxHeartbeats 4000000
set_option autoImplicit false
set_option linter.unusedVariables false
set_option linter.unusedSimpArgs false
namespace Go.LX
open Go.Proofs

def lawCCS : Spec := fun args H Q => match args, H with
  | [.sl 4 n cs false, .sl 4 n' cs' false], [] => ∃ l m : List Call, n = l.length ∧ cs = l.flatMap Call.en ∧ (∀ c ∈ l, c.ok) ∧ l.length ≤ 9223372036854775807 ∧ n' = m.length ∧ cs' = m.flatMap Call.en ∧ (∀ c ∈ m, c.ok) ∧ m.length ≤ 9223372036854775807 ∧ Q (.bool true) []
  | _, _ => False
theorem Contract.imp {P : Program} {G : Gl} {f : FuncId} {S S' : Spec} (hc : Contract P G f S) (h : ∀ args H Q, S' args H Q → S args H Q) : Contract P G f S' := ⟨hc.ok, fun args H Q hs => hc.meets args H Q (h args H Q hs)⟩
/-- Bytes that are there are read. -/
def rrawOkS : Spec := fun args H Q => match args, H with
  | [.ptr 0 0, .int .i64 n], [.cells [.int .i64 e, .str s] 56] => ∃ a b : List UInt8, e = 0 ∧ s = a ++ b ∧ n = a.length ∧ s.length < 1000000 ∧ Q (.str a) (rd 0 b)
  | _, _ => False
theorem rrawOk_k : Contract Try.prog [] 14 rrawOkS := rraw_k.imp fun args H Q h => by
  unfold rrawOkS at h
  split at h
  case h_2 => exact h.elim
  obtain ⟨a, b, rfl, rfl, rfl, hl, h⟩ := h
  obtain ⟨r1, r2, r3⟩ := rd_app (a.length : Int) a b rfl
  refine ⟨hl, ?_⟩
  rw [r1, r2, r3]
  exact h
theorem errW_cases (e : Int) (l : List Call) : errW e l = e ∨ errW e l = errOf e := by
  unfold errW
  split
  · exact .inl rfl
  · exact .inr rfl
theorem joins_law : Meets Try.prog [] 4 lawCCS := by
  refine meets_of Γok Try.func4 rfl ?_
  intro args H Q h
  unfold lawCCS at h
  split at h
  case h_2 => exact h.elim
  obtain ⟨l, m, rfl, rfl, hok, hlen, rfl, rfl, hokm, hlenm, h⟩ := h
  (refine sx_sound Γok _ ?_; conv => whnf)
  (repeat (first | (exact Out.same; conv => whnf) | (exact Out1.same; conv => whnf) | (apply QStepH.go; conv => whnf) | (refine Both.lit_true ?_; conv => whnf) | (refine Both.lit_false ?_; conv => whnf) | (apply QStep.go; conv => whnf) | (refine Need.mk (by first | omega | exact ⟨by omega, by omega⟩ | rfl | exact ⟨rfl, rfl⟩ | exact ⟨rfl, by omega, by omega⟩ | exact ⟨by omega, by omega, by omega⟩ | exact ⟨rfl, Nat.le_of_ble_eq_true rfl⟩) ?_; conv => whnf) | (refine ⟨_, rfl, ?_⟩; conv => whnf) | (refine CallVC.auto awake_k ?_; conv => whnf)))
  refine CallVC.auto few_k ⟨l, rfl, rfl, hok, hlen, ?_⟩
  intro b hb
  (conv => whnf)
  refine Both.cases (fun hb2 => ?_) (fun hb2 => ?_)
  · (conv => whnf)
    (repeat (first | (exact Out.same; conv => whnf) | (exact Out1.same; conv => whnf) | (apply QStepH.go; conv => whnf) | (refine Both.lit_true ?_; conv => whnf) | (refine Both.lit_false ?_; conv => whnf) | (apply QStep.go; conv => whnf) | (refine Need.mk (by first | omega | exact ⟨by omega, by omega⟩ | rfl | exact ⟨rfl, rfl⟩ | exact ⟨rfl, by omega, by omega⟩ | exact ⟨by omega, by omega, by omega⟩ | exact ⟨rfl, Nat.le_of_ble_eq_true rfl⟩) ?_; conv => whnf) | (refine ⟨_, rfl, ?_⟩; conv => whnf)))
    exact ⟨_, _, WeakV.drop rfl, h⟩
  (conv => whnf)
  (repeat (first | (exact Out.same; conv => whnf) | (exact Out1.same; conv => whnf) | (apply QStepH.go; conv => whnf) | (refine Both.lit_true ?_; conv => whnf) | (refine Both.lit_false ?_; conv => whnf) | (apply QStep.go; conv => whnf) | (refine Need.mk (by first | omega | exact ⟨by omega, by omega⟩ | rfl | exact ⟨rfl, rfl⟩ | exact ⟨rfl, by omega, by omega⟩ | exact ⟨by omega, by omega, by omega⟩ | exact ⟨rfl, Nat.le_of_ble_eq_true rfl⟩) ?_; conv => whnf) | (refine ⟨_, rfl, ?_⟩; conv => whnf)))
  refine CallVC.auto few_k ⟨m, rfl, rfl, hokm, hlenm, ?_⟩
  intro b' hb'
  (conv => whnf)
  (repeat (first | (exact Out.same; conv => whnf) | (exact Out1.same; conv => whnf) | (apply QStepH.go; conv => whnf) | (refine Both.lit_true ?_; conv => whnf) | (refine Both.lit_false ?_; conv => whnf) | (apply QStep.go; conv => whnf) | (refine Need.mk (by first | omega | exact ⟨by omega, by omega⟩ | rfl | exact ⟨rfl, rfl⟩ | exact ⟨rfl, by omega, by omega⟩ | exact ⟨by omega, by omega, by omega⟩ | exact ⟨rfl, Nat.le_of_ble_eq_true rfl⟩) ?_; conv => whnf) | (refine ⟨_, rfl, ?_⟩; conv => whnf)))
  refine Both.cases (fun hb2' => ?_) (fun hb2' => ?_)
  · (conv => whnf)
    exact ⟨_, _, WeakV.drop rfl, h⟩
  (conv => whnf)
  obtain ⟨hl, ht⟩ := hb (by simpa using hb2)
  obtain ⟨hlm, htm⟩ := hb' (by simpa using hb2')
  have ho := outW_len l
  have hom := outW_len m
  refine CallVC.autoW _ (Weak.wr 0 5 rfl) puts_k ?_
  refine ⟨[], l, rfl, rfl, hok, hl, ht, by simp, rfl, rfl, ?_⟩
  (conv => whnf)
  refine CallVC.autoW _ (Weak.wr 1 5 rfl) puts_k ?_
  refine ⟨[], m, rfl, rfl, hokm, hlm, htm, by simp, rfl, rfl, ?_⟩
  (conv => whnf)
  refine CallVC.autoW _ (Weak.wr 2 5 rfl) puts_k ?_
  refine ⟨[], l, rfl, rfl, hok, hl, ht, by simp, rfl, rfl, ?_⟩
  (conv => whnf)
  refine CallVC.auto puts_k ?_
  refine ⟨_, m, rfl, rfl, hokm, hlm, htm, by rw [List.nil_append]; omega, rfl, rfl, ?_⟩
  (conv => whnf)
  refine CallVC.auto bytes_k ?_
  refine ⟨_, rfl, rfl, by rw [List.nil_append]; omega, ?_⟩
  (conv => whnf)
  refine CallVC.auto bytes_k ?_
  refine ⟨_, rfl, rfl, by rw [List.nil_append]; omega, ?_⟩
  (conv => whnf)
  refine CallVC.auto bytes_k ?_
  refine ⟨_, rfl, rfl, by rw [List.nil_append, List.length_append]; omega, ?_⟩
  (conv => whnf)
  have hs : errW 0 l = 0 → (if errW 0 l = 0 then [] ++ outW l else []) = outW l := fun h0 => by rw [if_pos h0]; rfl
  have htt : errW 0 m = 0 → (if errW 0 m = 0 then [] ++ outW m else []) = outW m := fun h0 => by rw [if_pos h0]; rfl
  have hu : errW (errW 0 l) m = 0 → (if errW (errW 0 l) m = 0 then [] ++ outW l ++ outW m else []) = outW l ++ outW m := fun h0 => by rw [if_pos h0]; rfl
  have hu2 : errW (errW 0 l) m ≠ 0 → (if errW (errW 0 l) m = 0 then [] ++ outW l ++ outW m else []) = [] := fun h0 => by rw [if_neg h0]
  generalize (if errW 0 l = 0 then [] ++ outW l else []) = s at hs ⊢
  generalize (if errW 0 m = 0 then [] ++ outW m else []) = t at htt ⊢
  generalize (if errW (errW 0 l) m = 0 then [] ++ outW l ++ outW m else []) = u at hu hu2 ⊢
  have h3 : (errW 0 l = 0 ∧ errW 0 m = 0 ∧ errW (errW 0 l) m = 0) ∨ ((errW 0 l ≠ 0 ∨ errW 0 m ≠ 0) ∧ errW (errW 0 l) m = 1) := by
    unfold errW
    cases l.all Call.good <;> cases m.all Call.good <;> simp [errOf]
  generalize errW (errW 0 l) m = g at hu hu2 h3 ⊢
  generalize errW 0 l = e at hs h3 ⊢
  generalize errW 0 m = f at htt h3 ⊢
  have bad : g = 1 → u = [] := fun h0 => hu2 (by omega)
  refine Both.dec_not (fun he => ?_) (fun he => ?_)
  · have hg : g = 1 := by omega
    have hue := bad hg
    clear hu hu2 bad
    subst hg
    subst hue
    (conv => whnf)
    (repeat (first | (exact Out.same; conv => whnf) | (exact Out1.same; conv => whnf) | (apply QStepH.go; conv => whnf) | (refine Both.lit_true ?_; conv => whnf) | (refine Both.lit_false ?_; conv => whnf) | (apply QStep.go; conv => whnf) | (refine Need.mk (by first | omega | exact ⟨by omega, by omega⟩ | rfl | exact ⟨rfl, rfl⟩ | exact ⟨rfl, by omega, by omega⟩ | exact ⟨by omega, by omega, by omega⟩ | exact ⟨rfl, Nat.le_of_ble_eq_true rfl⟩) ?_; conv => whnf) | (refine ⟨_, rfl, ?_⟩; conv => whnf) | (refine Both.of_false ?_ ?_; (focus (first | rfl | (simp [List.nil_append] <;> fail))); conv => whnf) | (refine Both.of_true ?_ ?_; (focus (first | rfl | (simp [List.nil_append] <;> fail))); conv => whnf)))
    refine ⟨_, _, WeakV.drop (congrArg SV.bool ?_), h⟩
    simp
  (conv => whnf)
  (repeat (first | (exact Out.same; conv => whnf) | (exact Out1.same; conv => whnf) | (apply QStepH.go; conv => whnf) | (refine Both.lit_true ?_; conv => whnf) | (refine Both.lit_false ?_; conv => whnf) | (apply QStep.go; conv => whnf) | (refine Need.mk (by first | omega | exact ⟨by omega, by omega⟩ | rfl | exact ⟨rfl, rfl⟩ | exact ⟨rfl, by omega, by omega⟩ | exact ⟨by omega, by omega, by omega⟩ | exact ⟨rfl, Nat.le_of_ble_eq_true rfl⟩) ?_; conv => whnf) | (refine ⟨_, rfl, ?_⟩; conv => whnf)))
  refine Both.dec_not (fun hf => ?_) (fun hf => ?_)
  · have hg : g = 1 := by omega
    have hue := bad hg
    clear hu hu2 bad
    subst hg
    subst hue
    (conv => whnf)
    (repeat (first | (exact Out.same; conv => whnf) | (exact Out1.same; conv => whnf) | (apply QStepH.go; conv => whnf) | (refine Both.lit_true ?_; conv => whnf) | (refine Both.lit_false ?_; conv => whnf) | (apply QStep.go; conv => whnf) | (refine Need.mk (by first | omega | exact ⟨by omega, by omega⟩ | rfl | exact ⟨rfl, rfl⟩ | exact ⟨rfl, by omega, by omega⟩ | exact ⟨by omega, by omega, by omega⟩ | exact ⟨rfl, Nat.le_of_ble_eq_true rfl⟩) ?_; conv => whnf) | (refine ⟨_, rfl, ?_⟩; conv => whnf) | (refine Both.of_false ?_ ?_; (focus (first | rfl | (simp [List.nil_append] <;> fail))); conv => whnf) | (refine Both.of_true ?_ ?_; (focus (first | rfl | (simp [List.nil_append] <;> fail))); conv => whnf)))
    refine ⟨_, _, WeakV.drop (congrArg SV.bool ?_), h⟩
    simp
  (conv => whnf)
  have hg : g = 0 := by omega
  have hue := hu hg
  have hs := hs he
  have ht2 := htt hf
  rw [← hs, ← ht2] at hue
  clear hu
  have hsl : s.length < 100000 := by rw [hs]; omega
  have htl : t.length < 100000 := by rw [ht2]; omega
  clear hu2 htt bad h3
  subst hg
  subst hue
  have hul : (s ++ t).length < 1000000 := by rw [List.length_append]; omega
  (repeat (first | (exact Out.same; conv => whnf) | (exact Out1.same; conv => whnf) | (apply QStepH.go; conv => whnf) | (refine Both.lit_true ?_; conv => whnf) | (refine Both.lit_false ?_; conv => whnf) | (apply QStep.go; conv => whnf) | (refine Need.mk (by first | omega | exact ⟨by omega, by omega⟩ | rfl | exact ⟨rfl, rfl⟩ | exact ⟨rfl, by omega, by omega⟩ | exact ⟨by omega, by omega, by omega⟩ | exact ⟨rfl, Nat.le_of_ble_eq_true rfl⟩) ?_; conv => whnf) | (refine ⟨_, rfl, ?_⟩; conv => whnf) | (refine CallVC.auto rnew_k ?_; conv => whnf)))
  (first | (refine Both.lit_true ?_; conv => whnf) | (refine Both.of_true (by simp) ?_; conv => whnf)); (repeat (first | (refine Both.lit_true ?_; conv => whnf) | (refine Both.lit_false ?_; conv => whnf) | (refine Need.mk (by first | omega | exact ⟨by omega, by omega⟩ | rfl | exact ⟨rfl, rfl⟩ | exact ⟨rfl, Nat.le_of_ble_eq_true rfl⟩) ?_; conv => whnf)))
  refine CallVC.auto rrawOk_k ⟨s, t, rfl, rfl, rfl, hul, ?_⟩
  (conv => whnf)
  (repeat (first | (refine CallVC.auto rrawOk_k ⟨t, [], rfl, by rw [List.append_nil], rfl, by omega, ?_⟩; conv => whnf) | (exact Out.same; conv => whnf) | (exact Out1.same; conv => whnf) | (apply QStepH.go; conv => whnf) | (refine Both.lit_true ?_; conv => whnf) | (refine Both.lit_false ?_; conv => whnf) | (apply QStep.go; conv => whnf) | (refine Need.mk (by first | omega | exact ⟨by omega, by omega⟩ | rfl | exact ⟨rfl, rfl⟩ | exact ⟨rfl, by omega, by omega⟩ | exact ⟨by omega, by omega, by omega⟩ | exact ⟨rfl, Nat.le_of_ble_eq_true rfl⟩) ?_; conv => whnf) | (refine ⟨_, rfl, ?_⟩; conv => whnf) | (refine CallVC.auto left_k ?_; conv => whnf) | (refine CallVC.auto end_k ?_; conv => whnf) | (refine Both.of_false ?_ ?_; (focus (first | rfl | (simp [rdLeft] <;> fail))); conv => whnf) | (refine Both.of_true ?_ ?_; (focus (first | rfl | (simp [rdLeft] <;> fail))); conv => whnf)))
  refine ⟨_, _, WeakV.drop (congrArg SV.bool ?_), h⟩
  rfl
end Go.LX
