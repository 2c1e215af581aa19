import Derived.Test.YtiokggkoidiicaaDoorWireR
set_option maxRecDepth 100000
set_option maxHeartbeats 1000000
set_option autoImplicit false
set_option linter.unusedVariables false
set_option linter.unusedSimpArgs false
namespace Go.LX
open Go.Proofs

/-! ## A reader that has enough, in the forms that are met most -/
theorem rd_yes {n : Nat} {s : List UInt8} (h : n ≤ s.length) : rdT 0 n s = s.take n ∧ rdE 0 n s = 0 ∧ rdS 0 n s = s.drop n := by
  have hok : rdOk 0 n s = true := decide_eq_true ⟨rfl, by omega, by omega⟩
  refine ⟨by simp [rdT, hok], ?_, by simp [rdS, hok]⟩
  unfold rdE
  rw [if_pos rfl, if_pos ⟨by omega, by omega⟩]
theorem rd_no {n : Nat} {s : List UInt8} (h : s.length < n) : rdT 0 n s = [] ∧ rdE 0 n s = 6 ∧ rdS 0 n s = s := by
  have hok : rdOk 0 n s = false := decide_eq_false (by omega)
  refine ⟨by simp [rdT, hok], ?_, by simp [rdS, hok]⟩
  unfold rdE
  rw [if_pos rfl, if_neg (by omega)]
theorem rd_err {e : Int} (he : e ≠ 0) (n : Int) (s : List UInt8) : rdT e n s = [] ∧ rdE e n s = e ∧ rdS e n s = s := by
  have hok : rdOk e n s = false := decide_eq_false (fun q => he q.1)
  refine ⟨by simp [rdT, hok], ?_, by simp [rdS, hok]⟩
  unfold rdE
  rw [if_neg he]
def rrawOS : Spec := fun args H Q => match args, H with
  | [.ptr 0 0, .int .i64 n], [.cells [.int .i64 e, .str s] 72] => e = 0 ∧ ∃ m : Nat, n = m ∧ m ≤ s.length ∧ s.length < 1000000 ∧ ∀ t u : List UInt8, t = s.take m → u = s.drop m → Q (.str t) (rd 0 u)
  | _, _ => False
theorem rrawO_k : Contract Tryd.prog [] 28 rrawOS := rraw_k.imp fun args H Q h => by
  unfold rrawOS at h
  split at h
  case h_2 => exact h.elim
  obtain ⟨rfl, m, rfl, hm, hs, h⟩ := h
  obtain ⟨h1, h2, h3⟩ := rd_yes hm
  refine ⟨hs, ?_⟩
  rw [h1, h2, h3]
  exact h _ _ rfl rfl
def rrawES : Spec := fun args H Q => match args, H with
  | [.ptr 0 0, .int .i64 n], [.cells [.int .i64 e, .str s] 72] => e ≠ 0 ∧ s.length < 1000000 ∧ Q (.str []) (rd e s)
  | _, _ => False
theorem rrawE_k : Contract Tryd.prog [] 28 rrawES := rraw_k.imp fun args H Q h => by
  unfold rrawES at h
  split at h
  case h_2 => exact h.elim
  obtain ⟨he, hs, h⟩ := h
  rename_i n e s
  obtain ⟨h1, h2, h3⟩ := rd_err he n s
  refine ⟨hs, ?_⟩
  rw [h1, h2, h3]
  exact h
def rnumOS : Spec := fun args H Q => match args, H with
  | [.ptr 0 0], [.cells [.int .i64 e, .str s] 72] => e = 0 ∧ 8 ≤ s.length ∧ s.length < 1000000 ∧ ∀ (g : Nat) (u : List UInt8), g = bev (s.take 8) → u = s.drop 8 → Q (.int .u64 (g : Int)) (rd 0 u)
  | _, _ => False
theorem rnumO_k : Contract Tryd.prog [] 29 rnumOS := rnum_k.imp fun args H Q h => by
  unfold rnumOS at h
  split at h
  case h_2 => exact h.elim
  obtain ⟨rfl, hm, hs, h⟩ := h
  obtain ⟨h1, h2, h3⟩ := rd_yes hm
  refine Need.mk hs ?_
  show Q (.int .u64 ((bev (rdT 0 ((8 : Nat) : Int) _) : Nat) : Int)) (rd (rdE 0 ((8 : Nat) : Int) _) (rdS 0 ((8 : Nat) : Int) _))
  rw [h1, h2, h3]
  exact h _ _ rfl rfl
def rbyteOS : Spec := fun args H Q => match args, H with
  | [.ptr 0 0], [.cells [.int .i64 e, .str s] 72] => e = 0 ∧ 1 ≤ s.length ∧ s.length < 1000000 ∧ ∀ (g : Nat) (u : List UInt8), g = bev (s.take 1) → u = s.drop 1 → Q (.int .i64 (g : Int)) (rd 0 u)
  | _, _ => False
theorem rbyteO_k : Contract Tryd.prog [] 30 rbyteOS := rbyte_k.imp fun args H Q h => by
  unfold rbyteOS at h
  split at h
  case h_2 => exact h.elim
  obtain ⟨rfl, hm, hs, h⟩ := h
  obtain ⟨h1, h2, h3⟩ := rd_yes hm
  refine Need.mk hs ?_
  show Q (.int .i64 ((bev (rdT 0 ((1 : Nat) : Int) _) : Nat) : Int)) (rd (rdE 0 ((1 : Nat) : Int) _) (rdS 0 ((1 : Nat) : Int) _))
  rw [h1, h2, h3]
  exact h _ _ rfl rfl
def rtextOS : Spec := fun args H Q => match args, H with
  | [.ptr 0 0], [.cells [.int .i64 e, .str s] 72] => e = 0 ∧ ∃ m : Nat, m = bev (s.take 2) ∧ 2 + m ≤ s.length ∧ s.length < 1000000 ∧ ∀ t u : List UInt8, t = (s.drop 2).take m → u = s.drop (2 + m) → Q (.str t) (rd 0 u)
  | _, _ => False
theorem rtextO_k : Contract Tryd.prog [] 31 rtextOS := rtext_k.imp fun args H Q h => by
  unfold rtextOS at h
  split at h
  case h_2 => exact h.elim
  rename_i e s
  obtain ⟨rfl, m, hm0, hm, hs, h⟩ := h
  obtain ⟨h1, h2, h3⟩ := rd_yes (n := 2) (s := s) (by omega)
  obtain ⟨h4, h5, h6⟩ := rd_yes (n := m) (s := s.drop 2) (by rw [List.length_drop]; omega)
  refine Need.mk hs ?_
  have hv : rdV 0 2 s = m := by
    show bev (rdT 0 ((2 : Nat) : Int) s) = m
    rw [h1, hm0]
  have e2 : rdE 0 2 s = 0 := h2
  have e3 : rdS 0 2 s = s.drop 2 := h3
  rw [hv, e2, e3, h4, h5, h6]
  exact h _ _ rfl (by rw [List.drop_drop])
def rtextES : Spec := fun args H Q => match args, H with
  | [.ptr 0 0], [.cells [.int .i64 e, .str s] 72] => e = 0 ∧ ∃ m : Nat, m = bev (s.take 2) ∧ 2 ≤ s.length ∧ s.length < 2 + m ∧ s.length < 1000000 ∧ ∀ u : List UInt8, u.length ≤ s.length → Q (.str []) (rd 6 u)
  | _, _ => False
theorem rtextE_k : Contract Tryd.prog [] 31 rtextES := rtext_k.imp fun args H Q h => by
  unfold rtextES at h
  split at h
  case h_2 => exact h.elim
  rename_i e s
  obtain ⟨rfl, m, hm0, hm, hm2, hs, h⟩ := h
  obtain ⟨h1, h2, h3⟩ := rd_yes (n := 2) (s := s) (by omega)
  obtain ⟨h4, h5, h6⟩ := rd_no (n := m) (s := s.drop 2) (by rw [List.length_drop]; omega)
  refine Need.mk hs ?_
  have hv : rdV 0 2 s = m := by
    show bev (rdT 0 ((2 : Nat) : Int) s) = m
    rw [h1, hm0]
  have e2 : rdE 0 2 s = 0 := h2
  have e3 : rdS 0 2 s = s.drop 2 := h3
  rw [hv, e2, e3, h4, h5, h6]
  exact h _ (by rw [List.length_drop]; omega)
def leftOS : Spec := fun args H Q => match args, H with
  | [.ptr 0 0], [.cells [.int .i64 e, .str s] 72] => ∃ n : Int, n = (if e = 0 then (s.length : Int) else 0) ∧ Q (.int .i64 n) (rd e s)
  | _, _ => False
theorem leftO_k : Contract Tryd.prog [] 32 leftOS := left_k.imp fun args H Q h => by
  unfold leftOS at h
  split at h
  case h_2 => exact h.elim
  obtain ⟨n, rfl, h⟩ := h
  exact h
def errRS : Spec := fun args H Q => match args, H with
  | [.ptr 0 0], [.cells [.int .i64 e, .str s] t] => t = 72 ∧ Q (.int .i64 e) [.cells [.int .i64 e, .str s] t]
  | _, _ => False
theorem errR_k : Contract Tryd.prog [] 33 errRS := err_k.imp fun args H Q h => by
  unfold errRS at h
  split at h
  case h_2 => exact h.elim
  obtain ⟨ht, h⟩ := h
  exact ⟨.inr ht, h⟩
end Go.LX
