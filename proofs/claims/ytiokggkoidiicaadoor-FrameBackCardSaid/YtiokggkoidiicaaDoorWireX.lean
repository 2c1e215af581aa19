import Derived.Test.YtiokggkoidiicaaDoorWireR
set_option maxRecDepth 100000
set_option maxHeartbeats 4000000
set_option autoImplicit false
set_option linter.unusedVariables false
set_option linter.unusedSimpArgs false
namespace Go.LX
open Go.Proofs

/-! ## Calls of a writer, of a reader, as they are met most -/
def wrOk (bd : Nat) (more : List UInt8) (H : List LObj) (Q : SV → List LObj → Prop) : Prop :=
  match H with
  | [.cells [.int .i64 e, .opt 0 1, .own 1] 55, .own 5 1 m xs true] => ∃ l : List UInt8, xs = bys l ∧ m = l.length ∧ l.length < bd ∧ Q (.tuple []) (wrN e (l ++ more))
  | _ => False
def byteOkS : Spec := fun args H Q => match args with
  | [.ptr 0 0, .int .i64 n] => Need (0 ≤ n ∧ n ≤ 255) (wrOk 10000000 [UInt8.ofNat n.toNat] H Q)
  | _ => False
theorem byteOk_k : Contract Tryd.prog [] 21 byteOkS := byte_k.imp fun args H Q h => by
  unfold byteOkS at h
  split at h
  case h_2 => exact h.elim
  obtain ⟨h0, h⟩ := h
  unfold wrOk at h
  split at h
  case h_2 => exact h.elim
  obtain ⟨l, rfl, rfl, hl, h⟩ := h
  refine ⟨l, rfl, rfl, hl, ?_⟩
  rw [decide_eq_true h0]
  exact h
def byteBadS : Spec := fun args H Q => match args, H with
  | [.ptr 0 0, .int .i64 n], [.cells [.int .i64 e, .opt 0 1, .own 1] 55, .own 5 1 m xs true] => Need (¬ (0 ≤ n ∧ n ≤ 255)) (∃ l : List UInt8, xs = bys l ∧ m = l.length ∧ l.length < 10000000 ∧ Q (.tuple []) (wrN (errOf e) l))
  | _, _ => False
theorem byteBad_k : Contract Tryd.prog [] 21 byteBadS := byte_k.imp fun args H Q h => by
  unfold byteBadS at h
  split at h
  case h_2 => exact h.elim
  obtain ⟨h0, l, rfl, rfl, hl, h⟩ := h
  refine ⟨l, rfl, rfl, hl, ?_⟩
  rw [decide_eq_false h0]
  exact h
def numOkS : Spec := fun args H Q => match args with
  | [.ptr 0 0, .int .u64 n] => Need (0 ≤ n ∧ n < 18446744073709551616) (wrOk 10000000 (beb n.toNat 8) H Q)
  | _ => False
theorem numOk_k : Contract Tryd.prog [] 20 numOkS := num_k.imp fun args H Q h => by
  unfold numOkS at h
  split at h
  case h_2 => exact h.elim
  rename_i n
  obtain ⟨h0, h⟩ := h
  unfold wrOk at h
  split at h
  case h_2 => exact h.elim
  obtain ⟨l, rfl, rfl, hl, h⟩ := h
  exact ⟨n.toNat, by omega, by omega, l, rfl, rfl, hl, h⟩
def textOkS : Spec := fun args H Q => match args with
  | [.ptr 0 0, .str s] => Need (s.length ≤ 65535) (wrOk 10000000 (beb s.length 2 ++ s) H Q)
  | _ => False
theorem textOk_k : Contract Tryd.prog [] 22 textOkS := text_k.imp fun args H Q h => by
  unfold textOkS at h
  split at h
  case h_2 => exact h.elim
  obtain ⟨h0, h⟩ := h
  unfold wrOk at h
  split at h
  case h_2 => exact h.elim
  obtain ⟨l, rfl, rfl, hl, h⟩ := h
  refine ⟨l, rfl, rfl, hl, ?_⟩
  rw [decide_eq_true h0]
  exact h
def rawOkS : Spec := fun args H Q => match args with
  | [.ptr 0 0, .str s] => Need (s.length < 10000000) (wrOk 20000000 s H Q)
  | _ => False
theorem rawOk_k : Contract Tryd.prog [] 19 rawOkS := raw_k.imp fun args H Q h => by
  unfold rawOkS at h
  split at h
  case h_2 => exact h.elim
  obtain ⟨h0, h⟩ := h
  unfold wrOk at h
  split at h
  case h_2 => exact h.elim
  obtain ⟨l, rfl, rfl, hl, h⟩ := h
  exact ⟨h0, l, rfl, rfl, hl, h⟩
def failAS : Spec := fun args H Q => match args, H with
  | [.ptr 0 0, .int .i64 n], [.cells [.int .i64 e, .str s] 72] => ∀ e' : Int, e' = (if e = 0 then n else e) → Q (.tuple []) (rd e' s)
  | _, _ => False
theorem failA_k : Contract Tryd.prog [] 39 failAS := fail_k.imp fun args H Q h => by
  unfold failAS at h
  split at h
  case h_2 => exact h.elim
  exact ⟨.inr rfl, h _ rfl⟩
def errAS : Spec := fun args H Q => match args, H with
  | [.ptr 0 0], [.cells [.int .i64 e, .str s] 72] => Q (.int .i64 e) (rd e s)
  | _, _ => False
theorem errA_k : Contract Tryd.prog [] 33 errAS := err_k.imp fun args H Q h => by
  unfold errAS at h
  split at h
  case h_2 => exact h.elim
  exact ⟨.inr rfl, h⟩
end Go.LX
