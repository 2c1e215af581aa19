import Derived.Test.YtfbkkhpcmnnmfaaDoorSe
set_option maxRecDepth 100000
set_option maxHeartbeats 1000000
set_option autoImplicit false
set_option linter.unusedVariables false
set_option linter.unusedSimpArgs false
namespace Go.LX
open Go.Proofs

/-! ## More of it -/
def absorb : Nat → St → List UInt8 → St × List UInt8
  | 0, v, r => (v, r)
  | k + 1, v, r => absorb k (v.mix (r.take 64)) (r.drop 64)
def St.put (v : St) (r : List UInt8) : St × List UInt8 := absorb (r.length / 64) v r
def wrS : Spec := fun args H Q => match args, H with
  | [.ptr 0 0, .str s], [.cells [.int .u32 x0, .int .u32 x1, .int .u32 x2, .int .u32 x3, .int .u32 x4, .int .u32 x5, .int .u32 x6, .int .u32 x7, .str r, .int .i64 n] 57] => ∃ v : St, (x0 = u32 v.a ∧ x1 = u32 v.b ∧ x2 = u32 v.c ∧ x3 = u32 v.d ∧ x4 = u32 v.e ∧ x5 = u32 v.f ∧ x6 = u32 v.g ∧ x7 = u32 v.h) ∧
      (r.length < 1000000 ∧ s.length < 1000000 ∧ 0 ≤ n ∧ n < 1000000000000) ∧ Q (.tuple []) [hsh (v.put (r ++ s)).1 (v.put (r ++ s)).2 (n + s.length)]
  | _, _ => False
theorem wr_c {y0 : CV} {cs0 : List CV} (hK : KAt y0 cs0) : Meets Tryd.prog [(0, y0 :: cs0)] 16 wrS := by
  refine meets_of Γok Tryd.func16 rfl ?_
  intro args H Q h
  unfold wrS at h
  split at h
  case h_2 => exact h.elim
  rename_i s x0 x1 x2 x3 x4 x5 x6 x7 r n
  obtain ⟨v, ⟨rfl, rfl, rfl, rfl, rfl, rfl, rfl, rfl⟩, ⟨hr, hs, hn0, hn1⟩, h⟩ := h
  have hw : IntKind.i64.wrap (n + (s.length : Int)) = n + (s.length : Int) := wrap_i64 (by omega) (by omega)
  have hcat : r.length + s.length ≤ 9223372036854775807 := by omega
  have hcl : (r ++ s).length ≤ 281474976710656 := by rw [List.length_append]; omega
  (refine sx_sound Γok _ ?_; conv => whnf)
  (repeat (first | (refine Need.mk hcat ?_; conv => whnf) | (exact Out.same; conv => whnf) | (exact Out1.same; conv => whnf) | (refine QAnd.mk ?_ ?_; conv => whnf) | (apply QStepH.go; conv => whnf) | (refine Both.lit_true ?_; conv => whnf) | (refine Both.lit_false ?_; conv => whnf) | (apply QStep.go; conv => whnf) | (refine Need.mk ?_ ?_; (focus (first | omega | exact ⟨by omega, by omega⟩ | rfl | exact ⟨rfl, rfl⟩ | exact ⟨rfl, by omega, by omega⟩ | exact ⟨by omega, by omega, by omega⟩ | exact ⟨rfl, Nat.le_of_ble_eq_true rfl⟩ | exact Nat.le_of_ble_eq_true rfl | (refine ⟨rfl, rfl, ?_⟩; simp [isFar, ofV0, CV.up, SV.renL, SV.ren] <;> fail) | (refine ⟨rfl, Nat.le_of_ble_eq_true rfl, ?_⟩; simp [isFar, ofV0, CV.up, SV.renL, SV.ren] <;> fail) | (simp only [List.length_append, List.length_drop, List.length_take, List.length_replicate, List.length_map]; omega) | (simp <;> fail))); conv => whnf) | (refine ⟨_, rfl, ?_⟩; conv => whnf)))
  refine CallVC.auto (clone_k.gl (G := [(0, y0 :: cs0)])) (Need.mk hcl ?_)
  (conv => whnf)
  (repeat (first | (exact Out.same; conv => whnf) | (exact Out1.same; conv => whnf) | (refine QAnd.mk ?_ ?_; conv => whnf) | (apply QStepH.go; conv => whnf) | (refine Both.lit_true ?_; conv => whnf) | (refine Both.lit_false ?_; conv => whnf) | (apply QStep.go; conv => whnf) | (refine Need.mk ?_ ?_; (focus (first | omega | exact ⟨by omega, by omega⟩ | rfl | exact ⟨rfl, rfl⟩ | exact ⟨rfl, by omega, by omega⟩ | exact ⟨by omega, by omega, by omega⟩ | exact ⟨rfl, Nat.le_of_ble_eq_true rfl⟩ | exact Nat.le_of_ble_eq_true rfl | (refine ⟨rfl, rfl, ?_⟩; simp [isFar, ofV0, CV.up, SV.renL, SV.ren] <;> fail) | (refine ⟨rfl, Nat.le_of_ble_eq_true rfl, ?_⟩; simp [isFar, ofV0, CV.up, SV.renL, SV.ren] <;> fail) | (simp only [List.length_append, List.length_drop, List.length_take, List.length_replicate, List.length_map]; omega) | (simp <;> fail))); conv => whnf) | (refine ⟨_, rfl, ?_⟩; conv => whnf)))
  refine loop_rule (fun x : St × List UInt8 => match x with | (q, t) => ⟨[.ptr 0 0, .any, .any, .any, .any, .any, .any, .any, .any, .any, .any, .any, .any, .any, .any, .any, .any, .any, .any, .any, .any, .any, .any, .any, .any, .any, .any, .any, .any, .any, .any, .any, .any, .any, .any, .any, .any, .any, .any, .any, .any, .any, .any, .any, .any, .any], [hsh q t (n + (s.length : Int))]⟩) (fun x => x.1.put x.2 = v.put (r ++ s) ∧ x.2.length < 3000000) (fun x => x.2.length) (v, r ++ s) ⟨rfl, by show (r ++ s).length < 3000000; rw [List.length_append]; omega⟩ (Weak.auto ?_) ?_
  · (repeat' ((conv => whnf); first | exact True.intro | (refine And.intro ?_ ?_)))
    all_goals first | rfl | exact .eq rfl | exact congrArg (SV.int .i64) hw | (refine .eq ?_; rw [hw]; rfl)
  rintro ⟨q, t⟩ ⟨hp, htl⟩
  dsimp only at hp htl
  (refine sx_sound Γok _ ?_; conv => whnf)
  (repeat (first | (exact Out.same; conv => whnf) | (exact Out1.same; conv => whnf) | (refine QAnd.mk ?_ ?_; conv => whnf) | (apply QStepH.go; conv => whnf) | (refine Both.lit_true ?_; conv => whnf) | (refine Both.lit_false ?_; conv => whnf) | (apply QStep.go; conv => whnf) | (refine Need.mk ?_ ?_; (focus (first | omega | exact ⟨by omega, by omega⟩ | rfl | exact ⟨rfl, rfl⟩ | exact ⟨rfl, by omega, by omega⟩ | exact ⟨by omega, by omega, by omega⟩ | exact ⟨rfl, Nat.le_of_ble_eq_true rfl⟩ | exact Nat.le_of_ble_eq_true rfl | (refine ⟨rfl, rfl, ?_⟩; simp [isFar, ofV0, CV.up, SV.renL, SV.ren] <;> fail) | (refine ⟨rfl, Nat.le_of_ble_eq_true rfl, ?_⟩; simp [isFar, ofV0, CV.up, SV.renL, SV.ren] <;> fail) | (simp only [List.length_append, List.length_drop, List.length_take, List.length_replicate, List.length_map]; omega) | (simp <;> fail))); conv => whnf) | (refine ⟨_, rfl, ?_⟩; conv => whnf)))
  refine Both.dec (fun hlt => ?_) (fun hge => ?_)
  · have h64 : 64 ≤ t.length := by omega
    have hcut : 0 ≤ (0 : Int) ∧ (0 : Int) ≤ 64 ∧ (64 : Int) ≤ ((t.length : Nat) : Int) := by omega
    have hput : (q.mix (t.take 64)).put (t.drop 64) = q.put t := by
      unfold St.put
      rw [List.length_drop, show t.length / 64 = (t.length - 64) / 64 + 1 by omega, absorb]
    have htk : (List.drop (Int.toNat 0) (List.take (Int.toNat 64) t)).length = 64 := by
      show (List.take 64 t).length = 64
      rw [List.length_take]
      omega
    have htk2 : List.drop (Int.toNat 0) (List.take (Int.toNat 64) t) = t.take 64 := rfl
    have hdr : List.drop (Int.toNat 64) (List.take (((t.length : Nat) : Int)).toNat t) = t.drop 64 := by
      show List.drop 64 (List.take t.length t) = _
      rw [List.take_length]
    have hcd : 0 ≤ (64 : Int) ∧ (64 : Int) ≤ ((t.length : Nat) : Int) ∧ ((t.length : Nat) : Int) ≤ ((t.length : Nat) : Int) := by omega
    have hst : SV.str (List.drop (Int.toNat 64) (List.take (((t.length : Nat) : Int)).toNat t)) = SV.str (t.drop 64) := congrArg SV.str hdr
    (conv => whnf)
    (refine DrawVC.any Γok (by kernel_rfl) (by kernel_rfl) (by kernel_rfl) (by rfl) ?_; conv => whnf)
    (repeat (first | (refine Need.mk hcut ?_; conv => whnf) | (refine CallVC.auto (mix_k hK) ⟨q, ⟨rfl, rfl, rfl, rfl, rfl, rfl, rfl, rfl⟩, htk, ?_⟩; conv => whnf) | (exact Out.same; conv => whnf) | (exact Out1.same; conv => whnf) | (refine QAnd.mk ?_ ?_; conv => whnf) | (apply QStepH.go; conv => whnf) | (refine Both.lit_true ?_; conv => whnf) | (refine Both.lit_false ?_; conv => whnf) | (apply QStep.go; conv => whnf) | (refine Need.mk ?_ ?_; (focus (first | omega | exact ⟨by omega, by omega⟩ | rfl | exact ⟨rfl, rfl⟩ | exact ⟨rfl, by omega, by omega⟩ | exact ⟨by omega, by omega, by omega⟩ | exact ⟨rfl, Nat.le_of_ble_eq_true rfl⟩ | exact Nat.le_of_ble_eq_true rfl | (refine ⟨rfl, rfl, ?_⟩; simp [isFar, ofV0, CV.up, SV.renL, SV.ren] <;> fail) | (refine ⟨rfl, Nat.le_of_ble_eq_true rfl, ?_⟩; simp [isFar, ofV0, CV.up, SV.renL, SV.ren] <;> fail) | (simp only [List.length_append, List.length_drop, List.length_take, List.length_replicate, List.length_map]; omega) | (simp <;> fail))); conv => whnf) | (refine ⟨_, rfl, ?_⟩; conv => whnf)))
    (repeat (first | (refine Need.mk hcd ?_; conv => whnf) | (exact Out.same; conv => whnf) | (exact Out1.same; conv => whnf) | (refine QAnd.mk ?_ ?_; conv => whnf) | (apply QStepH.go; conv => whnf) | (refine Both.lit_true ?_; conv => whnf) | (refine Both.lit_false ?_; conv => whnf) | (apply QStep.go; conv => whnf) | (refine Need.mk ?_ ?_; (focus (first | omega | exact ⟨by omega, by omega⟩ | rfl | exact ⟨rfl, rfl⟩ | exact ⟨rfl, by omega, by omega⟩ | exact ⟨by omega, by omega, by omega⟩ | exact ⟨rfl, Nat.le_of_ble_eq_true rfl⟩ | exact Nat.le_of_ble_eq_true rfl | (refine ⟨rfl, rfl, ?_⟩; simp [isFar, ofV0, CV.up, SV.renL, SV.ren] <;> fail) | (refine ⟨rfl, Nat.le_of_ble_eq_true rfl, ?_⟩; simp [isFar, ofV0, CV.up, SV.renL, SV.ren] <;> fail) | (simp only [List.length_append, List.length_drop, List.length_take, List.length_replicate, List.length_map]; omega) | (simp <;> fail))); conv => whnf) | (refine ⟨_, rfl, ?_⟩; conv => whnf)))
    rw [hdr]
    refine ⟨(q.mix (t.take 64), t.drop 64), ⟨hput.trans hp, by show (t.drop 64).length < 3000000; rw [List.length_drop]; omega⟩, by show (t.drop 64).length < t.length; rw [List.length_drop]; omega, Weak.auto ?_⟩
    (repeat' ((conv => whnf); first | exact True.intro | (refine And.intro ?_ ?_)))
    all_goals first | rfl | exact .eq rfl
  · have hz : t.length / 64 = 0 := by omega
    have hpt : q.put t = (q, t) := by rw [St.put, hz]; rfl
    rw [hpt] at hp
    rw [← hp] at h
    (conv => whnf)
    (repeat (first | (exact Out.same; conv => whnf) | (exact Out1.same; conv => whnf) | (refine QAnd.mk ?_ ?_; conv => whnf) | (apply QStepH.go; conv => whnf) | (refine Both.lit_true ?_; conv => whnf) | (refine Both.lit_false ?_; conv => whnf) | (apply QStep.go; conv => whnf) | (refine Need.mk ?_ ?_; (focus (first | omega | exact ⟨by omega, by omega⟩ | rfl | exact ⟨rfl, rfl⟩ | exact ⟨rfl, by omega, by omega⟩ | exact ⟨by omega, by omega, by omega⟩ | exact ⟨rfl, Nat.le_of_ble_eq_true rfl⟩ | exact Nat.le_of_ble_eq_true rfl | (refine ⟨rfl, rfl, ?_⟩; simp [isFar, ofV0, CV.up, SV.renL, SV.ren] <;> fail) | (refine ⟨rfl, Nat.le_of_ble_eq_true rfl, ?_⟩; simp [isFar, ofV0, CV.up, SV.renL, SV.ren] <;> fail) | (simp only [List.length_append, List.length_drop, List.length_take, List.length_replicate, List.length_map]; omega) | (simp <;> fail))); conv => whnf) | (refine ⟨_, rfl, ?_⟩; conv => whnf)))
    refine ⟨_, _, WeakV.auto ?_, h⟩
    (repeat' ((conv => whnf); first | exact True.intro | (refine And.intro ?_ ?_)))
    all_goals first | rfl | exact .eq rfl
theorem wr_k {y0 : CV} {cs0 : List CV} (hK : KAt y0 cs0) : Contract Tryd.prog [(0, y0 :: cs0)] 16 wrS := ⟨⟨⟨_, rfl, rfl, rfl⟩⟩, wr_c hK⟩
end Go.LX
