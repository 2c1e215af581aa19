import Derived.Test.YtfbkkhpcmnnmfaaDoorSi
set_option maxRecDepth 100000
set_option maxHeartbeats 1000000
set_option autoImplicit false
set_option linter.unusedVariables false
set_option linter.unusedSimpArgs false
namespace Go.LX
open Go.Proofs

/-! ## What is written, part by part -/
theorem absorb_app : ∀ (k : Nat) (v : St) (r s : List UInt8), 64 * k ≤ r.length → absorb k v (r ++ s) = ((absorb k v r).1, (absorb k v r).2 ++ s)
  | 0, v, r, s, _ => rfl
  | k + 1, v, r, s, h => by
    rw [absorb, absorb, List.take_append_of_le_length (by omega), List.drop_append_of_le_length (by omega), absorb_app k _ _ _ (by rw [List.length_drop]; omega)]
theorem absorb_len : ∀ (k : Nat) (v : St) (r : List UInt8), (absorb k v r).2.length = r.length - 64 * k
  | 0, v, r => rfl
  | k + 1, v, r => by rw [absorb, absorb_len k, List.length_drop]; omega
theorem absorb_add : ∀ (j k : Nat) (v : St) (r : List UInt8), absorb (j + k) v r = absorb k (absorb j v r).1 (absorb j v r).2
  | 0, k, v, r => by rw [Nat.zero_add]; rfl
  | j + 1, k, v, r => by rw [show j + 1 + k = (j + k) + 1 by omega, absorb, absorb_add j k, absorb]
theorem put_len (v : St) (r : List UInt8) : (v.put r).2.length = r.length % 64 := by
  rw [St.put, absorb_len]
  omega
theorem put_app (v : St) (r s : List UInt8) : (v.put r).1.put ((v.put r).2 ++ s) = v.put (r ++ s) := by
  have h1 : (r ++ s).length / 64 = r.length / 64 + ((v.put r).2 ++ s).length / 64 := by
    rw [List.length_append, List.length_append, put_len]
    omega
  have h2 : v.put (r ++ s) = absorb ((r ++ s).length / 64) v (r ++ s) := rfl
  rw [h2, h1, absorb_add, absorb_app (r.length / 64) v r s (by omega)]
  rfl
theorem put_nil (v : St) : v.put [] = (v, []) := rfl
/-- A hash's cells. -/
def hcs (v : St) (r : List UInt8) (n : Int) : List SV := [.int .u32 (u32 v.a), .int .u32 (u32 v.b), .int .u32 (u32 v.c), .int .u32 (u32 v.d), .int .u32 (u32 v.e), .int .u32 (u32 v.f), .int .u32 (u32 v.g), .int .u32 (u32 v.h), .str r, .int .i64 n]
/-- The digest of a text. -/
def shaD (s : List UInt8) : List UInt8 := St.end_ (St.init.put s).1 (St.init.put s).2 s.length
theorem shaD_eq (s : List UInt8) : shaD s = (St.init.put (s ++ pad s.length)).1.dig := by
  unfold shaD St.end_
  rw [put_app]
theorem be4b_len (x : W32) : (be4b x).length = 4 := rfl
theorem dig_len (v : St) : v.dig.length = 32 := rfl
theorem shaD_len (s : List UInt8) : (shaD s).length = 32 := dig_len _
theorem parts_at (l : List (List UInt8)) (k : Nat) (h : k < l.length) : (l.map CV.str)[((k : Nat) : Int).toNat]? = some (CV.str (l.getD k [])) := by
  rw [Int.toNat_natCast, List.getElem?_map, List.getD_eq_getElem?_getD, List.getElem?_eq_getElem h]
  rfl
theorem flat_take (l : List (List UInt8)) {k : Nat} (h : k < l.length) : (l.take (k + 1)).flatten = (l.take k).flatten ++ l.getD k [] := by
  rw [List.take_add_one, List.getD_eq_getElem?_getD, List.getElem?_eq_getElem h, List.flatten_append]
  simp
theorem flat_take_le (l : List (List UInt8)) (k : Nat) : (l.take k).flatten.length ≤ l.flatten.length := by
  have := congrArg (fun l => (List.flatten l).length) (List.take_append_drop k l)
  simp only [List.flatten_append, List.length_append] at this
  omega
def sumS : Spec := fun args H Q => match args, H with
  | [.nilsl], [] => Q (.str (shaD [])) []
  | [.sl 1 n cs f], [] => ∃ l : List (List UInt8), n = l.length ∧ cs = l.map CV.str ∧ l.length < 1000000000 ∧ l.flatten.length < 500000 ∧ Q (.str (shaD l.flatten)) []
  | _, _ => False
theorem sum_c {y0 : CV} {cs0 : List CV} (hK : KAt y0 cs0) : Meets Tryd.prog [(0, y0 :: cs0)] 9 sumS := by
  refine meets_of Γok Tryd.func9 rfl ?_
  intro args H Q h
  unfold sumS at h
  split at h
  case h_3 => exact h.elim
  · (refine sx_sound Γok _ ?_; conv => whnf)
    refine CallVC.auto (newH_k.gl (G := [(0, y0 :: cs0)])) ?_
    (conv => whnf)
    (repeat (first | (exact Out.same; conv => whnf) | (exact Out1.same; conv => whnf) | (refine QAnd.mk ?_ ?_; conv => whnf) | (apply QStepH.go; conv => whnf) | (refine Both.lit_true ?_; conv => whnf) | (refine Both.lit_false ?_; conv => whnf) | (apply QStep.go; conv => whnf) | (refine Need.mk ?_ ?_; (focus (first | omega | exact ⟨by omega, by omega⟩ | rfl | exact ⟨rfl, rfl⟩ | exact ⟨rfl, by omega, by omega⟩ | exact ⟨by omega, by omega, by omega⟩ | exact ⟨rfl, Nat.le_of_ble_eq_true rfl⟩ | exact Nat.le_of_ble_eq_true rfl | (refine ⟨rfl, rfl, ?_⟩; simp [isFar, ofV0, CV.up, SV.renL, SV.ren] <;> fail) | (refine ⟨rfl, Nat.le_of_ble_eq_true rfl, ?_⟩; simp [isFar, ofV0, CV.up, SV.renL, SV.ren] <;> fail) | (simp only [List.length_append, List.length_drop, List.length_take, List.length_replicate, List.length_map]; omega) | (simp <;> fail))); conv => whnf) | (refine ⟨_, rfl, ?_⟩; conv => whnf)))
    refine loop_rule (fun k : Nat => ⟨[.any, .any, .any, .ptr 0 0, .any, .any, .any, .any, .int .i64 0, .int .i64 0, .any, .any, .any, .any, .any, .any, .any, .any, .any], [hsh St.init [] 0]⟩) (fun k => True) (fun k => 0) 0 trivial (Weak.auto ?_) ?_
    · (repeat' ((conv => whnf); first | exact True.intro | (refine And.intro ?_ ?_)))
      all_goals first | rfl | exact .eq rfl
    intro k hk
    (refine sx_sound Γok _ ?_; conv => whnf)
    (repeat (first | (exact Out.same; conv => whnf) | (exact Out1.same; conv => whnf) | (refine QAnd.mk ?_ ?_; conv => whnf) | (apply QStepH.go; conv => whnf) | (refine Both.lit_true ?_; conv => whnf) | (refine Both.lit_false ?_; conv => whnf) | (apply QStep.go; conv => whnf) | (refine Need.mk ?_ ?_; (focus (first | omega | exact ⟨by omega, by omega⟩ | rfl | exact ⟨rfl, rfl⟩ | exact ⟨rfl, by omega, by omega⟩ | exact ⟨by omega, by omega, by omega⟩ | exact ⟨rfl, Nat.le_of_ble_eq_true rfl⟩ | exact Nat.le_of_ble_eq_true rfl | (refine ⟨rfl, rfl, ?_⟩; simp [isFar, ofV0, CV.up, SV.renL, SV.ren] <;> fail) | (refine ⟨rfl, Nat.le_of_ble_eq_true rfl, ?_⟩; simp [isFar, ofV0, CV.up, SV.renL, SV.ren] <;> fail) | (simp only [List.length_append, List.length_drop, List.length_take, List.length_replicate, List.length_map]; omega) | (simp <;> fail))); conv => whnf) | (refine ⟨_, rfl, ?_⟩; conv => whnf) | (refine Both.of_false ?_ ?_; (focus (first | rfl | (simp <;> fail))); conv => whnf) | (refine Both.of_true ?_ ?_; (focus (first | rfl | (simp <;> fail))); conv => whnf)))
    refine CallVC.auto (sumH_k hK) ⟨St.init, 0, ⟨rfl, rfl, rfl, rfl, rfl, rfl, rfl, rfl⟩, ⟨by decide, rfl, by decide⟩, ?_⟩
    (conv => whnf)
    (repeat (first | (exact Out.same; conv => whnf) | (exact Out1.same; conv => whnf) | (refine QAnd.mk ?_ ?_; conv => whnf) | (apply QStepH.go; conv => whnf) | (refine Both.lit_true ?_; conv => whnf) | (refine Both.lit_false ?_; conv => whnf) | (apply QStep.go; conv => whnf) | (refine Need.mk ?_ ?_; (focus (first | omega | exact ⟨by omega, by omega⟩ | rfl | exact ⟨rfl, rfl⟩ | exact ⟨rfl, by omega, by omega⟩ | exact ⟨by omega, by omega, by omega⟩ | exact ⟨rfl, Nat.le_of_ble_eq_true rfl⟩ | exact Nat.le_of_ble_eq_true rfl | (refine ⟨rfl, rfl, ?_⟩; simp [isFar, ofV0, CV.up, SV.renL, SV.ren] <;> fail) | (refine ⟨rfl, Nat.le_of_ble_eq_true rfl, ?_⟩; simp [isFar, ofV0, CV.up, SV.renL, SV.ren] <;> fail) | (simp only [List.length_append, List.length_drop, List.length_take, List.length_replicate, List.length_map]; omega) | (simp <;> fail))); conv => whnf) | (refine ⟨_, rfl, ?_⟩; conv => whnf)))
    exact ⟨_, _, WeakV.drop rfl, h⟩
  rename_i n cs f
  obtain ⟨l, rfl, rfl, hlc, hll, h⟩ := h
  (refine sx_sound Γok _ ?_; conv => whnf)
  refine CallVC.auto (newH_k.gl (G := [(0, y0 :: cs0)])) ?_
  (conv => whnf)
  (repeat (first | (exact Out.same; conv => whnf) | (exact Out1.same; conv => whnf) | (refine QAnd.mk ?_ ?_; conv => whnf) | (apply QStepH.go; conv => whnf) | (refine Both.lit_true ?_; conv => whnf) | (refine Both.lit_false ?_; conv => whnf) | (apply QStep.go; conv => whnf) | (refine Need.mk ?_ ?_; (focus (first | omega | exact ⟨by omega, by omega⟩ | rfl | exact ⟨rfl, rfl⟩ | exact ⟨rfl, by omega, by omega⟩ | exact ⟨by omega, by omega, by omega⟩ | exact ⟨rfl, Nat.le_of_ble_eq_true rfl⟩ | exact Nat.le_of_ble_eq_true rfl | (refine ⟨rfl, rfl, ?_⟩; simp [isFar, ofV0, CV.up, SV.renL, SV.ren] <;> fail) | (refine ⟨rfl, Nat.le_of_ble_eq_true rfl, ?_⟩; simp [isFar, ofV0, CV.up, SV.renL, SV.ren] <;> fail) | (simp only [List.length_append, List.length_drop, List.length_take, List.length_replicate, List.length_map]; omega) | (simp <;> fail))); conv => whnf) | (refine ⟨_, rfl, ?_⟩; conv => whnf)))
  refine loop_rule (fun k : Nat => ⟨[.any, .any, .any, .ptr 0 0, .any, .any, .any, .sl 1 l.length (l.map CV.str) f, .int .i64 (l.length : Int), .int .i64 (k : Int), .any, .any, .any, .any, .any, .any, .any, .any, .any], [hsh (St.init.put (l.take k).flatten).1 (St.init.put (l.take k).flatten).2 ((l.take k).flatten.length : Int)]⟩) (fun k => k ≤ l.length) (fun k => l.length - k) 0 (Nat.zero_le _) (Weak.auto ?_) ?_
  · have h0 : hcs St.init [] 0 = hcs (St.init.put (l.take 0).flatten).1 (St.init.put (l.take 0).flatten).2 ((l.take 0).flatten.length : Int) := by rw [List.take_zero]; rfl
    (repeat' ((conv => whnf); first | exact True.intro | (refine And.intro ?_ ?_)))
    all_goals first | rfl | exact .eq h0 | exact .eq rfl
  intro k hk
  have htl := flat_take_le l k
  (refine sx_sound Γok _ ?_; conv => whnf)
  (repeat (first | (exact Out.same; conv => whnf) | (exact Out1.same; conv => whnf) | (refine QAnd.mk ?_ ?_; conv => whnf) | (apply QStepH.go; conv => whnf) | (refine Both.lit_true ?_; conv => whnf) | (refine Both.lit_false ?_; conv => whnf) | (apply QStep.go; conv => whnf) | (refine Need.mk ?_ ?_; (focus (first | omega | exact ⟨by omega, by omega⟩ | rfl | exact ⟨rfl, rfl⟩ | exact ⟨rfl, by omega, by omega⟩ | exact ⟨by omega, by omega, by omega⟩ | exact ⟨rfl, Nat.le_of_ble_eq_true rfl⟩ | exact Nat.le_of_ble_eq_true rfl | (refine ⟨rfl, rfl, ?_⟩; simp [isFar, ofV0, CV.up, SV.renL, SV.ren] <;> fail) | (refine ⟨rfl, Nat.le_of_ble_eq_true rfl, ?_⟩; simp [isFar, ofV0, CV.up, SV.renL, SV.ren] <;> fail) | (simp only [List.length_append, List.length_drop, List.length_take, List.length_replicate, List.length_map]; omega) | (simp <;> fail))); conv => whnf) | (refine ⟨_, rfl, ?_⟩; conv => whnf)))
  refine Both.dec (fun hlt => ?_) (fun hge => ?_)
  · have hkl : k < l.length := by omega
    have hx := parts_at l k hkl
    have hft := flat_take l hkl
    have htl1 := flat_take_le l (k + 1)
    have hpa := put_app St.init (l.take k).flatten (l.getD k [])
    have hwr : IntKind.i64.wrap ((k : Int) + 1) = ((k + 1 : Nat) : Int) := by rw [wrap_i64 (by omega) (by omega)]; rfl
    have hrl := put_len St.init (l.take k).flatten
    rw [hft, List.length_append] at htl1
    have hobj : hcs ((St.init.put (l.take k).flatten).1.put ((St.init.put (l.take k).flatten).2 ++ l.getD k [])).1 ((St.init.put (l.take k).flatten).1.put ((St.init.put (l.take k).flatten).2 ++ l.getD k [])).2 (((l.take k).flatten.length : Int) + ((l.getD k []).length : Int)) = hcs (St.init.put (l.take (k + 1)).flatten).1 (St.init.put (l.take (k + 1)).flatten).2 ((l.take (k + 1)).flatten.length : Int) := by
      rw [hpa, hft, List.length_append]
      rfl
    revert hx htl1 hobj
    generalize l.getD k [] = p
    intro hx htl1 hobj
    clear hft hpa
    (conv => whnf)
    (repeat (first | (refine ⟨_, hx, ?_⟩; conv => whnf) | (exact Out.same; conv => whnf) | (exact Out1.same; conv => whnf) | (refine QAnd.mk ?_ ?_; conv => whnf) | (apply QStepH.go; conv => whnf) | (refine Both.lit_true ?_; conv => whnf) | (refine Both.lit_false ?_; conv => whnf) | (apply QStep.go; conv => whnf) | (refine Need.mk ?_ ?_; (focus (first | omega | exact ⟨by omega, by omega⟩ | rfl | exact ⟨rfl, rfl⟩ | exact ⟨rfl, by omega, by omega⟩ | exact ⟨by omega, by omega, by omega⟩ | exact ⟨rfl, Nat.le_of_ble_eq_true rfl⟩ | exact Nat.le_of_ble_eq_true rfl | (refine ⟨rfl, rfl, ?_⟩; simp [isFar, ofV0, CV.up, SV.renL, SV.ren] <;> fail) | (refine ⟨rfl, Nat.le_of_ble_eq_true rfl, ?_⟩; simp [isFar, ofV0, CV.up, SV.renL, SV.ren] <;> fail) | (simp only [List.length_append, List.length_drop, List.length_take, List.length_replicate, List.length_map]; omega) | (simp <;> fail))); conv => whnf) | (refine ⟨_, rfl, ?_⟩; conv => whnf)))
    refine CallVC.auto (wr_k hK) ⟨_, ⟨rfl, rfl, rfl, rfl, rfl, rfl, rfl, rfl⟩, ⟨by omega, by omega, by omega, by omega⟩, ?_⟩
    (conv => whnf)
    (repeat (first | (exact Out.same; conv => whnf) | (exact Out1.same; conv => whnf) | (refine QAnd.mk ?_ ?_; conv => whnf) | (apply QStepH.go; conv => whnf) | (refine Both.lit_true ?_; conv => whnf) | (refine Both.lit_false ?_; conv => whnf) | (apply QStep.go; conv => whnf) | (refine Need.mk ?_ ?_; (focus (first | omega | exact ⟨by omega, by omega⟩ | rfl | exact ⟨rfl, rfl⟩ | exact ⟨rfl, by omega, by omega⟩ | exact ⟨by omega, by omega, by omega⟩ | exact ⟨rfl, Nat.le_of_ble_eq_true rfl⟩ | exact Nat.le_of_ble_eq_true rfl | (refine ⟨rfl, rfl, ?_⟩; simp [isFar, ofV0, CV.up, SV.renL, SV.ren] <;> fail) | (refine ⟨rfl, Nat.le_of_ble_eq_true rfl, ?_⟩; simp [isFar, ofV0, CV.up, SV.renL, SV.ren] <;> fail) | (simp only [List.length_append, List.length_drop, List.length_take, List.length_replicate, List.length_map]; omega) | (simp <;> fail))); conv => whnf) | (refine ⟨_, rfl, ?_⟩; conv => whnf)))
    refine ⟨k + 1, by omega, by omega, Weak.auto ?_⟩
    (repeat' ((conv => whnf); first | exact True.intro | (refine And.intro ?_ ?_)))
    all_goals first | exact .eq hobj | rfl | exact .eq rfl | exact congrArg (SV.int .i64) hwr
  have hke : k = l.length := by omega
  have hrl := put_len St.init l.flatten
  subst hke
  rw [List.take_length]
  (conv => whnf)
  (repeat (first | (exact Out.same; conv => whnf) | (exact Out1.same; conv => whnf) | (refine QAnd.mk ?_ ?_; conv => whnf) | (apply QStepH.go; conv => whnf) | (refine Both.lit_true ?_; conv => whnf) | (refine Both.lit_false ?_; conv => whnf) | (apply QStep.go; conv => whnf) | (refine Need.mk ?_ ?_; (focus (first | omega | exact ⟨by omega, by omega⟩ | rfl | exact ⟨rfl, rfl⟩ | exact ⟨rfl, by omega, by omega⟩ | exact ⟨by omega, by omega, by omega⟩ | exact ⟨rfl, Nat.le_of_ble_eq_true rfl⟩ | exact Nat.le_of_ble_eq_true rfl | (refine ⟨rfl, rfl, ?_⟩; simp [isFar, ofV0, CV.up, SV.renL, SV.ren] <;> fail) | (refine ⟨rfl, Nat.le_of_ble_eq_true rfl, ?_⟩; simp [isFar, ofV0, CV.up, SV.renL, SV.ren] <;> fail) | (simp only [List.length_append, List.length_drop, List.length_take, List.length_replicate, List.length_map]; omega) | (simp <;> fail))); conv => whnf) | (refine ⟨_, rfl, ?_⟩; conv => whnf)))
  refine CallVC.auto (sumH_k hK) ⟨_, _, ⟨rfl, rfl, rfl, rfl, rfl, rfl, rfl, rfl⟩, ⟨by omega, rfl, by omega⟩, ?_⟩
  (conv => whnf)
  (repeat (first | (exact Out.same; conv => whnf) | (exact Out1.same; conv => whnf) | (refine QAnd.mk ?_ ?_; conv => whnf) | (apply QStepH.go; conv => whnf) | (refine Both.lit_true ?_; conv => whnf) | (refine Both.lit_false ?_; conv => whnf) | (apply QStep.go; conv => whnf) | (refine Need.mk ?_ ?_; (focus (first | omega | exact ⟨by omega, by omega⟩ | rfl | exact ⟨rfl, rfl⟩ | exact ⟨rfl, by omega, by omega⟩ | exact ⟨by omega, by omega, by omega⟩ | exact ⟨rfl, Nat.le_of_ble_eq_true rfl⟩ | exact Nat.le_of_ble_eq_true rfl | (refine ⟨rfl, rfl, ?_⟩; simp [isFar, ofV0, CV.up, SV.renL, SV.ren] <;> fail) | (refine ⟨rfl, Nat.le_of_ble_eq_true rfl, ?_⟩; simp [isFar, ofV0, CV.up, SV.renL, SV.ren] <;> fail) | (simp only [List.length_append, List.length_drop, List.length_take, List.length_replicate, List.length_map]; omega) | (simp <;> fail))); conv => whnf) | (refine ⟨_, rfl, ?_⟩; conv => whnf)))
  exact ⟨_, _, WeakV.drop rfl, h⟩
theorem sum_k {y0 : CV} {cs0 : List CV} (hK : KAt y0 cs0) : Contract Tryd.prog [(0, y0 :: cs0)] 9 sumS := ⟨⟨⟨_, rfl, rfl, rfl⟩⟩, sum_c hK⟩
end Go.LX
