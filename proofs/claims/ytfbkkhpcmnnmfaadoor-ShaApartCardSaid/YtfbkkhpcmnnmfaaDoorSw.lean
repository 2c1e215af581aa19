import Derived.Test.YtfbkkhpcmnnmfaaDoorSv
set_option maxRecDepth 100000
set_option maxHeartbeats 2000000
set_option autoImplicit false
set_option linter.unusedVariables false
set_option linter.unusedSimpArgs false
namespace Go.LX
open Go.Proofs

def rblkS : Spec := fun args H Q => match args, H with
  | [.str b, .sl 1 n cs f, .sl 1 8 cs' f'], [] => ∃ (v : St), n = 64 ∧ b.length = 64 ∧ cs = ks kT ∧ cs' = ks v.ws ∧ Q (.own 0) [.own 44 1 8 (ks (v.mix b).ws) true]
  | _, _ => False
theorem plus_ws (v x : St) (i : Nat) (h : i < 8) : v.ws.getD i 0 + x.ws.getD i 0 = (v.plus x).ws.getD i 0 := by
  match i, h with
  | 0, _ => rfl
  | 1, _ => rfl
  | 2, _ => rfl
  | 3, _ => rfl
  | 4, _ => rfl
  | 5, _ => rfl
  | 6, _ => rfl
  | 7, _ => rfl
theorem rblk_c : Meets Tryd.prog [] 21 rblkS := by
  refine meets_of Γok Tryd.func21 rfl ?_
  intro args H Q h
  unfold rblkS at h
  split at h
  case h_2 => exact h.elim
  rename_i s n cs f cs' f'
  obtain ⟨v, rfl, hs, rfl, rfl, h⟩ := h
  have hkl : kT.length = 64 := rfl
  have hvl : v.ws.length = 8 := rfl
  have hkt : ∀ t, kT.getD t 0 = kT.getD t 0 := fun _ => rfl
  unfold St.mix words at h
  have hro : ∀ (ws : List W32) (t : Nat), v.rounds ws (t + 1) = (v.rounds ws t).round (kT.getD t 0) (ws.getD t 0) := fun _ _ => rfl
  revert hkl hkt hro
  generalize kT = K
  intro hkl hkt hro
  have hmk : (64 : Int) = 64 ∧ (0 : Int) ≤ 64 ∧ (ti44.bytes : Int) * 64 ≤ 140737488355328 ∧ (64 : Int) ≤ 140737488355328 := by decide
  have hobj0 : LObj.own 44 ti44.size (64 : Int).toNat (zerosOf ti44.size (64 : Int).toNat [CV.int .u32 0]) true = LObj.own 44 1 64 (ks (ws0 s 0)) true := by
    rw [show ti44.size = 1 from rfl, zer_ks]
    rfl
  (refine sx_sound Γok _ ?_; conv => whnf)
  (repeat (first | (refine Need.mk hmk ?_; conv => whnf) | (exact Out.same; conv => whnf) | (exact Out1.same; conv => whnf) | (refine QAnd.mk ?_ ?_; conv => whnf) | (apply QStepH.go; conv => whnf) | (refine Both.lit_true ?_; conv => whnf) | (refine Both.lit_false ?_; conv => whnf) | (apply QStep.go; conv => whnf) | (refine Need.mk ?_ ?_; (focus (first | omega | exact ⟨by omega, by omega⟩ | rfl | exact ⟨rfl, rfl⟩ | exact ⟨rfl, by omega, by omega⟩ | exact ⟨by omega, by omega, by omega⟩ | exact ⟨rfl, Nat.le_of_ble_eq_true rfl⟩ | exact Nat.le_of_ble_eq_true rfl | (refine ⟨rfl, rfl, ?_⟩; simp [isFar, ofV0, CV.up, SV.renL, SV.ren] <;> fail) | (refine ⟨rfl, Nat.le_of_ble_eq_true rfl, ?_⟩; simp [isFar, ofV0, CV.up, SV.renL, SV.ren] <;> fail) | (simp only [List.length_append, List.length_drop, List.length_take, List.length_replicate, List.length_map]; omega) | (simp <;> fail))); conv => whnf) | (refine ⟨_, rfl, ?_⟩; conv => whnf)))
  refine loop_rule (fun t : Nat => ⟨[.str s, .sl 1 64 (ks K) f, .sl 1 8 (ks v.ws) f', .any, .any, .any, .any, .own 0, .int .i64 (t : Int), .any, .any, .any, .any, .any, .any, .any, .any, .any, .any, .any, .any, .any, .any, .any, .any, .any, .any, .any, .any, .any, .any, .any, .any, .any, .any, .any, .any, .any, .any, .any, .any, .any, .any, .any, .any, .any, .any, .any, .any, .any, .any, .any, .any, .any, .any, .any, .any, .any, .any, .any, .any, .any, .any, .any, .any, .any, .any, .any, .any, .any, .any, .any, .any, .any, .any, .any, .any, .any, .any, .any, .any, .any, .any, .any, .any, .any, .any, .any, .any, .any, .any, .any, .any, .any, .any, .any, .any, .any, .any, .any, .any, .any, .any, .any, .any, .any, .any, .any, .any, .any, .any, .any, .any, .any, .any, .any, .any, .any, .any, .any, .any, .any, .any, .any, .any, .any, .any, .any, .any, .any, .any, .any, .any, .any, .any, .any, .any, .any, .any, .any, .any, .any, .any, .any, .any, .any, .any, .any, .any, .any, .any, .any, .any, .any, .any, .any, .any, .any, .any, .any, .any, .any, .any, .any, .any, .any, .any, .any, .any, .any, .any, .any, .any, .any, .any, .any, .any, .any, .any, .any, .any, .any, .any, .any, .any, .any, .any, .any, .any, .any, .any, .any, .any, .any, .any, .any, .any, .any, .any, .any, .any, .any, .any, .any, .any, .any, .any, .any, .any, .any, .any, .any, .any, .any, .any, .any, .any, .any, .any, .any, .any, .any, .any, .any, .any, .any, .any, .any, .any, .any, .any], [.own 44 1 64 (ks (ws0 s t)) true]⟩) (fun t => t ≤ 16) (fun t => 16 - t) 0 (Nat.zero_le _) (Weak.auto ?_) ?_
  · (repeat' ((conv => whnf); first | exact True.intro | (refine And.intro ?_ ?_)))
    all_goals first | exact hobj0 | rfl | exact .eq rfl
  clear hobj0 hmk
  intro t ht
  have hwl := ws0_len s t
  (refine sx_sound Γok _ ?_; conv => whnf)
  (repeat (first | (exact Out.same; conv => whnf) | (exact Out1.same; conv => whnf) | (refine QAnd.mk ?_ ?_; conv => whnf) | (apply QStepH.go; conv => whnf) | (refine Both.lit_true ?_; conv => whnf) | (refine Both.lit_false ?_; conv => whnf) | (apply QStep.go; conv => whnf) | (refine Need.mk ?_ ?_; (focus (first | omega | exact ⟨by omega, by omega⟩ | rfl | exact ⟨rfl, rfl⟩ | exact ⟨rfl, by omega, by omega⟩ | exact ⟨by omega, by omega, by omega⟩ | exact ⟨rfl, Nat.le_of_ble_eq_true rfl⟩ | exact Nat.le_of_ble_eq_true rfl | (refine ⟨rfl, rfl, ?_⟩; simp [isFar, ofV0, CV.up, SV.renL, SV.ren] <;> fail) | (refine ⟨rfl, Nat.le_of_ble_eq_true rfl, ?_⟩; simp [isFar, ofV0, CV.up, SV.renL, SV.ren] <;> fail) | (simp only [List.length_append, List.length_drop, List.length_take, List.length_replicate, List.length_map]; omega) | (simp <;> fail))); conv => whnf) | (refine ⟨_, rfl, ?_⟩; conv => whnf)))
  refine Both.dec (fun hlt => ?_) (fun hge => ?_)
  · have ht16 : t < 16 := by omega
    have h4 : IntKind.i64.wrap (4 * (t : Int)) = ((4 * t : Nat) : Int) := by rw [wrap_i64 (by omega) (by omega)]; omega
    have h41 : IntKind.i64.wrap (IntKind.i64.wrap (4 * (t : Int)) + 1) = ((4 * t + 1 : Nat) : Int) := by rw [h4, wrap_i64 (by omega) (by omega)]; omega
    have h42 : IntKind.i64.wrap (IntKind.i64.wrap (4 * (t : Int)) + 2) = ((4 * t + 2 : Nat) : Int) := by rw [h4, wrap_i64 (by omega) (by omega)]; omega
    have h43 : IntKind.i64.wrap (IntKind.i64.wrap (4 * (t : Int)) + 3) = ((4 * t + 3 : Nat) : Int) := by rw [h4, wrap_i64 (by omega) (by omega)]; omega
    have i0 : 0 ≤ IntKind.i64.wrap (4 * (t : Int)) ∧ IntKind.i64.wrap (4 * (t : Int)) < ((s.length : Nat) : Int) := by rw [h4]; omega
    have i1 : 0 ≤ IntKind.i64.wrap (IntKind.i64.wrap (4 * (t : Int)) + 1) ∧ IntKind.i64.wrap (IntKind.i64.wrap (4 * (t : Int)) + 1) < ((s.length : Nat) : Int) := by rw [h41]; omega
    have i2 : 0 ≤ IntKind.i64.wrap (IntKind.i64.wrap (4 * (t : Int)) + 2) ∧ IntKind.i64.wrap (IntKind.i64.wrap (4 * (t : Int)) + 2) < ((s.length : Nat) : Int) := by rw [h42]; omega
    have i3 : 0 ≤ IntKind.i64.wrap (IntKind.i64.wrap (4 * (t : Int)) + 3) ∧ IntKind.i64.wrap (IntKind.i64.wrap (4 * (t : Int)) + 3) < ((s.length : Nat) : Int) := by rw [h43]; omega
    have hwr : IntKind.i64.wrap ((t : Int) + 1) = ((t + 1 : Nat) : Int) := by rw [wrap_i64 (by omega) (by omega)]; rfl
    have hst : ti44.size = 1 ∧ ((t : Int)).toNat < (ks (ws0 s t)).length := ⟨rfl, by rw [ks_len, hwl, Int.toNat_natCast]; omega⟩
    have hwd := word_go (s := s) (t := t) (by omega)
    (conv => whnf)
    (refine DrawVC.any Γok (by kernel_rfl) (by kernel_rfl) (by kernel_rfl) (by rfl) ?_; conv => whnf)
    (repeat (first | (refine Need.mk i0 ?_; conv => whnf) | (refine Need.mk i1 ?_; conv => whnf) | (refine Need.mk i2 ?_; conv => whnf) | (refine Need.mk i3 ?_; conv => whnf) | (refine Need.mk hst ?_; conv => whnf) | (exact Out.same; conv => whnf) | (exact Out1.same; conv => whnf) | (refine QAnd.mk ?_ ?_; conv => whnf) | (apply QStepH.go; conv => whnf) | (refine Both.lit_true ?_; conv => whnf) | (refine Both.lit_false ?_; conv => whnf) | (apply QStep.go; conv => whnf) | (refine Need.mk ?_ ?_; (focus (first | omega | exact ⟨by omega, by omega⟩ | rfl | exact ⟨rfl, rfl⟩ | exact ⟨rfl, by omega, by omega⟩ | exact ⟨by omega, by omega, by omega⟩ | exact ⟨rfl, Nat.le_of_ble_eq_true rfl⟩ | exact Nat.le_of_ble_eq_true rfl | (refine ⟨rfl, rfl, ?_⟩; simp [isFar, ofV0, CV.up, SV.renL, SV.ren] <;> fail) | (refine ⟨rfl, Nat.le_of_ble_eq_true rfl, ?_⟩; simp [isFar, ofV0, CV.up, SV.renL, SV.ren] <;> fail) | (simp only [List.length_append, List.length_drop, List.length_take, List.length_replicate, List.length_map]; omega) | (simp <;> fail))); conv => whnf) | (refine ⟨_, rfl, ?_⟩; conv => whnf)))
    have hobj : ∀ j0 j1 j2 j3 : Int, j0 = ((4 * t : Nat) : Int) → j1 = ((4 * t + 1 : Nat) : Int) → j2 = ((4 * t + 2 : Nat) : Int) → j3 = ((4 * t + 3 : Nat) : Int) → LObj.own 44 1 64 ((ks (ws0 s t)).set ((t : Int)).toNat (CV.int .u32 (IntKind.u32.wrap (IntKind.u32.wrap (IntKind.u32.wrap (IntKind.u32.wrap (IntKind.u32.wrap ((s.getD j0.toNat 0).toNat : Int) * 16777216) + IntKind.u32.wrap (IntKind.u32.wrap ((s.getD j1.toNat 0).toNat : Int) * 65536)) + IntKind.u32.wrap (IntKind.u32.wrap ((s.getD j2.toNat 0).toNat : Int) * 256)) + IntKind.u32.wrap ((s.getD j3.toNat 0).toNat : Int))))) true = LObj.own 44 1 64 (ks (ws0 s (t + 1))) true := by
      rintro j0 j1 j2 j3 rfl rfl rfl rfl
      simp only [Int.toNat_natCast]
      rw [hwd, ks_set]
      rfl
    refine ⟨t + 1, by omega, by omega, Weak.auto ?_⟩
    (repeat' ((conv => whnf); first | exact True.intro | (refine And.intro ?_ ?_)))
    all_goals first | rfl | exact .eq rfl | exact congrArg (SV.int .i64) hwr | exact hobj _ _ _ _ h4 h41 h42 h43
  have ht16 : t = 16 := by omega
  subst ht16
  have hobj0 : LObj.own 44 1 64 (ks (ws0 s 16)) true = LObj.own 44 1 64 (ks (ws1 s 0)) true := rfl
  (conv => whnf)
  (repeat (first | (exact Out.same; conv => whnf) | (exact Out1.same; conv => whnf) | (refine QAnd.mk ?_ ?_; conv => whnf) | (apply QStepH.go; conv => whnf) | (refine Both.lit_true ?_; conv => whnf) | (refine Both.lit_false ?_; conv => whnf) | (apply QStep.go; conv => whnf) | (refine Need.mk ?_ ?_; (focus (first | omega | exact ⟨by omega, by omega⟩ | rfl | exact ⟨rfl, rfl⟩ | exact ⟨rfl, by omega, by omega⟩ | exact ⟨by omega, by omega, by omega⟩ | exact ⟨rfl, Nat.le_of_ble_eq_true rfl⟩ | exact Nat.le_of_ble_eq_true rfl | (refine ⟨rfl, rfl, ?_⟩; simp [isFar, ofV0, CV.up, SV.renL, SV.ren] <;> fail) | (refine ⟨rfl, Nat.le_of_ble_eq_true rfl, ?_⟩; simp [isFar, ofV0, CV.up, SV.renL, SV.ren] <;> fail) | (simp only [List.length_append, List.length_drop, List.length_take, List.length_replicate, List.length_map]; omega) | (simp <;> fail))); conv => whnf) | (refine ⟨_, rfl, ?_⟩; conv => whnf)))
  refine loop_rule (fun k : Nat => ⟨[.str s, .sl 1 64 (ks K) f, .sl 1 8 (ks v.ws) f', .any, .any, .any, .any, .own 0, .any, .int .i64 ((16 + k : Nat) : Int), .any, .any, .any, .any, .any, .any, .any, .any, .any, .any, .any, .any, .any, .any, .any, .any, .any, .any, .any, .any, .any, .any, .any, .any, .any, .any, .any, .any, .any, .any, .any, .any, .any, .any, .any, .any, .any, .any, .any, .any, .any, .any, .any, .any, .any, .any, .any, .any, .any, .any, .any, .any, .any, .any, .any, .any, .any, .any, .any, .any, .any, .any, .any, .any, .any, .any, .any, .any, .any, .any, .any, .any, .any, .any, .any, .any, .any, .any, .any, .any, .any, .any, .any, .any, .any, .any, .any, .any, .any, .any, .any, .any, .any, .any, .any, .any, .any, .any, .any, .any, .any, .any, .any, .any, .any, .any, .any, .any, .any, .any, .any, .any, .any, .any, .any, .any, .any, .any, .any, .any, .any, .any, .any, .any, .any, .any, .any, .any, .any, .any, .any, .any, .any, .any, .any, .any, .any, .any, .any, .any, .any, .any, .any, .any, .any, .any, .any, .any, .any, .any, .any, .any, .any, .any, .any, .any, .any, .any, .any, .any, .any, .any, .any, .any, .any, .any, .any, .any, .any, .any, .any, .any, .any, .any, .any, .any, .any, .any, .any, .any, .any, .any, .any, .any, .any, .any, .any, .any, .any, .any, .any, .any, .any, .any, .any, .any, .any, .any, .any, .any, .any, .any, .any, .any, .any, .any, .any, .any, .any, .any, .any, .any, .any, .any, .any, .any, .any, .any, .any, .any, .any], [.own 44 1 64 (ks (ws1 s k)) true]⟩) (fun k => k ≤ 48) (fun k => 48 - k) 0 (Nat.zero_le _) (Weak.auto ?_) ?_
  · (repeat' ((conv => whnf); first | exact True.intro | (refine And.intro ?_ ?_)))
    all_goals first | exact hobj0 | rfl | exact .eq rfl
  clear hobj0 hwl
  intro k hk
  have hwl := ws1_len s k
  have hws : ws1 s (k + 1) = (ws1 s k).set (16 + k) (((ws1 s k).getD k 0 + sg0 ((ws1 s k).getD (k + 1) 0)) + (ws1 s k).getD (k + 9) 0 + sg1 ((ws1 s k).getD (k + 14) 0)) := rfl
  (refine sx_sound Γok _ ?_; conv => whnf)
  (repeat (first | (exact Out.same; conv => whnf) | (exact Out1.same; conv => whnf) | (refine QAnd.mk ?_ ?_; conv => whnf) | (apply QStepH.go; conv => whnf) | (refine Both.lit_true ?_; conv => whnf) | (refine Both.lit_false ?_; conv => whnf) | (apply QStep.go; conv => whnf) | (refine Need.mk ?_ ?_; (focus (first | omega | exact ⟨by omega, by omega⟩ | rfl | exact ⟨rfl, rfl⟩ | exact ⟨rfl, by omega, by omega⟩ | exact ⟨by omega, by omega, by omega⟩ | exact ⟨rfl, Nat.le_of_ble_eq_true rfl⟩ | exact Nat.le_of_ble_eq_true rfl | (refine ⟨rfl, rfl, ?_⟩; simp [isFar, ofV0, CV.up, SV.renL, SV.ren] <;> fail) | (refine ⟨rfl, Nat.le_of_ble_eq_true rfl, ?_⟩; simp [isFar, ofV0, CV.up, SV.renL, SV.ren] <;> fail) | (simp only [List.length_append, List.length_drop, List.length_take, List.length_replicate, List.length_map]; omega) | (simp <;> fail))); conv => whnf) | (refine ⟨_, rfl, ?_⟩; conv => whnf)))
  refine Both.dec (fun hlt => ?_) (fun hge => ?_)
  · have hk48 : k < 48 := by omega
    have hwr : IntKind.i64.wrap (((16 + k : Nat) : Int) + 1) = ((16 + (k + 1) : Nat) : Int) := by rw [wrap_i64 (by omega) (by omega)]; omega
    have i15 : IntKind.i64.wrap (((16 + k : Nat) : Int) - 15) = ((k + 1 : Nat) : Int) := by rw [wrap_i64 (by omega) (by omega)]; omega
    have i2 : IntKind.i64.wrap (((16 + k : Nat) : Int) - 2) = ((k + 14 : Nat) : Int) := by rw [wrap_i64 (by omega) (by omega)]; omega
    have i7 : IntKind.i64.wrap (((16 + k : Nat) : Int) - 7) = ((k + 9 : Nat) : Int) := by rw [wrap_i64 (by omega) (by omega)]; omega
    have i16 : IntKind.i64.wrap (((16 + k : Nat) : Int) - 16) = ((k : Nat) : Int) := by rw [wrap_i64 (by omega) (by omega)]; omega
    have g15 : (ks (ws1 s k))[(IntKind.i64.wrap (((16 + k : Nat) : Int) - 15)).toNat]? = some (CV.int .u32 (u32 ((ws1 s k).getD (k + 1) 0))) := by rw [i15]; exact ks_at (by omega)
    have g2 : (ks (ws1 s k))[(IntKind.i64.wrap (((16 + k : Nat) : Int) - 2)).toNat]? = some (CV.int .u32 (u32 ((ws1 s k).getD (k + 14) 0))) := by rw [i2]; exact ks_at (by omega)
    have g7 : (ks (ws1 s k))[(IntKind.i64.wrap (((16 + k : Nat) : Int) - 7)).toNat]? = some (CV.int .u32 (u32 ((ws1 s k).getD (k + 9) 0))) := by rw [i7]; exact ks_at (by omega)
    have g16 : (ks (ws1 s k))[(IntKind.i64.wrap (((16 + k : Nat) : Int) - 16)).toNat]? = some (CV.int .u32 (u32 ((ws1 s k).getD k 0))) := by rw [i16]; exact ks_at (by omega)
    have n15 : ti44.size = ti44.size ∧ 0 ≤ IntKind.i64.wrap (((16 + k : Nat) : Int) - 15) ∧ IntKind.i64.wrap (((16 + k : Nat) : Int) - 15) < ((64 : Nat) : Int) := ⟨rfl, by rw [i15]; omega, by rw [i15]; omega⟩
    have n2 : ti44.size = ti44.size ∧ 0 ≤ IntKind.i64.wrap (((16 + k : Nat) : Int) - 2) ∧ IntKind.i64.wrap (((16 + k : Nat) : Int) - 2) < ((64 : Nat) : Int) := ⟨rfl, by rw [i2]; omega, by rw [i2]; omega⟩
    have n7 : ti44.size = ti44.size ∧ 0 ≤ IntKind.i64.wrap (((16 + k : Nat) : Int) - 7) ∧ IntKind.i64.wrap (((16 + k : Nat) : Int) - 7) < ((64 : Nat) : Int) := ⟨rfl, by rw [i7]; omega, by rw [i7]; omega⟩
    have n16 : ti44.size = ti44.size ∧ 0 ≤ IntKind.i64.wrap (((16 + k : Nat) : Int) - 16) ∧ IntKind.i64.wrap (((16 + k : Nat) : Int) - 16) < ((64 : Nat) : Int) := ⟨rfl, by rw [i16]; omega, by rw [i16]; omega⟩
    have hst : ti44.size = 1 ∧ (((16 + k : Nat) : Int)).toNat < (ks (ws1 s k)).length := ⟨rfl, by rw [ks_len, hwl, Int.toNat_natCast]; omega⟩
    have hobj : ∀ (x y p q : W32), ws1 s (k + 1) = (ws1 s k).set (16 + k) ((p + sg0 x) + q + sg1 y) → LObj.own 44 1 64 ((ks (ws1 s k)).set (((16 + k : Nat) : Int)).toNat (CV.int .u32 (IntKind.u32.wrap (IntKind.u32.wrap (IntKind.u32.wrap (bitXor .u32 (bitXor .u32 (u32 (rotr y 17)) (u32 (rotr y 19))) (shrI .u32 (u32 y) 10) + u32 q) + bitXor .u32 (bitXor .u32 (u32 (rotr x 7)) (u32 (rotr x 18))) (shrI .u32 (u32 x) 3)) + u32 p)))) true = LObj.own 44 1 64 (ks (ws1 s (k + 1))) true := by
      intro x y p q hq
      rw [rw1_go, ks_set, hq, Int.toNat_natCast]
    revert g15 g2 g7 g16 hst hws hobj
    generalize hnx : ws1 s (k + 1) = nx
    generalize (ws1 s k).getD (k + 1) 0 = x
    generalize (ws1 s k).getD (k + 14) 0 = y
    generalize (ws1 s k).getD k 0 = p
    generalize (ws1 s k).getD (k + 9) 0 = q
    generalize ws1 s k = ws at hwl ⊢
    intro hws g15 g2 g7 g16 hst hobj
    (conv => whnf)
    (refine DrawVC.any Γok (by kernel_rfl) (by kernel_rfl) (by kernel_rfl) (by rfl) ?_; conv => whnf)
    (repeat (first | (refine Need.mk n15 ?_; conv => whnf) | (refine ⟨_, g15, ?_⟩; conv => whnf) | (refine CallVC.pure right_k (.int .u32 (u32 (rotr _ 7))) (fun Q h => ⟨_, 7, rfl, rfl, ⟨by decide, by decide⟩, h⟩) rfl (fun g => rfl) ?_; conv => whnf) | (refine CallVC.pure right_k (.int .u32 (u32 (rotr _ 18))) (fun Q h => ⟨_, 18, rfl, rfl, ⟨by decide, by decide⟩, h⟩) rfl (fun g => rfl) ?_; conv => whnf) | (exact Out.same; conv => whnf) | (exact Out1.same; conv => whnf) | (refine QAnd.mk ?_ ?_; conv => whnf) | (apply QStepH.go; conv => whnf) | (refine Both.lit_true ?_; conv => whnf) | (refine Both.lit_false ?_; conv => whnf) | (apply QStep.go; conv => whnf) | (refine Need.mk ?_ ?_; (focus (first | omega | exact ⟨by omega, by omega⟩ | rfl | exact ⟨rfl, rfl⟩ | exact ⟨rfl, by omega, by omega⟩ | exact ⟨by omega, by omega, by omega⟩ | exact ⟨rfl, Nat.le_of_ble_eq_true rfl⟩ | exact Nat.le_of_ble_eq_true rfl | (refine ⟨rfl, rfl, ?_⟩; simp [isFar, ofV0, CV.up, SV.renL, SV.ren] <;> fail) | (refine ⟨rfl, Nat.le_of_ble_eq_true rfl, ?_⟩; simp [isFar, ofV0, CV.up, SV.renL, SV.ren] <;> fail) | (simp only [List.length_append, List.length_drop, List.length_take, List.length_replicate, List.length_map]; omega) | (simp <;> fail))); conv => whnf) | (refine ⟨_, rfl, ?_⟩; conv => whnf)))
    (refine DrawVC.any Γok (by kernel_rfl) (by kernel_rfl) (by kernel_rfl) (by rfl) ?_; conv => whnf)
    (repeat (first | (refine Need.mk n2 ?_; conv => whnf) | (refine ⟨_, g2, ?_⟩; conv => whnf) | (refine CallVC.pure right_k (.int .u32 (u32 (rotr _ 17))) (fun Q h => ⟨_, 17, rfl, rfl, ⟨by decide, by decide⟩, h⟩) rfl (fun g => rfl) ?_; conv => whnf) | (refine CallVC.pure right_k (.int .u32 (u32 (rotr _ 19))) (fun Q h => ⟨_, 19, rfl, rfl, ⟨by decide, by decide⟩, h⟩) rfl (fun g => rfl) ?_; conv => whnf) | (exact Out.same; conv => whnf) | (exact Out1.same; conv => whnf) | (refine QAnd.mk ?_ ?_; conv => whnf) | (apply QStepH.go; conv => whnf) | (refine Both.lit_true ?_; conv => whnf) | (refine Both.lit_false ?_; conv => whnf) | (apply QStep.go; conv => whnf) | (refine Need.mk ?_ ?_; (focus (first | omega | exact ⟨by omega, by omega⟩ | rfl | exact ⟨rfl, rfl⟩ | exact ⟨rfl, by omega, by omega⟩ | exact ⟨by omega, by omega, by omega⟩ | exact ⟨rfl, Nat.le_of_ble_eq_true rfl⟩ | exact Nat.le_of_ble_eq_true rfl | (refine ⟨rfl, rfl, ?_⟩; simp [isFar, ofV0, CV.up, SV.renL, SV.ren] <;> fail) | (refine ⟨rfl, Nat.le_of_ble_eq_true rfl, ?_⟩; simp [isFar, ofV0, CV.up, SV.renL, SV.ren] <;> fail) | (simp only [List.length_append, List.length_drop, List.length_take, List.length_replicate, List.length_map]; omega) | (simp <;> fail))); conv => whnf) | (refine ⟨_, rfl, ?_⟩; conv => whnf)))
    (refine DrawVC.any Γok (by kernel_rfl) (by kernel_rfl) (by kernel_rfl) (by rfl) ?_; conv => whnf)
    (repeat (first | (refine Need.mk n7 ?_; conv => whnf) | (refine ⟨_, g7, ?_⟩; conv => whnf) | (refine Need.mk n16 ?_; conv => whnf) | (refine ⟨_, g16, ?_⟩; conv => whnf) | (refine Need.mk hst ?_; conv => whnf) | (exact Out.same; conv => whnf) | (exact Out1.same; conv => whnf) | (refine QAnd.mk ?_ ?_; conv => whnf) | (apply QStepH.go; conv => whnf) | (refine Both.lit_true ?_; conv => whnf) | (refine Both.lit_false ?_; conv => whnf) | (apply QStep.go; conv => whnf) | (refine Need.mk ?_ ?_; (focus (first | omega | exact ⟨by omega, by omega⟩ | rfl | exact ⟨rfl, rfl⟩ | exact ⟨rfl, by omega, by omega⟩ | exact ⟨by omega, by omega, by omega⟩ | exact ⟨rfl, Nat.le_of_ble_eq_true rfl⟩ | exact Nat.le_of_ble_eq_true rfl | (refine ⟨rfl, rfl, ?_⟩; simp [isFar, ofV0, CV.up, SV.renL, SV.ren] <;> fail) | (refine ⟨rfl, Nat.le_of_ble_eq_true rfl, ?_⟩; simp [isFar, ofV0, CV.up, SV.renL, SV.ren] <;> fail) | (simp only [List.length_append, List.length_drop, List.length_take, List.length_replicate, List.length_map]; omega) | (simp <;> fail))); conv => whnf) | (refine ⟨_, rfl, ?_⟩; conv => whnf)))
    refine ⟨k + 1, by omega, by omega, Weak.auto ?_⟩
    have ho := hobj x y p q hws
    rw [← hnx] at ho
    (repeat' ((conv => whnf); first | exact True.intro | (refine And.intro ?_ ?_)))
    all_goals first | rfl | exact .eq rfl | exact congrArg (SV.int .i64) hwr | exact ho
  have hk48 : k = 48 := by omega
  subst hk48
  clear hws
  revert h hro hwl
  generalize ws1 s 48 = ws
  intro h hro hwl
  have hro := hro ws
  obtain ⟨a, b, c, d, e, g, h0, h1⟩ := v
  have hx0 : (⟨a, b, c, d, e, g, h0, h1⟩ : St).rounds ws 0 = ⟨a, b, c, d, e, g, h0, h1⟩ := rfl
  revert h hro hx0
  generalize hv : (⟨a, b, c, d, e, g, h0, h1⟩ : St) = v
  intro h hro hx0
  have hvw : v.ws = [a, b, c, d, e, g, h0, h1] := by rw [← hv]; rfl
  rw [hvw]
  (conv => whnf)
  (repeat (first | (exact Out.same; conv => whnf) | (exact Out1.same; conv => whnf) | (refine QAnd.mk ?_ ?_; conv => whnf) | (apply QStepH.go; conv => whnf) | (refine Both.lit_true ?_; conv => whnf) | (refine Both.lit_false ?_; conv => whnf) | (apply QStep.go; conv => whnf) | (refine Need.mk ?_ ?_; (focus (first | omega | exact ⟨by omega, by omega⟩ | rfl | exact ⟨rfl, rfl⟩ | exact ⟨rfl, by omega, by omega⟩ | exact ⟨by omega, by omega, by omega⟩ | exact ⟨rfl, Nat.le_of_ble_eq_true rfl⟩ | exact Nat.le_of_ble_eq_true rfl | (refine ⟨rfl, rfl, ?_⟩; simp [isFar, ofV0, CV.up, SV.renL, SV.ren] <;> fail) | (refine ⟨rfl, Nat.le_of_ble_eq_true rfl, ?_⟩; simp [isFar, ofV0, CV.up, SV.renL, SV.ren] <;> fail) | (simp only [List.length_append, List.length_drop, List.length_take, List.length_replicate, List.length_map]; omega) | (simp <;> fail))); conv => whnf) | (refine ⟨_, rfl, ?_⟩; conv => whnf)))
  refine loop_rule (fun x : Nat × W32 × W32 × W32 × W32 × W32 × W32 × W32 × W32 => match x with | (t, a', b', c', d', e', f1, g', h') => ⟨[.any, .sl 1 64 (ks K) f, .sl 1 8 (ks [a, b, c, d, e, g, h0, h1]) f', .any, .any, .any, .any, .own 0, .any, .any, .any, .any, .sl 1 8 (ks [a', b', c', d', e', f1, g', h']) (!(Nat.beq t 0)), .int .i64 (t : Int), .any, .any, .any, .any, .any, .any, .any, .any, .any, .any, .any, .any, .any, .any, .any, .any, .any, .any, .any, .any, .any, .any, .any, .any, .any, .any, .any, .any, .any, .any, .any, .any, .any, .any, .any, .any, .any, .any, .any, .any, .any, .any, .any, .any, .any, .any, .any, .any, .any, .any, .any, .any, .any, .any, .any, .any, .any, .any, .any, .any, .any, .any, .any, .any, .any, .any, .any, .any, .any, .any, .any, .any, .any, .any, .any, .any, .any, .any, .any, .any, .any, .any, .any, .any, .any, .any, .any, .any, .any, .any, .any, .any, .any, .any, .any, .any, .any, .any, .any, .any, .any, .any, .any, .any, .any, .any, .any, .any, .any, .any, .any, .any, .any, .any, .any, .any, .any, .any, .any, .any, .any, .any, .any, .any, .any, .any, .any, .any, .any, .any, .any, .any, .any, .any, .any, .any, .any, .any, .any, .any, .any, .any, .any, .any, .any, .any, .any, .any, .any, .any, .any, .any, .any, .any, .any, .any, .any, .any, .any, .any, .any, .any, .any, .any, .any, .any, .any, .any, .any, .any, .any, .any, .any, .any, .any, .any, .any, .any, .any, .any, .any, .any, .any, .any, .any, .any, .any, .any, .any, .any, .any, .any, .any, .any, .any, .any, .any, .any, .any, .any, .any, .any, .any, .any, .any, .any, .any, .any, .any, .any, .any, .any, .any, .any, .any, .any, .any], [.own 44 1 64 (ks ws) true]⟩) (fun x => x.1 ≤ 64 ∧ v.rounds ws x.1 = ⟨x.2.1, x.2.2.1, x.2.2.2.1, x.2.2.2.2.1, x.2.2.2.2.2.1, x.2.2.2.2.2.2.1, x.2.2.2.2.2.2.2.1, x.2.2.2.2.2.2.2.2⟩) (fun x => 64 - x.1) (0, a, b, c, d, e, g, h0, h1) ⟨Nat.zero_le _, by rw [hx0, ← hv]⟩ ((Weak.pubT 2 rfl).trans (Weak.auto ?_)) ?_
  · (repeat' ((conv => whnf); first | exact True.intro | (refine And.intro ?_ ?_)))
    all_goals first | rfl | exact .eq rfl
  rintro ⟨t, a', b', c', d', e', f1, g', h'⟩ ⟨ht, hq⟩
  dsimp only at ht hq
  (refine sx_sound Γok _ ?_; conv => whnf)
  (repeat (first | (exact Out.same; conv => whnf) | (exact Out1.same; conv => whnf) | (refine QAnd.mk ?_ ?_; conv => whnf) | (apply QStepH.go; conv => whnf) | (refine Both.lit_true ?_; conv => whnf) | (refine Both.lit_false ?_; conv => whnf) | (apply QStep.go; conv => whnf) | (refine Need.mk ?_ ?_; (focus (first | omega | exact ⟨by omega, by omega⟩ | rfl | exact ⟨rfl, rfl⟩ | exact ⟨rfl, by omega, by omega⟩ | exact ⟨by omega, by omega, by omega⟩ | exact ⟨rfl, Nat.le_of_ble_eq_true rfl⟩ | exact Nat.le_of_ble_eq_true rfl | (refine ⟨rfl, rfl, ?_⟩; simp [isFar, ofV0, CV.up, SV.renL, SV.ren] <;> fail) | (refine ⟨rfl, Nat.le_of_ble_eq_true rfl, ?_⟩; simp [isFar, ofV0, CV.up, SV.renL, SV.ren] <;> fail) | (simp only [List.length_append, List.length_drop, List.length_take, List.length_replicate, List.length_map]; omega) | (simp <;> fail))); conv => whnf) | (refine ⟨_, rfl, ?_⟩; conv => whnf)))
  refine Both.dec (fun hlt => ?_) (fun hge => ?_)
  · have ht64 : t < 64 := by omega
    have hwr : IntKind.i64.wrap ((t : Int) + 1) = ((t + 1 : Nat) : Int) := by rw [wrap_i64 (by omega) (by omega)]; rfl
    have hk := ks_at (l := K) (k := t) (by omega)
    have hw := ks_at (l := ws) (k := t) (by omega)
    have hq1 : v.rounds ws (t + 1) = (⟨a', b', c', d', e', f1, g', h'⟩ : St).round (K.getD t 0) (ws.getD t 0) := by rw [hro t, hq]
    clear hq hro
    revert hk hw hq1
    generalize K.getD t 0 = kk
    generalize ws.getD t 0 = ww
    intro hk hw hq1
    have c1 := t2_go a' b' c'
    have c0 : IntKind.u32.wrap (IntKind.u32.wrap (IntKind.u32.wrap (IntKind.u32.wrap (u32 h' + bitXor .u32 (bitXor .u32 (u32 (rotr e' 6)) (u32 (rotr e' 11))) (u32 (rotr e' 25))) + bitXor .u32 (bitAnd .u32 (u32 e') (u32 f1)) (bitAnd .u32 (IntKind.u32.wrap (4294967295 - u32 e')) (u32 g'))) + u32 kk) + u32 ww) = u32 ((((h' + ((rotr e' 6 ^^^ rotr e' 11) ^^^ rotr e' 25)) + ((e' &&& f1) ^^^ (~~~e' &&& g'))) + kk) + ww) := by
      rw [not_go]
      simp only [xor_u32, and_u32, not_u32, add_u32]
    obtain ⟨T1, hT1⟩ : ∃ T1, (((h' + ((rotr e' 6 ^^^ rotr e' 11) ^^^ rotr e' 25)) + ((e' &&& f1) ^^^ (~~~e' &&& g'))) + kk) + ww = T1 := ⟨_, rfl⟩
    obtain ⟨T2, hT2⟩ : ∃ T2, ((rotr a' 2 ^^^ rotr a' 13) ^^^ rotr a' 22) + (((a' &&& b') ^^^ (a' &&& c')) ^^^ (b' &&& c')) = T2 := ⟨_, rfl⟩
    rw [hT1] at c0
    rw [hT2] at c1
    (conv => whnf)
    (refine DrawVC.any Γok (by kernel_rfl) (by kernel_rfl) (by kernel_rfl) (by rfl) ?_; conv => whnf)
    (repeat (first | (exact Out.same; conv => whnf) | (exact Out1.same; conv => whnf) | (refine QAnd.mk ?_ ?_; conv => whnf) | (apply QStepH.go; conv => whnf) | (refine Both.lit_true ?_; conv => whnf) | (refine Both.lit_false ?_; conv => whnf) | (apply QStep.go; conv => whnf) | (refine Need.mk ?_ ?_; (focus (first | omega | exact ⟨by omega, by omega⟩ | rfl | exact ⟨rfl, rfl⟩ | exact ⟨rfl, by omega, by omega⟩ | exact ⟨by omega, by omega, by omega⟩ | exact ⟨rfl, Nat.le_of_ble_eq_true rfl⟩ | exact Nat.le_of_ble_eq_true rfl | (refine ⟨rfl, rfl, ?_⟩; simp [isFar, ofV0, CV.up, SV.renL, SV.ren] <;> fail) | (refine ⟨rfl, Nat.le_of_ble_eq_true rfl, ?_⟩; simp [isFar, ofV0, CV.up, SV.renL, SV.ren] <;> fail) | (simp only [List.length_append, List.length_drop, List.length_take, List.length_replicate, List.length_map]; omega) | (simp <;> fail))); conv => whnf) | (refine ⟨_, rfl, ?_⟩; conv => whnf)))
    (refine DrawVC.any Γok (by kernel_rfl) (by kernel_rfl) (by kernel_rfl) (by rfl) ?_; conv => whnf)
    (repeat (first | (refine ⟨_, hk, ?_⟩; conv => whnf) | (refine ⟨_, hw, ?_⟩; conv => whnf) | (refine CallVC.pure right_k (.int .u32 (u32 (rotr _ 6))) (fun Q h => ⟨_, 6, rfl, rfl, ⟨by decide, by decide⟩, h⟩) rfl (fun g => rfl) ?_; conv => whnf) | (refine CallVC.pure right_k (.int .u32 (u32 (rotr _ 11))) (fun Q h => ⟨_, 11, rfl, rfl, ⟨by decide, by decide⟩, h⟩) rfl (fun g => rfl) ?_; conv => whnf) | (refine CallVC.pure right_k (.int .u32 (u32 (rotr _ 25))) (fun Q h => ⟨_, 25, rfl, rfl, ⟨by decide, by decide⟩, h⟩) rfl (fun g => rfl) ?_; conv => whnf) | (exact Out.same; conv => whnf) | (exact Out1.same; conv => whnf) | (refine QAnd.mk ?_ ?_; conv => whnf) | (apply QStepH.go; conv => whnf) | (refine Both.lit_true ?_; conv => whnf) | (refine Both.lit_false ?_; conv => whnf) | (apply QStep.go; conv => whnf) | (refine Need.mk ?_ ?_; (focus (first | omega | exact ⟨by omega, by omega⟩ | rfl | exact ⟨rfl, rfl⟩ | exact ⟨rfl, by omega, by omega⟩ | exact ⟨by omega, by omega, by omega⟩ | exact ⟨rfl, Nat.le_of_ble_eq_true rfl⟩ | exact Nat.le_of_ble_eq_true rfl | (refine ⟨rfl, rfl, ?_⟩; simp [isFar, ofV0, CV.up, SV.renL, SV.ren] <;> fail) | (refine ⟨rfl, Nat.le_of_ble_eq_true rfl, ?_⟩; simp [isFar, ofV0, CV.up, SV.renL, SV.ren] <;> fail) | (simp only [List.length_append, List.length_drop, List.length_take, List.length_replicate, List.length_map]; omega) | (simp <;> fail))); conv => whnf) | (refine ⟨_, rfl, ?_⟩; conv => whnf)))
    (repeat (first | (refine CallVC.pure right_k (.int .u32 (u32 (rotr _ 2))) (fun Q h => ⟨_, 2, rfl, rfl, ⟨by decide, by decide⟩, h⟩) rfl (fun g => rfl) ?_; conv => whnf) | (refine CallVC.pure right_k (.int .u32 (u32 (rotr _ 13))) (fun Q h => ⟨_, 13, rfl, rfl, ⟨by decide, by decide⟩, h⟩) rfl (fun g => rfl) ?_; conv => whnf) | (refine CallVC.pure right_k (.int .u32 (u32 (rotr _ 22))) (fun Q h => ⟨_, 22, rfl, rfl, ⟨by decide, by decide⟩, h⟩) rfl (fun g => rfl) ?_; conv => whnf) | (exact Out.same; conv => whnf) | (exact Out1.same; conv => whnf) | (refine QAnd.mk ?_ ?_; conv => whnf) | (apply QStepH.go; conv => whnf) | (refine Both.lit_true ?_; conv => whnf) | (refine Both.lit_false ?_; conv => whnf) | (apply QStep.go; conv => whnf) | (refine Need.mk ?_ ?_; (focus (first | omega | exact ⟨by omega, by omega⟩ | rfl | exact ⟨rfl, rfl⟩ | exact ⟨rfl, by omega, by omega⟩ | exact ⟨by omega, by omega, by omega⟩ | exact ⟨rfl, Nat.le_of_ble_eq_true rfl⟩ | exact Nat.le_of_ble_eq_true rfl | (refine ⟨rfl, rfl, ?_⟩; simp [isFar, ofV0, CV.up, SV.renL, SV.ren] <;> fail) | (refine ⟨rfl, Nat.le_of_ble_eq_true rfl, ?_⟩; simp [isFar, ofV0, CV.up, SV.renL, SV.ren] <;> fail) | (simp only [List.length_append, List.length_drop, List.length_take, List.length_replicate, List.length_map]; omega) | (simp <;> fail))); conv => whnf) | (refine ⟨_, rfl, ?_⟩; conv => whnf)))
    rw [c0, c1]
    (conv => whnf)
    (repeat (first | (exact Out.same; conv => whnf) | (exact Out1.same; conv => whnf) | (refine QAnd.mk ?_ ?_; conv => whnf) | (apply QStepH.go; conv => whnf) | (refine Both.lit_true ?_; conv => whnf) | (refine Both.lit_false ?_; conv => whnf) | (apply QStep.go; conv => whnf) | (refine Need.mk ?_ ?_; (focus (first | omega | exact ⟨by omega, by omega⟩ | rfl | exact ⟨rfl, rfl⟩ | exact ⟨rfl, by omega, by omega⟩ | exact ⟨by omega, by omega, by omega⟩ | exact ⟨rfl, Nat.le_of_ble_eq_true rfl⟩ | exact Nat.le_of_ble_eq_true rfl | (refine ⟨rfl, rfl, ?_⟩; simp [isFar, ofV0, CV.up, SV.renL, SV.ren] <;> fail) | (refine ⟨rfl, Nat.le_of_ble_eq_true rfl, ?_⟩; simp [isFar, ofV0, CV.up, SV.renL, SV.ren] <;> fail) | (simp only [List.length_append, List.length_drop, List.length_take, List.length_replicate, List.length_map]; omega) | (simp <;> fail))); conv => whnf) | (refine ⟨_, rfl, ?_⟩; conv => whnf)))
    have hsl : SV.sl 1 8 [CV.int .u32 (IntKind.u32.wrap (u32 T1 + u32 T2)), .int .u32 (u32 a'), .int .u32 (u32 b'), .int .u32 (u32 c'), .int .u32 (IntKind.u32.wrap (u32 d' + u32 T1)), .int .u32 (u32 e'), .int .u32 (u32 f1), .int .u32 (u32 g')] true = SV.sl 1 8 (ks [T1 + T2, a', b', c', d' + T1, e', f1, g']) (!(Nat.beq (t + 1) 0)) := by
      rw [add_u32, add_u32]
      rfl
    have hq2 : v.rounds ws (t + 1) = ⟨T1 + T2, a', b', c', d' + T1, e', f1, g'⟩ := by
      rw [hq1, ← hT1, ← hT2]
      rfl
    refine ⟨(t + 1, T1 + T2, a', b', c', d' + T1, e', f1, g'), ⟨by show t + 1 ≤ 64; omega, hq2⟩, by show 64 - (t + 1) < 64 - t; omega, Weak.auto ?_⟩
    (repeat' ((conv => whnf); first | exact True.intro | (refine And.intro ?_ ?_)))
    all_goals first | rfl | exact .eq rfl | exact congrArg (SV.int .i64) hwr | exact hsl
  have ht64 : t = 64 := by omega
  subst ht64
  rw [hq] at h
  clear hq hro
  generalize hx : (⟨a', b', c', d', e', f1, g', h'⟩ : St) = x at h
  have hxw : [a', b', c', d', e', f1, g', h'] = x.ws := by rw [← hx]; rfl
  rw [← hvw, hxw]
  have hvl : v.ws.length = 8 := rfl
  have hxl : x.ws.length = 8 := rfl
  have hml : (v.plus x).ws.length = 8 := rfl
  have hsum : ∀ i, i < 8 → IntKind.u32.wrap (u32 (v.ws.getD i 0) + u32 (x.ws.getD i 0)) = u32 ((v.plus x).ws.getD i 0) := fun i hi => by rw [add_u32, plus_ws v x i hi]
  clear hx hxw hvw hv hx0
  revert h hsum hml hxl hvl
  generalize (v.plus x).ws = m
  generalize x.ws = xs
  generalize v.ws = vs
  intro h hvl hxl hml hsum
  (conv => whnf)
  (repeat (first | (exact Out.same; conv => whnf) | (exact Out1.same; conv => whnf) | (refine QAnd.mk ?_ ?_; conv => whnf) | (apply QStepH.go; conv => whnf) | (refine Both.lit_true ?_; conv => whnf) | (refine Both.lit_false ?_; conv => whnf) | (apply QStep.go; conv => whnf) | (refine Need.mk ?_ ?_; (focus (first | omega | exact ⟨by omega, by omega⟩ | rfl | exact ⟨rfl, rfl⟩ | exact ⟨rfl, by omega, by omega⟩ | exact ⟨by omega, by omega, by omega⟩ | exact ⟨rfl, Nat.le_of_ble_eq_true rfl⟩ | exact Nat.le_of_ble_eq_true rfl | (refine ⟨rfl, rfl, ?_⟩; simp [isFar, ofV0, CV.up, SV.renL, SV.ren] <;> fail) | (refine ⟨rfl, Nat.le_of_ble_eq_true rfl, ?_⟩; simp [isFar, ofV0, CV.up, SV.renL, SV.ren] <;> fail) | (simp only [List.length_append, List.length_drop, List.length_take, List.length_replicate, List.length_map]; omega) | (simp <;> fail))); conv => whnf) | (refine ⟨_, rfl, ?_⟩; conv => whnf)))
  refine loop_rule (fun i : Nat => ⟨[.any, .any, .sl 1 8 (ks vs) f', .any, .any, .any, .any, .any, .any, .any, .any, .any, .sl 1 8 (ks xs) (!(Nat.beq 64 0)), .any, .any, .any, .any, .any, .any, .any, .any, .any, .own 0, .int .i64 (i : Int), .any, .any, .any, .any, .any, .any, .any, .any, .any, .any, .any, .any, .any, .any, .any, .any, .any, .any, .any, .any, .any, .any, .any, .any, .any, .any, .any, .any, .any, .any, .any, .any, .any, .any, .any, .any, .any, .any, .any, .any, .any, .any, .any, .any, .any, .any, .any, .any, .any, .any, .any, .any, .any, .any, .any, .any, .any, .any, .any, .any, .any, .any, .any, .any, .any, .any, .any, .any, .any, .any, .any, .any, .any, .any, .any, .any, .any, .any, .any, .any, .any, .any, .any, .any, .any, .any, .any, .any, .any, .any, .any, .any, .any, .any, .any, .any, .any, .any, .any, .any, .any, .any, .any, .any, .any, .any, .any, .any, .any, .any, .any, .any, .any, .any, .any, .any, .any, .any, .any, .any, .any, .any, .any, .any, .any, .any, .any, .any, .any, .any, .any, .any, .any, .any, .any, .any, .any, .any, .any, .any, .any, .any, .any, .any, .any, .any, .any, .any, .any, .any, .any, .any, .any, .any, .any, .any, .any, .any, .any, .any, .any, .any, .any, .any, .any, .any, .any, .any, .any, .any, .any, .any, .any, .any, .any, .any, .any, .any, .any, .any, .any, .any, .any, .any, .any, .any, .any, .any, .any, .any, .any, .any, .any, .any, .any, .any, .any, .any, .any, .any, .any, .any, .any, .any, .any, .any, .any], [.own 44 1 i (ks (m.take i)) true]⟩) (fun i => i ≤ 8) (fun i => 8 - i) 0 (Nat.zero_le _) ((Weak.ownNilT 22 44 1 rfl).trans (Weak.auto ?_)) ?_
  · (repeat' ((conv => whnf); first | exact True.intro | (refine And.intro ?_ ?_)))
    all_goals first | rfl | exact .eq rfl
  intro i hi
  (refine sx_sound Γok _ ?_; conv => whnf)
  (repeat (first | (exact Out.same; conv => whnf) | (exact Out1.same; conv => whnf) | (refine QAnd.mk ?_ ?_; conv => whnf) | (apply QStepH.go; conv => whnf) | (refine Both.lit_true ?_; conv => whnf) | (refine Both.lit_false ?_; conv => whnf) | (apply QStep.go; conv => whnf) | (refine Need.mk ?_ ?_; (focus (first | omega | exact ⟨by omega, by omega⟩ | rfl | exact ⟨rfl, rfl⟩ | exact ⟨rfl, by omega, by omega⟩ | exact ⟨by omega, by omega, by omega⟩ | exact ⟨rfl, Nat.le_of_ble_eq_true rfl⟩ | exact Nat.le_of_ble_eq_true rfl | (refine ⟨rfl, rfl, ?_⟩; simp [isFar, ofV0, CV.up, SV.renL, SV.ren] <;> fail) | (refine ⟨rfl, Nat.le_of_ble_eq_true rfl, ?_⟩; simp [isFar, ofV0, CV.up, SV.renL, SV.ren] <;> fail) | (simp only [List.length_append, List.length_drop, List.length_take, List.length_replicate, List.length_map]; omega) | (simp <;> fail))); conv => whnf) | (refine ⟨_, rfl, ?_⟩; conv => whnf)))
  refine Both.dec (fun hlt => ?_) (fun hge => ?_)
  · have hi8 : i < 8 := by omega
    have hwr : IntKind.i64.wrap ((i : Int) + 1) = ((i + 1 : Nat) : Int) := by rw [wrap_i64 (by omega) (by omega)]; rfl
    have hv1 := ks_at (l := vs) (k := i) (by omega)
    have hx1 := ks_at (l := xs) (k := i) (by omega)
    have hs1 := hsum i hi8
    have htk := take_one m 0 (k := i) (by omega)
    have hobj : LObj.own 44 1 (i + 1) (ks (m.take i) ++ [CV.int .u32 (IntKind.u32.wrap (u32 (vs.getD i 0) + u32 (xs.getD i 0)))]) true = LObj.own 44 1 (i + 1) (ks (m.take (i + 1))) true := by
      rw [hs1, htk, ← ks_app]
      rfl
    have hap : (i + 1) * ti44.bytes ≤ 140737488355328 := by
      have : ti44.bytes = 4 := rfl
      rw [this]
      omega
    clear htk hsum hs1
    (conv => whnf)
    (refine DrawVC.any Γok (by kernel_rfl) (by kernel_rfl) (by kernel_rfl) (by rfl) ?_; conv => whnf)
    (repeat (first | (refine ⟨_, hv1, ?_⟩; conv => whnf) | (refine ⟨_, hx1, ?_⟩; conv => whnf) | (refine Need.mk hap ?_; conv => whnf) | (exact Out.same; conv => whnf) | (exact Out1.same; conv => whnf) | (refine QAnd.mk ?_ ?_; conv => whnf) | (apply QStepH.go; conv => whnf) | (refine Both.lit_true ?_; conv => whnf) | (refine Both.lit_false ?_; conv => whnf) | (apply QStep.go; conv => whnf) | (refine Need.mk ?_ ?_; (focus (first | omega | exact ⟨by omega, by omega⟩ | rfl | exact ⟨rfl, rfl⟩ | exact ⟨rfl, by omega, by omega⟩ | exact ⟨by omega, by omega, by omega⟩ | exact ⟨rfl, Nat.le_of_ble_eq_true rfl⟩ | exact Nat.le_of_ble_eq_true rfl | (refine ⟨rfl, rfl, ?_⟩; simp [isFar, ofV0, CV.up, SV.renL, SV.ren] <;> fail) | (refine ⟨rfl, Nat.le_of_ble_eq_true rfl, ?_⟩; simp [isFar, ofV0, CV.up, SV.renL, SV.ren] <;> fail) | (simp only [List.length_append, List.length_drop, List.length_take, List.length_replicate, List.length_map]; omega) | (simp <;> fail))); conv => whnf) | (refine ⟨_, rfl, ?_⟩; conv => whnf)))
    refine ⟨i + 1, by omega, by omega, Weak.auto ?_⟩
    (repeat' ((conv => whnf); first | exact True.intro | (refine And.intro ?_ ?_)))
    all_goals first | exact hobj | rfl | exact .eq rfl | exact congrArg (SV.int .i64) hwr
  have hie : i = 8 := by omega
  subst hie
  rw [List.take_of_length_le (by omega)]
  (conv => whnf)
  (repeat (first | (exact Out.same; conv => whnf) | (exact Out1.same; conv => whnf) | (refine QAnd.mk ?_ ?_; conv => whnf) | (apply QStepH.go; conv => whnf) | (refine Both.lit_true ?_; conv => whnf) | (refine Both.lit_false ?_; conv => whnf) | (apply QStep.go; conv => whnf) | (refine Need.mk ?_ ?_; (focus (first | omega | exact ⟨by omega, by omega⟩ | rfl | exact ⟨rfl, rfl⟩ | exact ⟨rfl, by omega, by omega⟩ | exact ⟨by omega, by omega, by omega⟩ | exact ⟨rfl, Nat.le_of_ble_eq_true rfl⟩ | exact Nat.le_of_ble_eq_true rfl | (refine ⟨rfl, rfl, ?_⟩; simp [isFar, ofV0, CV.up, SV.renL, SV.ren] <;> fail) | (refine ⟨rfl, Nat.le_of_ble_eq_true rfl, ?_⟩; simp [isFar, ofV0, CV.up, SV.renL, SV.ren] <;> fail) | (simp only [List.length_append, List.length_drop, List.length_take, List.length_replicate, List.length_map]; omega) | (simp <;> fail))); conv => whnf) | (refine ⟨_, rfl, ?_⟩; conv => whnf)))
  refine ⟨_, _, WeakV.auto ?_, h⟩
  (repeat' ((conv => whnf); first | exact True.intro | (refine And.intro ?_ ?_)))
  all_goals first | rfl | exact .eq rfl
theorem rblk_k : Contract Tryd.prog [] 21 rblkS := ⟨⟨⟨_, rfl, rfl, rfl⟩⟩, rblk_c⟩
end Go.LX
