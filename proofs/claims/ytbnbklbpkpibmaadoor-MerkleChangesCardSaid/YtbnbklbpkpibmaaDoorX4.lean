/- Own texts of this claim, in build order: Sw, Sx, Sy, Bm, WireW, WireR, WireX, WireN, Mm, WireB, Ma, Mb, Mc, Mn, Md, Me, Mf, Mg, Mh, Mi, Mj, Lo, Mo, Mk, Ml, Mp. -/
import Derived.Test.YtbnbklbpkpibmaaDoorX3
section
set_option maxRecDepth 100000
set_option maxHeartbeats 2000000
set_option autoImplicit false
set_option linter.unusedVariables false
set_option linter.unusedSimpArgs false
namespace Go.LX
open Go.Proofs

def rblkS : Spec := fun args H Q => match args, H with
  | [.str b, .sl 1 n cs f, .sl 1 8 cs' f'], [] => ∃ (v : St), n = 64 ∧ b.length = 64 ∧ cs = ks kT ∧ cs' = ks v.ws ∧ Q (.own 0) [.own 75 1 8 (ks (v.mix b).ws) true]
  | _, _ => False
theorem plus_ws (v x : St) (i : Nat) (h : i < 8) : v.ws.getD i 0 + x.ws.getD i 0 = (v.plus x).ws.getD i 0 := by
  match i, h with
  | 0, _ => rfl
  | 1, _ => rfl
  | 2, _ => rfl
  | 3, _ => rfl
  | 4, _ => rfl
  | 5, _ => rfl
  | 6, _ => rfl
  | 7, _ => rfl
theorem rblk_c : Meets Tryd.prog [] 56 rblkS := by
  refine meets_of Γok Tryd.func56 rfl ?_
  intro args H Q h
  unfold rblkS at h
  split at h
  case h_2 => exact h.elim
  rename_i s n cs f cs' f'
  obtain ⟨v, rfl, hs, rfl, rfl, h⟩ := h
  have hkl : kT.length = 64 := rfl
  have hvl : v.ws.length = 8 := rfl
  have hkt : ∀ t, kT.getD t 0 = kT.getD t 0 := fun _ => rfl
  unfold St.mix words at h
  have hro : ∀ (ws : List W32) (t : Nat), v.rounds ws (t + 1) = (v.rounds ws t).round (kT.getD t 0) (ws.getD t 0) := fun _ _ => rfl
  revert hkl hkt hro
  generalize kT = K
  intro hkl hkt hro
  have hmk : (64 : Int) = 64 ∧ (0 : Int) ≤ 64 ∧ (ti75.bytes : Int) * 64 ≤ 140737488355328 ∧ (64 : Int) ≤ 140737488355328 := by decide
  have hobj0 : LObj.own 75 ti75.size (64 : Int).toNat (zerosOf ti75.size (64 : Int).toNat [CV.int .u32 0]) true = LObj.own 75 1 64 (ks (ws0 s 0)) true := by
    rw [show ti75.size = 1 from rfl, zer_ks]
    rfl
  (refine sx_sound Γok _ ?_; conv => whnf)
  (repeat (first | (refine Need.mk hmk ?_; conv => whnf) | (exact Out.same; conv => whnf) | (exact Out1.same; conv => whnf) | (refine QAnd.mk ?_ ?_; conv => whnf) | (apply QStepH.go; conv => whnf) | (refine Both.lit_true ?_; conv => whnf) | (refine Both.lit_false ?_; conv => whnf) | (apply QStep.go; conv => whnf) | (refine Need.au ?_; conv => whnf) | (refine ⟨_, rfl, ?_⟩; conv => whnf)))
  refine loop_rule (fun t : Nat => ⟨[.str s, .sl 1 64 (ks K) f, .sl 1 8 (ks v.ws) f', .any, .any, .any, .any, .own 0, .int .i64 (t : Int), .any, .any, .any, .any, .any, .any, .any, .any, .any, .any, .any, .any, .any, .any, .any, .any, .any, .any, .any, .any, .any, .any, .any, .any, .any, .any, .any, .any, .any, .any, .any, .any, .any, .any, .any, .any, .any, .any, .any, .any, .any, .any, .any, .any, .any, .any, .any, .any, .any, .any, .any, .any, .any, .any, .any, .any, .any, .any, .any, .any, .any, .any, .any, .any, .any, .any, .any, .any, .any, .any, .any, .any, .any, .any, .any, .any, .any, .any, .any, .any, .any, .any, .any, .any, .any, .any, .any, .any, .any, .any, .any, .any, .any, .any, .any, .any, .any, .any, .any, .any, .any, .any, .any, .any, .any, .any, .any, .any, .any, .any, .any, .any, .any, .any, .any, .any, .any, .any, .any, .any, .any, .any, .any, .any, .any, .any, .any, .any, .any, .any, .any, .any, .any, .any, .any, .any, .any, .any, .any, .any, .any, .any, .any, .any, .any, .any, .any, .any, .any, .any, .any, .any, .any, .any, .any, .any, .any, .any, .any, .any, .any, .any, .any, .any, .any, .any, .any, .any, .any, .any, .any, .any, .any, .any, .any, .any, .any, .any, .any, .any, .any, .any, .any, .any, .any, .any, .any, .any, .any, .any, .any, .any, .any, .any, .any, .any, .any, .any, .any, .any, .any, .any, .any, .any, .any, .any, .any, .any, .any, .any, .any, .any, .any, .any, .any, .any, .any, .any, .any, .any, .any, .any], [.own 75 1 64 (ks (ws0 s t)) true]⟩) (fun t => t ≤ 16) (fun t => 16 - t) 0 (Nat.zero_le _) (Weak.auto ?_) ?_
  · (repeat' ((conv => whnf); first | exact True.intro | (refine And.intro ?_ ?_)))
    all_goals first | exact hobj0 | rfl | exact .eq rfl
  clear hobj0 hmk
  intro t ht
  have hwl := ws0_len s t
  (refine sx_sound Γok _ ?_; conv => whnf)
  (repeat (first | (exact Out.same; conv => whnf) | (exact Out1.same; conv => whnf) | (refine QAnd.mk ?_ ?_; conv => whnf) | (apply QStepH.go; conv => whnf) | (refine Both.lit_true ?_; conv => whnf) | (refine Both.lit_false ?_; conv => whnf) | (apply QStep.go; conv => whnf) | (refine Need.au ?_; conv => whnf) | (refine ⟨_, rfl, ?_⟩; conv => whnf)))
  refine Both.dec (fun hlt => ?_) (fun hge => ?_)
  · have ht16 : t < 16 := by omega
    have h4 : IntKind.i64.wrap (4 * (t : Int)) = ((4 * t : Nat) : Int) := by rw [wrap_i64 (by omega) (by omega)]; omega
    have h41 : IntKind.i64.wrap (IntKind.i64.wrap (4 * (t : Int)) + 1) = ((4 * t + 1 : Nat) : Int) := by rw [h4, wrap_i64 (by omega) (by omega)]; omega
    have h42 : IntKind.i64.wrap (IntKind.i64.wrap (4 * (t : Int)) + 2) = ((4 * t + 2 : Nat) : Int) := by rw [h4, wrap_i64 (by omega) (by omega)]; omega
    have h43 : IntKind.i64.wrap (IntKind.i64.wrap (4 * (t : Int)) + 3) = ((4 * t + 3 : Nat) : Int) := by rw [h4, wrap_i64 (by omega) (by omega)]; omega
    have i0 : 0 ≤ IntKind.i64.wrap (4 * (t : Int)) ∧ IntKind.i64.wrap (4 * (t : Int)) < ((s.length : Nat) : Int) := by rw [h4]; omega
    have i1 : 0 ≤ IntKind.i64.wrap (IntKind.i64.wrap (4 * (t : Int)) + 1) ∧ IntKind.i64.wrap (IntKind.i64.wrap (4 * (t : Int)) + 1) < ((s.length : Nat) : Int) := by rw [h41]; omega
    have i2 : 0 ≤ IntKind.i64.wrap (IntKind.i64.wrap (4 * (t : Int)) + 2) ∧ IntKind.i64.wrap (IntKind.i64.wrap (4 * (t : Int)) + 2) < ((s.length : Nat) : Int) := by rw [h42]; omega
    have i3 : 0 ≤ IntKind.i64.wrap (IntKind.i64.wrap (4 * (t : Int)) + 3) ∧ IntKind.i64.wrap (IntKind.i64.wrap (4 * (t : Int)) + 3) < ((s.length : Nat) : Int) := by rw [h43]; omega
    have hwr : IntKind.i64.wrap ((t : Int) + 1) = ((t + 1 : Nat) : Int) := by rw [wrap_i64 (by omega) (by omega)]; rfl
    have hst : ti75.size = 1 ∧ ((t : Int)).toNat < (ks (ws0 s t)).length := ⟨rfl, by rw [ks_len, hwl, Int.toNat_natCast]; omega⟩
    have hwd := word_go (s := s) (t := t) (by omega)
    (conv => whnf)
    (refine DrawVC.any Γok (by kernel_rfl) (by kernel_rfl) (by kernel_rfl) (by rfl) ?_; conv => whnf)
    (repeat (first | (refine Need.mk i0 ?_; conv => whnf) | (refine Need.mk i1 ?_; conv => whnf) | (refine Need.mk i2 ?_; conv => whnf) | (refine Need.mk i3 ?_; conv => whnf) | (refine Need.mk hst ?_; conv => whnf) | (exact Out.same; conv => whnf) | (exact Out1.same; conv => whnf) | (refine QAnd.mk ?_ ?_; conv => whnf) | (apply QStepH.go; conv => whnf) | (refine Both.lit_true ?_; conv => whnf) | (refine Both.lit_false ?_; conv => whnf) | (apply QStep.go; conv => whnf) | (refine Need.au ?_; conv => whnf) | (refine ⟨_, rfl, ?_⟩; conv => whnf)))
    have hobj : ∀ j0 j1 j2 j3 : Int, j0 = ((4 * t : Nat) : Int) → j1 = ((4 * t + 1 : Nat) : Int) → j2 = ((4 * t + 2 : Nat) : Int) → j3 = ((4 * t + 3 : Nat) : Int) → LObj.own 75 1 64 ((ks (ws0 s t)).set ((t : Int)).toNat (CV.int .u32 (IntKind.u32.wrap (IntKind.u32.wrap (IntKind.u32.wrap (IntKind.u32.wrap (IntKind.u32.wrap ((s.getD j0.toNat 0).toNat : Int) * 16777216) + IntKind.u32.wrap (IntKind.u32.wrap ((s.getD j1.toNat 0).toNat : Int) * 65536)) + IntKind.u32.wrap (IntKind.u32.wrap ((s.getD j2.toNat 0).toNat : Int) * 256)) + IntKind.u32.wrap ((s.getD j3.toNat 0).toNat : Int))))) true = LObj.own 75 1 64 (ks (ws0 s (t + 1))) true := by
      rintro j0 j1 j2 j3 rfl rfl rfl rfl
      simp only [Int.toNat_natCast]
      rw [hwd, ks_set]
      rfl
    refine ⟨t + 1, by omega, by omega, Weak.auto ?_⟩
    (repeat' ((conv => whnf); first | exact True.intro | (refine And.intro ?_ ?_)))
    all_goals first | rfl | exact .eq rfl | exact congrArg (SV.int .i64) hwr | exact hobj _ _ _ _ h4 h41 h42 h43
  have ht16 : t = 16 := by omega
  subst ht16
  have hobj0 : LObj.own 75 1 64 (ks (ws0 s 16)) true = LObj.own 75 1 64 (ks (ws1 s 0)) true := rfl
  (conv => whnf)
  (repeat (first | (exact Out.same; conv => whnf) | (exact Out1.same; conv => whnf) | (refine QAnd.mk ?_ ?_; conv => whnf) | (apply QStepH.go; conv => whnf) | (refine Both.lit_true ?_; conv => whnf) | (refine Both.lit_false ?_; conv => whnf) | (apply QStep.go; conv => whnf) | (refine Need.au ?_; conv => whnf) | (refine ⟨_, rfl, ?_⟩; conv => whnf)))
  refine loop_rule (fun k : Nat => ⟨[.str s, .sl 1 64 (ks K) f, .sl 1 8 (ks v.ws) f', .any, .any, .any, .any, .own 0, .any, .int .i64 ((16 + k : Nat) : Int), .any, .any, .any, .any, .any, .any, .any, .any, .any, .any, .any, .any, .any, .any, .any, .any, .any, .any, .any, .any, .any, .any, .any, .any, .any, .any, .any, .any, .any, .any, .any, .any, .any, .any, .any, .any, .any, .any, .any, .any, .any, .any, .any, .any, .any, .any, .any, .any, .any, .any, .any, .any, .any, .any, .any, .any, .any, .any, .any, .any, .any, .any, .any, .any, .any, .any, .any, .any, .any, .any, .any, .any, .any, .any, .any, .any, .any, .any, .any, .any, .any, .any, .any, .any, .any, .any, .any, .any, .any, .any, .any, .any, .any, .any, .any, .any, .any, .any, .any, .any, .any, .any, .any, .any, .any, .any, .any, .any, .any, .any, .any, .any, .any, .any, .any, .any, .any, .any, .any, .any, .any, .any, .any, .any, .any, .any, .any, .any, .any, .any, .any, .any, .any, .any, .any, .any, .any, .any, .any, .any, .any, .any, .any, .any, .any, .any, .any, .any, .any, .any, .any, .any, .any, .any, .any, .any, .any, .any, .any, .any, .any, .any, .any, .any, .any, .any, .any, .any, .any, .any, .any, .any, .any, .any, .any, .any, .any, .any, .any, .any, .any, .any, .any, .any, .any, .any, .any, .any, .any, .any, .any, .any, .any, .any, .any, .any, .any, .any, .any, .any, .any, .any, .any, .any, .any, .any, .any, .any, .any, .any, .any, .any, .any, .any, .any, .any, .any, .any, .any, .any, .any], [.own 75 1 64 (ks (ws1 s k)) true]⟩) (fun k => k ≤ 48) (fun k => 48 - k) 0 (Nat.zero_le _) (Weak.auto ?_) ?_
  · (repeat' ((conv => whnf); first | exact True.intro | (refine And.intro ?_ ?_)))
    all_goals first | exact hobj0 | rfl | exact .eq rfl
  clear hobj0 hwl
  intro k hk
  have hwl := ws1_len s k
  have hws : ws1 s (k + 1) = (ws1 s k).set (16 + k) (((ws1 s k).getD k 0 + sg0 ((ws1 s k).getD (k + 1) 0)) + (ws1 s k).getD (k + 9) 0 + sg1 ((ws1 s k).getD (k + 14) 0)) := rfl
  (refine sx_sound Γok _ ?_; conv => whnf)
  (repeat (first | (exact Out.same; conv => whnf) | (exact Out1.same; conv => whnf) | (refine QAnd.mk ?_ ?_; conv => whnf) | (apply QStepH.go; conv => whnf) | (refine Both.lit_true ?_; conv => whnf) | (refine Both.lit_false ?_; conv => whnf) | (apply QStep.go; conv => whnf) | (refine Need.au ?_; conv => whnf) | (refine ⟨_, rfl, ?_⟩; conv => whnf)))
  refine Both.dec (fun hlt => ?_) (fun hge => ?_)
  · have hk48 : k < 48 := by omega
    have hwr : IntKind.i64.wrap (((16 + k : Nat) : Int) + 1) = ((16 + (k + 1) : Nat) : Int) := by rw [wrap_i64 (by omega) (by omega)]; omega
    have i15 : IntKind.i64.wrap (((16 + k : Nat) : Int) - 15) = ((k + 1 : Nat) : Int) := by rw [wrap_i64 (by omega) (by omega)]; omega
    have i2 : IntKind.i64.wrap (((16 + k : Nat) : Int) - 2) = ((k + 14 : Nat) : Int) := by rw [wrap_i64 (by omega) (by omega)]; omega
    have i7 : IntKind.i64.wrap (((16 + k : Nat) : Int) - 7) = ((k + 9 : Nat) : Int) := by rw [wrap_i64 (by omega) (by omega)]; omega
    have i16 : IntKind.i64.wrap (((16 + k : Nat) : Int) - 16) = ((k : Nat) : Int) := by rw [wrap_i64 (by omega) (by omega)]; omega
    have g15 : (ks (ws1 s k))[(IntKind.i64.wrap (((16 + k : Nat) : Int) - 15)).toNat]? = some (CV.int .u32 (u32 ((ws1 s k).getD (k + 1) 0))) := by rw [i15]; exact ks_at (by omega)
    have g2 : (ks (ws1 s k))[(IntKind.i64.wrap (((16 + k : Nat) : Int) - 2)).toNat]? = some (CV.int .u32 (u32 ((ws1 s k).getD (k + 14) 0))) := by rw [i2]; exact ks_at (by omega)
    have g7 : (ks (ws1 s k))[(IntKind.i64.wrap (((16 + k : Nat) : Int) - 7)).toNat]? = some (CV.int .u32 (u32 ((ws1 s k).getD (k + 9) 0))) := by rw [i7]; exact ks_at (by omega)
    have g16 : (ks (ws1 s k))[(IntKind.i64.wrap (((16 + k : Nat) : Int) - 16)).toNat]? = some (CV.int .u32 (u32 ((ws1 s k).getD k 0))) := by rw [i16]; exact ks_at (by omega)
    have n15 : ti75.size = ti75.size ∧ 0 ≤ IntKind.i64.wrap (((16 + k : Nat) : Int) - 15) ∧ IntKind.i64.wrap (((16 + k : Nat) : Int) - 15) < ((64 : Nat) : Int) := ⟨rfl, by rw [i15]; omega, by rw [i15]; omega⟩
    have n2 : ti75.size = ti75.size ∧ 0 ≤ IntKind.i64.wrap (((16 + k : Nat) : Int) - 2) ∧ IntKind.i64.wrap (((16 + k : Nat) : Int) - 2) < ((64 : Nat) : Int) := ⟨rfl, by rw [i2]; omega, by rw [i2]; omega⟩
    have n7 : ti75.size = ti75.size ∧ 0 ≤ IntKind.i64.wrap (((16 + k : Nat) : Int) - 7) ∧ IntKind.i64.wrap (((16 + k : Nat) : Int) - 7) < ((64 : Nat) : Int) := ⟨rfl, by rw [i7]; omega, by rw [i7]; omega⟩
    have n16 : ti75.size = ti75.size ∧ 0 ≤ IntKind.i64.wrap (((16 + k : Nat) : Int) - 16) ∧ IntKind.i64.wrap (((16 + k : Nat) : Int) - 16) < ((64 : Nat) : Int) := ⟨rfl, by rw [i16]; omega, by rw [i16]; omega⟩
    have hst : ti75.size = 1 ∧ (((16 + k : Nat) : Int)).toNat < (ks (ws1 s k)).length := ⟨rfl, by rw [ks_len, hwl, Int.toNat_natCast]; omega⟩
    have hobj : ∀ (x y p q : W32), ws1 s (k + 1) = (ws1 s k).set (16 + k) ((p + sg0 x) + q + sg1 y) → LObj.own 75 1 64 ((ks (ws1 s k)).set (((16 + k : Nat) : Int)).toNat (CV.int .u32 (IntKind.u32.wrap (IntKind.u32.wrap (IntKind.u32.wrap (bitXor .u32 (bitXor .u32 (u32 (rotr y 17)) (u32 (rotr y 19))) (shrI .u32 (u32 y) 10) + u32 q) + bitXor .u32 (bitXor .u32 (u32 (rotr x 7)) (u32 (rotr x 18))) (shrI .u32 (u32 x) 3)) + u32 p)))) true = LObj.own 75 1 64 (ks (ws1 s (k + 1))) true := by
      intro x y p q hq
      rw [rw1_go, ks_set, hq, Int.toNat_natCast]
    revert g15 g2 g7 g16 hst hws hobj
    generalize hnx : ws1 s (k + 1) = nx
    generalize (ws1 s k).getD (k + 1) 0 = x
    generalize (ws1 s k).getD (k + 14) 0 = y
    generalize (ws1 s k).getD k 0 = p
    generalize (ws1 s k).getD (k + 9) 0 = q
    generalize ws1 s k = ws at hwl ⊢
    intro hws g15 g2 g7 g16 hst hobj
    (conv => whnf)
    (refine DrawVC.any Γok (by kernel_rfl) (by kernel_rfl) (by kernel_rfl) (by rfl) ?_; conv => whnf)
    (repeat (first | (refine Need.mk n15 ?_; conv => whnf) | (refine ⟨_, g15, ?_⟩; conv => whnf) | (refine CallVC.pure dRight_k (.int .u32 (u32 (rotr _ 7))) (fun Q h => ⟨_, 7, rfl, rfl, ⟨by decide, by decide⟩, h⟩) rfl (fun g => rfl) ?_; conv => whnf) | (refine CallVC.pure dRight_k (.int .u32 (u32 (rotr _ 18))) (fun Q h => ⟨_, 18, rfl, rfl, ⟨by decide, by decide⟩, h⟩) rfl (fun g => rfl) ?_; conv => whnf) | (exact Out.same; conv => whnf) | (exact Out1.same; conv => whnf) | (refine QAnd.mk ?_ ?_; conv => whnf) | (apply QStepH.go; conv => whnf) | (refine Both.lit_true ?_; conv => whnf) | (refine Both.lit_false ?_; conv => whnf) | (apply QStep.go; conv => whnf) | (refine Need.au ?_; conv => whnf) | (refine ⟨_, rfl, ?_⟩; conv => whnf)))
    (refine DrawVC.any Γok (by kernel_rfl) (by kernel_rfl) (by kernel_rfl) (by rfl) ?_; conv => whnf)
    (repeat (first | (refine Need.mk n2 ?_; conv => whnf) | (refine ⟨_, g2, ?_⟩; conv => whnf) | (refine CallVC.pure dRight_k (.int .u32 (u32 (rotr _ 17))) (fun Q h => ⟨_, 17, rfl, rfl, ⟨by decide, by decide⟩, h⟩) rfl (fun g => rfl) ?_; conv => whnf) | (refine CallVC.pure dRight_k (.int .u32 (u32 (rotr _ 19))) (fun Q h => ⟨_, 19, rfl, rfl, ⟨by decide, by decide⟩, h⟩) rfl (fun g => rfl) ?_; conv => whnf) | (exact Out.same; conv => whnf) | (exact Out1.same; conv => whnf) | (refine QAnd.mk ?_ ?_; conv => whnf) | (apply QStepH.go; conv => whnf) | (refine Both.lit_true ?_; conv => whnf) | (refine Both.lit_false ?_; conv => whnf) | (apply QStep.go; conv => whnf) | (refine Need.au ?_; conv => whnf) | (refine ⟨_, rfl, ?_⟩; conv => whnf)))
    (refine DrawVC.any Γok (by kernel_rfl) (by kernel_rfl) (by kernel_rfl) (by rfl) ?_; conv => whnf)
    (repeat (first | (refine Need.mk n7 ?_; conv => whnf) | (refine ⟨_, g7, ?_⟩; conv => whnf) | (refine Need.mk n16 ?_; conv => whnf) | (refine ⟨_, g16, ?_⟩; conv => whnf) | (refine Need.mk hst ?_; conv => whnf) | (exact Out.same; conv => whnf) | (exact Out1.same; conv => whnf) | (refine QAnd.mk ?_ ?_; conv => whnf) | (apply QStepH.go; conv => whnf) | (refine Both.lit_true ?_; conv => whnf) | (refine Both.lit_false ?_; conv => whnf) | (apply QStep.go; conv => whnf) | (refine Need.au ?_; conv => whnf) | (refine ⟨_, rfl, ?_⟩; conv => whnf)))
    refine ⟨k + 1, by omega, by omega, Weak.auto ?_⟩
    have ho := hobj x y p q hws
    rw [← hnx] at ho
    (repeat' ((conv => whnf); first | exact True.intro | (refine And.intro ?_ ?_)))
    all_goals first | rfl | exact .eq rfl | exact congrArg (SV.int .i64) hwr | exact ho
  have hk48 : k = 48 := by omega
  subst hk48
  clear hws
  revert h hro hwl
  generalize ws1 s 48 = ws
  intro h hro hwl
  have hro := hro ws
  obtain ⟨a, b, c, d, e, g, h0, h1⟩ := v
  have hx0 : (⟨a, b, c, d, e, g, h0, h1⟩ : St).rounds ws 0 = ⟨a, b, c, d, e, g, h0, h1⟩ := rfl
  revert h hro hx0
  generalize hv : (⟨a, b, c, d, e, g, h0, h1⟩ : St) = v
  intro h hro hx0
  have hvw : v.ws = [a, b, c, d, e, g, h0, h1] := by rw [← hv]; rfl
  rw [hvw]
  (conv => whnf)
  (repeat (first | (exact Out.same; conv => whnf) | (exact Out1.same; conv => whnf) | (refine QAnd.mk ?_ ?_; conv => whnf) | (apply QStepH.go; conv => whnf) | (refine Both.lit_true ?_; conv => whnf) | (refine Both.lit_false ?_; conv => whnf) | (apply QStep.go; conv => whnf) | (refine Need.au ?_; conv => whnf) | (refine ⟨_, rfl, ?_⟩; conv => whnf)))
  refine loop_rule (fun x : Nat × W32 × W32 × W32 × W32 × W32 × W32 × W32 × W32 => match x with | (t, a', b', c', d', e', f1, g', h') => ⟨[.any, .sl 1 64 (ks K) f, .sl 1 8 (ks [a, b, c, d, e, g, h0, h1]) f', .any, .any, .any, .any, .own 0, .any, .any, .any, .any, .sl 1 8 (ks [a', b', c', d', e', f1, g', h']) (!(Nat.beq t 0)), .int .i64 (t : Int), .any, .any, .any, .any, .any, .any, .any, .any, .any, .any, .any, .any, .any, .any, .any, .any, .any, .any, .any, .any, .any, .any, .any, .any, .any, .any, .any, .any, .any, .any, .any, .any, .any, .any, .any, .any, .any, .any, .any, .any, .any, .any, .any, .any, .any, .any, .any, .any, .any, .any, .any, .any, .any, .any, .any, .any, .any, .any, .any, .any, .any, .any, .any, .any, .any, .any, .any, .any, .any, .any, .any, .any, .any, .any, .any, .any, .any, .any, .any, .any, .any, .any, .any, .any, .any, .any, .any, .any, .any, .any, .any, .any, .any, .any, .any, .any, .any, .any, .any, .any, .any, .any, .any, .any, .any, .any, .any, .any, .any, .any, .any, .any, .any, .any, .any, .any, .any, .any, .any, .any, .any, .any, .any, .any, .any, .any, .any, .any, .any, .any, .any, .any, .any, .any, .any, .any, .any, .any, .any, .any, .any, .any, .any, .any, .any, .any, .any, .any, .any, .any, .any, .any, .any, .any, .any, .any, .any, .any, .any, .any, .any, .any, .any, .any, .any, .any, .any, .any, .any, .any, .any, .any, .any, .any, .any, .any, .any, .any, .any, .any, .any, .any, .any, .any, .any, .any, .any, .any, .any, .any, .any, .any, .any, .any, .any, .any, .any, .any, .any, .any, .any, .any, .any, .any, .any, .any, .any, .any, .any, .any, .any, .any, .any, .any, .any, .any, .any], [.own 75 1 64 (ks ws) true]⟩) (fun x => x.1 ≤ 64 ∧ v.rounds ws x.1 = ⟨x.2.1, x.2.2.1, x.2.2.2.1, x.2.2.2.2.1, x.2.2.2.2.2.1, x.2.2.2.2.2.2.1, x.2.2.2.2.2.2.2.1, x.2.2.2.2.2.2.2.2⟩) (fun x => 64 - x.1) (0, a, b, c, d, e, g, h0, h1) ⟨Nat.zero_le _, by rw [hx0, ← hv]⟩ ((Weak.pubT 2 rfl).trans (Weak.auto ?_)) ?_
  · (repeat' ((conv => whnf); first | exact True.intro | (refine And.intro ?_ ?_)))
    all_goals first | rfl | exact .eq rfl
  rintro ⟨t, a', b', c', d', e', f1, g', h'⟩ ⟨ht, hq⟩
  dsimp only at ht hq
  (refine sx_sound Γok _ ?_; conv => whnf)
  (repeat (first | (exact Out.same; conv => whnf) | (exact Out1.same; conv => whnf) | (refine QAnd.mk ?_ ?_; conv => whnf) | (apply QStepH.go; conv => whnf) | (refine Both.lit_true ?_; conv => whnf) | (refine Both.lit_false ?_; conv => whnf) | (apply QStep.go; conv => whnf) | (refine Need.au ?_; conv => whnf) | (refine ⟨_, rfl, ?_⟩; conv => whnf)))
  refine Both.dec (fun hlt => ?_) (fun hge => ?_)
  · have ht64 : t < 64 := by omega
    have hwr : IntKind.i64.wrap ((t : Int) + 1) = ((t + 1 : Nat) : Int) := by rw [wrap_i64 (by omega) (by omega)]; rfl
    have hk := ks_at (l := K) (k := t) (by omega)
    have hw := ks_at (l := ws) (k := t) (by omega)
    have hq1 : v.rounds ws (t + 1) = (⟨a', b', c', d', e', f1, g', h'⟩ : St).round (K.getD t 0) (ws.getD t 0) := by rw [hro t, hq]
    clear hq hro
    revert hk hw hq1
    generalize K.getD t 0 = kk
    generalize ws.getD t 0 = ww
    intro hk hw hq1
    have c1 := t2_go a' b' c'
    have c0 : IntKind.u32.wrap (IntKind.u32.wrap (IntKind.u32.wrap (IntKind.u32.wrap (u32 h' + bitXor .u32 (bitXor .u32 (u32 (rotr e' 6)) (u32 (rotr e' 11))) (u32 (rotr e' 25))) + bitXor .u32 (bitAnd .u32 (u32 e') (u32 f1)) (bitAnd .u32 (IntKind.u32.wrap (4294967295 - u32 e')) (u32 g'))) + u32 kk) + u32 ww) = u32 ((((h' + ((rotr e' 6 ^^^ rotr e' 11) ^^^ rotr e' 25)) + ((e' &&& f1) ^^^ (~~~e' &&& g'))) + kk) + ww) := by
      rw [not_go]
      simp only [xor_u32, and_u32, not_u32, add_u32]
    obtain ⟨T1, hT1⟩ : ∃ T1, (((h' + ((rotr e' 6 ^^^ rotr e' 11) ^^^ rotr e' 25)) + ((e' &&& f1) ^^^ (~~~e' &&& g'))) + kk) + ww = T1 := ⟨_, rfl⟩
    obtain ⟨T2, hT2⟩ : ∃ T2, ((rotr a' 2 ^^^ rotr a' 13) ^^^ rotr a' 22) + (((a' &&& b') ^^^ (a' &&& c')) ^^^ (b' &&& c')) = T2 := ⟨_, rfl⟩
    rw [hT1] at c0
    rw [hT2] at c1
    (conv => whnf)
    (refine DrawVC.any Γok (by kernel_rfl) (by kernel_rfl) (by kernel_rfl) (by rfl) ?_; conv => whnf)
    (repeat (first | (exact Out.same; conv => whnf) | (exact Out1.same; conv => whnf) | (refine QAnd.mk ?_ ?_; conv => whnf) | (apply QStepH.go; conv => whnf) | (refine Both.lit_true ?_; conv => whnf) | (refine Both.lit_false ?_; conv => whnf) | (apply QStep.go; conv => whnf) | (refine Need.au ?_; conv => whnf) | (refine ⟨_, rfl, ?_⟩; conv => whnf)))
    (refine DrawVC.any Γok (by kernel_rfl) (by kernel_rfl) (by kernel_rfl) (by rfl) ?_; conv => whnf)
    (repeat (first | (refine ⟨_, hk, ?_⟩; conv => whnf) | (refine ⟨_, hw, ?_⟩; conv => whnf) | (refine CallVC.pure dRight_k (.int .u32 (u32 (rotr _ 6))) (fun Q h => ⟨_, 6, rfl, rfl, ⟨by decide, by decide⟩, h⟩) rfl (fun g => rfl) ?_; conv => whnf) | (refine CallVC.pure dRight_k (.int .u32 (u32 (rotr _ 11))) (fun Q h => ⟨_, 11, rfl, rfl, ⟨by decide, by decide⟩, h⟩) rfl (fun g => rfl) ?_; conv => whnf) | (refine CallVC.pure dRight_k (.int .u32 (u32 (rotr _ 25))) (fun Q h => ⟨_, 25, rfl, rfl, ⟨by decide, by decide⟩, h⟩) rfl (fun g => rfl) ?_; conv => whnf) | (exact Out.same; conv => whnf) | (exact Out1.same; conv => whnf) | (refine QAnd.mk ?_ ?_; conv => whnf) | (apply QStepH.go; conv => whnf) | (refine Both.lit_true ?_; conv => whnf) | (refine Both.lit_false ?_; conv => whnf) | (apply QStep.go; conv => whnf) | (refine Need.au ?_; conv => whnf) | (refine ⟨_, rfl, ?_⟩; conv => whnf)))
    (repeat (first | (refine CallVC.pure dRight_k (.int .u32 (u32 (rotr _ 2))) (fun Q h => ⟨_, 2, rfl, rfl, ⟨by decide, by decide⟩, h⟩) rfl (fun g => rfl) ?_; conv => whnf) | (refine CallVC.pure dRight_k (.int .u32 (u32 (rotr _ 13))) (fun Q h => ⟨_, 13, rfl, rfl, ⟨by decide, by decide⟩, h⟩) rfl (fun g => rfl) ?_; conv => whnf) | (refine CallVC.pure dRight_k (.int .u32 (u32 (rotr _ 22))) (fun Q h => ⟨_, 22, rfl, rfl, ⟨by decide, by decide⟩, h⟩) rfl (fun g => rfl) ?_; conv => whnf) | (exact Out.same; conv => whnf) | (exact Out1.same; conv => whnf) | (refine QAnd.mk ?_ ?_; conv => whnf) | (apply QStepH.go; conv => whnf) | (refine Both.lit_true ?_; conv => whnf) | (refine Both.lit_false ?_; conv => whnf) | (apply QStep.go; conv => whnf) | (refine Need.au ?_; conv => whnf) | (refine ⟨_, rfl, ?_⟩; conv => whnf)))
    rw [c0, c1]
    (conv => whnf)
    (repeat (first | (exact Out.same; conv => whnf) | (exact Out1.same; conv => whnf) | (refine QAnd.mk ?_ ?_; conv => whnf) | (apply QStepH.go; conv => whnf) | (refine Both.lit_true ?_; conv => whnf) | (refine Both.lit_false ?_; conv => whnf) | (apply QStep.go; conv => whnf) | (refine Need.au ?_; conv => whnf) | (refine ⟨_, rfl, ?_⟩; conv => whnf)))
    have hsl : SV.sl 1 8 [CV.int .u32 (IntKind.u32.wrap (u32 T1 + u32 T2)), .int .u32 (u32 a'), .int .u32 (u32 b'), .int .u32 (u32 c'), .int .u32 (IntKind.u32.wrap (u32 d' + u32 T1)), .int .u32 (u32 e'), .int .u32 (u32 f1), .int .u32 (u32 g')] true = SV.sl 1 8 (ks [T1 + T2, a', b', c', d' + T1, e', f1, g']) (!(Nat.beq (t + 1) 0)) := by
      rw [add_u32, add_u32]
      rfl
    have hq2 : v.rounds ws (t + 1) = ⟨T1 + T2, a', b', c', d' + T1, e', f1, g'⟩ := by
      rw [hq1, ← hT1, ← hT2]
      rfl
    refine ⟨(t + 1, T1 + T2, a', b', c', d' + T1, e', f1, g'), ⟨by show t + 1 ≤ 64; omega, hq2⟩, by show 64 - (t + 1) < 64 - t; omega, Weak.auto ?_⟩
    (repeat' ((conv => whnf); first | exact True.intro | (refine And.intro ?_ ?_)))
    all_goals first | rfl | exact .eq rfl | exact congrArg (SV.int .i64) hwr | exact hsl
  have ht64 : t = 64 := by omega
  subst ht64
  rw [hq] at h
  clear hq hro
  generalize hx : (⟨a', b', c', d', e', f1, g', h'⟩ : St) = x at h
  have hxw : [a', b', c', d', e', f1, g', h'] = x.ws := by rw [← hx]; rfl
  rw [← hvw, hxw]
  have hvl : v.ws.length = 8 := rfl
  have hxl : x.ws.length = 8 := rfl
  have hml : (v.plus x).ws.length = 8 := rfl
  have hsum : ∀ i, i < 8 → IntKind.u32.wrap (u32 (v.ws.getD i 0) + u32 (x.ws.getD i 0)) = u32 ((v.plus x).ws.getD i 0) := fun i hi => by rw [add_u32, plus_ws v x i hi]
  clear hx hxw hvw hv hx0
  revert h hsum hml hxl hvl
  generalize (v.plus x).ws = m
  generalize x.ws = xs
  generalize v.ws = vs
  intro h hvl hxl hml hsum
  (conv => whnf)
  (repeat (first | (exact Out.same; conv => whnf) | (exact Out1.same; conv => whnf) | (refine QAnd.mk ?_ ?_; conv => whnf) | (apply QStepH.go; conv => whnf) | (refine Both.lit_true ?_; conv => whnf) | (refine Both.lit_false ?_; conv => whnf) | (apply QStep.go; conv => whnf) | (refine Need.au ?_; conv => whnf) | (refine ⟨_, rfl, ?_⟩; conv => whnf)))
  refine loop_rule (fun i : Nat => ⟨[.any, .any, .sl 1 8 (ks vs) f', .any, .any, .any, .any, .any, .any, .any, .any, .any, .sl 1 8 (ks xs) (!(Nat.beq 64 0)), .any, .any, .any, .any, .any, .any, .any, .any, .any, .own 0, .int .i64 (i : Int), .any, .any, .any, .any, .any, .any, .any, .any, .any, .any, .any, .any, .any, .any, .any, .any, .any, .any, .any, .any, .any, .any, .any, .any, .any, .any, .any, .any, .any, .any, .any, .any, .any, .any, .any, .any, .any, .any, .any, .any, .any, .any, .any, .any, .any, .any, .any, .any, .any, .any, .any, .any, .any, .any, .any, .any, .any, .any, .any, .any, .any, .any, .any, .any, .any, .any, .any, .any, .any, .any, .any, .any, .any, .any, .any, .any, .any, .any, .any, .any, .any, .any, .any, .any, .any, .any, .any, .any, .any, .any, .any, .any, .any, .any, .any, .any, .any, .any, .any, .any, .any, .any, .any, .any, .any, .any, .any, .any, .any, .any, .any, .any, .any, .any, .any, .any, .any, .any, .any, .any, .any, .any, .any, .any, .any, .any, .any, .any, .any, .any, .any, .any, .any, .any, .any, .any, .any, .any, .any, .any, .any, .any, .any, .any, .any, .any, .any, .any, .any, .any, .any, .any, .any, .any, .any, .any, .any, .any, .any, .any, .any, .any, .any, .any, .any, .any, .any, .any, .any, .any, .any, .any, .any, .any, .any, .any, .any, .any, .any, .any, .any, .any, .any, .any, .any, .any, .any, .any, .any, .any, .any, .any, .any, .any, .any, .any, .any, .any, .any, .any, .any, .any, .any, .any, .any, .any, .any], [.own 75 1 i (ks (m.take i)) true]⟩) (fun i => i ≤ 8) (fun i => 8 - i) 0 (Nat.zero_le _) ((Weak.ownNilT 22 75 1 rfl).trans (Weak.auto ?_)) ?_
  · (repeat' ((conv => whnf); first | exact True.intro | (refine And.intro ?_ ?_)))
    all_goals first | rfl | exact .eq rfl
  intro i hi
  (refine sx_sound Γok _ ?_; conv => whnf)
  (repeat (first | (exact Out.same; conv => whnf) | (exact Out1.same; conv => whnf) | (refine QAnd.mk ?_ ?_; conv => whnf) | (apply QStepH.go; conv => whnf) | (refine Both.lit_true ?_; conv => whnf) | (refine Both.lit_false ?_; conv => whnf) | (apply QStep.go; conv => whnf) | (refine Need.au ?_; conv => whnf) | (refine ⟨_, rfl, ?_⟩; conv => whnf)))
  refine Both.dec (fun hlt => ?_) (fun hge => ?_)
  · have hi8 : i < 8 := by omega
    have hwr : IntKind.i64.wrap ((i : Int) + 1) = ((i + 1 : Nat) : Int) := by rw [wrap_i64 (by omega) (by omega)]; rfl
    have hv1 := ks_at (l := vs) (k := i) (by omega)
    have hx1 := ks_at (l := xs) (k := i) (by omega)
    have hs1 := hsum i hi8
    have htk := take_one m 0 (k := i) (by omega)
    have hobj : LObj.own 75 1 (i + 1) (ks (m.take i) ++ [CV.int .u32 (IntKind.u32.wrap (u32 (vs.getD i 0) + u32 (xs.getD i 0)))]) true = LObj.own 75 1 (i + 1) (ks (m.take (i + 1))) true := by
      rw [hs1, htk, ← ks_app]
      rfl
    have hap : (i + 1) * ti75.bytes ≤ 140737488355328 := by
      have : ti75.bytes = 4 := rfl
      rw [this]
      omega
    clear htk hsum hs1
    (conv => whnf)
    (refine DrawVC.any Γok (by kernel_rfl) (by kernel_rfl) (by kernel_rfl) (by rfl) ?_; conv => whnf)
    (repeat (first | (refine ⟨_, hv1, ?_⟩; conv => whnf) | (refine ⟨_, hx1, ?_⟩; conv => whnf) | (refine Need.mk hap ?_; conv => whnf) | (exact Out.same; conv => whnf) | (exact Out1.same; conv => whnf) | (refine QAnd.mk ?_ ?_; conv => whnf) | (apply QStepH.go; conv => whnf) | (refine Both.lit_true ?_; conv => whnf) | (refine Both.lit_false ?_; conv => whnf) | (apply QStep.go; conv => whnf) | (refine Need.au ?_; conv => whnf) | (refine ⟨_, rfl, ?_⟩; conv => whnf)))
    refine ⟨i + 1, by omega, by omega, Weak.auto ?_⟩
    (repeat' ((conv => whnf); first | exact True.intro | (refine And.intro ?_ ?_)))
    all_goals first | exact hobj | rfl | exact .eq rfl | exact congrArg (SV.int .i64) hwr
  have hie : i = 8 := by omega
  subst hie
  rw [List.take_of_length_le (by omega)]
  (conv => whnf)
  (repeat (first | (exact Out.same; conv => whnf) | (exact Out1.same; conv => whnf) | (refine QAnd.mk ?_ ?_; conv => whnf) | (apply QStepH.go; conv => whnf) | (refine Both.lit_true ?_; conv => whnf) | (refine Both.lit_false ?_; conv => whnf) | (apply QStep.go; conv => whnf) | (refine Need.au ?_; conv => whnf) | (refine ⟨_, rfl, ?_⟩; conv => whnf)))
  refine ⟨_, _, WeakV.auto ?_, h⟩
  (repeat' ((conv => whnf); first | exact True.intro | (refine And.intro ?_ ?_)))
  all_goals first | rfl | exact .eq rfl
theorem rblk_k : Contract Tryd.prog [] 56 rblkS := ⟨⟨⟨_, rfl, rfl, rfl⟩⟩, rblk_c⟩
end Go.LX
end
section
set_option maxRecDepth 100000
set_option maxHeartbeats 1000000
set_option autoImplicit false
set_option linter.unusedVariables false
set_option linter.unusedSimpArgs false
namespace Go.LX
open Go.Proofs

def stp (N : Nat) : Nat → List UInt8
  | 0 => List.replicate 8 0
  | j + 1 => (stp N j).set (7 - j) (UInt8.ofNat (N / 256 ^ j))
theorem stp_len (N : Nat) : ∀ j, (stp N j).length = 8
  | 0 => rfl
  | j + 1 => by rw [stp, List.length_set, stp_len N j]
theorem stp_end (N : Nat) : stp N 8 = beL N 8 := by
  simp [stp, beL, List.range_succ, List.replicate]
theorem pad_len (n : Nat) : (pad n).length = 1 + (119 - n % 64) % 64 + 8 := by
  unfold pad
  rw [List.length_append, List.length_append, List.length_replicate, beL_len]
  rfl
def padS : Spec := fun args H Q => match args, H with
  | [.str s], [] => Need (s.length < 1000000) (Q (.str (s ++ pad s.length)) [])
  | _, _ => False
theorem zer_bys (n : Nat) : zerosOf 1 n [CV.int .u8 0] = bys (List.replicate n 0) := by
  unfold zerosOf bys
  rw [List.map_replicate]
  rfl
theorem bys_back (l : List UInt8) : (bys l).map cvByte = l := by
  rw [bys, List.map_map]
  refine (List.map_congr_left (g := id) fun b _ => ?_).trans (List.map_id _)
  show UInt8.ofNat ((b.toNat : Int)).toNat = b
  rw [Int.toNat_natCast, UInt8.ofNat_toNat]
theorem pad_c : Meets Tryd.prog [] 55 padS := by
  refine meets_of Γok Tryd.func55 rfl ?_
  intro args H Q h
  unfold padS at h
  split at h
  case h_2 => exact h.elim
  rename_i s
  obtain ⟨hs, h⟩ := h
  obtain ⟨N, hN⟩ : ∃ N, s.length * 8 = N := ⟨_, rfl⟩
  obtain ⟨z, hz⟩ : ∃ z, (119 - s.length % 64) % 64 = z := ⟨_, rfl⟩
  have hNv : IntKind.u64.wrap (IntKind.u64.wrap ((s.length : Nat) : Int) * 8) = (N : Int) := by
    rw [wrap_u64 (n := ((s.length : Nat) : Int)) (by omega) (by omega), wrap_u64 (by omega) (by omega)]
    omega
  have hp : s ++ pad s.length = ((s ++ [128]) ++ List.replicate z 0) ++ beL N 8 := by
    unfold pad
    rw [hz, hN]
    simp
  rw [hp] at h
  clear hp
  have hu1 : ∀ b : UInt8, [CV.int .u8 (b.toNat : Int)].length = 1 ∧ ∀ x, x ∈ [CV.int .u8 (b.toNat : Int)] → isU8 x = true := fun b => ⟨rfl, fun x hx => by rw [List.mem_singleton.1 hx]; rfl⟩
  have e128 : List.map cvByte [CV.int .u8 128] = [128] := rfl
  have e0 : List.map cvByte [CV.int .u8 0] = [0] := rfl
  have hl1 : s.length + (List.map cvByte [CV.int .u8 128]).length ≤ 9223372036854775807 := by rw [e128]; show s.length + 1 ≤ _; omega
  (refine sx_sound Γok _ ?_; conv => whnf)
  (repeat (first | (refine Need.mk (hu1 128) ?_; conv => whnf) | (refine Need.mk hl1 ?_; conv => whnf) | (exact Out.same; conv => whnf) | (exact Out1.same; conv => whnf) | (refine QAnd.mk ?_ ?_; conv => whnf) | (apply QStepH.go; conv => whnf) | (refine Both.lit_true ?_; conv => whnf) | (refine Both.lit_false ?_; conv => whnf) | (apply QStep.go; conv => whnf) | (refine Need.au ?_; conv => whnf) | (refine ⟨_, rfl, ?_⟩; conv => whnf)))
  rw [hNv, e128]
  refine loop_rule (fun j : Nat => ⟨[.str ((s ++ [128]) ++ List.replicate j 0), .any, .any, .int .u64 (N : Int), .any, .any, .any, .any, .any, .any, .any, .any, .any, .any, .any, .any, .any, .any, .any, .any, .any, .any, .any, .any, .any, .any, .any, .any, .any, .any, .any, .any, .any, .any, .any, .any, .any, .any, .any], []⟩) (fun j => j ≤ z) (fun j => z - j) 0 (Nat.zero_le _) (Weak.auto ?_) ?_
  · have h0 : SV.str (s ++ [128]) = SV.str ((s ++ [128]) ++ List.replicate 0 0) := by rw [List.replicate_zero, List.append_nil]
    (repeat' ((conv => whnf); first | exact True.intro | (refine And.intro ?_ ?_)))
    all_goals first | exact h0 | rfl | exact .eq rfl
  intro j hj
  have hlen : ((s ++ [128]) ++ List.replicate j (0 : UInt8)).length = s.length + 1 + j := by
    rw [List.length_append, List.length_append, List.length_replicate]
    rfl
  have hnx : ((s ++ [128]) ++ List.replicate j (0 : UInt8)) ++ [0] = (s ++ [128]) ++ List.replicate (j + 1) 0 := by
    rw [List.append_assoc, ← List.replicate_succ']
  have hse : j = z → ((s ++ [128]) ++ List.replicate j (0 : UInt8)) = ((s ++ [128]) ++ List.replicate z (0 : UInt8)) := fun h => by rw [h]
  revert hlen hnx hse
  generalize hq : (s ++ [128]) ++ List.replicate j (0 : UInt8) = q
  generalize hq1 : (s ++ [128]) ++ List.replicate (j + 1) (0 : UInt8) = q1
  intro hlen hnx hse
  have hmod : ((q.length : Nat) : Int).tmod 64 = (((s.length + 1 + j) % 64 : Nat) : Int) := by rw [hlen]; rfl
  (refine sx_sound Γok _ ?_; conv => whnf)
  (repeat (first | (exact Out.same; conv => whnf) | (exact Out1.same; conv => whnf) | (refine QAnd.mk ?_ ?_; conv => whnf) | (apply QStepH.go; conv => whnf) | (refine Both.lit_true ?_; conv => whnf) | (refine Both.lit_false ?_; conv => whnf) | (apply QStep.go; conv => whnf) | (refine Need.au ?_; conv => whnf) | (refine ⟨_, rfl, ?_⟩; conv => whnf)))
  rw [hmod]
  refine Both.dec_not (fun hne => ?_) (fun heq => ?_)
  · have hjz : j < z := by
      rcases Nat.lt_or_ge j z with h1 | h1
      · exact h1
      · exfalso
        have : j = z := by omega
        subst this
        omega
    have hl2 : q.length + (List.map cvByte [CV.int .u8 0]).length ≤ 9223372036854775807 := by rw [e0, hlen]; show _ + 1 ≤ _; omega
    have hst : SV.str (q ++ List.map cvByte [CV.int .u8 0]) = SV.str ((s ++ [128]) ++ List.replicate (j + 1) 0) := by rw [e0, hnx, hq1]
    (conv => whnf)
    (repeat (first | (refine Need.mk (hu1 0) ?_; conv => whnf) | (refine Need.mk hl2 ?_; conv => whnf) | (exact Out.same; conv => whnf) | (exact Out1.same; conv => whnf) | (refine QAnd.mk ?_ ?_; conv => whnf) | (apply QStepH.go; conv => whnf) | (refine Both.lit_true ?_; conv => whnf) | (refine Both.lit_false ?_; conv => whnf) | (apply QStep.go; conv => whnf) | (refine Need.au ?_; conv => whnf) | (refine ⟨_, rfl, ?_⟩; conv => whnf)))
    refine ⟨j + 1, by omega, by omega, Weak.auto ?_⟩
    (repeat' ((conv => whnf); first | exact True.intro | (refine And.intro ?_ ?_)))
    all_goals first | exact hst | rfl | exact .eq rfl
  have hjz : j = z := by
    rcases Nat.lt_or_ge j z with h1 | h1
    · exfalso
      omega
    · omega
  rw [← hse hjz] at h
  clear hse hnx hmod hq hq1
  have hobj0 : LObj.own 5 ti5.size (8 : Int).toNat (zerosOf ti5.size (8 : Int).toNat [CV.int .u8 0]) true = LObj.own 5 1 8 (bys (stp N 0)) true := by
    rw [show ti5.size = 1 from rfl, zer_bys]
    rfl
  have hmk : (8 : Int) = 8 ∧ (0 : Int) ≤ 8 ∧ (ti5.bytes : Int) * 8 ≤ 140737488355328 ∧ (8 : Int) ≤ 140737488355328 := by decide
  (conv => whnf)
  (repeat (first | (refine Need.mk hmk ?_; conv => whnf) | (exact Out.same; conv => whnf) | (exact Out1.same; conv => whnf) | (refine QAnd.mk ?_ ?_; conv => whnf) | (apply QStepH.go; conv => whnf) | (refine Both.lit_true ?_; conv => whnf) | (refine Both.lit_false ?_; conv => whnf) | (apply QStep.go; conv => whnf) | (refine Need.au ?_; conv => whnf) | (refine ⟨_, rfl, ?_⟩; conv => whnf)))
  refine loop_rule (fun j : Nat => ⟨[.str q, .any, .any, .int .u64 ((N / 256 ^ j : Nat) : Int), .own 0, .int .i64 (7 - (j : Int)), .any, .any, .any, .any, .any, .any, .any, .any, .any, .any, .any, .any, .any, .any, .any, .any, .any, .any, .any, .any, .any, .any, .any, .any, .any, .any, .any, .any, .any, .any, .any, .any, .any], [.own 5 1 8 (bys (stp N j)) true]⟩) (fun j => j ≤ 8) (fun j => 8 - j) 0 (Nat.zero_le _) (Weak.auto ?_) ?_
  · have h0 : SV.int .u64 ((N : Nat) : Int) = SV.int .u64 ((N / 256 ^ 0 : Nat) : Int) := by rw [Nat.pow_zero, Nat.div_one]
    (repeat' ((conv => whnf); first | exact True.intro | (refine And.intro ?_ ?_)))
    all_goals first | exact hobj0 | exact h0 | rfl | exact .eq rfl
  clear hobj0 hmk
  intro k hk
  have hsl := stp_len N k
  have hsn : stp N (k + 1) = (stp N k).set (7 - k) (UInt8.ofNat (N / 256 ^ k)) := rfl
  have hdiv : N / 256 ^ (k + 1) = N / 256 ^ k / 256 := by rw [Nat.pow_succ, Nat.div_div_eq_div_mul]
  have hbd : N / 256 ^ k < 18446744073709551616 := Nat.lt_of_le_of_lt (Nat.div_le_self _ _) (by omega)
  have hend : k = 8 → stp N k = beL N 8 := fun h => by rw [h]; exact stp_end N
  revert hsn hsl hdiv hbd hend
  generalize hM : N / 256 ^ k = M
  generalize hM1 : N / 256 ^ (k + 1) = M1
  generalize hl : stp N k = l
  generalize hl' : stp N (k + 1) = l1
  intro hsl hsn hdiv hbd hend
  (refine sx_sound Γok _ ?_; conv => whnf)
  (repeat (first | (exact Out.same; conv => whnf) | (exact Out1.same; conv => whnf) | (refine QAnd.mk ?_ ?_; conv => whnf) | (apply QStepH.go; conv => whnf) | (refine Both.lit_true ?_; conv => whnf) | (refine Both.lit_false ?_; conv => whnf) | (apply QStep.go; conv => whnf) | (refine Need.au ?_; conv => whnf) | (refine ⟨_, rfl, ?_⟩; conv => whnf)))
  refine Both.dec (fun hlt => ?_) (fun hge => ?_)
  · have hk8 : k < 8 := by omega
    have hix : ((7 : Int) - (k : Int)).toNat = 7 - k := by omega
    have hby : IntKind.u8.wrap ((M : Int).tmod 256) = ((UInt8.ofNat M).toNat : Int) := by
      rw [show (M : Int).tmod 256 = ((M % 256 : Nat) : Int) from rfl, wrap_u8_mod]
      simp
    have hst : ti5.size = 1 ∧ ((7 : Int) - (k : Int)).toNat < (bys l).length := ⟨rfl, by rw [hix, bys, List.length_map, hsl]; omega⟩
    have hin : ti5.size = ti5.size ∧ 0 ≤ (7 : Int) - (k : Int) ∧ (7 : Int) - (k : Int) < ((8 : Nat) : Int) := ⟨rfl, by omega, by omega⟩
    have hobj : LObj.own 5 1 8 ((bys l).set ((7 : Int) - (k : Int)).toNat (CV.int .u8 (IntKind.u8.wrap ((M : Int).tmod 256)))) true = LObj.own 5 1 8 (bys (stp N (k + 1))) true := by
      rw [hby, hix, hl', hsn, bys, bys, List.map_set]
    have hdv : IntKind.u64.wrap ((M : Int).tdiv 256) = ((N / 256 ^ (k + 1) : Nat) : Int) := by
      rw [show (M : Int).tdiv 256 = ((M / 256 : Nat) : Int) from rfl, wrap_u64 (by omega) (by omega), hM1, hdiv]
    have hw7 : IntKind.i64.wrap (7 - (k : Int) - 1) = 7 - ((k + 1 : Nat) : Int) := by rw [wrap_i64 (by omega) (by omega)]; omega
    (conv => whnf)
    (repeat (first | (refine Need.mk hin ?_; conv => whnf) | (refine Need.mk hst ?_; conv => whnf) | (exact Out.same; conv => whnf) | (exact Out1.same; conv => whnf) | (refine QAnd.mk ?_ ?_; conv => whnf) | (apply QStepH.go; conv => whnf) | (refine Both.lit_true ?_; conv => whnf) | (refine Both.lit_false ?_; conv => whnf) | (apply QStep.go; conv => whnf) | (refine Need.au ?_; conv => whnf) | (refine ⟨_, rfl, ?_⟩; conv => whnf)))
    refine ⟨k + 1, by omega, by omega, Weak.auto ?_⟩
    (repeat' ((conv => whnf); first | exact True.intro | (refine And.intro ?_ ?_)))
    all_goals first | exact hobj | rfl | exact .eq rfl | exact congrArg (SV.int .u64) hdv | exact congrArg (SV.int .i64) hw7
  have hk8 : k = 8 := by omega
  have hlb : l = beL N 8 := hend hk8
  rw [← hlb] at h
  have hln : l.length = 8 := hsl
  have hu : (bys l).length = 8 ∧ ∀ x, x ∈ bys l → isU8 x = true := ⟨by rw [bys, List.length_map, hln], fun x hx => by
    obtain ⟨b, _, rfl⟩ := List.mem_map.1 hx
    rfl⟩
  have hbk : (bys l).map cvByte = l := bys_back l
  have hl3 : q.length + ((bys l).map cvByte).length ≤ 9223372036854775807 := by rw [hbk, hln, hlen]; omega
  (conv => whnf)
  (repeat (first | (refine Need.mk hu ?_; conv => whnf) | (refine Need.mk hl3 ?_; conv => whnf) | (exact Out.same; conv => whnf) | (exact Out1.same; conv => whnf) | (refine QAnd.mk ?_ ?_; conv => whnf) | (apply QStepH.go; conv => whnf) | (refine Both.lit_true ?_; conv => whnf) | (refine Both.lit_false ?_; conv => whnf) | (apply QStep.go; conv => whnf) | (refine Need.au ?_; conv => whnf) | (refine ⟨_, rfl, ?_⟩; conv => whnf)))
  rw [hbk]
  exact ⟨_, _, WeakV.drop rfl, h⟩
theorem rpad_k : Contract Tryd.prog [] 55 padS := ⟨⟨⟨_, rfl, rfl, rfl⟩⟩, pad_c⟩
end Go.LX
end
section
set_option maxRecDepth 100000
set_option maxHeartbeats 1000000
set_option autoImplicit false
set_option linter.unusedVariables false
set_option linter.unusedSimpArgs false
namespace Go.LX
open Go.Proofs

theorem absorb_rest : ∀ (k : Nat) (v : St) (r : List UInt8), (absorb k v r).2 = r.drop (64 * k)
  | 0, v, r => rfl
  | k + 1, v, r => by rw [absorb, absorb_rest k, List.drop_drop]; congr 1; omega
theorem absorb_next (k : Nat) (v : St) (r : List UInt8) : (absorb (k + 1) v r).1 = (absorb k v r).1.mix ((r.drop (64 * k)).take 64) := by
  rw [absorb_add k 1, absorb, absorb_rest]
  rfl
theorem scut_go (p : List UInt8) (k : Nat) : List.drop ((64 * k : Nat) : Int).toNat (List.take ((64 * k + 64 : Nat) : Int).toNat p) = (p.drop (64 * k)).take 64 := by
  rw [Int.toNat_natCast, Int.toNat_natCast, List.drop_take]
  congr 1
  omega
theorem padded (s : List UInt8) : (s ++ pad s.length).length % 64 = 0 := by
  rw [List.length_append, pad_len]
  omega
def rdigS : Spec := fun args H Q => match args, H with
  | [.ptr 0 0, .str s], [.cells [.sl 1 64 ka fa, .sl 1 8 kb fb, .mp 1, .bool cl] 35, .map kd es] => ka = ks kT ∧ kb = ks hT ∧ s.length < 900000 ∧ Q (.str (shaD s)) [.cells [.sl 1 64 ka fa, .sl 1 8 kb fb, .mp 1, .bool cl] 35, .map kd es]
  | _, _ => False
theorem rdig_c : Meets Tryd.prog [] 45 rdigS := by
  refine meets_of Γok Tryd.func45 rfl ?_
  intro args H Q h
  unfold rdigS at h
  split at h
  case h_2 => exact h.elim
  rename_i s ka fa kb fb cl kd es
  obtain ⟨rfl, rfl, hs, h⟩ := h
  rw [shaD_eq] at h
  have hpl := padded s
  have hpl2 : (s ++ pad s.length).length < 1000000 := by rw [List.length_append, pad_len]; omega
  have hput : St.init.put (s ++ pad s.length) = absorb ((s ++ pad s.length).length / 64) St.init (s ++ pad s.length) := rfl
  rw [hput] at h
  revert h hpl hpl2
  generalize hp : s ++ pad s.length = p
  intro h hpl hpl2
  clear hput
  generalize hK : kT = K at h ⊢
  have h0 : ks hT = ks (absorb 0 St.init p).1.ws := rfl
  generalize hH : ks hT = cH at h h0 ⊢
  (refine sx_sound Γok _ ?_; conv => whnf)
  (repeat (first | (refine CallVC.auto rpad_k (Need.mk (by omega) ?_); conv => whnf) | (exact Out.same; conv => whnf) | (exact Out1.same; conv => whnf) | (refine QAnd.mk ?_ ?_; conv => whnf) | (apply QStepH.go; conv => whnf) | (refine Both.lit_true ?_; conv => whnf) | (refine Both.lit_false ?_; conv => whnf) | (apply QStep.go; conv => whnf) | (refine Need.au ?_; conv => whnf) | (refine ⟨_, rfl, ?_⟩; conv => whnf)))
  rw [hp]
  (conv => whnf)
  (repeat (first | (exact Out.same; conv => whnf) | (exact Out1.same; conv => whnf) | (refine QAnd.mk ?_ ?_; conv => whnf) | (apply QStepH.go; conv => whnf) | (refine Both.lit_true ?_; conv => whnf) | (refine Both.lit_false ?_; conv => whnf) | (apply QStep.go; conv => whnf) | (refine Need.au ?_; conv => whnf) | (refine ⟨_, rfl, ?_⟩; conv => whnf)))
  refine loop_rule (fun k : Nat => ⟨[.ptr 0 0, .any, .any, .any, .any, .str p, .sl 1 8 (ks (absorb k St.init p).1.ws) (Nat.beq k 0 && fb), .int .i64 ((64 * k : Nat) : Int), .any, .any, .any, .any, .any, .any, .any, .any, .any, .any, .any, .any, .any, .any, .any, .any, .any, .any, .any, .any, .any, .any, .any, .any, .any, .any, .any, .any, .any, .any, .any, .any, .any, .any, .any, .any, .any, .any, .any, .any, .any, .any, .any, .any, .any, .any, .any, .any, .any, .any, .any, .any, .any, .any, .any, .any, .any], [.cells [.sl 1 64 (ks K) fa, .sl 1 8 cH fb, .mp 1, .bool cl] 35, .map kd es]⟩) (fun k => k ≤ p.length / 64) (fun k => p.length / 64 - k) 0 (Nat.zero_le _) (Weak.auto ?_) ?_
  · have h1 : SV.sl 1 8 cH fb = SV.sl 1 8 (ks (absorb 0 St.init p).1.ws) (Nat.beq 0 0 && fb) := by rw [h0]; rfl
    (repeat' ((conv => whnf); first | exact True.intro | (refine And.intro ?_ ?_)))
    all_goals first | exact h1 | rfl | exact .eq rfl
  clear h0
  intro k hk
  have hnx := absorb_next k St.init p
  have hend : k = p.length / 64 → (absorb (p.length / 64) St.init p).1 = (absorb k St.init p).1 := fun h => by rw [h]
  revert hnx hend
  generalize (absorb k St.init p).1 = v
  generalize hv1 : (absorb (k + 1) St.init p).1 = v1
  intro hnx hend
  (refine sx_sound Γok _ ?_; conv => whnf)
  (repeat (first | (exact Out.same; conv => whnf) | (exact Out1.same; conv => whnf) | (refine QAnd.mk ?_ ?_; conv => whnf) | (apply QStepH.go; conv => whnf) | (refine Both.lit_true ?_; conv => whnf) | (refine Both.lit_false ?_; conv => whnf) | (apply QStep.go; conv => whnf) | (refine Need.au ?_; conv => whnf) | (refine ⟨_, rfl, ?_⟩; conv => whnf)))
  refine Both.dec (fun hlt => ?_) (fun hge => ?_)
  · have hk1 : 64 * k + 64 ≤ p.length := by omega
    have hw64 : IntKind.i64.wrap (((64 * k : Nat) : Int) + 64) = ((64 * k + 64 : Nat) : Int) := by rw [wrap_i64 (by omega) (by omega)]; rfl
    have hw64' : IntKind.i64.wrap (((64 * k : Nat) : Int) + 64) = ((64 * (k + 1) : Nat) : Int) := by rw [hw64]; rfl
    have hcut : 0 ≤ ((64 * k : Nat) : Int) ∧ ((64 * k : Nat) : Int) ≤ IntKind.i64.wrap (((64 * k : Nat) : Int) + 64) ∧ IntKind.i64.wrap (((64 * k : Nat) : Int) + 64) ≤ ((p.length : Nat) : Int) := by rw [hw64]; omega
    have hcg : List.drop ((64 * k : Nat) : Int).toNat (List.take (IntKind.i64.wrap (((64 * k : Nat) : Int) + 64)).toNat p) = (p.drop (64 * k)).take 64 := by rw [hw64]; exact scut_go p k
    have hcl : (List.drop ((64 * k : Nat) : Int).toNat (List.take (IntKind.i64.wrap (((64 * k : Nat) : Int) + 64)).toNat p)).length = 64 := by rw [hcg, List.length_take, List.length_drop]; omega
    have hmx : v.mix (List.drop ((64 * k : Nat) : Int).toNat (List.take (IntKind.i64.wrap (((64 * k : Nat) : Int) + 64)).toNat p)) = v1 := by rw [hcg, hnx]
    have hkk : ks K = ks kT := by rw [hK]
    have hsv : SV.sl 1 8 (ks v1.ws) false = SV.sl 1 8 (ks (absorb (k + 1) St.init p).1.ws) (Nat.beq (k + 1) 0 && fb) := by rw [hv1]; rfl
    (conv => whnf)
    (refine DrawVC.any Γok (by kernel_rfl) (by kernel_rfl) (by kernel_rfl) (by rfl) ?_; conv => whnf)
    (repeat (first | (refine Need.mk hcut ?_; conv => whnf) | (refine CallVC.auto rblk_k ⟨v, rfl, hcl, hkk, rfl, ?_⟩; conv => whnf) | (exact Out.same; conv => whnf) | (exact Out1.same; conv => whnf) | (refine QAnd.mk ?_ ?_; conv => whnf) | (apply QStepH.go; conv => whnf) | (refine Both.lit_true ?_; conv => whnf) | (refine Both.lit_false ?_; conv => whnf) | (apply QStep.go; conv => whnf) | (refine Need.au ?_; conv => whnf) | (refine ⟨_, rfl, ?_⟩; conv => whnf)))
    rw [hmx]
    (conv => whnf)
    (repeat (first | (exact Out.same; conv => whnf) | (exact Out1.same; conv => whnf) | (refine QAnd.mk ?_ ?_; conv => whnf) | (apply QStepH.go; conv => whnf) | (refine Both.lit_true ?_; conv => whnf) | (refine Both.lit_false ?_; conv => whnf) | (apply QStep.go; conv => whnf) | (refine Need.au ?_; conv => whnf) | (refine ⟨_, rfl, ?_⟩; conv => whnf)))
    refine ⟨k + 1, by omega, by omega, (Weak.pubT 2 rfl).trans (Weak.auto ?_)⟩
    (repeat' ((conv => whnf); first | exact True.intro | (refine And.intro ?_ ?_)))
    all_goals first | exact hsv | rfl | exact .eq rfl | exact congrArg (SV.int .i64) hw64'
  have hke : k = p.length / 64 := by omega
  rw [hend hke] at h
  clear hnx hv1 hend
  have hvl : v.ws.length = 8 := rfl
  have hdt : ∀ m, m < 8 → (v.ws.take (m + 1)).flatMap be4b = (v.ws.take m).flatMap be4b ++ be4b (v.ws.getD m 0) := fun m h => dig_take v h
  have hfl : ∀ l : List W32, (l.flatMap be4b).length = 4 * l.length := fun l => by
    induction l with
    | nil => rfl
    | cons a l ih => rw [List.flatMap_cons, List.length_append, ih]; simp [be4b]; omega
  have hdg : v.dig = (v.ws.take 8).flatMap be4b := rfl
  rw [hdg] at h
  clear hdg
  revert hvl hdt h
  generalize v.ws = ws
  intro h hvl hdt
  (conv => whnf)
  (repeat (first | (exact Out.same; conv => whnf) | (exact Out1.same; conv => whnf) | (refine QAnd.mk ?_ ?_; conv => whnf) | (apply QStepH.go; conv => whnf) | (refine Both.lit_true ?_; conv => whnf) | (refine Both.lit_false ?_; conv => whnf) | (apply QStep.go; conv => whnf) | (refine Need.au ?_; conv => whnf) | (refine ⟨_, rfl, ?_⟩; conv => whnf)))
  refine loop_rule (fun i : Nat => ⟨[.ptr 0 0, .any, .any, .any, .any, .any, .sl 1 8 (ks ws) (Nat.beq k 0 && fb), .any, .own 2, .int .i64 (i : Int), .any, .any, .any, .any, .any, .any, .any, .any, .any, .any, .any, .any, .any, .any, .any, .any, .any, .any, .any, .any, .any, .any, .any, .any, .any, .any, .any, .any, .any, .any, .any, .any, .any, .any, .any, .any, .any, .any, .any, .any, .any, .any, .any, .any, .any, .any, .any, .any, .any, .any, .any, .any, .any, .any, .any], [.cells [.sl 1 64 (ks K) fa, .sl 1 8 cH fb, .mp 1, .bool cl] 35, .map kd es, .own 5 1 (4 * i) (bys ((ws.take i).flatMap be4b)) true]⟩) (fun i => i ≤ 8) (fun i => 8 - i) 0 (Nat.zero_le _) ((Weak.ownNilT 8 5 1 rfl).trans (Weak.auto ?_)) ?_
  · (repeat' ((conv => whnf); first | exact True.intro | (refine And.intro ?_ ?_)))
    all_goals first | rfl | exact .eq rfl
  intro i hi
  have hl4 : ((ws.take i).flatMap be4b).length = 4 * i := by rw [hfl, List.length_take]; omega
  have hend : i = 8 → (ws.take 8).flatMap be4b = (ws.take i).flatMap be4b := fun h => by rw [h]
  have hdt := fun h => hdt i h
  revert hl4 hdt hend
  generalize hl : (ws.take i).flatMap be4b = l
  generalize hl1 : (ws.take (i + 1)).flatMap be4b = l1
  intro hl4 hend hdt
  (refine sx_sound Γok _ ?_; conv => whnf)
  (repeat (first | (exact Out.same; conv => whnf) | (exact Out1.same; conv => whnf) | (refine QAnd.mk ?_ ?_; conv => whnf) | (apply QStepH.go; conv => whnf) | (refine Both.lit_true ?_; conv => whnf) | (refine Both.lit_false ?_; conv => whnf) | (apply QStep.go; conv => whnf) | (refine Need.au ?_; conv => whnf) | (refine ⟨_, rfl, ?_⟩; conv => whnf)))
  refine Both.dec (fun hlt => ?_) (fun hge => ?_)
  · have hi8 : i < 8 := by omega
    have hwr : IntKind.i64.wrap ((i : Int) + 1) = ((i + 1 : Nat) : Int) := by rw [wrap_i64 (by omega) (by omega)]; rfl
    have hat := ks_at (l := ws) (k := i) (by omega)
    have hd1 := hdt hi8
    revert hat hd1
    generalize ws.getD i 0 = x
    intro hat hd1
    have b3 := byt_go x 24 (by decide)
    have b2 := byt_go x 16 (by decide)
    have b1 := byt_go x 8 (by decide)
    have b0 : IntKind.u8.wrap (u32 x) = ((byt x 0).toNat : Int) := by rw [u8_of_u32]; rfl
    have hobj : LObj.own 5 1 (4 * i + 4) (bys l ++ [CV.int .u8 (IntKind.u8.wrap (shrI .u32 (u32 x) 24)), .int .u8 (IntKind.u8.wrap (shrI .u32 (u32 x) 16)), .int .u8 (IntKind.u8.wrap (shrI .u32 (u32 x) 8)), .int .u8 (IntKind.u8.wrap (u32 x))]) true = LObj.own 5 1 (4 * (i + 1)) (bys ((ws.take (i + 1)).flatMap be4b)) true := by
      have q3 : IntKind.u8.wrap (shrI .u32 (u32 x) 24) = ((byt x 24).toNat : Int) := b3
      have q2 : IntKind.u8.wrap (shrI .u32 (u32 x) 16) = ((byt x 16).toNat : Int) := b2
      have q1 : IntKind.u8.wrap (shrI .u32 (u32 x) 8) = ((byt x 8).toNat : Int) := b1
      rw [q3, q2, q1, b0, hl1, hd1, bys, bys, List.map_append]
      rfl
    have hap : (4 * i + 4) * ti5.bytes ≤ 140737488355328 := by
      have : ti5.bytes = 1 := rfl
      rw [this]
      omega
    (conv => whnf)
    (refine DrawVC.any Γok (by kernel_rfl) (by kernel_rfl) (by kernel_rfl) (by rfl) ?_; conv => whnf)
    (repeat (first | (refine ⟨_, hat, ?_⟩; conv => whnf) | (refine Need.mk hap ?_; conv => whnf) | (exact Out.same; conv => whnf) | (exact Out1.same; conv => whnf) | (refine QAnd.mk ?_ ?_; conv => whnf) | (apply QStepH.go; conv => whnf) | (refine Both.lit_true ?_; conv => whnf) | (refine Both.lit_false ?_; conv => whnf) | (apply QStep.go; conv => whnf) | (refine Need.au ?_; conv => whnf) | (refine ⟨_, rfl, ?_⟩; conv => whnf)))
    refine ⟨i + 1, by omega, by omega, Weak.auto ?_⟩
    (repeat' ((conv => whnf); first | exact True.intro | (refine And.intro ?_ ?_)))
    all_goals first | exact hobj | rfl | exact .eq rfl | exact congrArg (SV.int .i64) hwr
  have hi8 : i = 8 := by omega
  rw [hend hi8] at h
  have hu : (bys l).length = 4 * i ∧ ∀ x, x ∈ bys l → isU8 x = true := ⟨by rw [bys, List.length_map, hl4], fun x hx => by
    obtain ⟨b, _, rfl⟩ := List.mem_map.1 hx
    rfl⟩
  have hbk : (bys l).map cvByte = l := bys_back l
  (conv => whnf)
  (repeat (first | (refine Need.mk hu ?_; conv => whnf) | (exact Out.same; conv => whnf) | (exact Out1.same; conv => whnf) | (refine QAnd.mk ?_ ?_; conv => whnf) | (apply QStepH.go; conv => whnf) | (refine Both.lit_true ?_; conv => whnf) | (refine Both.lit_false ?_; conv => whnf) | (apply QStep.go; conv => whnf) | (refine Need.au ?_; conv => whnf) | (refine ⟨_, rfl, ?_⟩; conv => whnf)))
  rw [hbk]
  refine ⟨_, _, WeakV.auto ?_, h⟩
  (repeat' ((conv => whnf); first | exact True.intro | (refine And.intro ?_ ?_)))
  all_goals first | rfl | exact .eq rfl
theorem rdig_k : Contract Tryd.prog [] 45 rdigS := ⟨⟨⟨_, rfl, rfl, rfl⟩⟩, rdig_c⟩
end Go.LX
end
section
set_option maxRecDepth 100000
set_option maxHeartbeats 1000000
set_option autoImplicit false
set_option linter.unusedVariables false
set_option linter.unusedSimpArgs false
namespace Go.LX
open Go.Proofs

def bes : List (List UInt8) → List (CV × CV)
  | [] => []
  | s :: T => mput (bes T) (.str (shaD s)) (.str s)
def hitB (r : Option CV) (s : List UInt8) : Bool :=
  match r with
  | some (.str t) => !decide (t = s)
  | _ => false
def bcl : List (List UInt8) → Bool
  | [] => false
  | s :: T => bcl T || hitB (mget (bes T) (.str (shaD s))) s
theorem keq_str {a : List UInt8} : ∀ {x : CV}, keq (.str a) x = true → x = .str a
  | .str b, h => by
    have : a = b := of_decide_eq_true h
    rw [this]
  | .int _ _, h => by cases h
  | .bool _, h => by cases h
  | .nil, h => by cases h
  | .sl _ _ _ _, h => by cases h
theorem keq_ne {a b : List UInt8} (h : ¬ a = b) : keq (.str a) (.str b) = false := decide_eq_false h
theorem keq_self (a : List UInt8) : keq (.str a) (.str a) = true := decide_eq_true rfl
theorem mget_put_self : ∀ (es : List (CV × CV)) (a : List UInt8) (v : CV), mget (mput es (.str a) v) (.str a) = some v
  | [], a, v => by rw [mput, mget, keq_self]
  | (x, y) :: r, a, v => by
    rw [mput]
    cases hk : keq (.str a) x with
    | true => dsimp only; rw [mget, keq_self]
    | false => dsimp only; rw [mget, hk]; exact mget_put_self r a v
theorem mget_put_ne : ∀ (es : List (CV × CV)) (a b : List UInt8) (v : CV), ¬ b = a → mget (mput es (.str a) v) (.str b) = mget es (.str b)
  | [], a, b, v, h => by simp only [mput, mget, keq_ne h]
  | (x, y) :: r, a, b, v, h => by
    rw [mput]
    cases hk : keq (.str a) x with
    | true =>
      have := keq_str hk
      subst this
      simp only [mget, keq_ne h]
    | false =>
      dsimp only
      rw [mget, mget]
      cases keq (.str b) x with
      | true => rfl
      | false => exact mget_put_ne r a b v h
theorem bes_str : ∀ (T : List (List UInt8)) (a : List UInt8) (v : CV), mget (bes T) (.str a) = some v → ∃ t, v = .str t
  | [], a, v, h => by cases h
  | s :: T, a, v, h => by
    by_cases ha : a = shaD s
    · rw [ha, bes, mget_put_self] at h
      exact ⟨s, (Option.some.inj h).symm⟩
    · rw [bes, mget_put_ne _ _ _ _ ha] at h
      exact bes_str T a v h
theorem bcl_get : ∀ (T : List (List UInt8)), bcl T = false → ∀ s ∈ T, mget (bes T) (.str (shaD s)) = some (.str s)
  | [], _, s, hs => by cases hs
  | x :: T, h, s, hs => by
    rw [bcl, Bool.or_eq_false_iff] at h
    by_cases ha : shaD s = shaD x
    · rw [ha, bes, mget_put_self]
      rcases List.mem_cons.1 hs with h1 | h1
      · rw [h1]
      · have h2 := bcl_get T h.1 s h1
        rw [ha] at h2
        have h3 := h.2
        rw [h2] at h3
        have : s = x := by
          have h4 : (!decide (s = x)) = false := h3
          simpa using h4
        rw [this]
    · rw [bes, mget_put_ne _ _ _ _ ha]
      rcases List.mem_cons.1 hs with h1 | h1
      · exact absurd (by rw [h1]) ha
      · exact bcl_get T h.1 s h1
theorem bcl_inj {T : List (List UInt8)} (h : bcl T = false) {s t : List UInt8} (hs : s ∈ T) (ht : t ∈ T) (e : shaD s = shaD t) : s = t := by
  have h1 := bcl_get T h s hs
  have h2 := bcl_get T h t ht
  rw [e, h2] at h1
  cases h1
  rfl
def bkO (T : List (List UInt8)) : List LObj := [.cells (bkc kT hT (bcl T) 1) 35, .map 2 (bes T)]
def bsumS : Spec := fun args H Q => match args, H with
  | [.ptr 0 0, .str s], [.cells [.sl 1 64 ka false, .sl 1 8 kb false, .mp 1, .bool cl] 35, .map 2 es] => ∃ T, ka = ks kT ∧ kb = ks hT ∧ cl = bcl T ∧ es = bes T ∧ s.length < 900000 ∧ Q (.str (shaD s)) (bkO (s :: T))
  | _, _ => False
theorem bsum_c : Meets Tryd.prog [] 31 bsumS := by
  refine meets_of Γok Tryd.func31 rfl ?_
  intro args H Q h
  unfold bsumS at h
  split at h
  case h_2 => exact h.elim
  rename_i s ka kb cl es
  obtain ⟨T, rfl, rfl, rfl, rfl, hs, h⟩ := h
  have hbs := bes_str T (shaD s)
  have hcs : bcl (s :: T) = (bcl T || hitB (mget (bes T) (.str (shaD s))) s) := rfl
  have hes : bes (s :: T) = mput (bes T) (.str (shaD s)) (.str s) := rfl
  unfold bkO at h
  rw [hcs, hes] at h
  clear hcs hes
  (refine sx_sound Γok _ ?_; conv => whnf)
  refine CallVC.auto rdig_k ⟨rfl, rfl, hs, ?_⟩
  revert h hbs
  generalize shaD s = d
  generalize bes T = es
  generalize bcl T = cl
  intro h hbs
  generalize hr : mget es (.str d) = r at h hbs
  cases r with
  | none =>
    (conv => whnf)
    cases cl
    all_goals
      (repeat (first | (refine ⟨_, hr, ?_⟩; conv => whnf) | (exact Out.same; conv => whnf) | (exact Out1.same; conv => whnf) | (refine QAnd.mk ?_ ?_; conv => whnf) | (apply QStepH.go; conv => whnf) | (refine Both.lit_true ?_; conv => whnf) | (refine Both.lit_false ?_; conv => whnf) | (apply QStep.go; conv => whnf) | (refine Need.au ?_; conv => whnf) | (refine ⟨_, rfl, ?_⟩; conv => whnf)))
      refine ⟨_, _, WeakV.auto ?_, h⟩
      (repeat' ((conv => whnf); first | exact True.intro | (refine And.intro ?_ ?_)))
      all_goals first | rfl | exact .eq rfl
  | some v =>
    obtain ⟨t, rfl⟩ := hbs v rfl
    (conv => whnf)
    cases cl
    all_goals
      (repeat (first | (refine ⟨_, hr, ?_⟩; conv => whnf) | (exact Out.same; conv => whnf) | (exact Out1.same; conv => whnf) | (refine QAnd.mk ?_ ?_; conv => whnf) | (apply QStepH.go; conv => whnf) | (refine Both.lit_true ?_; conv => whnf) | (refine Both.lit_false ?_; conv => whnf) | (apply QStep.go; conv => whnf) | (refine Need.au ?_; conv => whnf) | (refine ⟨_, rfl, ?_⟩; conv => whnf)))
      refine ⟨_, _, WeakV.auto ?_, h⟩
      (repeat' ((conv => whnf); first | exact True.intro | (refine And.intro ?_ ?_)))
      all_goals first | rfl | exact .eq rfl
theorem bsum_k : Contract Tryd.prog [] 31 bsumS := ⟨⟨⟨_, rfl, rfl, rfl⟩⟩, bsum_c⟩
end Go.LX
end
section
set_option maxRecDepth 100000
set_option maxHeartbeats 4000000
set_option autoImplicit false
set_option linter.unusedVariables false
set_option linter.unusedSimpArgs false
namespace Go.LX
open Go.Proofs

def beb (n : Nat) : Nat → List UInt8
  | 0 => []
  | k + 1 => UInt8.ofNat (n / 256 ^ k) :: beb n k
theorem beb_length (n : Nat) : ∀ k, (beb n k).length = k
  | 0 => rfl
  | k + 1 => by rw [beb, List.length_cons, beb_length n k]
theorem beb_get (n : Nat) : ∀ (k j : Nat), j < k → (beb n k)[j]? = some (UInt8.ofNat (n / 256 ^ (k - 1 - j)))
  | 0, j, h => by omega
  | k + 1, 0, h => by simp [beb]
  | k + 1, j + 1, h => by
    rw [beb, List.getElem?_cons_succ, beb_get n k j (by omega)]
    congr 4
    omega
end Go.LX
end
section
set_option maxRecDepth 100000
set_option maxHeartbeats 4000000
set_option autoImplicit false
set_option linter.unusedVariables false
set_option linter.unusedSimpArgs false
namespace Go.LX
open Go.Proofs

def bev (l : List UInt8) : Nat := l.foldl (fun n b => n * 256 + b.toNat) 0
end Go.LX
end
section
set_option maxRecDepth 100000
set_option maxHeartbeats 4000000
set_option autoImplicit false
set_option linter.unusedVariables false
set_option linter.unusedSimpArgs false
namespace Go.LX
open Go.Proofs

end Go.LX
end
section
set_option maxRecDepth 100000
set_option maxHeartbeats 4000000
set_option autoImplicit false
set_option linter.unusedVariables false
set_option linter.unusedSimpArgs false
namespace Go.LX
open Go.Proofs

theorem bev_fold (l : List UInt8) : ∀ a : Nat, l.foldl (fun n b => n * 256 + b.toNat) a = a * 256 ^ l.length + bev l := by
  induction l with
  | nil => intro a; simp [bev]
  | cons b l ih =>
    intro a
    have h0 : bev (b :: l) = b.toNat * 256 ^ l.length + bev l := by
      show List.foldl _ (0 * 256 + b.toNat) l = _
      rw [ih, Nat.zero_mul, Nat.zero_add]
    rw [List.foldl_cons, ih, h0, List.length_cons, Nat.pow_succ, Nat.add_mul, Nat.mul_comm (256 ^ l.length) 256, Nat.mul_assoc, Nat.add_assoc]
theorem bev_cons (b : UInt8) (l : List UInt8) : bev (b :: l) = b.toNat * 256 ^ l.length + bev l := by
  show List.foldl _ (0 * 256 + b.toNat) l = _
  rw [bev_fold, Nat.zero_mul, Nat.zero_add]
theorem bev_beb : ∀ (k v : Nat), v < 256 ^ k → bev (beb v k) = v
  | 0, v, h => by simp at h; subst h; rfl
  | k + 1, v, h => by
    have hb : beb v (k + 1) = UInt8.ofNat (v / 256 ^ k) :: beb (v % 256 ^ k) k := by
      rw [beb]
      congr 1
      have gen : ∀ j, j ≤ k → beb v j = beb (v % 256 ^ k) j := by
        intro j
        induction j with
        | zero => intro _; rfl
        | succ j ih =>
          intro hj
          rw [beb, beb, ih (by omega)]
          congr 1
          obtain ⟨d, rfl⟩ : ∃ d, k = j + 1 + d := ⟨k - (j + 1), by omega⟩
          have h1 : v % 256 ^ (j + 1 + d) / 256 ^ j = v / 256 ^ j % 256 ^ (d + 1) := by
            rw [show j + 1 + d = j + (d + 1) by omega, Nat.pow_add, Nat.mod_mul_right_div_self]
          rw [h1]
          have h2 : v / 256 ^ j % 256 ^ (d + 1) % 256 = v / 256 ^ j % 256 := by
            rw [Nat.mod_mod_of_dvd]
            exact ⟨256 ^ d, by rw [Nat.pow_succ, Nat.mul_comm]⟩
          apply UInt8.toNat_inj.1
          simp only [UInt8.toNat_ofNat']
          exact h2.symm
      exact gen k (Nat.le_refl k)
    have hlt : v / 256 ^ k < 256 := by
      rw [Nat.div_lt_iff_lt_mul (by exact Nat.pow_pos (by omega))]
      rw [Nat.pow_succ] at h
      omega
    rw [hb, bev_cons, beb_length, bev_beb k _ (Nat.mod_lt _ (Nat.pow_pos (by omega)))]
    simp only [UInt8.toNat_ofNat']
    rw [Nat.mod_eq_of_lt (show v / 256 ^ k < 2 ^ 8 by omega), Nat.mul_comm]
    exact Nat.div_add_mod v (256 ^ k)
theorem beb_inj {k a b : Nat} (ha : a < 256 ^ k) (hb : b < 256 ^ k) (h : beb a k = beb b k) : a = b := by
  rw [← bev_beb k a ha, ← bev_beb k b hb, h]
end Go.LX
end
section
set_option maxRecDepth 100000
set_option maxHeartbeats 1000000
set_option autoImplicit false
set_option linter.unusedVariables false
set_option linter.unusedSimpArgs false
namespace Go.LX
open Go.Proofs

abbrev Bs := List UInt8
abbrev Pr := Bs × Bs
def txLeaf (p : Pr) : Bs := [0] ++ [UInt8.ofNat p.1.length] ++ p.1 ++ [UInt8.ofNat p.2.length] ++ p.2
def lft (n : Nat) : Nat := 2 ^ Nat.log2 (n - 1)
theorem lft_pos (n : Nat) : 0 < lft n := Nat.pow_pos (by decide)
theorem lft_lt {n : Nat} (h : 1 < n) : lft n < n := by
  have := Nat.log2_self_le (n := n - 1) (by omega)
  unfold lft
  omega
theorem lft_eq {n j : Nat} (h1 : 2 ^ j < n) (h2 : n ≤ 2 ^ (j + 1)) : lft n = 2 ^ j := by
  have h0 : n - 1 ≠ 0 := by have := Nat.pow_pos (n := j) (show 0 < 2 by decide); omega
  have a := (Nat.le_log2 (k := j) h0).2 (by omega)
  have b := (Nat.log2_lt (k := j + 1) h0).2 (by omega)
  unfold lft
  rw [show (n - 1).log2 = j by omega]
def dgP (l : List Pr) : Bs :=
  if h : l.length ≤ 1 then shaD (txLeaf (l.getD 0 ([], []))) else shaD ([1] ++ dgP (l.take (lft l.length)) ++ dgP (l.drop (lft l.length)))
termination_by l.length
decreasing_by
  · have := lft_lt (n := l.length) (by omega)
    rw [List.length_take]
    omega
  · have := lft_pos l.length
    rw [List.length_drop]
    omega
theorem dgP_one {l : List Pr} (h : l.length ≤ 1) : dgP l = shaD (txLeaf (l.getD 0 ([], []))) := by rw [dgP, dif_pos h]
theorem dgP_two {l : List Pr} (h : ¬ l.length ≤ 1) : dgP l = shaD ([1] ++ dgP (l.take (lft l.length)) ++ dgP (l.drop (lft l.length))) := by rw [dgP, dif_neg h]
theorem dgP_len (l : List Pr) : (dgP l).length = 32 := by
  by_cases h : l.length ≤ 1
  · rw [dgP_one h, shaD_len]
  · rw [dgP_two h, shaD_len]
def dgT (l : List Pr) (T : List Bs) : List Bs :=
  if h : l.length ≤ 1 then txLeaf (l.getD 0 ([], [])) :: T else ([1] ++ dgP (l.take (lft l.length)) ++ dgP (l.drop (lft l.length))) :: dgT (l.drop (lft l.length)) (dgT (l.take (lft l.length)) T)
termination_by l.length
decreasing_by
  · have := lft_lt (n := l.length) (by omega)
    rw [List.length_take]
    omega
  · have := lft_pos l.length
    rw [List.length_drop]
    omega
theorem dgT_one {l : List Pr} {T : List Bs} (h : l.length ≤ 1) : dgT l T = txLeaf (l.getD 0 ([], [])) :: T := by rw [dgT, dif_pos h]
theorem dgT_two {l : List Pr} {T : List Bs} (h : ¬ l.length ≤ 1) : dgT l T = ([1] ++ dgP (l.take (lft l.length)) ++ dgP (l.drop (lft l.length))) :: dgT (l.drop (lft l.length)) (dgT (l.take (lft l.length)) T) := by rw [dgT, dif_neg h]
def topX (c : Nat) (d : Bs) : Bs := [2] ++ beb c 8 ++ d
def rootX (l : List Pr) : Bs := if l.length = 0 then topX 0 [] else topX l.length (dgP l)
def rootT (l : List Pr) (T : List Bs) : List Bs := if l.length = 0 then topX 0 [] :: T else topX l.length (dgP l) :: dgT l T
end Go.LX
end
section
set_option maxRecDepth 100000
set_option maxHeartbeats 4000000
set_option autoImplicit false
set_option linter.unusedVariables false
set_option linter.unusedSimpArgs false
namespace Go.LX
open Go.Proofs

def rbS : Spec := fun args H Q => match args, H with
  | [.int .u64 n, .int .i64 c], [] => ∃ v k : Nat, n = v ∧ v < 18446744073709551616 ∧ c = k ∧ k ≤ 8 ∧ Q (.str (beb v k)) []
  | _, _ => False
theorem rem_go (q : Nat) : IntKind.u8.wrap ((q : Int).tmod 256) = ((UInt8.ofNat q).toNat : Int) := by
  rw [Int.tmod_eq_emod_of_nonneg (by omega), wrap_u8_mod]
  simp
theorem quo_go (q : Nat) (hv : q < 18446744073709551616) : IntKind.u64.wrap ((q : Int).tdiv 256) = ((q / 256 : Nat) : Int) := by
  rw [Int.tdiv_eq_ediv_of_nonneg (by omega), wrap_u64 (by omega) (by omega)]
  omega
theorem cv_by (b : UInt8) : cvByte (.int .u8 (b.toNat : Int)) = b := by
  show UInt8.ofNat ((b.toNat : Int)).toNat = b
  rw [Int.toNat_natCast]
  simp
theorem rb_c : Meets Tryd.prog [] 32 rbS := by
  refine meets_of Γok Tryd.func32 rfl ?_
  intro args H Q h
  unfold rbS at h
  split at h
  case h_2 => exact h.elim
  obtain ⟨v, c, rfl, hv, rfl, hc, h⟩ := h
  (refine sx_sound Γok _ ?_; conv => whnf)
  refine loop_rule (fun j : Nat => ⟨[.int .u64 ((v / 256 ^ j : Nat) : Int), .int .i64 (c : Int), .any, .any, .any, .str (beb v j), .int .i64 (j : Int), .any, .any, .any, .any, .any, .any, .any, .any, .any, .any, .any, .any, .any, .any, .any], []⟩) (fun j => j ≤ c) (fun j => c - j) 0 (by omega) ?_ ?_
  · refine Weak.le ?_ ?_
    · (repeat' ((conv => whnf); first | exact True.intro | (refine And.intro ?_ ?_)))
      all_goals first | rfl | (rw [Nat.pow_zero, Nat.div_one])
    · (repeat' ((conv => whnf); first | exact True.intro | (refine And.intro ?_ ?_)))
  · intro j hj
    (refine sx_sound Γok _ ?_; conv => whnf)
    refine Both.dec (fun hlt => ?_) (fun hge => ?_)
    · (conv => whnf)
      (repeat (first | (refine Both.lit_true ?_; conv => whnf) | (refine Both.lit_false ?_; conv => whnf) | (refine Need.mk ?_ ?_; (focus (first | omega | exact ⟨by omega, by omega⟩ | rfl | exact ⟨rfl, rfl⟩ | exact ⟨rfl, Nat.le_of_ble_eq_true rfl⟩ | exact Nat.le_of_ble_eq_true rfl | (refine ⟨rfl, rfl, ?_⟩; simp [isFar, ofV0, CV.up, SV.renL, SV.ren] <;> fail) | (refine ⟨rfl, Nat.le_of_ble_eq_true rfl, ?_⟩; simp [isFar, ofV0, CV.up, SV.renL, SV.ren] <;> fail) | (simp <;> fail))); conv => whnf)))
      rw [rem_go]
      refine Need.mk ⟨rfl, by simp [isU8]⟩ ?_
      (conv => whnf)
      refine Need.mk (by rw [beb_length]; simp; omega) ?_
      (conv => whnf)
      (repeat (first | (refine Both.lit_true ?_; conv => whnf) | (refine Both.lit_false ?_; conv => whnf) | (refine Need.mk ?_ ?_; (focus (first | omega | exact ⟨by omega, by omega⟩ | rfl | exact ⟨rfl, rfl⟩ | exact ⟨rfl, Nat.le_of_ble_eq_true rfl⟩ | exact Nat.le_of_ble_eq_true rfl | (refine ⟨rfl, rfl, ?_⟩; simp [isFar, ofV0, CV.up, SV.renL, SV.ren] <;> fail) | (refine ⟨rfl, Nat.le_of_ble_eq_true rfl, ?_⟩; simp [isFar, ofV0, CV.up, SV.renL, SV.ren] <;> fail) | (simp <;> fail))); conv => whnf)))
      have hq : v / 256 ^ j < 18446744073709551616 := Nat.lt_of_le_of_lt (Nat.div_le_self _ _) hv
      refine ⟨j + 1, by omega, by omega, Weak.le ?_ ?_⟩
      · (repeat' ((conv => whnf); first | exact True.intro | (refine And.intro ?_ ?_)))
        all_goals first | rfl | exact congrArg (SV.int .u64) (by rw [quo_go _ hq, Nat.pow_succ, ← Nat.div_div_eq_div_mul]) | exact congrArg (SV.int .i64) (by rw [wrap_i64 (by omega) (by omega)]; rfl) | exact congrArg (fun x => SV.str (x :: beb v j)) (cv_by _)
      · (repeat' ((conv => whnf); first | exact True.intro | (refine And.intro ?_ ?_)))
    · obtain rfl : j = c := by omega
      (conv => whnf)
      exact ⟨_, _, WeakV.drop rfl, h⟩
theorem rb_k : Contract Tryd.prog [] 32 rbS := ⟨⟨⟨_, rfl, rfl, rfl⟩⟩, rb_c⟩
end Go.LX
end
section
set_option maxRecDepth 100000
set_option maxHeartbeats 1000000
set_option autoImplicit false
set_option linter.unusedVariables false
set_option linter.unusedSimpArgs false
namespace Go.LX
open Go.Proofs

def len8 : List UInt8 := [0, 1, 2, 2, 3, 3, 3, 3, 4, 4, 4, 4, 4, 4, 4, 4, 5, 5, 5, 5, 5, 5, 5, 5, 5, 5, 5, 5, 5, 5, 5, 5, 6, 6, 6, 6, 6, 6, 6, 6, 6, 6, 6, 6, 6, 6, 6, 6, 6, 6, 6, 6, 6, 6, 6, 6, 6, 6, 6, 6, 6, 6, 6, 6, 7, 7, 7, 7, 7, 7, 7, 7, 7, 7, 7, 7, 7, 7, 7, 7, 7, 7, 7, 7, 7, 7, 7, 7, 7, 7, 7, 7, 7, 7, 7, 7, 7, 7, 7, 7, 7, 7, 7, 7, 7, 7, 7, 7, 7, 7, 7, 7, 7, 7, 7, 7, 7, 7, 7, 7, 7, 7, 7, 7, 7, 7, 7, 7, 8, 8, 8, 8, 8, 8, 8, 8, 8, 8, 8, 8, 8, 8, 8, 8, 8, 8, 8, 8, 8, 8, 8, 8, 8, 8, 8, 8, 8, 8, 8, 8, 8, 8, 8, 8, 8, 8, 8, 8, 8, 8, 8, 8, 8, 8, 8, 8, 8, 8, 8, 8, 8, 8, 8, 8, 8, 8, 8, 8, 8, 8, 8, 8, 8, 8, 8, 8, 8, 8, 8, 8, 8, 8, 8, 8, 8, 8, 8, 8, 8, 8, 8, 8, 8, 8, 8, 8, 8, 8, 8, 8, 8, 8, 8, 8, 8, 8, 8, 8, 8, 8, 8, 8, 8, 8, 8, 8, 8, 8, 8, 8, 8, 8, 8, 8, 8, 8, 8, 8, 8, 8, 8, 8, 8, 8, 8, 8]
def lenN (v : Nat) : Nat := if v = 0 then 0 else Nat.log2 v + 1
theorem len8_at : ∀ k : Fin 256, (len8.getD k.val 0).toNat = lenN k.val := by decide +kernel
theorem lenN_8 {v : Nat} (h : 256 ≤ v) : lenN v = 8 + lenN (v / 256) := by
  have h1 : v ≠ 0 := by omega
  have h2 : v / 256 ≠ 0 := by omega
  unfold lenN
  rw [if_neg h1, if_neg h2]
  have a := Nat.log2_self_le h2
  have b := Nat.lt_log2_self (n := v / 256)
  obtain ⟨j, hj⟩ : ∃ j, (v / 256).log2 = j := ⟨_, rfl⟩
  rw [hj] at a b ⊢
  have c := (Nat.le_log2 (k := j + 8) h1).2 (by rw [Nat.pow_add]; omega)
  have d := (Nat.log2_lt (k := j + 9) h1).2 (by
    have : 2 ^ (j + 9) = 2 ^ (j + 1) * 256 := by rw [show j + 9 = (j + 1) + 8 by omega, Nat.pow_add]
    omega)
  omega
def len64S : Spec := fun args H Q => match args, H with
  | [.int .u64 x], [] => ∃ v : Nat, x = v ∧ v < 65536 ∧ Q (.int .i64 ((lenN v : Nat) : Int)) []
  | _, _ => False
theorem len64_c : Meets Tryd.prog [] 58 len64S := by
  refine meets_of Γok Tryd.func58 rfl ?_
  intro args H Q h
  unfold len64S at h
  split at h
  case h_2 => exact h.elim
  obtain ⟨v, rfl, hv, h⟩ := h
  have hb1 : decide ((4294967296 : Int) ≤ (v : Int)) = false := by rw [decide_eq_false_iff_not]; omega
  have hb2 : decide ((65536 : Int) ≤ (v : Int)) = false := by rw [decide_eq_false_iff_not]; omega
  (refine sx_sound Γok _ ?_; conv => whnf)
  (repeat (first | (refine Both.of_false hb1 ?_; conv => whnf) | (refine Both.of_false hb2 ?_; conv => whnf) | (exact Out.same; conv => whnf) | (exact Out1.same; conv => whnf) | (refine QAnd.mk ?_ ?_; conv => whnf) | (apply QStepH.go; conv => whnf) | (refine Both.lit_true ?_; conv => whnf) | (refine Both.lit_false ?_; conv => whnf) | (apply QStep.go; conv => whnf) | (refine Need.au ?_; conv => whnf) | (refine ⟨_, rfl, ?_⟩; conv => whnf)))
  refine Both.dec (fun hbig => ?_) (fun hsm => ?_)
  · have hs : shrI .u64 (v : Int) 8 = ((v / 256 : Nat) : Int) := by
      unfold shrI
      rw [show min (8 : Int).toNat IntKind.u64.bits = 8 from rfl, Int.fdiv_eq_ediv_of_nonneg _ (by decide)]
      rfl
    have hi : IntKind.u8.wrap ((v / 256 : Nat) : Int) = ((v / 256 : Nat) : Int) := by rw [wrap_u8_mod]; omega
    have hin : 0 ≤ IntKind.u8.wrap (shrI .u64 (v : Int) 8) ∧ IntKind.u8.wrap (shrI .u64 (v : Int) 8) < ((256 : Nat) : Int) := by rw [hs, hi]; omega
    have hat := len8_at ⟨v / 256, by omega⟩
    have hl : lenN v = 8 + lenN (v / 256) := lenN_8 (by omega)
    have hsm : lenN (v / 256) ≤ 8 := by
      unfold lenN
      split
      · omega
      · have := (Nat.log2_lt (n := v / 256) (k := 8) (by omega)).2 (by omega)
        omega
    have hres : IntKind.i64.wrap (IntKind.i64.wrap (0 + 8) + IntKind.i64.wrap (((List.getD len8 (IntKind.u8.wrap (shrI .u64 (v : Int) 8)).toNat 0).toNat : Nat) : Int)) = ((lenN v : Nat) : Int) := by
      rw [hs, hi, Int.toNat_natCast, hat, hl, wrap_i64 (n := 0 + 8) (by omega) (by omega), wrap_i64 (n := ((lenN (v / 256) : Nat) : Int)) (by omega) (by omega), wrap_i64 (by omega) (by omega)]
      omega
    (conv => whnf)
    (repeat (first | (refine Need.mk hin ?_; conv => whnf) | (exact Out.same; conv => whnf) | (exact Out1.same; conv => whnf) | (refine QAnd.mk ?_ ?_; conv => whnf) | (apply QStepH.go; conv => whnf) | (refine Both.lit_true ?_; conv => whnf) | (refine Both.lit_false ?_; conv => whnf) | (apply QStep.go; conv => whnf) | (refine Need.au ?_; conv => whnf) | (refine ⟨_, rfl, ?_⟩; conv => whnf)))
    exact ⟨_, _, WeakV.drop (congrArg (SV.int .i64) hres), h⟩
  · have hi : IntKind.u8.wrap (v : Int) = (v : Int) := by rw [wrap_u8_mod]; omega
    have hin : 0 ≤ IntKind.u8.wrap (v : Int) ∧ IntKind.u8.wrap (v : Int) < ((256 : Nat) : Int) := by rw [hi]; omega
    have hat := len8_at ⟨v, by omega⟩
    have hsm : lenN v ≤ 8 := by
      unfold lenN
      split
      · omega
      · have := (Nat.log2_lt (n := v) (k := 8) (by omega)).2 (by omega)
        omega
    have hres : IntKind.i64.wrap (0 + IntKind.i64.wrap (((List.getD len8 (IntKind.u8.wrap (v : Int)).toNat 0).toNat : Nat) : Int)) = ((lenN v : Nat) : Int) := by
      rw [hi, Int.toNat_natCast, hat, wrap_i64 (n := ((lenN v : Nat) : Int)) (by omega) (by omega), wrap_i64 (by omega) (by omega)]
      omega
    (conv => whnf)
    (repeat (first | (refine Need.mk hin ?_; conv => whnf) | (exact Out.same; conv => whnf) | (exact Out1.same; conv => whnf) | (refine QAnd.mk ?_ ?_; conv => whnf) | (apply QStepH.go; conv => whnf) | (refine Both.lit_true ?_; conv => whnf) | (refine Both.lit_false ?_; conv => whnf) | (apply QStep.go; conv => whnf) | (refine Need.au ?_; conv => whnf) | (refine ⟨_, rfl, ?_⟩; conv => whnf)))
    exact ⟨_, _, WeakV.drop (congrArg (SV.int .i64) hres), h⟩
theorem len64_k : Contract Tryd.prog [] 58 len64S := ⟨⟨⟨_, rfl, rfl, rfl⟩⟩, len64_c⟩
theorem lenB_c : Meets Tryd.prog [] 46 len64S := by
  refine meets_of Γok Tryd.func46 rfl ?_
  intro args H Q h
  unfold len64S at h
  split at h
  case h_2 => exact h.elim
  obtain ⟨v, rfl, hv, h⟩ := h
  (refine sx_sound Γok _ ?_; conv => whnf)
  (repeat (first | (exact Out.same; conv => whnf) | (exact Out1.same; conv => whnf) | (refine QAnd.mk ?_ ?_; conv => whnf) | (apply QStepH.go; conv => whnf) | (refine Both.lit_true ?_; conv => whnf) | (refine Both.lit_false ?_; conv => whnf) | (apply QStep.go; conv => whnf) | (refine Need.au ?_; conv => whnf) | (refine ⟨_, rfl, ?_⟩; conv => whnf)))
  refine CallVC.auto len64_k ⟨v, rfl, hv, ?_⟩
  (conv => whnf)
  (repeat (first | (exact Out.same; conv => whnf) | (exact Out1.same; conv => whnf) | (refine QAnd.mk ?_ ?_; conv => whnf) | (apply QStepH.go; conv => whnf) | (refine Both.lit_true ?_; conv => whnf) | (refine Both.lit_false ?_; conv => whnf) | (apply QStep.go; conv => whnf) | (refine Need.au ?_; conv => whnf) | (refine ⟨_, rfl, ?_⟩; conv => whnf)))
  exact ⟨_, _, WeakV.drop rfl, h⟩
theorem lenB_k : Contract Tryd.prog [] 46 len64S := ⟨⟨⟨_, rfl, rfl, rfl⟩⟩, lenB_c⟩
def lftS : Spec := fun args H Q => match args, H with
  | [.int .i64 x], [] => ∃ n : Nat, x = n ∧ 1 < n ∧ n < 65536 ∧ Q (.int .i64 ((lft n : Nat) : Int)) []
  | _, _ => False
theorem lft_c : Meets Tryd.prog [] 34 lftS := by
  refine meets_of Γok Tryd.func34 rfl ?_
  intro args H Q h
  unfold lftS at h
  split at h
  case h_2 => exact h.elim
  obtain ⟨n, rfl, h1, h2, h⟩ := h
  have hw : IntKind.u64.wrap (IntKind.i64.wrap ((n : Int) - 1)) = ((n - 1 : Nat) : Int) := by rw [wrap_i64 (by omega) (by omega), wrap_u64 (by omega) (by omega)]; omega
  obtain ⟨j, hj⟩ : ∃ j, Nat.log2 (n - 1) = j := ⟨_, rfl⟩
  have hj16 : j < 16 := by rw [← hj]; exact (Nat.log2_lt (by omega)).2 (by omega)
  have hl : ((lenN (n - 1) : Nat) : Int) = ((j + 1 : Nat) : Int) := by unfold lenN; rw [if_neg (by omega), hj]
  have hs : IntKind.i64.wrap (((j + 1 : Nat) : Int) - 1) = (j : Int) := by rw [wrap_i64 (by omega) (by omega)]; omega
  have hlf : lft n = 2 ^ j := by unfold lft; rw [hj]
  have hp : (2 : Nat) ^ j ≤ 2 ^ 15 := Nat.pow_le_pow_right (by decide) (by omega)
  have hv : shlI .i64 1 (IntKind.i64.wrap (((j + 1 : Nat) : Int) - 1)) = ((lft n : Nat) : Int) := by
    rw [hs, hlf]
    unfold shlI
    rw [show min ((j : Int)).toNat IntKind.i64.bits = j by simp only [IntKind.bits]; omega, Int.one_mul]
    have : (2 : Int) ^ j = ((2 ^ j : Nat) : Int) := by norm_cast
    rw [this, wrap_i64 (by omega) (by omega)]
  have hn0 : 0 ≤ IntKind.i64.wrap (((j + 1 : Nat) : Int) - 1) := by rw [hs]; omega
  (refine sx_sound Γok _ ?_; conv => whnf)
  (repeat (first | (exact Out.same; conv => whnf) | (exact Out1.same; conv => whnf) | (refine QAnd.mk ?_ ?_; conv => whnf) | (apply QStepH.go; conv => whnf) | (refine Both.lit_true ?_; conv => whnf) | (refine Both.lit_false ?_; conv => whnf) | (apply QStep.go; conv => whnf) | (refine Need.au ?_; conv => whnf) | (refine ⟨_, rfl, ?_⟩; conv => whnf)))
  refine CallVC.auto lenB_k ⟨n - 1, hw, by omega, ?_⟩
  rw [hl]
  (conv => whnf)
  (repeat (first | (refine Need.mk hn0 ?_; conv => whnf) | (exact Out.same; conv => whnf) | (exact Out1.same; conv => whnf) | (refine QAnd.mk ?_ ?_; conv => whnf) | (apply QStepH.go; conv => whnf) | (refine Both.lit_true ?_; conv => whnf) | (refine Both.lit_false ?_; conv => whnf) | (apply QStep.go; conv => whnf) | (refine Need.au ?_; conv => whnf) | (refine ⟨_, rfl, ?_⟩; conv => whnf)))
  exact ⟨_, _, WeakV.drop (congrArg (SV.int .i64) hv), h⟩
theorem lft_k : Contract Tryd.prog [] 34 lftS := ⟨⟨⟨_, rfl, rfl, rfl⟩⟩, lft_c⟩
def oneS : Spec := fun args H Q => match args, H with
  | [.int .i64 x], [] => ∃ n : Nat, x = n ∧ Q (.str [UInt8.ofNat n]) []
  | _, _ => False
theorem one_c : Meets Tryd.prog [] 30 oneS := by
  refine meets_of Γok Tryd.func30 rfl ?_
  intro args H Q h
  unfold oneS at h
  split at h
  case h_2 => exact h.elim
  obtain ⟨n, rfl, h⟩ := h
  have hb : IntKind.u8.wrap (n : Int) = ((UInt8.ofNat n).toNat : Int) := by rw [wrap_u8_mod]; simp
  have hc : List.map cvByte [CV.int .u8 (IntKind.u8.wrap (n : Int))] = [UInt8.ofNat n] := by
    rw [hb]
    show [cvByte (.int .u8 ((UInt8.ofNat n).toNat : Int))] = _
    rw [cv_by]
  have hu : [CV.int .u8 (IntKind.u8.wrap (n : Int))].length = 1 ∧ ∀ x, x ∈ [CV.int .u8 (IntKind.u8.wrap (n : Int))] → isU8 x = true := ⟨rfl, fun x hx => by rw [List.mem_singleton.1 hx]; rfl⟩
  (refine sx_sound Γok _ ?_; conv => whnf)
  (repeat (first | (refine Need.mk hu ?_; conv => whnf) | (exact Out.same; conv => whnf) | (exact Out1.same; conv => whnf) | (refine QAnd.mk ?_ ?_; conv => whnf) | (apply QStepH.go; conv => whnf) | (refine Both.lit_true ?_; conv => whnf) | (refine Both.lit_false ?_; conv => whnf) | (apply QStep.go; conv => whnf) | (refine Need.au ?_; conv => whnf) | (refine ⟨_, rfl, ?_⟩; conv => whnf)))
  exact ⟨_, _, WeakV.drop (congrArg SV.str hc), h⟩
theorem one_k : Contract Tryd.prog [] 30 oneS := ⟨⟨⟨_, rfl, rfl, rfl⟩⟩, one_c⟩
end Go.LX
end
section
set_option maxRecDepth 100000
set_option maxHeartbeats 2000000
set_option autoImplicit false
set_option linter.unusedVariables false
set_option linter.unusedSimpArgs false
namespace Go.LX
open Go.Proofs

def enP (p : Pr) : List CV := [.str p.1, .str p.2]
def flP (l : List Pr) : List CV := l.flatMap enP
theorem flP_len (l : List Pr) : (flP l).length = 2 * l.length := by
  induction l with
  | nil => rfl
  | cons a l ih =>
    show (enP a ++ flP l).length = _
    rw [List.length_append, ih, List.length_cons]
    simp [enP]
    omega
theorem flP_app (l m : List Pr) : flP (l ++ m) = flP l ++ flP m := by rw [flP, List.flatMap_append]; rfl
theorem flP_take (l : List Pr) {k : Nat} (h : k ≤ l.length) : (flP l).take (2 * k) = flP (l.take k) := by
  have e : flP l = flP (l.take k) ++ flP (l.drop k) := by rw [← flP_app, List.take_append_drop]
  rw [e, List.take_append_of_le_length (by rw [flP_len, List.length_take]; omega), List.take_of_length_le (by rw [flP_len, List.length_take]; omega)]
theorem flP_drop (l : List Pr) {k : Nat} (h : k ≤ l.length) : (flP l).drop (2 * k) = flP (l.drop k) := by
  have e : flP l = flP (l.take k) ++ flP (l.drop k) := by rw [← flP_app, List.take_append_drop]
  have hl : (flP (l.take k)).length = 2 * k := by rw [flP_len, List.length_take]; omega
  rw [e, ← hl, List.drop_left]
theorem cut_lo (l : List Pr) {k : Nat} (h : k ≤ l.length) : ((flP l).take (((k : Nat) : Int).toNat * 2)).drop ((0 : Int).toNat * 2) = flP (l.take k) := by
  rw [Int.toNat_natCast, Nat.mul_comm k, flP_take l h]
  rfl
theorem cut_hi (l : List Pr) {k : Nat} (h : k ≤ l.length) : ((flP l).take (((l.length : Nat) : Int).toNat * 2)).drop (((k : Nat) : Int).toNat * 2) = flP (l.drop k) := by
  rw [Int.toNat_natCast, Int.toNat_natCast, Nat.mul_comm l.length, Nat.mul_comm k, List.take_of_length_le (by rw [flP_len]; exact Nat.le_refl _), flP_drop l h]
theorem flP_at (l : List Pr) {k : Nat} (h : k < l.length) : ((flP l).drop (((k : Nat) : Int).toNat * 2)).take 2 = [.str (l.getD k ([], [])).1, .str (l.getD k ([], [])).2] := by
  rw [Int.toNat_natCast, Nat.mul_comm, flP_drop l (by omega)]
  rw [List.drop_eq_getElem_cons h, List.getD_eq_getElem?_getD, List.getElem?_eq_getElem h]
  rfl
def okP (p : Pr) : Prop := p.1.length < 50000 ∧ p.2.length < 50000
def leafS : Spec := fun args H Q => match args, H with
  | [.agg [.str k, .str v]], [] => Need (k.length < 50000 ∧ v.length < 50000) (Q (.str (shaD (txLeaf (k, v)))) [])
  | _, _ => False
theorem leaf_c {y0 : CV} {cs0 : List CV} (hK : KAt y0 cs0) : Meets Tryd.prog [(0, y0 :: cs0)] 19 leafS := by
  refine meets_of Γok Tryd.func19 rfl ?_
  intro args H Q h
  unfold leafS at h
  split at h
  case h_2 => exact h.elim
  rename_i k v
  obtain ⟨⟨hk, hv⟩, h⟩ := h
  have hx : txLeaf (k, v) = ([[0], [UInt8.ofNat k.length], k, [UInt8.ofNat v.length], v] : List Bs).flatten := by simp [txLeaf]
  have hl : ([[0], [UInt8.ofNat k.length], k, [UInt8.ofNat v.length], v] : List Bs).flatten.length < 500000 := by simp; omega
  rw [hx] at h
  clear hx
  (refine sx_sound Γok _ ?_; conv => whnf)
  (refine DrawVC.any Γok (by kernel_rfl) (by kernel_rfl) (by kernel_rfl) (by rfl) ?_; conv => whnf)
  (repeat (first | (refine CallVC.auto (one_k.gl (G := [(0, y0 :: cs0)])) ⟨_, rfl, ?_⟩; conv => whnf) | (refine CallVC.auto (shaSum_k hK) ⟨[[0], [UInt8.ofNat k.length], k, [UInt8.ofNat v.length], v], rfl, rfl, (by decide : 5 < 1000000000), hl, ?_⟩; conv => whnf) | (exact Out.same; conv => whnf) | (exact Out1.same; conv => whnf) | (refine QAnd.mk ?_ ?_; conv => whnf) | (apply QStepH.go; conv => whnf) | (refine Both.lit_true ?_; conv => whnf) | (refine Both.lit_false ?_; conv => whnf) | (apply QStep.go; conv => whnf) | (refine Need.au ?_; conv => whnf) | (refine ⟨_, rfl, ?_⟩; conv => whnf)))
  refine ⟨_, _, WeakV.auto ?_, h⟩
  (repeat' ((conv => whnf); first | exact True.intro | (refine And.intro ?_ ?_)))
  all_goals first | rfl | exact .eq rfl
theorem leaf_k {y0 : CV} {cs0 : List CV} (hK : KAt y0 cs0) : Contract Tryd.prog [(0, y0 :: cs0)] 19 leafS := ⟨⟨⟨_, rfl, rfl, rfl⟩⟩, leaf_c hK⟩
def bothS : Spec := fun args H Q => match args, H with
  | [.str a, .str b], [] => Need (a.length < 50000 ∧ b.length < 50000) (Q (.str (shaD ([1] ++ a ++ b))) [])
  | _, _ => False
theorem both_c {y0 : CV} {cs0 : List CV} (hK : KAt y0 cs0) : Meets Tryd.prog [(0, y0 :: cs0)] 37 bothS := by
  refine meets_of Γok Tryd.func37 rfl ?_
  intro args H Q h
  unfold bothS at h
  split at h
  case h_2 => exact h.elim
  rename_i a b
  obtain ⟨⟨ha, hb⟩, h⟩ := h
  have hx : [1] ++ a ++ b = ([[1], a, b] : List Bs).flatten := by simp
  have hl : ([[1], a, b] : List Bs).flatten.length < 500000 := by simp; omega
  rw [hx] at h
  clear hx
  (refine sx_sound Γok _ ?_; conv => whnf)
  (repeat (first | (refine CallVC.auto (shaSum_k hK) ⟨[[1], a, b], rfl, rfl, (by decide : 3 < 1000000000), hl, ?_⟩; conv => whnf) | (exact Out.same; conv => whnf) | (exact Out1.same; conv => whnf) | (refine QAnd.mk ?_ ?_; conv => whnf) | (apply QStepH.go; conv => whnf) | (refine Both.lit_true ?_; conv => whnf) | (refine Both.lit_false ?_; conv => whnf) | (apply QStep.go; conv => whnf) | (refine Need.au ?_; conv => whnf) | (refine ⟨_, rfl, ?_⟩; conv => whnf)))
  exact ⟨_, _, WeakV.drop rfl, h⟩
theorem both_k {y0 : CV} {cs0 : List CV} (hK : KAt y0 cs0) : Contract Tryd.prog [(0, y0 :: cs0)] 37 bothS := ⟨⟨⟨_, rfl, rfl, rfl⟩⟩, both_c hK⟩
theorem beb8_take (n : Nat) {k : Nat} (h : k < 8) : (beb n 8).take (k + 1) = (beb n 8).take k ++ [UInt8.ofNat (n / 256 ^ (7 - k))] := by
  have hl : k < (beb n 8).length := by rw [beb_length]; exact h
  rw [List.take_succ_eq_append_getElem hl]
  congr 2
  have := beb_get n 8 k h
  rw [List.getElem?_eq_getElem hl] at this
  exact (Option.some.inj this)
theorem ofNat_mod (n : Nat) : UInt8.ofNat (n % 256) = UInt8.ofNat n := by
  apply UInt8.toNat_inj.1
  rw [UInt8.toNat_ofNat', UInt8.toNat_ofNat']
  omega
def topS : Spec := fun args H Q => match args, H with
  | [.int .i64 c, .str d], [] => Need (-9223372036854775808 ≤ c ∧ c ≤ 9223372036854775807 ∧ d.length < 50000) (Q (.str (shaD (topX c.toNat d))) [])
  | _, _ => False
theorem top_c {y0 : CV} {cs0 : List CV} (hK : KAt y0 cs0) : Meets Tryd.prog [(0, y0 :: cs0)] 17 topS := by
  refine meets_of Γok Tryd.func17 rfl ?_
  intro args H Q h
  unfold topS at h
  split at h
  case h_2 => exact h.elim
  rename_i c d
  obtain ⟨⟨hc0, hc1, hd⟩, h⟩ := h
  have hmx : IntKind.u64.wrap (max 0 c) = ((c.toNat : Nat) : Int) := by rw [wrap_u64 (by omega) (by omega)]; omega
  have hmy : max 0 c = ((c.toNat : Nat) : Int) := by omega
  have hn : c.toNat < 18446744073709551616 := by omega
  revert h hmx hmy hn
  generalize c.toNat = n
  intro h hmx hmy hn
  have hx : topX n d = ([[2], beb n 8, d] : List Bs).flatten := by simp [topX]
  have hl : ([[2], beb n 8, d] : List Bs).flatten.length < 500000 := by simp [beb_length]; omega
  rw [hx] at h
  clear hx
  have hb8 := beb_length n 8
  (refine sx_sound Γok _ ?_; conv => whnf)
  (repeat (first | (exact Out.same; conv => whnf) | (exact Out1.same; conv => whnf) | (refine QAnd.mk ?_ ?_; conv => whnf) | (apply QStepH.go; conv => whnf) | (refine Both.lit_true ?_; conv => whnf) | (refine Both.lit_false ?_; conv => whnf) | (apply QStep.go; conv => whnf) | (refine Need.au ?_; conv => whnf) | (refine ⟨_, rfl, ?_⟩; conv => whnf)))
  rw [hmx]
  refine loop_rule (fun k : Nat => ⟨[.any, .str d, .any, .any, .any, .int .u64 (n : Int), .str ((beb n 8).take k), .any, .any, .any, .any, .int .i64 (k : Int), .any, .any, .any, .any, .any, .any, .any, .any, .any, .any, .any, .any, .any, .any, .any, .any, .any], []⟩) (fun k => k ≤ 8) (fun k => 8 - k) 0 (Nat.zero_le _) (Weak.auto ?_) ?_
  · (repeat' ((conv => whnf); first | exact True.intro | (refine And.intro ?_ ?_)))
    all_goals first | rfl | exact .eq rfl
  intro k hk
  (refine sx_sound Γok _ ?_; conv => whnf)
  (repeat (first | (exact Out.same; conv => whnf) | (exact Out1.same; conv => whnf) | (refine QAnd.mk ?_ ?_; conv => whnf) | (apply QStepH.go; conv => whnf) | (refine Both.lit_true ?_; conv => whnf) | (refine Both.lit_false ?_; conv => whnf) | (apply QStep.go; conv => whnf) | (refine Need.au ?_; conv => whnf) | (refine ⟨_, rfl, ?_⟩; conv => whnf)))
  refine Both.dec (fun hlt => ?_) (fun hge => ?_)
  · have hk8 : k < 8 := by omega
    have hw1 : IntKind.i64.wrap (56 - IntKind.i64.wrap (8 * (k : Int))) = 8 * ((7 - k : Nat) : Int) := by rw [wrap_i64 (n := 8 * (k : Int)) (by omega) (by omega), wrap_i64 (by omega) (by omega)]; omega
    have hn0 : 0 ≤ IntKind.i64.wrap (56 - IntKind.i64.wrap (8 * (k : Int))) := by rw [hw1]; omega
    obtain ⟨q, hq⟩ : ∃ q, n / 256 ^ (7 - k) = q := ⟨_, rfl⟩
    have hq64 : q < 18446744073709551616 := by rw [← hq]; exact Nat.lt_of_le_of_lt (Nat.div_le_self _ _) hn
    have hsh : shrI .u64 (n : Int) (IntKind.i64.wrap (56 - IntKind.i64.wrap (8 * (k : Int)))) = (q : Int) := by
      rw [hw1, ← hq]
      unfold shrI
      have : min (8 * ((7 - k : Nat) : Int)).toNat IntKind.u64.bits = 8 * (7 - k) := by
        simp only [IntKind.bits]
        omega
      rw [this, Int.fdiv_eq_ediv_of_nonneg _ (by exact Int.pow_nonneg (by decide)), show ((2 : Int) ^ (8 * (7 - k))) = ((256 ^ (7 - k) : Nat) : Int) by rw [show (256 : Nat) = 2 ^ 8 from rfl, ← Nat.pow_mul]; simp]
      rfl
    have hand : bitAnd .u64 (shrI .u64 (n : Int) (IntKind.i64.wrap (56 - IntKind.i64.wrap (8 * (k : Int))))) 255 = ((q % 256 : Nat) : Int) := by
      rw [hsh]
      unfold bitAnd
      have e1 : BitVec.ofInt 64 (q : Int) = BitVec.ofNat 64 q := by simp
      have e2 : BitVec.ofInt 64 255 = BitVec.ofNat 64 255 := by rfl
      show IntKind.u64.wrap (((BitVec.ofInt 64 (q : Int)) &&& (BitVec.ofInt 64 255)).toNat : Int) = _
      rw [e1, e2, BitVec.toNat_and, BitVec.toNat_ofNat, BitVec.toNat_ofNat, Nat.mod_eq_of_lt hq64, show 255 % 2 ^ 64 = 2 ^ 8 - 1 from rfl, Nat.and_two_pow_sub_one_eq_mod, wrap_u64 (by omega) (by omega)]
    have hone : IntKind.i64.wrap (bitAnd .u64 (shrI .u64 (n : Int) (IntKind.i64.wrap (56 - IntKind.i64.wrap (8 * (k : Int))))) 255) = ((q % 256 : Nat) : Int) := by rw [hand, wrap_i64 (by omega) (by omega)]
    have htk := beb8_take n hk8
    rw [hq, ← ofNat_mod] at htk
    have hwr : IntKind.i64.wrap ((k : Int) + 1) = ((k + 1 : Nat) : Int) := by rw [wrap_i64 (by omega) (by omega)]; rfl
    have hlen : ((beb n 8).take k).length + [UInt8.ofNat (q % 256)].length ≤ 9223372036854775807 := by rw [List.length_take, hb8]; show _ + 1 ≤ _; omega
    (conv => whnf)
    (repeat (first | (refine Need.mk hn0 ?_; conv => whnf) | (refine CallVC.auto (one_k.gl (G := [(0, y0 :: cs0)])) ⟨_, hone, ?_⟩; conv => whnf) | (refine Need.mk hlen ?_; conv => whnf) | (exact Out.same; conv => whnf) | (exact Out1.same; conv => whnf) | (refine QAnd.mk ?_ ?_; conv => whnf) | (apply QStepH.go; conv => whnf) | (refine Both.lit_true ?_; conv => whnf) | (refine Both.lit_false ?_; conv => whnf) | (apply QStep.go; conv => whnf) | (refine Need.au ?_; conv => whnf) | (refine ⟨_, rfl, ?_⟩; conv => whnf)))
    refine ⟨k + 1, by omega, by omega, Weak.auto ?_⟩
    (repeat' ((conv => whnf); first | exact True.intro | (refine And.intro ?_ ?_)))
    all_goals first | rfl | exact .eq rfl | exact congrArg (SV.int .i64) hwr | exact congrArg SV.str htk.symm
  have hk8 : k = 8 := by omega
  subst hk8
  rw [List.take_of_length_le (by omega)]
  (conv => whnf)
  (repeat (first | (refine CallVC.auto (shaSum_k hK) ⟨[[2], beb n 8, d], rfl, rfl, (by decide : 3 < 1000000000), hl, ?_⟩; conv => whnf) | (exact Out.same; conv => whnf) | (exact Out1.same; conv => whnf) | (refine QAnd.mk ?_ ?_; conv => whnf) | (apply QStepH.go; conv => whnf) | (refine Both.lit_true ?_; conv => whnf) | (refine Both.lit_false ?_; conv => whnf) | (apply QStep.go; conv => whnf) | (refine Need.au ?_; conv => whnf) | (refine ⟨_, rfl, ?_⟩; conv => whnf)))
  exact ⟨_, _, WeakV.drop rfl, h⟩
theorem top_k {y0 : CV} {cs0 : List CV} (hK : KAt y0 cs0) : Contract Tryd.prog [(0, y0 :: cs0)] 17 topS := ⟨⟨⟨_, rfl, rfl, rfl⟩⟩, top_c hK⟩
def mdigS (m : Nat) : Spec := fun args H Q => match args, H with
  | [.sl 2 n cs f], [] => ∃ l : List Pr, n = l.length ∧ cs = flP l ∧ 0 < l.length ∧ l.length ≤ m ∧ l.length < 60000 ∧ (∀ p ∈ l, okP p) ∧ Q (.str (dgP l)) []
  | _, _ => False
theorem mdig_c {y0 : CV} {cs0 : List CV} (hK : KAt y0 cs0) : ∀ m, Meets Tryd.prog [(0, y0 :: cs0)] 27 (mdigS m)
  | 0 => by
    intro args H Q h
    unfold mdigS at h
    split at h
    case h_2 => exact h.elim
    obtain ⟨l, _, _, h1, h2, _⟩ := h
    omega
  | m + 1 => by
    have ih : Contract Tryd.prog [(0, y0 :: cs0)] 27 (mdigS m) := ⟨⟨⟨_, rfl, rfl, rfl⟩⟩, mdig_c hK m⟩
    refine meets_of Γok Tryd.func27 rfl ?_
    intro args H Q h
    unfold mdigS at h
    split at h
    case h_2 => exact h.elim
    rename_i n cs f
    obtain ⟨l, rfl, rfl, h0, hm, h60, hok, h⟩ := h
    (refine sx_sound Γok _ ?_; conv => whnf)
    (repeat (first | (exact Out.same; conv => whnf) | (exact Out1.same; conv => whnf) | (refine QAnd.mk ?_ ?_; conv => whnf) | (apply QStepH.go; conv => whnf) | (refine Both.lit_true ?_; conv => whnf) | (refine Both.lit_false ?_; conv => whnf) | (apply QStep.go; conv => whnf) | (refine Need.au ?_; conv => whnf) | (refine ⟨_, rfl, ?_⟩; conv => whnf)))
    refine Both.dec (fun hone => ?_) (fun hmore => ?_)
    · have hl1 : l.length ≤ 1 := by omega
      have hat := flP_at l (k := 0) (by omega)
      have hp := hok (l.getD 0 ([], [])) (by rw [List.getD_eq_getElem?_getD, List.getElem?_eq_getElem (by omega)]; exact List.getElem_mem _)
      rw [dgP_one hl1] at h
      have hin : ti27.size = 2 ∧ (0 : Int) ≤ 0 ∧ (0 : Int) < ((l.length : Nat) : Int) := ⟨rfl, by omega, by omega⟩
      revert hat hp h
      generalize l.getD 0 ([], []) = p
      obtain ⟨k, v⟩ := p
      intro h hat hp
      (conv => whnf)
      (repeat (first | (refine Need.mk hin ?_; conv => whnf) | (refine ⟨_, hat, ?_⟩; conv => whnf) | (exact Out.same; conv => whnf) | (exact Out1.same; conv => whnf) | (refine QAnd.mk ?_ ?_; conv => whnf) | (apply QStepH.go; conv => whnf) | (refine Both.lit_true ?_; conv => whnf) | (refine Both.lit_false ?_; conv => whnf) | (apply QStep.go; conv => whnf) | (refine Need.au ?_; conv => whnf) | (refine ⟨_, rfl, ?_⟩; conv => whnf)))
      refine CallVC.auto (leaf_k hK) (Need.mk hp ?_)
      (conv => whnf)
      (repeat (first | (exact Out.same; conv => whnf) | (exact Out1.same; conv => whnf) | (refine QAnd.mk ?_ ?_; conv => whnf) | (apply QStepH.go; conv => whnf) | (refine Both.lit_true ?_; conv => whnf) | (refine Both.lit_false ?_; conv => whnf) | (apply QStep.go; conv => whnf) | (refine Need.au ?_; conv => whnf) | (refine ⟨_, rfl, ?_⟩; conv => whnf)))
      exact ⟨_, _, WeakV.drop rfl, h⟩
    · have hn1 : ¬ l.length ≤ 1 := by omega
      have hlt := lft_lt (n := l.length) (by omega)
      have hpos := lft_pos l.length
      rw [dgP_two hn1] at h
      have hcl := cut_lo l (k := lft l.length) (by omega)
      have hch := cut_hi l (k := lft l.length) (by omega)
      have l1 : (l.take (lft l.length)).length = lft l.length := by rw [List.length_take]; omega
      have l2 : (l.drop (lft l.length)).length = l.length - lft l.length := List.length_drop
      have d1 := dgP_len (l.take (lft l.length))
      have d2 := dgP_len (l.drop (lft l.length))
      have o1 : ∀ p ∈ l.take (lft l.length), okP p := fun p hp => hok p (List.mem_of_mem_take hp)
      have o2 : ∀ p ∈ l.drop (lft l.length), okP p := fun p hp => hok p (List.mem_of_mem_drop hp)
      revert h hlt hpos hcl hch l1 l2 d1 d2 o1 o2
      generalize hg : lft l.length = g
      generalize ha : l.take g = la
      generalize hb : l.drop g = lb
      intro h hlt hpos hcl hch l1 l2 d1 d2 o1 o2
      have c1 : ti27.size = 2 ∧ (0 : Int) ≤ 0 ∧ (0 : Int) ≤ ((g : Nat) : Int) ∧ ((g : Nat) : Int) ≤ ((l.length : Nat) : Int) := ⟨rfl, by omega, by omega, by omega⟩
      have c2 : ti27.size = 2 ∧ 0 ≤ ((g : Nat) : Int) ∧ ((g : Nat) : Int) ≤ ((l.length : Nat) : Int) ∧ ((l.length : Nat) : Int) ≤ ((l.length : Nat) : Int) := ⟨rfl, by omega, by omega, by omega⟩
      have n1 : ((g : Nat) : Int).toNat - (0 : Int).toNat = la.length := by rw [l1]; rfl
      have n2 : ((l.length : Nat) : Int).toNat - ((g : Nat) : Int).toNat = lb.length := by rw [l2]; rfl
      have nb : la.length ≤ m ∧ 0 < la.length ∧ la.length < 60000 ∧ lb.length ≤ m ∧ 0 < lb.length ∧ lb.length < 60000 := by omega
      obtain ⟨b1, b2, b3, b4, b5, b6⟩ := nb
      have dd : (dgP la).length < 50000 ∧ (dgP lb).length < 50000 := by rw [d1, d2]; decide
      (conv => whnf)
      (repeat (first | (exact Out.same; conv => whnf) | (exact Out1.same; conv => whnf) | (refine QAnd.mk ?_ ?_; conv => whnf) | (apply QStepH.go; conv => whnf) | (refine Both.lit_true ?_; conv => whnf) | (refine Both.lit_false ?_; conv => whnf) | (apply QStep.go; conv => whnf) | (refine Need.au ?_; conv => whnf) | (refine ⟨_, rfl, ?_⟩; conv => whnf)))
      refine CallVC.auto (lft_k.gl (G := [(0, y0 :: cs0)])) ⟨l.length, rfl, by omega, by omega, ?_⟩
      rw [hg]
      (conv => whnf)
      (refine DrawVC.any Γok (by kernel_rfl) (by kernel_rfl) (by kernel_rfl) (by rfl) ?_; conv => whnf)
      (repeat (first | (refine Need.mk c1 ?_; conv => whnf) | (refine Need.mk c2 ?_; conv => whnf) | (refine CallVC.auto ih ⟨la, n1, hcl, b2, b1, b3, o1, ?_⟩; conv => whnf) | (refine CallVC.auto ih ⟨lb, n2, hch, b5, b4, b6, o2, ?_⟩; conv => whnf) | (refine CallVC.auto (both_k hK) (Need.mk dd ?_); conv => whnf) | (exact Out.same; conv => whnf) | (exact Out1.same; conv => whnf) | (refine QAnd.mk ?_ ?_; conv => whnf) | (apply QStepH.go; conv => whnf) | (refine Both.lit_true ?_; conv => whnf) | (refine Both.lit_false ?_; conv => whnf) | (apply QStep.go; conv => whnf) | (refine Need.au ?_; conv => whnf) | (refine ⟨_, rfl, ?_⟩; conv => whnf)))
      exact ⟨_, _, WeakV.drop rfl, h⟩
theorem mdig_k {y0 : CV} {cs0 : List CV} (hK : KAt y0 cs0) (m : Nat) : Contract Tryd.prog [(0, y0 :: cs0)] 27 (mdigS m) := ⟨⟨⟨_, rfl, rfl, rfl⟩⟩, mdig_c hK m⟩
def mrootS : Spec := fun args H Q => match args, H with
  | [.nilsl], [] => Q (.str (shaD (topX 0 []))) []
  | [.sl 2 n cs f], [] => ∃ l : List Pr, n = l.length ∧ cs = flP l ∧ l.length < 60000 ∧ (∀ p ∈ l, okP p) ∧ Q (.str (shaD (rootX l))) []
  | _, _ => False
theorem mroot_c {y0 : CV} {cs0 : List CV} (hK : KAt y0 cs0) : Meets Tryd.prog [(0, y0 :: cs0)] 12 mrootS := by
  refine meets_of Γok Tryd.func12 rfl ?_
  intro args H Q h
  unfold mrootS at h
  split at h
  case h_3 => exact h.elim
  · (refine sx_sound Γok _ ?_; conv => whnf)
    (repeat (first | (exact Out.same; conv => whnf) | (exact Out1.same; conv => whnf) | (refine QAnd.mk ?_ ?_; conv => whnf) | (apply QStepH.go; conv => whnf) | (refine Both.lit_true ?_; conv => whnf) | (refine Both.lit_false ?_; conv => whnf) | (apply QStep.go; conv => whnf) | (refine Need.au ?_; conv => whnf) | (refine ⟨_, rfl, ?_⟩; conv => whnf) | (refine Both.of_false ?_ ?_; (focus (first | rfl | (simp <;> fail))); conv => whnf) | (refine Both.of_true ?_ ?_; (focus (first | rfl | (simp <;> fail))); conv => whnf)))
    refine CallVC.auto (top_k hK) (Need.mk (by decide) ?_)
    (conv => whnf)
    (repeat (first | (exact Out.same; conv => whnf) | (exact Out1.same; conv => whnf) | (refine QAnd.mk ?_ ?_; conv => whnf) | (apply QStepH.go; conv => whnf) | (refine Both.lit_true ?_; conv => whnf) | (refine Both.lit_false ?_; conv => whnf) | (apply QStep.go; conv => whnf) | (refine Need.au ?_; conv => whnf) | (refine ⟨_, rfl, ?_⟩; conv => whnf)))
    exact ⟨_, _, WeakV.drop rfl, h⟩
  rename_i n cs f
  obtain ⟨l, rfl, rfl, h60, hok, h⟩ := h
  (refine sx_sound Γok _ ?_; conv => whnf)
  (repeat (first | (exact Out.same; conv => whnf) | (exact Out1.same; conv => whnf) | (refine QAnd.mk ?_ ?_; conv => whnf) | (apply QStepH.go; conv => whnf) | (refine Both.lit_true ?_; conv => whnf) | (refine Both.lit_false ?_; conv => whnf) | (apply QStep.go; conv => whnf) | (refine Need.au ?_; conv => whnf) | (refine ⟨_, rfl, ?_⟩; conv => whnf)))
  refine Both.dec (fun hz => ?_) (fun hnz => ?_)
  · have hl0 : l.length = 0 := by omega
    unfold rootX at h
    rw [if_pos hl0] at h
    (conv => whnf)
    (repeat (first | (exact Out.same; conv => whnf) | (exact Out1.same; conv => whnf) | (refine QAnd.mk ?_ ?_; conv => whnf) | (apply QStepH.go; conv => whnf) | (refine Both.lit_true ?_; conv => whnf) | (refine Both.lit_false ?_; conv => whnf) | (apply QStep.go; conv => whnf) | (refine Need.au ?_; conv => whnf) | (refine ⟨_, rfl, ?_⟩; conv => whnf)))
    refine CallVC.auto (top_k hK) (Need.mk (by decide) ?_)
    (conv => whnf)
    (repeat (first | (exact Out.same; conv => whnf) | (exact Out1.same; conv => whnf) | (refine QAnd.mk ?_ ?_; conv => whnf) | (apply QStepH.go; conv => whnf) | (refine Both.lit_true ?_; conv => whnf) | (refine Both.lit_false ?_; conv => whnf) | (apply QStep.go; conv => whnf) | (refine Need.au ?_; conv => whnf) | (refine ⟨_, rfl, ?_⟩; conv => whnf)))
    exact ⟨_, _, WeakV.drop rfl, h⟩
  · have hl0 : ¬ l.length = 0 := by omega
    unfold rootX at h
    rw [if_neg hl0] at h
    have hd := dgP_len l
    have hc : -9223372036854775808 ≤ ((l.length : Nat) : Int) ∧ ((l.length : Nat) : Int) ≤ 9223372036854775807 ∧ (dgP l).length < 50000 := ⟨by omega, by omega, by omega⟩
    (conv => whnf)
    (repeat (first | (exact Out.same; conv => whnf) | (exact Out1.same; conv => whnf) | (refine QAnd.mk ?_ ?_; conv => whnf) | (apply QStepH.go; conv => whnf) | (refine Both.lit_true ?_; conv => whnf) | (refine Both.lit_false ?_; conv => whnf) | (apply QStep.go; conv => whnf) | (refine Need.au ?_; conv => whnf) | (refine ⟨_, rfl, ?_⟩; conv => whnf)))
    refine CallVC.auto (mdig_k hK l.length) ⟨l, rfl, rfl, by omega, Nat.le_refl _, h60, hok, ?_⟩
    (conv => whnf)
    (repeat (first | (exact Out.same; conv => whnf) | (exact Out1.same; conv => whnf) | (refine QAnd.mk ?_ ?_; conv => whnf) | (apply QStepH.go; conv => whnf) | (refine Both.lit_true ?_; conv => whnf) | (refine Both.lit_false ?_; conv => whnf) | (apply QStep.go; conv => whnf) | (refine Need.au ?_; conv => whnf) | (refine ⟨_, rfl, ?_⟩; conv => whnf)))
    refine CallVC.auto (top_k hK) (Need.mk hc ?_)
    (conv => whnf)
    (repeat (first | (exact Out.same; conv => whnf) | (exact Out1.same; conv => whnf) | (refine QAnd.mk ?_ ?_; conv => whnf) | (apply QStepH.go; conv => whnf) | (refine Both.lit_true ?_; conv => whnf) | (refine Both.lit_false ?_; conv => whnf) | (apply QStep.go; conv => whnf) | (refine Need.au ?_; conv => whnf) | (refine ⟨_, rfl, ?_⟩; conv => whnf)))
    exact ⟨_, _, WeakV.drop rfl, h⟩
theorem mroot_k {y0 : CV} {cs0 : List CV} (hK : KAt y0 cs0) : Contract Tryd.prog [(0, y0 :: cs0)] 12 mrootS := ⟨⟨⟨_, rfl, rfl, rfl⟩⟩, mroot_c hK⟩
end Go.LX
end
section
set_option maxRecDepth 100000
set_option maxHeartbeats 2000000
set_option autoImplicit false
set_option linter.unusedVariables false
set_option linter.unusedSimpArgs false
namespace Go.LX
open Go.Proofs

def inB (H : List LObj) (c : List Bs → Prop) : Prop :=
  match H with
  | [.cells [.sl 1 64 ka false, .sl 1 8 kb false, .mp 1, .bool cl] 35, .map 2 es] => ∃ T, ka = ks kT ∧ kb = ks hT ∧ cl = bcl T ∧ es = bes T ∧ c T
  | _ => False
theorem inB_out {H : List LObj} {c : List Bs → Prop} (h : inB H c) : ∃ T, H = bkO T ∧ c T := by
  unfold inB at h
  split at h
  · obtain ⟨T, rfl, rfl, rfl, rfl, h⟩ := h
    exact ⟨T, rfl, h⟩
  · exact h.elim
theorem inB_mk {T : List Bs} {c : List Bs → Prop} (h : c T) : inB (bkO T) c := ⟨T, rfl, rfl, rfl, rfl, h⟩
def rleafS : Spec := fun args H Q => match args with
  | [.ptr 0 0, .agg [.str k, .str v]] => inB H fun T => k.length < 50000 ∧ v.length < 50000 ∧ Q (.str (shaD (txLeaf (k, v)))) (bkO (txLeaf (k, v) :: T))
  | _ => False
theorem beb_one (n : Nat) : beb n 1 = [UInt8.ofNat n] := by
  show [UInt8.ofNat (n / 256 ^ 0)] = _
  rw [Nat.pow_zero, Nat.div_one]
theorem rleaf_c : Meets Tryd.prog [] 20 rleafS := by
  refine meets_of Γok Tryd.func20 rfl ?_
  intro args H Q h
  unfold rleafS at h
  split at h
  case h_2 => exact h.elim
  rename_i k v
  obtain ⟨T, rfl, hk, hv, h⟩ := inB_out h
  have hx : ((([0] ++ beb k.length 1) ++ k) ++ beb v.length 1) ++ v = txLeaf (k, v) := by rw [beb_one, beb_one]; rfl
  have hxl : (txLeaf (k, v)).length < 900000 := by simp [txLeaf]; omega
  have hwk : IntKind.u64.wrap ((k.length : Nat) : Int) = ((k.length : Nat) : Int) := wrap_u64 (by omega) (by omega)
  have hwv : IntKind.u64.wrap ((v.length : Nat) : Int) = ((v.length : Nat) : Int) := wrap_u64 (by omega) (by omega)
  have hkb : k.length < 18446744073709551616 := by omega
  have hvb : v.length < 18446744073709551616 := by omega
  have n1 : ([0] : Bs).length + (beb k.length 1).length ≤ 9223372036854775807 := by rw [beb_length]; decide
  have n2 : ([0] ++ beb k.length 1 : Bs).length + k.length ≤ 9223372036854775807 := by rw [List.length_append, beb_length]; show 1 + 1 + _ ≤ _; omega
  have n3 : (([0] ++ beb k.length 1) ++ k : Bs).length + (beb v.length 1).length ≤ 9223372036854775807 := by rw [List.length_append, List.length_append, beb_length, beb_length]; show 1 + 1 + _ + 1 ≤ _; omega
  have n4 : ((([0] ++ beb k.length 1) ++ k) ++ beb v.length 1 : Bs).length + v.length ≤ 9223372036854775807 := by rw [List.length_append, List.length_append, List.length_append, beb_length, beb_length]; show 1 + 1 + _ + 1 + _ ≤ _; omega
  rw [← hx] at h hxl
  (refine sx_sound Γok _ ?_; conv => whnf)
  (refine DrawVC.any Γok (by kernel_rfl) (by kernel_rfl) (by kernel_rfl) (by rfl) ?_; conv => whnf)
  (repeat (first | (refine CallVC.auto rb_k ⟨k.length, 1, hwk, hkb, rfl, by decide, ?_⟩; conv => whnf) | (refine CallVC.auto rb_k ⟨v.length, 1, hwv, hvb, rfl, by decide, ?_⟩; conv => whnf) | (refine Need.mk n1 ?_; conv => whnf) | (refine Need.mk n2 ?_; conv => whnf) | (refine Need.mk n3 ?_; conv => whnf) | (refine Need.mk n4 ?_; conv => whnf) | (refine CallVC.auto bsum_k ⟨T, rfl, rfl, rfl, rfl, hxl, ?_⟩; conv => whnf) | (exact Out.same; conv => whnf) | (exact Out1.same; conv => whnf) | (refine QAnd.mk ?_ ?_; conv => whnf) | (apply QStepH.go; conv => whnf) | (refine Both.lit_true ?_; conv => whnf) | (refine Both.lit_false ?_; conv => whnf) | (apply QStep.go; conv => whnf) | (refine Need.au ?_; conv => whnf) | (refine ⟨_, rfl, ?_⟩; conv => whnf)))
  refine ⟨_, _, WeakV.auto ?_, h⟩
  (repeat' ((conv => whnf); first | exact True.intro | (refine And.intro ?_ ?_)))
  all_goals first | rfl | exact .eq rfl
theorem rleaf_k : Contract Tryd.prog [] 20 rleafS := ⟨⟨⟨_, rfl, rfl, rfl⟩⟩, rleaf_c⟩
def rlftS : Spec := fun args H Q => match args, H with
  | [.int .i64 x], [] => ∃ n : Nat, x = n ∧ 1 < n ∧ n < 65536 ∧ Q (.int .i64 ((lft n : Nat) : Int)) []
  | _, _ => False
theorem rlft_c : Meets Tryd.prog [] 35 rlftS := by
  refine meets_of Γok Tryd.func35 rfl ?_
  intro args H Q h
  unfold rlftS at h
  split at h
  case h_2 => exact h.elim
  obtain ⟨n, rfl, h1, h2, h⟩ := h
  (refine sx_sound Γok _ ?_; conv => whnf)
  (repeat (first | (exact Out.same; conv => whnf) | (exact Out1.same; conv => whnf) | (refine QAnd.mk ?_ ?_; conv => whnf) | (apply QStepH.go; conv => whnf) | (refine Both.lit_true ?_; conv => whnf) | (refine Both.lit_false ?_; conv => whnf) | (apply QStep.go; conv => whnf) | (refine Need.au ?_; conv => whnf) | (refine ⟨_, rfl, ?_⟩; conv => whnf)))
  refine loop_rule (fun j : Nat => ⟨[.int .i64 (n : Int), .any, .any, .int .i64 ((2 ^ j : Nat) : Int), .any, .any, .any, .any, .any, .any, .any], []⟩) (fun j => 2 ^ j < n) (fun j => n - 2 ^ j) 0 (by show 1 < n; exact h1) (Weak.auto ?_) ?_
  · (repeat' ((conv => whnf); first | exact True.intro | (refine And.intro ?_ ?_)))
    all_goals first | rfl | exact .eq rfl
  intro j hj
  have hp : (2 : Nat) ^ (j + 1) = 2 * 2 ^ j := by rw [Nat.pow_succ]; omega
  have hpos : 0 < 2 ^ j := Nat.pow_pos (by decide)
  have hlf : ¬ 2 * 2 ^ j < n → lft n = 2 ^ j := fun h => lft_eq hj (by omega)
  revert hj hp hpos hlf
  generalize hz1 : 2 ^ (j + 1) = z1
  generalize 2 ^ j = z
  intro hj hp hpos hlf
  have hw : IntKind.i64.wrap ((z : Int) * 2) = ((2 * z : Nat) : Int) := by rw [wrap_i64 (by omega) (by omega)]; omega
  have hw2 : IntKind.i64.wrap ((z : Int) * 2) = ((2 ^ (j + 1) : Nat) : Int) := by rw [hw, hz1, hp]
  (refine sx_sound Γok _ ?_; conv => whnf)
  (repeat (first | (exact Out.same; conv => whnf) | (exact Out1.same; conv => whnf) | (refine QAnd.mk ?_ ?_; conv => whnf) | (apply QStepH.go; conv => whnf) | (refine Both.lit_true ?_; conv => whnf) | (refine Both.lit_false ?_; conv => whnf) | (apply QStep.go; conv => whnf) | (refine Need.au ?_; conv => whnf) | (refine ⟨_, rfl, ?_⟩; conv => whnf)))
  refine Both.dec (fun hlt => ?_) (fun hge => ?_)
  · rw [hw] at hlt
    (conv => whnf)
    (repeat (first | (exact Out.same; conv => whnf) | (exact Out1.same; conv => whnf) | (refine QAnd.mk ?_ ?_; conv => whnf) | (apply QStepH.go; conv => whnf) | (refine Both.lit_true ?_; conv => whnf) | (refine Both.lit_false ?_; conv => whnf) | (apply QStep.go; conv => whnf) | (refine Need.au ?_; conv => whnf) | (refine ⟨_, rfl, ?_⟩; conv => whnf)))
    refine ⟨j + 1, by show 2 ^ (j + 1) < n; omega, by show n - 2 ^ (j + 1) < n - z; omega, Weak.auto ?_⟩
    (repeat' ((conv => whnf); first | exact True.intro | (refine And.intro ?_ ?_)))
    all_goals first | rfl | exact .eq rfl | exact congrArg (SV.int .i64) hw2
  · rw [hw] at hge
    rw [hlf (by omega)] at h
    (conv => whnf)
    (repeat (first | (exact Out.same; conv => whnf) | (exact Out1.same; conv => whnf) | (refine QAnd.mk ?_ ?_; conv => whnf) | (apply QStepH.go; conv => whnf) | (refine Both.lit_true ?_; conv => whnf) | (refine Both.lit_false ?_; conv => whnf) | (apply QStep.go; conv => whnf) | (refine Need.au ?_; conv => whnf) | (refine ⟨_, rfl, ?_⟩; conv => whnf)))
    exact ⟨_, _, WeakV.drop rfl, h⟩
theorem rlft_k : Contract Tryd.prog [] 35 rlftS := ⟨⟨⟨_, rfl, rfl, rfl⟩⟩, rlft_c⟩
def rtopS : Spec := fun args H Q => match args with
  | [.ptr 0 0, .int .i64 c, .str d] => inB H fun T => -9223372036854775808 ≤ c ∧ c ≤ 9223372036854775807 ∧ d.length < 50000 ∧ Q (.str (shaD (topX c.toNat d))) (bkO (topX c.toNat d :: T))
  | _ => False
theorem rtop_c : Meets Tryd.prog [] 18 rtopS := by
  refine meets_of Γok Tryd.func18 rfl ?_
  intro args H Q h
  unfold rtopS at h
  split at h
  case h_2 => exact h.elim
  rename_i c d
  obtain ⟨T, rfl, hc0, hc1, hd, h⟩ := inB_out h
  have hx : ∀ n, ([2] ++ beb n 8) ++ d = topX n d := fun n => rfl
  have hxl : ∀ n, (topX n d).length < 900000 := fun n => by simp [topX, beb_length]; omega
  have n1 : ∀ n, ([2] : Bs).length + (beb n 8).length ≤ 9223372036854775807 := fun n => by rw [beb_length]; decide
  have n2 : ∀ n, ([2] ++ beb n 8 : Bs).length + d.length ≤ 9223372036854775807 := fun n => by rw [List.length_append, beb_length]; show 1 + 8 + _ ≤ _; omega
  (refine sx_sound Γok _ ?_; conv => whnf)
  (repeat (first | (exact Out.same; conv => whnf) | (exact Out1.same; conv => whnf) | (refine QAnd.mk ?_ ?_; conv => whnf) | (apply QStepH.go; conv => whnf) | (refine Both.lit_true ?_; conv => whnf) | (refine Both.lit_false ?_; conv => whnf) | (apply QStep.go; conv => whnf) | (refine Need.au ?_; conv => whnf) | (refine ⟨_, rfl, ?_⟩; conv => whnf)))
  refine Both.dec (fun hneg => ?_) (fun hpos => ?_)
  · have hz : c.toNat = 0 := by omega
    have hw : IntKind.u64.wrap (0 : Int) = ((0 : Nat) : Int) := by decide
    rw [hz] at h
    (conv => whnf)
    (repeat (first | (refine CallVC.auto rb_k ⟨0, 8, hw, by decide, rfl, by decide, ?_⟩; conv => whnf) | (refine Need.mk (n1 0) ?_; conv => whnf) | (refine Need.mk (n2 0) ?_; conv => whnf) | (refine CallVC.auto bsum_k ⟨T, rfl, rfl, rfl, rfl, hxl 0, ?_⟩; conv => whnf) | (exact Out.same; conv => whnf) | (exact Out1.same; conv => whnf) | (refine QAnd.mk ?_ ?_; conv => whnf) | (apply QStepH.go; conv => whnf) | (refine Both.lit_true ?_; conv => whnf) | (refine Both.lit_false ?_; conv => whnf) | (apply QStep.go; conv => whnf) | (refine Need.au ?_; conv => whnf) | (refine ⟨_, rfl, ?_⟩; conv => whnf)))
    refine ⟨_, _, WeakV.auto ?_, h⟩
    (repeat' ((conv => whnf); first | exact True.intro | (refine And.intro ?_ ?_)))
    all_goals first | rfl | exact .eq rfl
  · have hw : IntKind.u64.wrap c = ((c.toNat : Nat) : Int) := by rw [wrap_u64 (by omega) (by omega)]; omega
    have hb : c.toNat < 18446744073709551616 := by omega
    revert h hw hb
    generalize c.toNat = n
    intro h hw hb
    (conv => whnf)
    (repeat (first | (refine CallVC.auto rb_k ⟨n, 8, hw, hb, rfl, by decide, ?_⟩; conv => whnf) | (refine Need.mk (n1 n) ?_; conv => whnf) | (refine Need.mk (n2 n) ?_; conv => whnf) | (refine CallVC.auto bsum_k ⟨T, rfl, rfl, rfl, rfl, hxl n, ?_⟩; conv => whnf) | (exact Out.same; conv => whnf) | (exact Out1.same; conv => whnf) | (refine QAnd.mk ?_ ?_; conv => whnf) | (apply QStepH.go; conv => whnf) | (refine Both.lit_true ?_; conv => whnf) | (refine Both.lit_false ?_; conv => whnf) | (apply QStep.go; conv => whnf) | (refine Need.au ?_; conv => whnf) | (refine ⟨_, rfl, ?_⟩; conv => whnf)))
    refine ⟨_, _, WeakV.auto ?_, h⟩
    (repeat' ((conv => whnf); first | exact True.intro | (refine And.intro ?_ ?_)))
    all_goals first | rfl | exact .eq rfl
theorem rtop_k : Contract Tryd.prog [] 18 rtopS := ⟨⟨⟨_, rfl, rfl, rfl⟩⟩, rtop_c⟩
end Go.LX
end
section
set_option maxRecDepth 100000
set_option maxHeartbeats 1000000
set_option autoImplicit false
set_option linter.unusedVariables false
set_option linter.unusedSimpArgs false
namespace Go.LX
open Go.Proofs

def NoC (U : List Bs) : Prop := ∀ s ∈ U, ∀ t ∈ U, shaD s = shaD t → s = t
theorem noc_of {T : List Bs} (h : bcl T = false) : NoC T := fun s hs t ht e => bcl_inj h hs ht e
def short (p : Pr) : Prop := p.1.length < 256 ∧ p.2.length < 256
theorem u8_inj {a b : Nat} (ha : a < 256) (hb : b < 256) (h : UInt8.ofNat a = UInt8.ofNat b) : a = b := by
  have := congrArg UInt8.toNat h
  rw [UInt8.toNat_ofNat', UInt8.toNat_ofNat'] at this
  omega
theorem leaf_inj {p q : Pr} (hp : short p) (hq : short q) (h : txLeaf p = txLeaf q) : p = q := by
  have e : ∀ p : Pr, txLeaf p = 0 :: UInt8.ofNat p.1.length :: (p.1 ++ UInt8.ofNat p.2.length :: p.2) := fun p => by simp [txLeaf]
  rw [e, e] at h
  have h1 := (List.cons.inj h).2
  have h2 := (List.cons.inj h1).2
  have e1 := u8_inj hp.1 hq.1 (List.cons.inj h1).1
  obtain ⟨h3, h4⟩ := List.append_inj h2 e1
  exact Prod.ext h3 (List.cons.inj h4).2
theorem dgT_mem : ∀ (m : Nat) (l : List Pr) (T : List Bs), l.length ≤ m → ∀ x, x ∈ dgT l T ↔ x ∈ dgT l [] ∨ x ∈ T
  | 0, l, T, hm, x => by
    rw [dgT_one (by omega), dgT_one (by omega)]
    simp
  | m + 1, l, T, hm, x => by
    by_cases h : l.length ≤ 1
    · rw [dgT_one h, dgT_one h]
      simp
    · have hlt := lft_lt (n := l.length) (by omega)
      have hpos := lft_pos l.length
      have e1 : (l.take (lft l.length)).length ≤ m := by rw [List.length_take]; omega
      have e2 : (l.drop (lft l.length)).length ≤ m := by rw [List.length_drop]; omega
      rw [dgT_two h, dgT_two h, List.mem_cons, List.mem_cons, dgT_mem m _ (dgT _ T) e2, dgT_mem m _ (dgT _ []) e2, dgT_mem m _ T e1, dgT_mem m _ [] e1]
      simp only [List.not_mem_nil, or_false]
      constructor
      · rintro (h1 | h1 | h1 | h1)
        · exact .inl (.inl h1)
        · exact .inl (.inr (.inl h1))
        · exact .inl (.inr (.inr h1))
        · exact .inr h1
      · rintro ((h1 | h1 | h1) | h1)
        · exact .inl h1
        · exact .inr (.inl h1)
        · exact .inr (.inr (.inl h1))
        · exact .inr (.inr (.inr h1))
theorem dg_parts {l : List Pr} (h : ¬ l.length ≤ 1) {U : List Bs} (hU : ∀ x ∈ dgT l [], x ∈ U) :
    ([1] ++ dgP (l.take (lft l.length)) ++ dgP (l.drop (lft l.length))) ∈ U ∧ (∀ x ∈ dgT (l.take (lft l.length)) [], x ∈ U) ∧ (∀ x ∈ dgT (l.drop (lft l.length)) [], x ∈ U) := by
  rw [dgT_two h] at hU
  refine ⟨hU _ List.mem_cons_self, fun x hx => ?_, fun x hx => ?_⟩
  · refine hU x (List.mem_cons_of_mem _ ?_)
    exact (dgT_mem _ _ _ (Nat.le_refl _) x).2 (.inr hx)
  · refine hU x (List.mem_cons_of_mem _ ?_)
    exact (dgT_mem _ _ _ (Nat.le_refl _) x).2 (.inl hx)
theorem two_inj {a b c d : Bs} (hl : a.length = c.length) (h : ([1] : Bs) ++ a ++ b = [1] ++ c ++ d) : a = c ∧ b = d := by
  rw [List.append_assoc, List.append_assoc] at h
  exact List.append_inj (List.append_cancel_left h) hl
theorem getD_pair (l : List Pr) (h : l.length = 1) : l = [l.getD 0 ([], [])] := by
  match l, h with
  | [p], _ => rfl
theorem dg_inj {U : List Bs} (hU : NoC U) : ∀ (m : Nat) (l l' : List Pr), l.length ≤ m → 0 < l.length → l.length = l'.length → (∀ x ∈ dgT l [], x ∈ U) → (∀ x ∈ dgT l' [], x ∈ U) →
    (∀ p ∈ l, short p) → (∀ p ∈ l', short p) → dgP l = dgP l' → l = l'
  | 0, l, l', hm, h0, _, _, _, _, _, _ => by omega
  | m + 1, l, l', hm, h0, hl, h1, h2, s1, s2, he => by
    by_cases h : l.length ≤ 1
    · have e1 : l.length = 1 := by omega
      have e2 : l'.length = 1 := by omega
      rw [dgP_one h, dgP_one (by omega)] at he
      have ht := hU _ (h1 _ (by rw [dgT_one h]; exact List.mem_cons_self)) _ (h2 _ (by rw [dgT_one (by omega)]; exact List.mem_cons_self)) he
      rw [getD_pair l e1] at s1
      rw [getD_pair l' e2] at s2
      have := leaf_inj (s1 _ List.mem_cons_self) (s2 _ List.mem_cons_self) ht
      rw [getD_pair l e1, getD_pair l' e2, this]
    · have h' : ¬ l'.length ≤ 1 := by omega
      have hlt := lft_lt (n := l.length) (by omega)
      have hpos := lft_pos l.length
      obtain ⟨a1, a2, a3⟩ := dg_parts h h1
      obtain ⟨b1, b2, b3⟩ := dg_parts h' h2
      rw [dgP_two h, dgP_two h'] at he
      have ht := hU _ a1 _ b1 he
      obtain ⟨t1, t2⟩ := two_inj (by rw [dgP_len, dgP_len]) ht
      rw [← hl] at t1 t2 b2 b3
      have q1 := dg_inj hU m (l.take (lft l.length)) (l'.take (lft l.length)) (by rw [List.length_take]; omega) (by rw [List.length_take]; omega) (by rw [List.length_take, List.length_take]; omega) a2 b2
        (fun p hp => s1 p (List.mem_of_mem_take hp)) (fun p hp => s2 p (List.mem_of_mem_take hp)) t1
      have q2 := dg_inj hU m (l.drop (lft l.length)) (l'.drop (lft l.length)) (by rw [List.length_drop]; omega) (by rw [List.length_drop]; omega) (by rw [List.length_drop, List.length_drop]; omega) a3 b3
        (fun p hp => s1 p (List.mem_of_mem_drop hp)) (fun p hp => s2 p (List.mem_of_mem_drop hp)) t2
      rw [← List.take_append_drop (lft l.length) l, q1, q2, List.take_append_drop]
theorem top_inj {c c' : Nat} {d d' : Bs} (hc : c < 256 ^ 8) (hc' : c' < 256 ^ 8) (h : topX c d = topX c' d') : c = c' ∧ d = d' := by
  unfold topX at h
  rw [List.append_assoc, List.append_assoc] at h
  obtain ⟨h1, h2⟩ := List.append_inj (List.append_cancel_left h) (by rw [beb_length, beb_length])
  exact ⟨beb_inj hc hc' h1, h2⟩
theorem rootT_mem (l : List Pr) (T : List Bs) : (∀ x, x ∈ rootT l T ↔ x ∈ rootT l [] ∨ x ∈ T) ∧ rootX l ∈ rootT l [] ∧ (0 < l.length → ∀ x ∈ dgT l [], x ∈ rootT l []) := by
  unfold rootT rootX
  by_cases h : l.length = 0
  · rw [if_pos h, if_pos h, if_pos h]
    exact ⟨fun x => by simp, List.mem_cons_self, fun h9 => by omega⟩
  · rw [if_neg h, if_neg h, if_neg h]
    refine ⟨fun x => ?_, List.mem_cons_self, fun _ x hx => List.mem_cons_of_mem _ hx⟩
    rw [List.mem_cons, List.mem_cons, dgT_mem _ l T (Nat.le_refl _), or_assoc]
theorem root_inj {l l' : List Pr} (s1 : ∀ p ∈ l, short p) (s2 : ∀ p ∈ l', short p) (b1 : l.length < 256 ^ 8) (b2 : l'.length < 256 ^ 8) (hc : bcl (rootT l' (rootT l [])) = false) (h : shaD (rootX l) = shaD (rootX l')) : l = l' := by
  have hU := noc_of hc
  have m1 := rootT_mem l []
  have m2 := rootT_mem l' (rootT l [])
  have u1 : ∀ x ∈ rootT l [], x ∈ rootT l' (rootT l []) := fun x hx => (m2.1 x).2 (.inr hx)
  have u2 : ∀ x ∈ rootT l' [], x ∈ rootT l' (rootT l []) := fun x hx => (m2.1 x).2 (.inl hx)
  have ht := hU _ (u1 _ m1.2.1) _ (u2 _ m2.2.1) h
  unfold rootX at ht
  by_cases h0 : l.length = 0
  · rw [if_pos h0] at ht
    by_cases h0' : l'.length = 0
    · rw [List.eq_nil_of_length_eq_zero h0, List.eq_nil_of_length_eq_zero h0']
    · rw [if_neg h0'] at ht
      exact absurd (top_inj (by decide) b2 ht).1 (by omega)
  · rw [if_neg h0] at ht
    by_cases h0' : l'.length = 0
    · rw [if_pos h0'] at ht
      exact absurd (top_inj b1 (by decide) ht).1 (by omega)
    · rw [if_neg h0'] at ht
      obtain ⟨e1, e2⟩ := top_inj b1 b2 ht
      exact dg_inj hU _ l l' (Nat.le_refl _) (by omega) e1 (fun x hx => u1 x (m1.2.2 (by omega) x hx)) (fun x hx => u2 x (m2.2.2 (by omega) x hx)) s1 s2 e2
end Go.LX
end
section
set_option maxRecDepth 100000
set_option maxHeartbeats 2000000
set_option autoImplicit false
set_option linter.unusedVariables false
set_option linter.unusedSimpArgs false
namespace Go.LX
open Go.Proofs

def rdgS (m : Nat) : Spec := fun args H Q => match args with
  | [.ptr 0 0, .sl 2 n cs f] => inB H fun T => ∃ l : List Pr, n = l.length ∧ cs = flP l ∧ 0 < l.length ∧ l.length ≤ m ∧ l.length < 60000 ∧ (∀ p ∈ l, okP p) ∧ Q (.str (dgP l)) (bkO (dgT l T))
  | _ => False
theorem rdg_c : ∀ m, Meets Tryd.prog [] 29 (rdgS m)
  | 0 => by
    intro args H Q h
    unfold rdgS at h
    split at h
    case h_2 => exact h.elim
    obtain ⟨T, rfl, l, _, _, h1, h2, _⟩ := inB_out h
    omega
  | m + 1 => by
    have ih : Contract Tryd.prog [] 29 (rdgS m) := ⟨⟨⟨_, rfl, rfl, rfl⟩⟩, rdg_c m⟩
    refine meets_of Γok Tryd.func29 rfl ?_
    intro args H Q h
    unfold rdgS at h
    split at h
    case h_2 => exact h.elim
    rename_i n cs f
    obtain ⟨T, rfl, l, rfl, rfl, h0, hm, h60, hok, h⟩ := inB_out h
    (refine sx_sound Γok _ ?_; conv => whnf)
    (repeat (first | (exact Out.same; conv => whnf) | (exact Out1.same; conv => whnf) | (refine QAnd.mk ?_ ?_; conv => whnf) | (apply QStepH.go; conv => whnf) | (refine Both.lit_true ?_; conv => whnf) | (refine Both.lit_false ?_; conv => whnf) | (apply QStep.go; conv => whnf) | (refine Need.au ?_; conv => whnf) | (refine ⟨_, rfl, ?_⟩; conv => whnf)))
    refine Both.dec (fun hone => ?_) (fun hmore => ?_)
    · have hl1 : l.length ≤ 1 := by omega
      have hat := flP_at l (k := 0) (by omega)
      have hp := hok (l.getD 0 ([], [])) (by rw [List.getD_eq_getElem?_getD, List.getElem?_eq_getElem (by omega)]; exact List.getElem_mem _)
      rw [dgP_one hl1, dgT_one hl1] at h
      have hin : ti27.size = 2 ∧ (0 : Int) ≤ 0 ∧ (0 : Int) < ((l.length : Nat) : Int) := ⟨rfl, by omega, by omega⟩
      revert hat hp h
      generalize l.getD 0 ([], []) = p
      obtain ⟨k, v⟩ := p
      intro h hat hp
      (conv => whnf)
      (repeat (first | (refine Need.mk hin ?_; conv => whnf) | (refine ⟨_, hat, ?_⟩; conv => whnf) | (exact Out.same; conv => whnf) | (exact Out1.same; conv => whnf) | (refine QAnd.mk ?_ ?_; conv => whnf) | (apply QStepH.go; conv => whnf) | (refine Both.lit_true ?_; conv => whnf) | (refine Both.lit_false ?_; conv => whnf) | (apply QStep.go; conv => whnf) | (refine Need.au ?_; conv => whnf) | (refine ⟨_, rfl, ?_⟩; conv => whnf)))
      refine CallVC.auto rleaf_k (inB_mk ⟨hp.1, hp.2, ?_⟩)
      (conv => whnf)
      (repeat (first | (exact Out.same; conv => whnf) | (exact Out1.same; conv => whnf) | (refine QAnd.mk ?_ ?_; conv => whnf) | (apply QStepH.go; conv => whnf) | (refine Both.lit_true ?_; conv => whnf) | (refine Both.lit_false ?_; conv => whnf) | (apply QStep.go; conv => whnf) | (refine Need.au ?_; conv => whnf) | (refine ⟨_, rfl, ?_⟩; conv => whnf)))
      refine ⟨_, _, WeakV.auto ?_, h⟩
      (repeat' ((conv => whnf); first | exact True.intro | (refine And.intro ?_ ?_)))
      all_goals first | rfl | exact .eq rfl
    · have hn1 : ¬ l.length ≤ 1 := by omega
      have hlt := lft_lt (n := l.length) (by omega)
      have hpos := lft_pos l.length
      rw [dgP_two hn1, dgT_two hn1] at h
      have hcl := cut_lo l (k := lft l.length) (by omega)
      have hch := cut_hi l (k := lft l.length) (by omega)
      have l1 : (l.take (lft l.length)).length = lft l.length := by rw [List.length_take]; omega
      have l2 : (l.drop (lft l.length)).length = l.length - lft l.length := List.length_drop
      have d1 := dgP_len (l.take (lft l.length))
      have d2 := dgP_len (l.drop (lft l.length))
      have o1 : ∀ p ∈ l.take (lft l.length), okP p := fun p hp => hok p (List.mem_of_mem_take hp)
      have o2 : ∀ p ∈ l.drop (lft l.length), okP p := fun p hp => hok p (List.mem_of_mem_drop hp)
      revert h hlt hpos hcl hch l1 l2 d1 d2 o1 o2
      generalize hg : lft l.length = g
      generalize ha : l.take g = la
      generalize hb : l.drop g = lb
      intro h hlt hpos hcl hch l1 l2 d1 d2 o1 o2
      have c1 : ti27.size = 2 ∧ (0 : Int) ≤ 0 ∧ (0 : Int) ≤ ((g : Nat) : Int) ∧ ((g : Nat) : Int) ≤ ((l.length : Nat) : Int) := ⟨rfl, by omega, by omega, by omega⟩
      have c2 : ti27.size = 2 ∧ 0 ≤ ((g : Nat) : Int) ∧ ((g : Nat) : Int) ≤ ((l.length : Nat) : Int) ∧ ((l.length : Nat) : Int) ≤ ((l.length : Nat) : Int) := ⟨rfl, by omega, by omega, by omega⟩
      have n1 : ((g : Nat) : Int).toNat - (0 : Int).toNat = la.length := by rw [l1]; rfl
      have n2 : ((l.length : Nat) : Int).toNat - ((g : Nat) : Int).toNat = lb.length := by rw [l2]; rfl
      have nb : la.length ≤ m ∧ 0 < la.length ∧ la.length < 60000 ∧ lb.length ≤ m ∧ 0 < lb.length ∧ lb.length < 60000 := by omega
      obtain ⟨b1, b2, b3, b4, b5, b6⟩ := nb
      have s1 : ([1] : Bs).length + (dgP la).length ≤ 9223372036854775807 := by rw [d1]; decide
      have s2 : ([1] ++ dgP la : Bs).length + (dgP lb).length ≤ 9223372036854775807 := by rw [List.length_append, d1, d2]; decide
      have s3 : ([1] ++ dgP la ++ dgP lb : Bs).length < 900000 := by rw [List.length_append, List.length_append, d1, d2]; decide
      (conv => whnf)
      (repeat (first | (exact Out.same; conv => whnf) | (exact Out1.same; conv => whnf) | (refine QAnd.mk ?_ ?_; conv => whnf) | (apply QStepH.go; conv => whnf) | (refine Both.lit_true ?_; conv => whnf) | (refine Both.lit_false ?_; conv => whnf) | (apply QStep.go; conv => whnf) | (refine Need.au ?_; conv => whnf) | (refine ⟨_, rfl, ?_⟩; conv => whnf)))
      refine CallVC.auto rlft_k ⟨l.length, rfl, by omega, by omega, ?_⟩
      rw [hg]
      (conv => whnf)
      (refine DrawVC.any Γok (by kernel_rfl) (by kernel_rfl) (by kernel_rfl) (by rfl) ?_; conv => whnf)
      (repeat (first | (refine Need.mk c1 ?_; conv => whnf) | (refine Need.mk c2 ?_; conv => whnf) | (refine CallVC.auto ih (inB_mk ⟨la, n1, hcl, b2, b1, b3, o1, ?_⟩); conv => whnf) | (refine CallVC.auto ih (inB_mk ⟨lb, n2, hch, b5, b4, b6, o2, ?_⟩); conv => whnf) | (refine Need.mk s1 ?_; conv => whnf) | (refine Need.mk s2 ?_; conv => whnf) | (refine CallVC.auto bsum_k (inB_mk ⟨s3, ?_⟩); conv => whnf) | (exact Out.same; conv => whnf) | (exact Out1.same; conv => whnf) | (refine QAnd.mk ?_ ?_; conv => whnf) | (apply QStepH.go; conv => whnf) | (refine Both.lit_true ?_; conv => whnf) | (refine Both.lit_false ?_; conv => whnf) | (apply QStep.go; conv => whnf) | (refine Need.au ?_; conv => whnf) | (refine ⟨_, rfl, ?_⟩; conv => whnf)))
      refine ⟨_, _, WeakV.auto ?_, h⟩
      (repeat' ((conv => whnf); first | exact True.intro | (refine And.intro ?_ ?_)))
      all_goals first | rfl | exact .eq rfl
theorem rdg_k (m : Nat) : Contract Tryd.prog [] 29 (rdgS m) := ⟨⟨⟨_, rfl, rfl, rfl⟩⟩, rdg_c m⟩
def rrootS : Spec := fun args H Q => match args with
  | [.ptr 0 0, .sl 2 n cs f] => inB H fun T => ∃ l : List Pr, n = l.length ∧ cs = flP l ∧ l.length < 60000 ∧ (∀ p ∈ l, okP p) ∧ Q (.str (shaD (rootX l))) (bkO (rootT l T))
  | _ => False
theorem rroot_c : Meets Tryd.prog [] 14 rrootS := by
  refine meets_of Γok Tryd.func14 rfl ?_
  intro args H Q h
  unfold rrootS at h
  split at h
  case h_2 => exact h.elim
  rename_i n cs f
  obtain ⟨T, rfl, l, rfl, rfl, h60, hok, h⟩ := inB_out h
  (refine sx_sound Γok _ ?_; conv => whnf)
  (repeat (first | (exact Out.same; conv => whnf) | (exact Out1.same; conv => whnf) | (refine QAnd.mk ?_ ?_; conv => whnf) | (apply QStepH.go; conv => whnf) | (refine Both.lit_true ?_; conv => whnf) | (refine Both.lit_false ?_; conv => whnf) | (apply QStep.go; conv => whnf) | (refine Need.au ?_; conv => whnf) | (refine ⟨_, rfl, ?_⟩; conv => whnf)))
  refine Both.dec (fun hz => ?_) (fun hnz => ?_)
  · have hl0 : l.length = 0 := by omega
    unfold rootX rootT at h
    rw [if_pos hl0, if_pos hl0] at h
    (conv => whnf)
    (repeat (first | (exact Out.same; conv => whnf) | (exact Out1.same; conv => whnf) | (refine QAnd.mk ?_ ?_; conv => whnf) | (apply QStepH.go; conv => whnf) | (refine Both.lit_true ?_; conv => whnf) | (refine Both.lit_false ?_; conv => whnf) | (apply QStep.go; conv => whnf) | (refine Need.au ?_; conv => whnf) | (refine ⟨_, rfl, ?_⟩; conv => whnf)))
    refine CallVC.auto rtop_k (inB_mk ⟨by decide, by decide, by decide, ?_⟩)
    (conv => whnf)
    (repeat (first | (exact Out.same; conv => whnf) | (exact Out1.same; conv => whnf) | (refine QAnd.mk ?_ ?_; conv => whnf) | (apply QStepH.go; conv => whnf) | (refine Both.lit_true ?_; conv => whnf) | (refine Both.lit_false ?_; conv => whnf) | (apply QStep.go; conv => whnf) | (refine Need.au ?_; conv => whnf) | (refine ⟨_, rfl, ?_⟩; conv => whnf)))
    refine ⟨_, _, WeakV.auto ?_, h⟩
    (repeat' ((conv => whnf); first | exact True.intro | (refine And.intro ?_ ?_)))
    all_goals first | rfl | exact .eq rfl
  · have hl0 : ¬ l.length = 0 := by omega
    unfold rootX rootT at h
    rw [if_neg hl0, if_neg hl0] at h
    have hd := dgP_len l
    have hc : -9223372036854775808 ≤ ((l.length : Nat) : Int) := by omega
    have hc2 : ((l.length : Nat) : Int) ≤ 9223372036854775807 := by omega
    have hc3 : (dgP l).length < 50000 := by omega
    (conv => whnf)
    (repeat (first | (refine CallVC.auto (rdg_k l.length) (inB_mk ⟨l, rfl, rfl, by omega, Nat.le_refl _, h60, hok, ?_⟩); conv => whnf) | (refine CallVC.auto rtop_k (inB_mk ⟨hc, hc2, hc3, ?_⟩); conv => whnf) | (exact Out.same; conv => whnf) | (exact Out1.same; conv => whnf) | (refine QAnd.mk ?_ ?_; conv => whnf) | (apply QStepH.go; conv => whnf) | (refine Both.lit_true ?_; conv => whnf) | (refine Both.lit_false ?_; conv => whnf) | (apply QStep.go; conv => whnf) | (refine Need.au ?_; conv => whnf) | (refine ⟨_, rfl, ?_⟩; conv => whnf)))
    refine ⟨_, _, WeakV.auto ?_, h⟩
    (repeat' ((conv => whnf); first | exact True.intro | (refine And.intro ?_ ?_)))
    all_goals first | rfl | exact .eq rfl
theorem rroot_k : Contract Tryd.prog [] 14 rrootS := ⟨⟨⟨_, rfl, rfl, rfl⟩⟩, rroot_c⟩
end Go.LX
end
section
set_option maxRecDepth 100000
set_option maxHeartbeats 2000000
set_option autoImplicit false
set_option linter.unusedVariables false
set_option linter.unusedSimpArgs false
namespace Go.LX
open Go.Proofs

theorem Contract.weak {P : Program} {G : Gl} {f : FuncId} {S S' : Spec} (hc : Contract P G f S) (h : ∀ args H Q, S' args H Q → ∃ s2 : LS, Weak G H.length ⟨args, H⟩ s2 ∧ S s2.t s2.h Q) : Contract P G f S' := by
  refine ⟨hc.ok, fun args H Q hs E w vs hv hr hg => ?_⟩
  obtain ⟨s2, hw, h2⟩ := h args H Q hs
  obtain ⟨E2, q1, q2⟩ := hw E E w { tmps := vs.toArray, defers := [] } hr.len.symm ⟨Env.Le.refl E, hv, hr, hg, rfl⟩
  refine (hc.meets s2.t s2.h Q h2 E2 w vs q1.vals q1.rel q1.gl).mono ?_
  rintro e w' ⟨v, r, H', E', h1, h3, h4, h5, h6, h7⟩
  exact ⟨v, r, H', E', h1, h3, h4, h5, q2.trans h6, q1.anc.trans h7⟩
end Go.LX
end
section
set_option maxRecDepth 100000
set_option maxHeartbeats 2000000
set_option autoImplicit false
set_option linter.unusedVariables false
set_option linter.unusedSimpArgs false
namespace Go.LX
open Go.Proofs

end Go.LX
end
section
set_option maxRecDepth 100000
set_option maxHeartbeats 2000000
set_option autoImplicit false
set_option linter.unusedVariables false
set_option linter.unusedSimpArgs false
namespace Go.LX
open Go.Proofs

end Go.LX
end
section
set_option maxRecDepth 100000
set_option maxHeartbeats 2000000
set_option autoImplicit false
set_option linter.unusedVariables false
set_option linter.unusedSimpArgs false
namespace Go.LX
open Go.Proofs

end Go.LX
end
section
set_option maxRecDepth 100000
set_option maxHeartbeats 2000000
set_option autoImplicit false
set_option linter.unusedVariables false
set_option linter.unusedSimpArgs false
namespace Go.LX
open Go.Proofs

theorem less_tri0 : ∀ a b : Bs, lessS a b = !(lessS b a || decide (a = b))
  | [], [] => by simp [lessS, Op.bytesLess]
  | [], y :: t => by simp [lessS, Op.bytesLess]
  | x :: s, [] => by simp [lessS, Op.bytesLess]
  | x :: s, y :: t => by
    have ih := less_tri0 s t
    unfold lessS at ih ⊢
    unfold Op.bytesLess
    by_cases h1 : x < y
    · have h2 : ¬ y < x := UInt8.lt_asymm h1
      have h3 : x ≠ y := UInt8.ne_of_lt h1
      simp [h1, h2, h3, h3.symm]
    · by_cases h2 : y < x
      · have h3 : x ≠ y := fun h => by rw [h] at h2; exact UInt8.lt_irrefl _ h2
        simp [h1, h2, h3]
      · have h3 : x = y := by
          rcases UInt8.lt_or_eq_of_le (UInt8.not_lt.1 h2) with h | h
          · exact absurd h h1
          · exact h
        subst h3
        simp [ih]
theorem less_tri (a b : Bs) : lessS a b = !(lessS b a || decide (b = a)) := by
  rw [less_tri0 a b]
  simp [eq_comm]
def kAt (l : List Pr) (j : Nat) : Bs := (l.getD j ([], [])).1
def badB (p : Pr) : Bool := decide (p.1.length < 1) || decide (16 < p.1.length) || decide (64 < p.2.length)
def ordB : List Pr → Bool
  | a :: b :: r => lessS a.1 b.1 && ordB (b :: r)
  | _ => true
def chkV (l : List Pr) : Int := if 4096 < l.length then 1 else if l.any badB = true then 1 else if ordB l = true then 0 else 15
theorem any_yes {l : List Pr} {f : Pr → Bool} {j : Nat} (hj : j < l.length) (h : f (l.getD j ([], [])) = true) : l.any f = true := by
  rw [List.any_eq_true]
  refine ⟨l.getD j ([], []), ?_, h⟩
  rw [List.getD_eq_getElem?_getD, List.getElem?_eq_getElem hj]
  exact List.getElem_mem _
theorem any_no {l : List Pr} {f : Pr → Bool} (h : ∀ j, j < l.length → f (l.getD j ([], [])) = false) : l.any f = false := by
  rw [List.any_eq_false]
  intro p hp
  obtain ⟨j, hj, rfl⟩ := List.getElem_of_mem hp
  have := h j hj
  rw [List.getD_eq_getElem?_getD, List.getElem?_eq_getElem hj] at this
  have h2 : f (l[j]) = false := this
  rw [h2]
  decide
theorem ordB_yes : ∀ (l : List Pr), (∀ j, j + 1 < l.length → lessS (kAt l j) (kAt l (j + 1)) = true) → ordB l = true
  | [], _ => rfl
  | [_], _ => rfl
  | a :: b :: r, h => by
    rw [ordB, Bool.and_eq_true]
    exact ⟨h 0 (by simp), ordB_yes (b :: r) fun j hj => h (j + 1) (by simp at hj ⊢; omega)⟩
theorem ordB_no : ∀ (l : List Pr) (j : Nat), j + 1 < l.length → lessS (kAt l j) (kAt l (j + 1)) = false → ordB l = false
  | [], j, hj, _ => by simp at hj
  | [_], j, hj, _ => by simp at hj
  | a :: b :: r, 0, hj, h => by
    have h : lessS a.1 b.1 = false := h
    rw [ordB, h]
    rfl
  | a :: b :: r, j + 1, hj, h => by
    have := ordB_no (b :: r) j (by simp at hj ⊢; omega) h
    rw [ordB, this, Bool.and_false]
theorem chk_big {l : List Pr} (h : 4096 < l.length) : chkV l = 1 := by rw [chkV, if_pos h]
theorem chk_bad {l : List Pr} {j : Nat} (hj : j < l.length) (h : badB (l.getD j ([], [])) = true) : chkV l = 1 := by
  rw [chkV]
  split
  · rfl
  · rw [if_pos (any_yes hj h)]
theorem chk_ord {l : List Pr} {j : Nat} (hl : ¬ 4096 < l.length) (hb : ∀ j, j < l.length → badB (l.getD j ([], [])) = false) (hj : j + 1 < l.length) (h : lessS (kAt l j) (kAt l (j + 1)) = false) : chkV l = 15 := by
  rw [chkV, if_neg hl, if_neg (by rw [any_no hb]; decide), if_neg (by rw [ordB_no l j hj h]; decide)]
theorem chk_ok {l : List Pr} (hl : ¬ 4096 < l.length) (hb : ∀ j, j < l.length → badB (l.getD j ([], [])) = false) (h : ∀ j, j + 1 < l.length → lessS (kAt l j) (kAt l (j + 1)) = true) : chkV l = 0 := by
  rw [chkV, if_neg hl, if_neg (by rw [any_no hb]; decide), if_pos (ordB_yes l h)]
theorem bad_1 {p : Pr} (h : p.1.length < 1) : badB p = true := by unfold badB; rw [decide_eq_true h]; rfl
theorem bad_2 {p : Pr} (h : 16 < p.1.length) : badB p = true := by unfold badB; rw [decide_eq_true h, Bool.or_true]; rfl
theorem bad_3 {p : Pr} (h : 64 < p.2.length) : badB p = true := by unfold badB; rw [decide_eq_true h, Bool.or_true]
theorem bad_0 {p : Pr} (h1 : ¬ p.1.length < 1) (h2 : ¬ 16 < p.1.length) (h3 : ¬ 64 < p.2.length) : badB p = false := by simp only [badB, decide_eq_false h1, decide_eq_false h2, decide_eq_false h3]; rfl
theorem all_next {l : List Pr} {k : Nat} (h : badB (l.getD k ([], [])) = false) (hall : ∀ j, j < k → badB (l.getD j ([], [])) = false) : ∀ j, j < k + 1 → badB (l.getD j ([], [])) = false := fun j hj => by
  rcases Nat.lt_or_ge j k with h9 | h9
  · exact hall j h9
  · rw [show j = k by omega]; exact h
theorem ord_next {l : List Pr} {k : Nat} (h : lessS (kAt l k) (kAt l (k + 1)) = true) (hall : ∀ j, j < k → lessS (kAt l j) (kAt l (j + 1)) = true) : ∀ j, j < k + 1 → lessS (kAt l j) (kAt l (j + 1)) = true := fun j hj => by
  rcases Nat.lt_or_ge j k with h9 | h9
  · exact hall j h9
  · rw [show j = k by omega]; exact h
def chkS : Spec := fun args H Q => match args, H with
  | [.nilsl], [] => Q (.int .i64 0) []
  | [.sl 2 n cs f], [] => ∃ l : List Pr, n = l.length ∧ cs = flP l ∧ l.length ≤ 9223372036854775807 ∧ Q (.int .i64 (chkV l)) []
  | _, _ => False
theorem mchk_c : Meets Tryd.prog [] 16 chkS := by
  refine meets_of Γok Tryd.func16 rfl ?_
  intro args H Q h
  unfold chkS at h
  split at h
  case h_3 => exact h.elim
  · (refine sx_sound Γok _ ?_; conv => whnf)
    (repeat (first | (exact Out.same; conv => whnf) | (exact Out1.same; conv => whnf) | (refine QAnd.mk ?_ ?_; conv => whnf) | (apply QStepH.go; conv => whnf) | (refine Both.lit_true ?_; conv => whnf) | (refine Both.lit_false ?_; conv => whnf) | (apply QStep.go; conv => whnf) | (refine Need.au ?_; conv => whnf) | (refine ⟨_, rfl, ?_⟩; conv => whnf) | (refine Both.of_false ?_ ?_; (focus (first | rfl | (simp <;> fail))); conv => whnf) | (refine Both.of_true ?_ ?_; (focus (first | rfl | (simp <;> fail))); conv => whnf)))
    refine loop_rule (fun k : Nat => ⟨[.nilsl, .any, .any, .any, .any, .any, .any, .any, .any, .any, .int .i64 0, .int .i64 0, .any, .any, .any, .any, .any, .any, .any, .any, .any, .any, .any, .any, .any, .any, .any, .any, .any, .any, .any, .any, .any, .any, .any, .any, .any, .any, .any, .any, .any, .any, .any, .any, .any, .any, .any, .any, .any, .any, .any, .any], []⟩) (fun k => True) (fun k => 0) 0 trivial (Weak.auto ?_) ?_
    · (repeat' ((conv => whnf); first | exact True.intro | (refine And.intro ?_ ?_)))
      all_goals first | rfl | exact .eq rfl
    intro k hk
    (refine sx_sound Γok _ ?_; conv => whnf)
    (repeat (first | (exact Out.same; conv => whnf) | (exact Out1.same; conv => whnf) | (refine QAnd.mk ?_ ?_; conv => whnf) | (apply QStepH.go; conv => whnf) | (refine Both.lit_true ?_; conv => whnf) | (refine Both.lit_false ?_; conv => whnf) | (apply QStep.go; conv => whnf) | (refine Need.au ?_; conv => whnf) | (refine ⟨_, rfl, ?_⟩; conv => whnf) | (refine Both.of_false ?_ ?_; (focus (first | rfl | (simp <;> fail))); conv => whnf) | (refine Both.of_true ?_ ?_; (focus (first | rfl | (simp <;> fail))); conv => whnf)))
    refine loop_rule (fun k : Nat => ⟨[.nilsl, .any, .any, .any, .any, .any, .any, .any, .any, .any, .any, .any, .any, .any, .any, .any, .any, .any, .any, .any, .any, .any, .any, .any, .any, .any, .any, .any, .any, .any, .any, .any, .any, .any, .any, .int .i64 0, .int .i64 0, .any, .any, .any, .any, .any, .any, .any, .any, .any, .any, .any, .any, .any, .any, .any], []⟩) (fun k => True) (fun k => 0) 0 trivial (Weak.auto ?_) ?_
    · (repeat' ((conv => whnf); first | exact True.intro | (refine And.intro ?_ ?_)))
      all_goals first | rfl | exact .eq rfl
    intro k hk
    (refine sx_sound Γok _ ?_; conv => whnf)
    (repeat (first | (exact Out.same; conv => whnf) | (exact Out1.same; conv => whnf) | (refine QAnd.mk ?_ ?_; conv => whnf) | (apply QStepH.go; conv => whnf) | (refine Both.lit_true ?_; conv => whnf) | (refine Both.lit_false ?_; conv => whnf) | (apply QStep.go; conv => whnf) | (refine Need.au ?_; conv => whnf) | (refine ⟨_, rfl, ?_⟩; conv => whnf) | (refine Both.of_false ?_ ?_; (focus (first | rfl | (simp <;> fail))); conv => whnf) | (refine Both.of_true ?_ ?_; (focus (first | rfl | (simp <;> fail))); conv => whnf)))
    exact ⟨_, _, WeakV.drop rfl, h⟩
  rename_i n cs f
  obtain ⟨l, rfl, rfl, hlc, h⟩ := h
  (refine sx_sound Γok _ ?_; conv => whnf)
  (repeat (first | (exact Out.same; conv => whnf) | (exact Out1.same; conv => whnf) | (refine QAnd.mk ?_ ?_; conv => whnf) | (apply QStepH.go; conv => whnf) | (refine Both.lit_true ?_; conv => whnf) | (refine Both.lit_false ?_; conv => whnf) | (apply QStep.go; conv => whnf) | (refine Need.au ?_; conv => whnf) | (refine ⟨_, rfl, ?_⟩; conv => whnf)))
  refine Both.dec (fun hbig => ?_) (fun hbig => ?_)
  · rw [chk_big (by omega)] at h
    (conv => whnf)
    (repeat (first | (exact Out.same; conv => whnf) | (exact Out1.same; conv => whnf) | (refine QAnd.mk ?_ ?_; conv => whnf) | (apply QStepH.go; conv => whnf) | (refine Both.lit_true ?_; conv => whnf) | (refine Both.lit_false ?_; conv => whnf) | (apply QStep.go; conv => whnf) | (refine Need.au ?_; conv => whnf) | (refine ⟨_, rfl, ?_⟩; conv => whnf) | (refine Both.of_false ?_ ?_; (focus (first | rfl | (simp <;> fail))); conv => whnf) | (refine Both.of_true ?_ ?_; (focus (first | rfl | (simp <;> fail))); conv => whnf)))
    exact ⟨_, _, WeakV.drop rfl, h⟩
  have hl4 : ¬ 4096 < l.length := by omega
  (conv => whnf)
  (repeat (first | (exact Out.same; conv => whnf) | (exact Out1.same; conv => whnf) | (refine QAnd.mk ?_ ?_; conv => whnf) | (apply QStepH.go; conv => whnf) | (refine Both.lit_true ?_; conv => whnf) | (refine Both.lit_false ?_; conv => whnf) | (apply QStep.go; conv => whnf) | (refine Need.au ?_; conv => whnf) | (refine ⟨_, rfl, ?_⟩; conv => whnf) | (refine Both.of_false ?_ ?_; (focus (first | rfl | (simp <;> fail))); conv => whnf) | (refine Both.of_true ?_ ?_; (focus (first | rfl | (simp <;> fail))); conv => whnf)))
  refine loop_rule (fun k : Nat => ⟨[.sl 2 l.length (flP l) f, .any, .any, .any, .any, .any, .any, .any, .any, .sl 2 l.length (flP l) f, .int .i64 (l.length : Int), .int .i64 (k : Int), .any, .any, .any, .any, .any, .any, .any, .any, .any, .any, .any, .any, .any, .any, .any, .any, .any, .any, .any, .any, .any, .any, .any, .any, .any, .any, .any, .any, .any, .any, .any, .any, .any, .any, .any, .any, .any, .any, .any, .any], []⟩) (fun k => k ≤ l.length ∧ ∀ j, j < k → badB (l.getD j ([], [])) = false) (fun k => l.length - k) 0 ⟨Nat.zero_le _, fun j hj => by omega⟩ (Weak.auto ?_) ?_
  · (repeat' ((conv => whnf); first | exact True.intro | (refine And.intro ?_ ?_)))
    all_goals first | rfl | exact .eq rfl
  rintro k ⟨hk, hall⟩
  (refine sx_sound Γok _ ?_; conv => whnf)
  (repeat (first | (exact Out.same; conv => whnf) | (exact Out1.same; conv => whnf) | (refine QAnd.mk ?_ ?_; conv => whnf) | (apply QStepH.go; conv => whnf) | (refine Both.lit_true ?_; conv => whnf) | (refine Both.lit_false ?_; conv => whnf) | (apply QStep.go; conv => whnf) | (refine Need.au ?_; conv => whnf) | (refine ⟨_, rfl, ?_⟩; conv => whnf)))
  refine Both.dec (fun hlt => ?_) (fun hge => ?_)
  · have hkl : k < l.length := by omega
    have hat := flP_at l hkl
    have hin : ti27.size = 2 ∧ (0 : Int) ≤ (k : Int) ∧ (k : Int) < ((l.length : Nat) : Int) := ⟨rfl, by omega, by omega⟩
    have hwr : IntKind.i64.wrap ((k : Int) + 1) = ((k + 1 : Nat) : Int) := by rw [wrap_i64 (by omega) (by omega)]; rfl
    have hbad : badB (l.getD k ([], [])) = true → chkV l = 1 := chk_bad hkl
    have hnext := all_next (l := l) (k := k)
    revert hat hbad hnext
    generalize hpk : l.getD k ([], []) = p
    intro hat hbad hnext
    (conv => whnf)
    (repeat (first | (refine Need.mk hin ?_; conv => whnf) | (refine ⟨_, hat, ?_⟩; conv => whnf) | (exact Out.same; conv => whnf) | (exact Out1.same; conv => whnf) | (refine QAnd.mk ?_ ?_; conv => whnf) | (apply QStepH.go; conv => whnf) | (refine Both.lit_true ?_; conv => whnf) | (refine Both.lit_false ?_; conv => whnf) | (apply QStep.go; conv => whnf) | (refine Need.au ?_; conv => whnf) | (refine ⟨_, rfl, ?_⟩; conv => whnf)))
    refine Both.dec (fun c1 => ?_) (fun c1 => ?_)
    · rw [hbad (bad_1 (by omega))] at h
      (conv => whnf)
      (repeat (first | (exact Out.same; conv => whnf) | (exact Out1.same; conv => whnf) | (refine QAnd.mk ?_ ?_; conv => whnf) | (apply QStepH.go; conv => whnf) | (refine Both.lit_true ?_; conv => whnf) | (refine Both.lit_false ?_; conv => whnf) | (apply QStep.go; conv => whnf) | (refine Need.au ?_; conv => whnf) | (refine ⟨_, rfl, ?_⟩; conv => whnf) | (refine Both.of_false ?_ ?_; (focus (first | rfl | (simp <;> fail))); conv => whnf) | (refine Both.of_true ?_ ?_; (focus (first | rfl | (simp <;> fail))); conv => whnf)))
      exact ⟨_, _, WeakV.drop rfl, h⟩
    (conv => whnf)
    (repeat (first | (exact Out.same; conv => whnf) | (exact Out1.same; conv => whnf) | (refine QAnd.mk ?_ ?_; conv => whnf) | (apply QStepH.go; conv => whnf) | (refine Both.lit_true ?_; conv => whnf) | (refine Both.lit_false ?_; conv => whnf) | (apply QStep.go; conv => whnf) | (refine Need.au ?_; conv => whnf) | (refine ⟨_, rfl, ?_⟩; conv => whnf)))
    refine Both.dec (fun c2 => ?_) (fun c2 => ?_)
    · rw [hbad (bad_2 (by omega))] at h
      (conv => whnf)
      (repeat (first | (exact Out.same; conv => whnf) | (exact Out1.same; conv => whnf) | (refine QAnd.mk ?_ ?_; conv => whnf) | (apply QStepH.go; conv => whnf) | (refine Both.lit_true ?_; conv => whnf) | (refine Both.lit_false ?_; conv => whnf) | (apply QStep.go; conv => whnf) | (refine Need.au ?_; conv => whnf) | (refine ⟨_, rfl, ?_⟩; conv => whnf) | (refine Both.of_false ?_ ?_; (focus (first | rfl | (simp <;> fail))); conv => whnf) | (refine Both.of_true ?_ ?_; (focus (first | rfl | (simp <;> fail))); conv => whnf)))
      exact ⟨_, _, WeakV.drop rfl, h⟩
    (conv => whnf)
    (repeat (first | (exact Out.same; conv => whnf) | (exact Out1.same; conv => whnf) | (refine QAnd.mk ?_ ?_; conv => whnf) | (apply QStepH.go; conv => whnf) | (refine Both.lit_true ?_; conv => whnf) | (refine Both.lit_false ?_; conv => whnf) | (apply QStep.go; conv => whnf) | (refine Need.au ?_; conv => whnf) | (refine ⟨_, rfl, ?_⟩; conv => whnf)))
    refine Both.dec (fun c3 => ?_) (fun c3 => ?_)
    · rw [hbad (bad_3 (by omega))] at h
      (conv => whnf)
      (repeat (first | (exact Out.same; conv => whnf) | (exact Out1.same; conv => whnf) | (refine QAnd.mk ?_ ?_; conv => whnf) | (apply QStepH.go; conv => whnf) | (refine Both.lit_true ?_; conv => whnf) | (refine Both.lit_false ?_; conv => whnf) | (apply QStep.go; conv => whnf) | (refine Need.au ?_; conv => whnf) | (refine ⟨_, rfl, ?_⟩; conv => whnf) | (refine Both.of_false ?_ ?_; (focus (first | rfl | (simp <;> fail))); conv => whnf) | (refine Both.of_true ?_ ?_; (focus (first | rfl | (simp <;> fail))); conv => whnf)))
      exact ⟨_, _, WeakV.drop rfl, h⟩
    (conv => whnf)
    (repeat (first | (exact Out.same; conv => whnf) | (exact Out1.same; conv => whnf) | (refine QAnd.mk ?_ ?_; conv => whnf) | (apply QStepH.go; conv => whnf) | (refine Both.lit_true ?_; conv => whnf) | (refine Both.lit_false ?_; conv => whnf) | (apply QStep.go; conv => whnf) | (refine Need.au ?_; conv => whnf) | (refine ⟨_, rfl, ?_⟩; conv => whnf) | (refine Both.of_false ?_ ?_; (focus (first | rfl | (simp <;> fail))); conv => whnf) | (refine Both.of_true ?_ ?_; (focus (first | rfl | (simp <;> fail))); conv => whnf)))
    refine ⟨k + 1, ⟨hkl, hnext (bad_0 (by omega) (by omega) (by omega)) hall⟩, by omega, Weak.auto ?_⟩
    (repeat' ((conv => whnf); first | exact True.intro | (refine And.intro ?_ ?_)))
    all_goals first | rfl | exact .eq rfl | exact congrArg (SV.int .i64) hwr
  have hke : k = l.length := by omega
  subst hke
  clear hge
  have hmx : max 0 (IntKind.i64.wrap ((l.length : Int) - 1)) = ((l.length - 1 : Nat) : Int) := by rw [wrap_i64 (by omega) (by omega)]; omega
  (conv => whnf)
  (repeat (first | (exact Out.same; conv => whnf) | (exact Out1.same; conv => whnf) | (refine QAnd.mk ?_ ?_; conv => whnf) | (apply QStepH.go; conv => whnf) | (refine Both.lit_true ?_; conv => whnf) | (refine Both.lit_false ?_; conv => whnf) | (apply QStep.go; conv => whnf) | (refine Need.au ?_; conv => whnf) | (refine ⟨_, rfl, ?_⟩; conv => whnf) | (refine Both.of_false ?_ ?_; (focus (first | rfl | (simp <;> fail))); conv => whnf) | (refine Both.of_true ?_ ?_; (focus (first | rfl | (simp <;> fail))); conv => whnf)))
  rw [hmx]
  refine loop_rule (fun k : Nat => ⟨[.sl 2 l.length (flP l) f, .any, .any, .any, .any, .any, .any, .any, .any, .any, .any, .any, .any, .any, .any, .any, .any, .any, .any, .any, .any, .any, .any, .any, .any, .any, .any, .any, .any, .any, .any, .any, .any, .any, .any, .int .i64 ((l.length - 1 : Nat) : Int), .int .i64 (k : Int), .any, .any, .any, .any, .any, .any, .any, .any, .any, .any, .any, .any, .any, .any, .any], []⟩) (fun k => k ≤ l.length - 1 ∧ ∀ j, j < k → lessS (kAt l j) (kAt l (j + 1)) = true) (fun k => l.length - 1 - k) 0 ⟨Nat.zero_le _, fun j hj => by omega⟩ (Weak.auto ?_) ?_
  · (repeat' ((conv => whnf); first | exact True.intro | (refine And.intro ?_ ?_)))
    all_goals first | rfl | exact .eq rfl
  rintro k ⟨hk2, hord⟩
  (refine sx_sound Γok _ ?_; conv => whnf)
  (repeat (first | (exact Out.same; conv => whnf) | (exact Out1.same; conv => whnf) | (refine QAnd.mk ?_ ?_; conv => whnf) | (apply QStepH.go; conv => whnf) | (refine Both.lit_true ?_; conv => whnf) | (refine Both.lit_false ?_; conv => whnf) | (apply QStep.go; conv => whnf) | (refine Need.au ?_; conv => whnf) | (refine ⟨_, rfl, ?_⟩; conv => whnf)))
  refine Both.dec (fun hlt => ?_) (fun hge => ?_)
  · have hkl : k + 1 < l.length := by omega
    have hat := flP_at l (k := k) (by omega)
    have hat1 := flP_at l hkl
    have hwr : IntKind.i64.wrap ((k : Int) + 1) = ((k + 1 : Nat) : Int) := by rw [wrap_i64 (by omega) (by omega)]; rfl
    have hin : ti27.size = 2 ∧ (0 : Int) ≤ (k : Int) ∧ (k : Int) < ((l.length : Nat) : Int) := ⟨rfl, by omega, by omega⟩
    have hin1 : ti27.size = 2 ∧ (0 : Int) ≤ IntKind.i64.wrap ((k : Int) + 1) ∧ IntKind.i64.wrap ((k : Int) + 1) < ((l.length : Nat) : Int) := ⟨rfl, by rw [hwr]; omega, by rw [hwr]; omega⟩
    have hat2 : ((flP l).drop ((IntKind.i64.wrap ((k : Int) + 1)).toNat * 2)).take 2 = [.str (l.getD (k + 1) ([], [])).1, .str (l.getD (k + 1) ([], [])).2] := by rw [hwr]; exact hat1
    have hbad : lessS (kAt l k) (kAt l (k + 1)) = false → chkV l = 15 := chk_ord hl4 hall hkl
    have hnext := ord_next (l := l) (k := k)
    unfold kAt at hbad hnext
    clear hat1
    revert hat hat2 hbad hnext
    generalize l.getD k ([], []) = p
    generalize l.getD (k + 1) ([], []) = q
    intro hat hat2 hbad hnext
    (conv => whnf)
    (refine DrawVC.any Γok (by kernel_rfl) (by kernel_rfl) (by kernel_rfl) (by rfl) ?_; conv => whnf)
    (repeat (first | (refine Need.mk hin ?_; conv => whnf) | (refine Need.mk hin1 ?_; conv => whnf) | (refine ⟨_, hat, ?_⟩; conv => whnf) | (refine ⟨_, hat2, ?_⟩; conv => whnf) | (exact Out.same; conv => whnf) | (exact Out1.same; conv => whnf) | (refine QAnd.mk ?_ ?_; conv => whnf) | (apply QStepH.go; conv => whnf) | (refine Both.lit_true ?_; conv => whnf) | (refine Both.lit_false ?_; conv => whnf) | (apply QStep.go; conv => whnf) | (refine Need.au ?_; conv => whnf) | (refine ⟨_, rfl, ?_⟩; conv => whnf)))
    refine Both.cases (fun c1 => ?_) (fun c1 => ?_)
    · rw [hbad (by simpa using c1)] at h
      (conv => whnf)
      (repeat (first | (exact Out.same; conv => whnf) | (exact Out1.same; conv => whnf) | (refine QAnd.mk ?_ ?_; conv => whnf) | (apply QStepH.go; conv => whnf) | (refine Both.lit_true ?_; conv => whnf) | (refine Both.lit_false ?_; conv => whnf) | (apply QStep.go; conv => whnf) | (refine Need.au ?_; conv => whnf) | (refine ⟨_, rfl, ?_⟩; conv => whnf) | (refine Both.of_false ?_ ?_; (focus (first | rfl | (simp <;> fail))); conv => whnf) | (refine Both.of_true ?_ ?_; (focus (first | rfl | (simp <;> fail))); conv => whnf)))
      exact ⟨_, _, WeakV.drop rfl, h⟩
    · (conv => whnf)
      (repeat (first | (exact Out.same; conv => whnf) | (exact Out1.same; conv => whnf) | (refine QAnd.mk ?_ ?_; conv => whnf) | (apply QStepH.go; conv => whnf) | (refine Both.lit_true ?_; conv => whnf) | (refine Both.lit_false ?_; conv => whnf) | (apply QStep.go; conv => whnf) | (refine Need.au ?_; conv => whnf) | (refine ⟨_, rfl, ?_⟩; conv => whnf) | (refine Both.of_false ?_ ?_; (focus (first | rfl | (simp <;> fail))); conv => whnf) | (refine Both.of_true ?_ ?_; (focus (first | rfl | (simp <;> fail))); conv => whnf)))
      refine ⟨k + 1, ⟨by omega, hnext (by simpa using c1) hord⟩, by omega, Weak.auto ?_⟩
      (repeat' ((conv => whnf); first | exact True.intro | (refine And.intro ?_ ?_)))
      all_goals first | rfl | exact .eq rfl | exact congrArg (SV.int .i64) hwr
  rw [chk_ok hl4 hall (fun j hj => hord j (by omega))] at h
  (conv => whnf)
  (repeat (first | (exact Out.same; conv => whnf) | (exact Out1.same; conv => whnf) | (refine QAnd.mk ?_ ?_; conv => whnf) | (apply QStepH.go; conv => whnf) | (refine Both.lit_true ?_; conv => whnf) | (refine Both.lit_false ?_; conv => whnf) | (apply QStep.go; conv => whnf) | (refine Need.au ?_; conv => whnf) | (refine ⟨_, rfl, ?_⟩; conv => whnf) | (refine Both.of_false ?_ ?_; (focus (first | rfl | (simp <;> fail))); conv => whnf) | (refine Both.of_true ?_ ?_; (focus (first | rfl | (simp <;> fail))); conv => whnf)))
  exact ⟨_, _, WeakV.drop rfl, h⟩
theorem mchk_k : Contract Tryd.prog [] 16 chkS := ⟨⟨⟨_, rfl, rfl, rfl⟩⟩, mchk_c⟩
end Go.LX
end
section
set_option maxRecDepth 100000
set_option maxHeartbeats 2000000
set_option autoImplicit false
set_option linter.unusedVariables false
set_option linter.unusedSimpArgs false
namespace Go.LX
open Go.Proofs

def rchkS : Spec := fun args H Q => match args, H with
  | [.sl 2 n cs f], [] => ∃ l : List Pr, n = l.length ∧ cs = flP l ∧ l.length ≤ 9223372036854775807 ∧ Q (.int .i64 (chkV l)) []
  | _, _ => False
theorem rchk_c : Meets Tryd.prog [] 11 rchkS := by
  refine meets_of Γok Tryd.func11 rfl ?_
  intro args H Q h
  unfold rchkS at h
  split at h
  case h_2 => exact h.elim
  rename_i n cs f
  obtain ⟨l, rfl, rfl, hlc, h⟩ := h
  (refine sx_sound Γok _ ?_; conv => whnf)
  (repeat (first | (exact Out.same; conv => whnf) | (exact Out1.same; conv => whnf) | (refine QAnd.mk ?_ ?_; conv => whnf) | (apply QStepH.go; conv => whnf) | (refine Both.lit_true ?_; conv => whnf) | (refine Both.lit_false ?_; conv => whnf) | (apply QStep.go; conv => whnf) | (refine Need.au ?_; conv => whnf) | (refine ⟨_, rfl, ?_⟩; conv => whnf)))
  refine Both.dec (fun hbig => ?_) (fun hbig => ?_)
  · rw [chk_big (by omega)] at h
    (conv => whnf)
    (repeat (first | (exact Out.same; conv => whnf) | (exact Out1.same; conv => whnf) | (refine QAnd.mk ?_ ?_; conv => whnf) | (apply QStepH.go; conv => whnf) | (refine Both.lit_true ?_; conv => whnf) | (refine Both.lit_false ?_; conv => whnf) | (apply QStep.go; conv => whnf) | (refine Need.au ?_; conv => whnf) | (refine ⟨_, rfl, ?_⟩; conv => whnf) | (refine Both.of_false ?_ ?_; (focus (first | rfl | (simp <;> fail))); conv => whnf) | (refine Both.of_true ?_ ?_; (focus (first | rfl | (simp <;> fail))); conv => whnf)))
    exact ⟨_, _, WeakV.drop rfl, h⟩
  have hl4 : ¬ 4096 < l.length := by omega
  (conv => whnf)
  (repeat (first | (exact Out.same; conv => whnf) | (exact Out1.same; conv => whnf) | (refine QAnd.mk ?_ ?_; conv => whnf) | (apply QStepH.go; conv => whnf) | (refine Both.lit_true ?_; conv => whnf) | (refine Both.lit_false ?_; conv => whnf) | (apply QStep.go; conv => whnf) | (refine Need.au ?_; conv => whnf) | (refine ⟨_, rfl, ?_⟩; conv => whnf) | (refine Both.of_false ?_ ?_; (focus (first | rfl | (simp <;> fail))); conv => whnf) | (refine Both.of_true ?_ ?_; (focus (first | rfl | (simp <;> fail))); conv => whnf)))
  refine loop_rule (fun k : Nat => ⟨[.sl 2 l.length (flP l) f, .any, .any, .int .i64 (k : Int), .any, .any, .any, .any, .any, .any, .any, .any, .any, .any, .any, .any, .any, .any, .any, .any, .any, .any, .any, .any, .any, .any, .any, .any, .any, .any, .any, .any, .any, .any, .any, .any, .any, .any, .any, .any, .any, .any, .any, .any, .any, .any, .any, .any, .any, .any, .any, .any, .any, .any, .any, .any, .any], []⟩) (fun k => k ≤ l.length ∧ ∀ j, j < k → badB (l.getD j ([], [])) = false) (fun k => l.length - k) 0 ⟨Nat.zero_le _, fun j hj => by omega⟩ (Weak.auto ?_) ?_
  · (repeat' ((conv => whnf); first | exact True.intro | (refine And.intro ?_ ?_)))
    all_goals first | rfl | exact .eq rfl
  rintro k ⟨hk, hall⟩
  (refine sx_sound Γok _ ?_; conv => whnf)
  (repeat (first | (exact Out.same; conv => whnf) | (exact Out1.same; conv => whnf) | (refine QAnd.mk ?_ ?_; conv => whnf) | (apply QStepH.go; conv => whnf) | (refine Both.lit_true ?_; conv => whnf) | (refine Both.lit_false ?_; conv => whnf) | (apply QStep.go; conv => whnf) | (refine Need.au ?_; conv => whnf) | (refine ⟨_, rfl, ?_⟩; conv => whnf)))
  refine Both.dec (fun hlt => ?_) (fun hge => ?_)
  · have hkl : k < l.length := by omega
    have hat := flP_at l hkl
    have hin : ti27.size = 2 ∧ (0 : Int) ≤ (k : Int) ∧ (k : Int) < ((l.length : Nat) : Int) := ⟨rfl, by omega, by omega⟩
    have hwr : IntKind.i64.wrap ((k : Int) + 1) = ((k + 1 : Nat) : Int) := by rw [wrap_i64 (by omega) (by omega)]; rfl
    have hbad : badB (l.getD k ([], [])) = true → chkV l = 1 := chk_bad hkl
    have hnext := all_next (l := l) (k := k)
    revert hat hbad hnext
    generalize hpk : l.getD k ([], []) = p
    intro hat hbad hnext
    (conv => whnf)
    (repeat (first | (refine Need.mk hin ?_; conv => whnf) | (refine ⟨_, hat, ?_⟩; conv => whnf) | (exact Out.same; conv => whnf) | (exact Out1.same; conv => whnf) | (refine QAnd.mk ?_ ?_; conv => whnf) | (apply QStepH.go; conv => whnf) | (refine Both.lit_true ?_; conv => whnf) | (refine Both.lit_false ?_; conv => whnf) | (apply QStep.go; conv => whnf) | (refine Need.au ?_; conv => whnf) | (refine ⟨_, rfl, ?_⟩; conv => whnf)))
    refine Both.dec (fun c1 => ?_) (fun c1 => ?_)
    · rw [hbad (bad_1 (by omega))] at h
      (conv => whnf)
      (repeat (first | (exact Out.same; conv => whnf) | (exact Out1.same; conv => whnf) | (refine QAnd.mk ?_ ?_; conv => whnf) | (apply QStepH.go; conv => whnf) | (refine Both.lit_true ?_; conv => whnf) | (refine Both.lit_false ?_; conv => whnf) | (apply QStep.go; conv => whnf) | (refine Need.au ?_; conv => whnf) | (refine ⟨_, rfl, ?_⟩; conv => whnf) | (refine Both.of_false ?_ ?_; (focus (first | rfl | (simp <;> fail))); conv => whnf) | (refine Both.of_true ?_ ?_; (focus (first | rfl | (simp <;> fail))); conv => whnf)))
      exact ⟨_, _, WeakV.drop rfl, h⟩
    (conv => whnf)
    (repeat (first | (refine Need.mk hin ?_; conv => whnf) | (refine ⟨_, hat, ?_⟩; conv => whnf) | (exact Out.same; conv => whnf) | (exact Out1.same; conv => whnf) | (refine QAnd.mk ?_ ?_; conv => whnf) | (apply QStepH.go; conv => whnf) | (refine Both.lit_true ?_; conv => whnf) | (refine Both.lit_false ?_; conv => whnf) | (apply QStep.go; conv => whnf) | (refine Need.au ?_; conv => whnf) | (refine ⟨_, rfl, ?_⟩; conv => whnf)))
    refine Both.dec (fun c2 => ?_) (fun c2 => ?_)
    · rw [hbad (bad_2 (by omega))] at h
      (conv => whnf)
      (repeat (first | (exact Out.same; conv => whnf) | (exact Out1.same; conv => whnf) | (refine QAnd.mk ?_ ?_; conv => whnf) | (apply QStepH.go; conv => whnf) | (refine Both.lit_true ?_; conv => whnf) | (refine Both.lit_false ?_; conv => whnf) | (apply QStep.go; conv => whnf) | (refine Need.au ?_; conv => whnf) | (refine ⟨_, rfl, ?_⟩; conv => whnf) | (refine Both.of_false ?_ ?_; (focus (first | rfl | (simp <;> fail))); conv => whnf) | (refine Both.of_true ?_ ?_; (focus (first | rfl | (simp <;> fail))); conv => whnf)))
      exact ⟨_, _, WeakV.drop rfl, h⟩
    (conv => whnf)
    (repeat (first | (refine Need.mk hin ?_; conv => whnf) | (refine ⟨_, hat, ?_⟩; conv => whnf) | (exact Out.same; conv => whnf) | (exact Out1.same; conv => whnf) | (refine QAnd.mk ?_ ?_; conv => whnf) | (apply QStepH.go; conv => whnf) | (refine Both.lit_true ?_; conv => whnf) | (refine Both.lit_false ?_; conv => whnf) | (apply QStep.go; conv => whnf) | (refine Need.au ?_; conv => whnf) | (refine ⟨_, rfl, ?_⟩; conv => whnf)))
    refine Both.dec (fun c3 => ?_) (fun c3 => ?_)
    · rw [hbad (bad_3 (by omega))] at h
      (conv => whnf)
      (repeat (first | (exact Out.same; conv => whnf) | (exact Out1.same; conv => whnf) | (refine QAnd.mk ?_ ?_; conv => whnf) | (apply QStepH.go; conv => whnf) | (refine Both.lit_true ?_; conv => whnf) | (refine Both.lit_false ?_; conv => whnf) | (apply QStep.go; conv => whnf) | (refine Need.au ?_; conv => whnf) | (refine ⟨_, rfl, ?_⟩; conv => whnf) | (refine Both.of_false ?_ ?_; (focus (first | rfl | (simp <;> fail))); conv => whnf) | (refine Both.of_true ?_ ?_; (focus (first | rfl | (simp <;> fail))); conv => whnf)))
      exact ⟨_, _, WeakV.drop rfl, h⟩
    (conv => whnf)
    (repeat (first | (exact Out.same; conv => whnf) | (exact Out1.same; conv => whnf) | (refine QAnd.mk ?_ ?_; conv => whnf) | (apply QStepH.go; conv => whnf) | (refine Both.lit_true ?_; conv => whnf) | (refine Both.lit_false ?_; conv => whnf) | (apply QStep.go; conv => whnf) | (refine Need.au ?_; conv => whnf) | (refine ⟨_, rfl, ?_⟩; conv => whnf) | (refine Both.of_false ?_ ?_; (focus (first | rfl | (simp <;> fail))); conv => whnf) | (refine Both.of_true ?_ ?_; (focus (first | rfl | (simp <;> fail))); conv => whnf)))
    refine ⟨k + 1, ⟨hkl, hnext (bad_0 (by omega) (by omega) (by omega)) hall⟩, by omega, Weak.auto ?_⟩
    (repeat' ((conv => whnf); first | exact True.intro | (refine And.intro ?_ ?_)))
    all_goals first | rfl | exact .eq rfl | exact congrArg (SV.int .i64) hwr
  have hke : k = l.length := by omega
  subst hke
  clear hge
  (conv => whnf)
  (repeat (first | (exact Out.same; conv => whnf) | (exact Out1.same; conv => whnf) | (refine QAnd.mk ?_ ?_; conv => whnf) | (apply QStepH.go; conv => whnf) | (refine Both.lit_true ?_; conv => whnf) | (refine Both.lit_false ?_; conv => whnf) | (apply QStep.go; conv => whnf) | (refine Need.au ?_; conv => whnf) | (refine ⟨_, rfl, ?_⟩; conv => whnf) | (refine Both.of_false ?_ ?_; (focus (first | rfl | (simp <;> fail))); conv => whnf) | (refine Both.of_true ?_ ?_; (focus (first | rfl | (simp <;> fail))); conv => whnf)))
  refine loop_rule (fun k : Nat => ⟨[.sl 2 l.length (flP l) f, .any, .any, .any, .int .i64 ((k + 1 : Nat) : Int), .any, .any, .any, .any, .any, .any, .any, .any, .any, .any, .any, .any, .any, .any, .any, .any, .any, .any, .any, .any, .any, .any, .any, .any, .any, .any, .any, .any, .any, .any, .any, .any, .any, .any, .any, .any, .any, .any, .any, .any, .any, .any, .any, .any, .any, .any, .any, .any, .any, .any, .any, .any], []⟩) (fun k => k ≤ l.length ∧ ∀ j, j < k → j + 1 < l.length → lessS (kAt l j) (kAt l (j + 1)) = true) (fun k => l.length - k) 0 ⟨Nat.zero_le _, fun j hj => by omega⟩ (Weak.auto ?_) ?_
  · (repeat' ((conv => whnf); first | exact True.intro | (refine And.intro ?_ ?_)))
    all_goals first | rfl | exact .eq rfl
  rintro k ⟨hk2, hord⟩
  (refine sx_sound Γok _ ?_; conv => whnf)
  (repeat (first | (exact Out.same; conv => whnf) | (exact Out1.same; conv => whnf) | (refine QAnd.mk ?_ ?_; conv => whnf) | (apply QStepH.go; conv => whnf) | (refine Both.lit_true ?_; conv => whnf) | (refine Both.lit_false ?_; conv => whnf) | (apply QStep.go; conv => whnf) | (refine Need.au ?_; conv => whnf) | (refine ⟨_, rfl, ?_⟩; conv => whnf)))
  refine Both.dec (fun hlt => ?_) (fun hge => ?_)
  · have hkl : k + 1 < l.length := by omega
    have hat := flP_at l (k := k) (by omega)
    have hat1 := flP_at l hkl
    have hwr : IntKind.i64.wrap (((k + 1 : Nat) : Int) + 1) = ((k + 1 + 1 : Nat) : Int) := by rw [wrap_i64 (by omega) (by omega)]; rfl
    have hwm : IntKind.i64.wrap (((k + 1 : Nat) : Int) - 1) = ((k : Nat) : Int) := by rw [wrap_i64 (by omega) (by omega)]; omega
    have hin : ti27.size = 2 ∧ (0 : Int) ≤ ((k + 1 : Nat) : Int) ∧ ((k + 1 : Nat) : Int) < ((l.length : Nat) : Int) := ⟨rfl, by omega, by omega⟩
    have hin1 : ti27.size = 2 ∧ (0 : Int) ≤ IntKind.i64.wrap (((k + 1 : Nat) : Int) - 1) ∧ IntKind.i64.wrap (((k + 1 : Nat) : Int) - 1) < ((l.length : Nat) : Int) := ⟨rfl, by rw [hwm]; omega, by rw [hwm]; omega⟩
    have hat2 : ((flP l).drop ((IntKind.i64.wrap (((k + 1 : Nat) : Int) - 1)).toNat * 2)).take 2 = [.str (l.getD k ([], [])).1, .str (l.getD k ([], [])).2] := by rw [hwm]; exact hat
    have hbad : lessS (kAt l k) (kAt l (k + 1)) = false → chkV l = 15 := chk_ord hl4 hall hkl
    have hnext : lessS (kAt l k) (kAt l (k + 1)) = true → ∀ j, j < k + 1 → j + 1 < l.length → lessS (kAt l j) (kAt l (j + 1)) = true := fun h j hj hl => by
      rcases Nat.lt_or_ge j k with h9 | h9
      · exact hord j h9 hl
      · rw [show j = k by omega]; exact h
    have htri := less_tri (kAt l k) (kAt l (k + 1))
    unfold kAt at hbad hnext htri
    clear hat
    revert hat1 hat2 hbad htri hnext
    generalize l.getD k ([], []) = p
    generalize l.getD (k + 1) ([], []) = q
    intro hat1 hat2 hbad hnext htri
    (conv => whnf)
    (refine DrawVC.any Γok (by kernel_rfl) (by kernel_rfl) (by kernel_rfl) (by rfl) ?_; conv => whnf)
    (repeat (first | (refine Need.mk hin ?_; conv => whnf) | (refine Need.mk hin1 ?_; conv => whnf) | (refine ⟨_, hat1, ?_⟩; conv => whnf) | (refine ⟨_, hat2, ?_⟩; conv => whnf) | (exact Out.same; conv => whnf) | (exact Out1.same; conv => whnf) | (refine QAnd.mk ?_ ?_; conv => whnf) | (apply QStepH.go; conv => whnf) | (refine Both.lit_true ?_; conv => whnf) | (refine Both.lit_false ?_; conv => whnf) | (apply QStep.go; conv => whnf) | (refine Need.au ?_; conv => whnf) | (refine ⟨_, rfl, ?_⟩; conv => whnf)))
    refine Both.cases (fun c1 => ?_) (fun c1 => ?_)
    · rw [hbad (by rw [htri, c1]; rfl)] at h
      (conv => whnf)
      (repeat (first | (exact Out.same; conv => whnf) | (exact Out1.same; conv => whnf) | (refine QAnd.mk ?_ ?_; conv => whnf) | (apply QStepH.go; conv => whnf) | (refine Both.lit_true ?_; conv => whnf) | (refine Both.lit_false ?_; conv => whnf) | (apply QStep.go; conv => whnf) | (refine Need.au ?_; conv => whnf) | (refine ⟨_, rfl, ?_⟩; conv => whnf) | (refine Both.of_false ?_ ?_; (focus (first | rfl | (simp <;> fail))); conv => whnf) | (refine Both.of_true ?_ ?_; (focus (first | rfl | (simp <;> fail))); conv => whnf)))
      exact ⟨_, _, WeakV.drop rfl, h⟩
    · (conv => whnf)
      (repeat (first | (exact Out.same; conv => whnf) | (exact Out1.same; conv => whnf) | (refine QAnd.mk ?_ ?_; conv => whnf) | (apply QStepH.go; conv => whnf) | (refine Both.lit_true ?_; conv => whnf) | (refine Both.lit_false ?_; conv => whnf) | (apply QStep.go; conv => whnf) | (refine Need.au ?_; conv => whnf) | (refine ⟨_, rfl, ?_⟩; conv => whnf) | (refine Both.of_false ?_ ?_; (focus (first | rfl | (simp <;> fail))); conv => whnf) | (refine Both.of_true ?_ ?_; (focus (first | rfl | (simp <;> fail))); conv => whnf)))
      refine ⟨k + 1, ⟨by omega, hnext (by rw [htri, c1]; rfl)⟩, by omega, Weak.auto ?_⟩
      (repeat' ((conv => whnf); first | exact True.intro | (refine And.intro ?_ ?_)))
      all_goals first | rfl | exact .eq rfl | exact congrArg (SV.int .i64) hwr
  rw [chk_ok hl4 hall (fun j hj => hord j (by omega) hj)] at h
  (conv => whnf)
  (repeat (first | (exact Out.same; conv => whnf) | (exact Out1.same; conv => whnf) | (refine QAnd.mk ?_ ?_; conv => whnf) | (apply QStepH.go; conv => whnf) | (refine Both.lit_true ?_; conv => whnf) | (refine Both.lit_false ?_; conv => whnf) | (apply QStep.go; conv => whnf) | (refine Need.au ?_; conv => whnf) | (refine ⟨_, rfl, ?_⟩; conv => whnf) | (refine Both.of_false ?_ ?_; (focus (first | rfl | (simp <;> fail))); conv => whnf) | (refine Both.of_true ?_ ?_; (focus (first | rfl | (simp <;> fail))); conv => whnf)))
  exact ⟨_, _, WeakV.drop rfl, h⟩
theorem rchk_k : Contract Tryd.prog [] 11 rchkS := ⟨⟨⟨_, rfl, rfl, rfl⟩⟩, rchk_c⟩
theorem awake8_c {y0 : CV} {cs0 : List CV} (hK : KAt y0 cs0) : Meets Tryd.prog [(0, y0 :: cs0)] 9 yesS := by
  refine meets_of Γok Tryd.func9 rfl ?_
  intro args H Q h
  unfold yesS at h
  split at h
  case h_2 => exact h.elim
  have hl := shaD_len (topX 0 [])
  have hx : topX 0 [] = ([[2, 0, 0, 0, 0, 0, 0, 0, 0]] : List Bs).flatten := by decide
  have hd : decide (((((shaD (topX 0 [])).length : Nat)) : Int) = 32) = true := by rw [hl]; rfl
  have hq : decide (shaD (topX 0 []) = shaD (topX 0 [])) = true := by simp
  have hz : decide ((0 : Int) = 0) = true := by decide
  revert hd hq hl
  rw [hx]
  intro hd hq hl
  (refine sx_sound Γok _ ?_; conv => whnf)
  (repeat (first | (exact Out.same; conv => whnf) | (exact Out1.same; conv => whnf) | (refine QAnd.mk ?_ ?_; conv => whnf) | (apply QStepH.go; conv => whnf) | (refine Both.lit_true ?_; conv => whnf) | (refine Both.lit_false ?_; conv => whnf) | (apply QStep.go; conv => whnf) | (refine Need.au ?_; conv => whnf) | (refine ⟨_, rfl, ?_⟩; conv => whnf)))
  refine CallVC.auto (mroot_k hK) ?_
  (conv => whnf)
  rw [hx]
  (repeat (first | (refine Both.of_true hd ?_; conv => whnf) | (refine Both.of_true hq ?_; conv => whnf) | (refine Both.of_true hz ?_; conv => whnf) | (exact Out.same; conv => whnf) | (exact Out1.same; conv => whnf) | (refine QAnd.mk ?_ ?_; conv => whnf) | (apply QStepH.go; conv => whnf) | (refine Both.lit_true ?_; conv => whnf) | (refine Both.lit_false ?_; conv => whnf) | (apply QStep.go; conv => whnf) | (refine Need.au ?_; conv => whnf) | (refine ⟨_, rfl, ?_⟩; conv => whnf)))
  refine CallVC.auto (mroot_k hK) ?_
  (conv => whnf)
  rw [hx]
  (repeat (first | (refine Both.of_true hd ?_; conv => whnf) | (refine Both.of_true hq ?_; conv => whnf) | (refine Both.of_true hz ?_; conv => whnf) | (exact Out.same; conv => whnf) | (exact Out1.same; conv => whnf) | (refine QAnd.mk ?_ ?_; conv => whnf) | (apply QStepH.go; conv => whnf) | (refine Both.lit_true ?_; conv => whnf) | (refine Both.lit_false ?_; conv => whnf) | (apply QStep.go; conv => whnf) | (refine Need.au ?_; conv => whnf) | (refine ⟨_, rfl, ?_⟩; conv => whnf)))
  refine CallVC.auto (shaSum_k hK) ⟨[[2, 0, 0, 0, 0, 0, 0, 0, 0]], rfl, rfl, by decide, by decide, ?_⟩
  (conv => whnf)
  (repeat (first | (refine Both.of_true hd ?_; conv => whnf) | (refine Both.of_true hq ?_; conv => whnf) | (refine Both.of_true hz ?_; conv => whnf) | (exact Out.same; conv => whnf) | (exact Out1.same; conv => whnf) | (refine QAnd.mk ?_ ?_; conv => whnf) | (apply QStepH.go; conv => whnf) | (refine Both.lit_true ?_; conv => whnf) | (refine Both.lit_false ?_; conv => whnf) | (apply QStep.go; conv => whnf) | (refine Need.au ?_; conv => whnf) | (refine ⟨_, rfl, ?_⟩; conv => whnf)))
  refine CallVC.auto (mchk_k.gl (G := [(0, y0 :: cs0)])) ?_
  (conv => whnf)
  (repeat (first | (refine Both.of_true hd ?_; conv => whnf) | (refine Both.of_true hq ?_; conv => whnf) | (refine Both.of_true hz ?_; conv => whnf) | (exact Out.same; conv => whnf) | (exact Out1.same; conv => whnf) | (refine QAnd.mk ?_ ?_; conv => whnf) | (apply QStepH.go; conv => whnf) | (refine Both.lit_true ?_; conv => whnf) | (refine Both.lit_false ?_; conv => whnf) | (apply QStep.go; conv => whnf) | (refine Need.au ?_; conv => whnf) | (refine ⟨_, rfl, ?_⟩; conv => whnf)))
  exact ⟨_, _, WeakV.drop rfl, h⟩
theorem awake8_k {y0 : CV} {cs0 : List CV} (hK : KAt y0 cs0) : Contract Tryd.prog [(0, y0 :: cs0)] 9 yesS := ⟨⟨⟨_, rfl, rfl, rfl⟩⟩, awake8_c hK⟩
def few8S : Spec := fun args H Q => match args, H with
  | [.sl 2 n cs f], [] => ∃ l : List Pr, n = l.length ∧ cs = flP l ∧ (∀ r : Bool, (r = true → l.length ≤ 40 ∧ ∀ p ∈ l, p.1.length ≤ 300 ∧ p.2.length ≤ 300) → Q (.bool r) [])
  | _, _ => False
theorem few8_c : Meets Tryd.prog [] 10 few8S := by
  refine meets_of Γok Tryd.func10 rfl ?_
  intro args H Q h
  unfold few8S at h
  split at h
  case h_2 => exact h.elim
  rename_i n cs f
  obtain ⟨l, rfl, rfl, h⟩ := h
  have hno := h false (fun h9 => by cases h9)
  (refine sx_sound Γok _ ?_; conv => whnf)
  (repeat (first | (exact Out.same; conv => whnf) | (exact Out1.same; conv => whnf) | (refine QAnd.mk ?_ ?_; conv => whnf) | (apply QStepH.go; conv => whnf) | (refine Both.lit_true ?_; conv => whnf) | (refine Both.lit_false ?_; conv => whnf) | (apply QStep.go; conv => whnf) | (refine Need.au ?_; conv => whnf) | (refine ⟨_, rfl, ?_⟩; conv => whnf)))
  refine Both.dec (fun hbig => ?_) (fun hbig => ?_)
  · (conv => whnf)
    (repeat (first | (exact Out.same; conv => whnf) | (exact Out1.same; conv => whnf) | (refine QAnd.mk ?_ ?_; conv => whnf) | (apply QStepH.go; conv => whnf) | (refine Both.lit_true ?_; conv => whnf) | (refine Both.lit_false ?_; conv => whnf) | (apply QStep.go; conv => whnf) | (refine Need.au ?_; conv => whnf) | (refine ⟨_, rfl, ?_⟩; conv => whnf) | (refine Both.of_false ?_ ?_; (focus (first | rfl | (simp <;> fail))); conv => whnf) | (refine Both.of_true ?_ ?_; (focus (first | rfl | (simp <;> fail))); conv => whnf)))
    exact ⟨_, _, WeakV.drop rfl, hno⟩
  have hl40 : l.length ≤ 40 := by omega
  (conv => whnf)
  (repeat (first | (exact Out.same; conv => whnf) | (exact Out1.same; conv => whnf) | (refine QAnd.mk ?_ ?_; conv => whnf) | (apply QStepH.go; conv => whnf) | (refine Both.lit_true ?_; conv => whnf) | (refine Both.lit_false ?_; conv => whnf) | (apply QStep.go; conv => whnf) | (refine Need.au ?_; conv => whnf) | (refine ⟨_, rfl, ?_⟩; conv => whnf) | (refine Both.of_false ?_ ?_; (focus (first | rfl | (simp <;> fail))); conv => whnf) | (refine Both.of_true ?_ ?_; (focus (first | rfl | (simp <;> fail))); conv => whnf)))
  refine loop_rule (fun k : Nat => ⟨[.sl 2 l.length (flP l) f, .any, .any, .int .i64 (k : Int), .any, .any, .any, .any, .any, .any, .any, .any, .any, .any, .any, .any, .any, .any, .any, .any, .any, .any, .any, .any, .any, .any, .any, .any, .any], []⟩) (fun k => k ≤ l.length ∧ ∀ j, j < k → (l.getD j ([], [])).1.length ≤ 300 ∧ (l.getD j ([], [])).2.length ≤ 300) (fun k => l.length - k) 0 ⟨Nat.zero_le _, fun j hj => by omega⟩ (Weak.auto ?_) ?_
  · (repeat' ((conv => whnf); first | exact True.intro | (refine And.intro ?_ ?_)))
    all_goals first | rfl | exact .eq rfl
  rintro k ⟨hk, hall⟩
  (refine sx_sound Γok _ ?_; conv => whnf)
  (repeat (first | (exact Out.same; conv => whnf) | (exact Out1.same; conv => whnf) | (refine QAnd.mk ?_ ?_; conv => whnf) | (apply QStepH.go; conv => whnf) | (refine Both.lit_true ?_; conv => whnf) | (refine Both.lit_false ?_; conv => whnf) | (apply QStep.go; conv => whnf) | (refine Need.au ?_; conv => whnf) | (refine ⟨_, rfl, ?_⟩; conv => whnf)))
  refine Both.dec (fun hlt => ?_) (fun hge => ?_)
  · have hkl : k < l.length := by omega
    have hat := flP_at l hkl
    have hin : ti27.size = 2 ∧ (0 : Int) ≤ (k : Int) ∧ (k : Int) < ((l.length : Nat) : Int) := ⟨rfl, by omega, by omega⟩
    have hwr : IntKind.i64.wrap ((k : Int) + 1) = ((k + 1 : Nat) : Int) := by rw [wrap_i64 (by omega) (by omega)]; rfl
    (conv => whnf)
    (repeat (first | (refine Need.mk hin ?_; conv => whnf) | (refine ⟨_, hat, ?_⟩; conv => whnf) | (exact Out.same; conv => whnf) | (exact Out1.same; conv => whnf) | (refine QAnd.mk ?_ ?_; conv => whnf) | (apply QStepH.go; conv => whnf) | (refine Both.lit_true ?_; conv => whnf) | (refine Both.lit_false ?_; conv => whnf) | (apply QStep.go; conv => whnf) | (refine Need.au ?_; conv => whnf) | (refine ⟨_, rfl, ?_⟩; conv => whnf)))
    refine Both.dec (fun c1 => ?_) (fun c1 => ?_)
    · (conv => whnf)
      (repeat (first | (exact Out.same; conv => whnf) | (exact Out1.same; conv => whnf) | (refine QAnd.mk ?_ ?_; conv => whnf) | (apply QStepH.go; conv => whnf) | (refine Both.lit_true ?_; conv => whnf) | (refine Both.lit_false ?_; conv => whnf) | (apply QStep.go; conv => whnf) | (refine Need.au ?_; conv => whnf) | (refine ⟨_, rfl, ?_⟩; conv => whnf) | (refine Both.of_false ?_ ?_; (focus (first | rfl | (simp <;> fail))); conv => whnf) | (refine Both.of_true ?_ ?_; (focus (first | rfl | (simp <;> fail))); conv => whnf)))
      exact ⟨_, _, WeakV.drop rfl, hno⟩
    (conv => whnf)
    (repeat (first | (refine Need.mk hin ?_; conv => whnf) | (refine ⟨_, hat, ?_⟩; conv => whnf) | (exact Out.same; conv => whnf) | (exact Out1.same; conv => whnf) | (refine QAnd.mk ?_ ?_; conv => whnf) | (apply QStepH.go; conv => whnf) | (refine Both.lit_true ?_; conv => whnf) | (refine Both.lit_false ?_; conv => whnf) | (apply QStep.go; conv => whnf) | (refine Need.au ?_; conv => whnf) | (refine ⟨_, rfl, ?_⟩; conv => whnf)))
    refine Both.dec (fun c2 => ?_) (fun c2 => ?_)
    · (conv => whnf)
      (repeat (first | (exact Out.same; conv => whnf) | (exact Out1.same; conv => whnf) | (refine QAnd.mk ?_ ?_; conv => whnf) | (apply QStepH.go; conv => whnf) | (refine Both.lit_true ?_; conv => whnf) | (refine Both.lit_false ?_; conv => whnf) | (apply QStep.go; conv => whnf) | (refine Need.au ?_; conv => whnf) | (refine ⟨_, rfl, ?_⟩; conv => whnf) | (refine Both.of_false ?_ ?_; (focus (first | rfl | (simp <;> fail))); conv => whnf) | (refine Both.of_true ?_ ?_; (focus (first | rfl | (simp <;> fail))); conv => whnf)))
      exact ⟨_, _, WeakV.drop rfl, hno⟩
    (conv => whnf)
    (repeat (first | (exact Out.same; conv => whnf) | (exact Out1.same; conv => whnf) | (refine QAnd.mk ?_ ?_; conv => whnf) | (apply QStepH.go; conv => whnf) | (refine Both.lit_true ?_; conv => whnf) | (refine Both.lit_false ?_; conv => whnf) | (apply QStep.go; conv => whnf) | (refine Need.au ?_; conv => whnf) | (refine ⟨_, rfl, ?_⟩; conv => whnf) | (refine Both.of_false ?_ ?_; (focus (first | rfl | (simp <;> fail))); conv => whnf) | (refine Both.of_true ?_ ?_; (focus (first | rfl | (simp <;> fail))); conv => whnf)))
    refine ⟨k + 1, ⟨hkl, fun j hj => ?_⟩, by omega, Weak.auto ?_⟩
    · rcases Nat.lt_or_ge j k with h9 | h9
      · exact hall j h9
      · rw [show j = k by omega]
        omega
    (repeat' ((conv => whnf); first | exact True.intro | (refine And.intro ?_ ?_)))
    all_goals first | rfl | exact .eq rfl | exact congrArg (SV.int .i64) hwr
  have hke : k = l.length := by omega
  have hyes := h true (fun _ => ⟨hl40, fun p hp => by
    obtain ⟨j, hj, rfl⟩ := List.getElem_of_mem hp
    have := hall j (by omega)
    rw [List.getD_eq_getElem?_getD, List.getElem?_eq_getElem hj] at this
    exact this⟩)
  (conv => whnf)
  (repeat (first | (exact Out.same; conv => whnf) | (exact Out1.same; conv => whnf) | (refine QAnd.mk ?_ ?_; conv => whnf) | (apply QStepH.go; conv => whnf) | (refine Both.lit_true ?_; conv => whnf) | (refine Both.lit_false ?_; conv => whnf) | (apply QStep.go; conv => whnf) | (refine Need.au ?_; conv => whnf) | (refine ⟨_, rfl, ?_⟩; conv => whnf) | (refine Both.of_false ?_ ?_; (focus (first | rfl | (simp <;> fail))); conv => whnf) | (refine Both.of_true ?_ ?_; (focus (first | rfl | (simp <;> fail))); conv => whnf)))
  exact ⟨_, _, WeakV.drop rfl, hyes⟩
theorem few8_k : Contract Tryd.prog [] 10 few8S := ⟨⟨⟨_, rfl, rfl, rfl⟩⟩, few8_c⟩
end Go.LX
end
section
set_option maxRecDepth 100000
set_option maxHeartbeats 1000000
set_option autoImplicit false
set_option linter.unusedVariables false
set_option linter.unusedSimpArgs false
namespace Go.LX
open Go.Proofs Go.RowKit Go.ChangeShapes Go.WideShapes Go.ChangeAt
section
variable {H : Type} {enc : TypeId × Value → H} {W : World}
end
end Go.LX
end
section
set_option maxRecDepth 100000
set_option maxHeartbeats 1000000
set_option autoImplicit false
set_option linter.unusedVariables false
set_option linter.unusedSimpArgs false
namespace Go.LX
open Go.Proofs Go.RowKit Go.ChangeShapes Go.WideShapes Go.ChangeAt
section
variable {H : Type} {enc : TypeId × Value → H} {W : World}
theorem cells_str : Tryd.prog.cellsOf 9 = 1 := by kernel_rfl
theorem cells_pair : Tryd.prog.cellsOf 27 = 2 := by kernel_rfl
theorem len2 {α : Type} {l : List α} (h : l.length = 2) : ∃ a b, l = [a, b] := by
  match l, h with
  | [a, b], _ => exact ⟨a, b, rfl⟩
theorem crs2 {I : Nat → Prop} {a b : CV} {u v : Value} (h1 : CR I W a u) (h2 : CR I W b v) : CRs I W [a, b] [u, v] := ⟨rfl, fun j x y hx hy => by
  match j with
  | 0 => cases hx; cases hy; exact h1
  | 1 => cases hx; cases hy; exact h2
  | j + 2 => simp at hx⟩
theorem open_pair1 {n : Nat} {cs : List Value} {y : DataW H × List MemPlace} (h : DataW.trod enc Tryd.prog W 0 (fun _ => true) true n 27 cs = some y) (hw : InReach Tryd.prog 27 y.1) :
    ∃ p : Pr, CRs (E0 W).I W (enP p) cs ∧ p.1.length ≤ reachBytes ∧ p.2.length ≤ reachBytes := by
  obtain ⟨hl, hf⟩ := open_fields2 (t := 27) Tryd.underlying27 h hw
  rw [cells_pair] at hl
  obtain ⟨c0, c1, rfl⟩ := len2 hl
  obtain ⟨n0, y0, t0, q0⟩ := hf 0 _ rfl
  obtain ⟨n1, y1, t1, q1⟩ := hf 1 _ rfl
  replace t0 : DataW.trod enc Tryd.prog W 0 (fun _ => true) true n0 9 (List.take (Tryd.prog.cellsOf 9) (List.drop 0 [c0, c1])) = some y0 := t0
  replace t1 : DataW.trod enc Tryd.prog W 0 (fun _ => true) true n1 9 (List.take (Tryd.prog.cellsOf 9) (List.drop 1 [c0, c1])) = some y1 := t1
  rw [cells_str] at t0 t1
  obtain ⟨s0, rfl, w0⟩ := leaf_str Tryd.underlying9 t0 q0
  obtain ⟨s1, rfl, w1⟩ := leaf_str Tryd.underlying9 t1 q1
  exact ⟨(s0, s1), crs2 (.str _) (.str _), w0, w1⟩
theorem open_pairs {v : Value} {d : DataW H} {ps : List MemPlace} (hv : v.cells = #[v]) (h : DataW.Trod enc Tryd.prog W 0 (fun _ => true) true 22 v d ps) (hw : InReach Tryd.prog 22 d) :
    ∃ l : List Pr, VR (E0 W) W (.sl 2 l.length (l.flatMap enP) false) v ∧ (∀ p ∈ l, p.1.length ≤ reachBytes ∧ p.2.length ≤ reachBytes) ∧ l.length ≤ 9223372036854775807 :=
  open_rows (t := 22) (e := 27) (sz := 2) enP (fun p => p.1.length ≤ reachBytes ∧ p.2.length ≤ reachBytes) Tryd.underlying22 (by kernel_rfl) (by omega) (fun r => rfl) (fun n cs y hy hw => open_pair1 hy hw) hv h hw
structure LeafA where
  i : Int
  c : Int
  k : Bs
  v : Bs
  p : List Bs
structure LeafA.ok (a : LeafA) : Prop where
  i : -9223372036854775808 ≤ a.i ∧ a.i ≤ 9223372036854775807
  c : -9223372036854775808 ≤ a.c ∧ a.c ≤ 9223372036854775807
  p : a.p.length ≤ 9223372036854775807
end
end Go.LX
end
section
set_option maxRecDepth 100000
set_option maxHeartbeats 2000000
set_option autoImplicit false
set_option linter.unusedVariables false
set_option linter.unusedSimpArgs false
namespace Go.LX
open Go.Proofs

end Go.LX
end
section
set_option maxRecDepth 100000
set_option maxHeartbeats 2000000
set_option autoImplicit false
set_option linter.unusedVariables false
set_option linter.unusedSimpArgs false
namespace Go.LX
open Go.Proofs

end Go.LX
end
section
set_option maxRecDepth 100000
set_option maxHeartbeats 2000000
set_option autoImplicit false
set_option linter.unusedVariables false
set_option linter.unusedSimpArgs false
namespace Go.LX
open Go.Proofs

theorem chk_short {l : List Pr} (h : chkV l = 0) : l.length ≤ 4096 ∧ ∀ p ∈ l, p.1.length ≤ 16 ∧ p.2.length ≤ 64 := by
  unfold chkV at h
  split at h
  · cases h
  · rename_i h1
    split at h
    · cases h
    · rename_i h2
      refine ⟨by omega, fun p hp => ?_⟩
      have h3 : l.any badB = false := by
        cases hb : l.any badB with
        | false => rfl
        | true => exact absurd hb h2
      have h4 := List.any_eq_false.1 h3 p hp
      constructor
      · rcases Nat.lt_or_ge 16 p.1.length with h9 | h9
        · exact absurd (bad_2 h9) h4
        · exact h9
      · rcases Nat.lt_or_ge 64 p.2.length with h9 | h9
        · exact absurd (bad_3 h9) h4
        · exact h9
theorem pair_eq (p q : Pr) : (decide (p.1 = q.1) && (decide (p.2 = q.2) && true)) = decide (p = q) := by
  obtain ⟨a, b⟩ := p
  obtain ⟨c, d⟩ := q
  by_cases h1 : a = c <;> by_cases h2 : b = d <;> simp [h1, h2]
theorem list_ext {l m : List Pr} (hl : l.length = m.length) (h : ∀ j, j < l.length → l.getD j ([], []) = m.getD j ([], [])) : l = m := by
  apply List.ext_getElem hl
  intro j h1 h2
  have := h j h1
  rw [List.getD_eq_getElem?_getD, List.getElem?_eq_getElem h1, List.getD_eq_getElem?_getD, List.getElem?_eq_getElem h2] at this
  exact this
end Go.LX
end
