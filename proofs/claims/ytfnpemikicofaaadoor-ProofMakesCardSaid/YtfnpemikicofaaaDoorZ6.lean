/- Own texts of this claim, in build order: Mf, Mg, Mh, Mi, Mj, Lp, Qa, Lo, Mo, Mk, Ml, Qb, Qc, Qd, Mp. -/
import Derived.Test.YtfnpemikicofaaaDoorZ5
section
set_option maxRecDepth 100000
set_option maxHeartbeats 2000000
set_option autoImplicit false
set_option linter.unusedVariables false
set_option linter.unusedSimpArgs false
namespace Go.LX
open Go.Proofs

theorem strs_last (p : List Bs) (b : Bs) : (strs (p ++ [b]))[((p.length : Nat) : Int).toNat]? = some (CV.str b) := by
  have := strs_at (p ++ [b]) (k := p.length) (by simp)
  rw [getD_end] at this
  exact this
theorem strs_cut (p : List Bs) (b : Bs) : ((strs (p ++ [b])).take (((p.length : Nat) : Int).toNat * 1)).drop ((0 : Int).toNat * 1) = strs p := by
  simp only [Int.toNat_natCast, Nat.mul_one]
  rw [strs, strs, ← List.map_take, List.take_left]
  rfl
theorem up_c {y0 : CV} {cs0 : List CV} (hK : KAt y0 cs0) : ∀ m, Meets Tryd.prog [(0, y0 :: cs0)] 91 (upS m)
  | 0 => by
    intro args H Q h
    unfold upS at h
    split at h
    case h_2 => exact h.elim
    obtain ⟨i, cnt, p, _, _, h1, h2, _⟩ := h
    omega
  | m + 1 => by
    have ih : Contract Tryd.prog [(0, y0 :: cs0)] 91 (upS m) := ⟨⟨⟨_, rfl, rfl, rfl⟩⟩, up_c hK m⟩
    refine meets_of Γok Tryd.func91 rfl ?_
    intro args H Q h
    unfold upS at h
    split at h
    case h_2 => exact h.elim
    rename_i x y c1 c2 k v n0 cs0' n cs ok
    obtain ⟨i, cnt, p, rfl, rfl, hi, hm, h60, rfl, rfl, hp, hk, hv, h⟩ := h
    (refine sx_sound Γok _ ?_; conv => whnf)
    (repeat (first | (exact Out.same; conv => whnf) | (exact Out1.same; conv => whnf) | (refine QAnd.mk ?_ ?_; conv => whnf) | (apply QStepH.go; conv => whnf) | (refine Both.lit_true ?_; conv => whnf) | (refine Both.lit_false ?_; conv => whnf) | (apply QStep.go; conv => whnf) | (refine Need.mk ?_ ?_; (focus (first | omega | exact ⟨by omega, by omega⟩ | rfl | exact ⟨rfl, rfl⟩ | exact ⟨rfl, by omega, by omega⟩ | exact ⟨by omega, by omega, by omega⟩ | exact ⟨rfl, Nat.le_of_ble_eq_true rfl⟩ | exact Nat.le_of_ble_eq_true rfl | (refine ⟨rfl, rfl, ?_⟩; simp [isFar, ofV0, CV.up, SV.renL, SV.ren] <;> fail) | (refine ⟨rfl, Nat.le_of_ble_eq_true rfl, ?_⟩; simp [isFar, ofV0, CV.up, SV.renL, SV.ren] <;> fail) | (simp only [List.length_append, List.length_drop, List.length_take, List.length_replicate, List.length_map]; omega) | (simp <;> fail))); conv => whnf) | (refine ⟨_, rfl, ?_⟩; conv => whnf)))
    refine Both.dec (fun hone => ?_) (fun hmore => ?_)
    · rw [upP_one (show cnt ≤ 1 by omega)] at h
      (conv => whnf)
      (repeat (first | (exact Out.same; conv => whnf) | (exact Out1.same; conv => whnf) | (refine QAnd.mk ?_ ?_; conv => whnf) | (apply QStepH.go; conv => whnf) | (refine Both.lit_true ?_; conv => whnf) | (refine Both.lit_false ?_; conv => whnf) | (apply QStep.go; conv => whnf) | (refine Need.mk ?_ ?_; (focus (first | omega | exact ⟨by omega, by omega⟩ | rfl | exact ⟨rfl, rfl⟩ | exact ⟨rfl, by omega, by omega⟩ | exact ⟨by omega, by omega, by omega⟩ | exact ⟨rfl, Nat.le_of_ble_eq_true rfl⟩ | exact Nat.le_of_ble_eq_true rfl | (refine ⟨rfl, rfl, ?_⟩; simp [isFar, ofV0, CV.up, SV.renL, SV.ren] <;> fail) | (refine ⟨rfl, Nat.le_of_ble_eq_true rfl, ?_⟩; simp [isFar, ofV0, CV.up, SV.renL, SV.ren] <;> fail) | (simp only [List.length_append, List.length_drop, List.length_take, List.length_replicate, List.length_map]; omega) | (simp <;> fail))); conv => whnf) | (refine ⟨_, rfl, ?_⟩; conv => whnf)))
      refine CallVC.auto (leaf_k hK) (Need.mk ⟨hk, hv⟩ ?_)
      (conv => whnf)
      (repeat (first | (exact Out.same; conv => whnf) | (exact Out1.same; conv => whnf) | (refine QAnd.mk ?_ ?_; conv => whnf) | (apply QStepH.go; conv => whnf) | (refine Both.lit_true ?_; conv => whnf) | (refine Both.lit_false ?_; conv => whnf) | (apply QStep.go; conv => whnf) | (refine Need.mk ?_ ?_; (focus (first | omega | exact ⟨by omega, by omega⟩ | rfl | exact ⟨rfl, rfl⟩ | exact ⟨rfl, by omega, by omega⟩ | exact ⟨by omega, by omega, by omega⟩ | exact ⟨rfl, Nat.le_of_ble_eq_true rfl⟩ | exact Nat.le_of_ble_eq_true rfl | (refine ⟨rfl, rfl, ?_⟩; simp [isFar, ofV0, CV.up, SV.renL, SV.ren] <;> fail) | (refine ⟨rfl, Nat.le_of_ble_eq_true rfl, ?_⟩; simp [isFar, ofV0, CV.up, SV.renL, SV.ren] <;> fail) | (simp only [List.length_append, List.length_drop, List.length_take, List.length_replicate, List.length_map]; omega) | (simp <;> fail))); conv => whnf) | (refine ⟨_, rfl, ?_⟩; conv => whnf)))
      refine ⟨_, _, WeakV.auto ?_, h⟩
      (repeat' ((conv => whnf); first | exact True.intro | (refine And.intro ?_ ?_)))
      all_goals first | rfl | exact .eq rfl
    have hn1 : ¬ cnt ≤ 1 := by omega
    have hlt := lft_lt (n := cnt) (by omega)
    have hpos := lft_pos cnt
    rw [upP_two hn1] at h
    revert h hlt hpos
    generalize hg : lft cnt = g
    intro h hlt hpos
    (conv => whnf)
    (repeat (first | (exact Out.same; conv => whnf) | (exact Out1.same; conv => whnf) | (refine QAnd.mk ?_ ?_; conv => whnf) | (apply QStepH.go; conv => whnf) | (refine Both.lit_true ?_; conv => whnf) | (refine Both.lit_false ?_; conv => whnf) | (apply QStep.go; conv => whnf) | (refine Need.mk ?_ ?_; (focus (first | omega | exact ⟨by omega, by omega⟩ | rfl | exact ⟨rfl, rfl⟩ | exact ⟨rfl, by omega, by omega⟩ | exact ⟨by omega, by omega, by omega⟩ | exact ⟨rfl, Nat.le_of_ble_eq_true rfl⟩ | exact Nat.le_of_ble_eq_true rfl | (refine ⟨rfl, rfl, ?_⟩; simp [isFar, ofV0, CV.up, SV.renL, SV.ren] <;> fail) | (refine ⟨rfl, Nat.le_of_ble_eq_true rfl, ?_⟩; simp [isFar, ofV0, CV.up, SV.renL, SV.ren] <;> fail) | (simp only [List.length_append, List.length_drop, List.length_take, List.length_replicate, List.length_map]; omega) | (simp <;> fail))); conv => whnf) | (refine ⟨_, rfl, ?_⟩; conv => whnf)))
    refine CallVC.auto (lft_k.gl (G := [(0, y0 :: cs0)])) ⟨cnt, rfl, by omega, by omega, ?_⟩
    rw [hg]
    (conv => whnf)
    (repeat (first | (exact Out.same; conv => whnf) | (exact Out1.same; conv => whnf) | (refine QAnd.mk ?_ ?_; conv => whnf) | (apply QStepH.go; conv => whnf) | (refine Both.lit_true ?_; conv => whnf) | (refine Both.lit_false ?_; conv => whnf) | (apply QStep.go; conv => whnf) | (refine Need.mk ?_ ?_; (focus (first | omega | exact ⟨by omega, by omega⟩ | rfl | exact ⟨rfl, rfl⟩ | exact ⟨rfl, by omega, by omega⟩ | exact ⟨by omega, by omega, by omega⟩ | exact ⟨rfl, Nat.le_of_ble_eq_true rfl⟩ | exact Nat.le_of_ble_eq_true rfl | (refine ⟨rfl, rfl, ?_⟩; simp [isFar, ofV0, CV.up, SV.renL, SV.ren] <;> fail) | (refine ⟨rfl, Nat.le_of_ble_eq_true rfl, ?_⟩; simp [isFar, ofV0, CV.up, SV.renL, SV.ren] <;> fail) | (simp only [List.length_append, List.length_drop, List.length_take, List.length_replicate, List.length_map]; omega) | (simp <;> fail))); conv => whnf) | (refine ⟨_, rfl, ?_⟩; conv => whnf)))
    refine Both.dec (fun hz => ?_) (fun hnz => ?_)
    · have hp0 : p = [] := List.eq_nil_of_length_eq_zero (by omega)
      subst hp0
      (conv => whnf)
      (repeat (first | (exact Out.same; conv => whnf) | (exact Out1.same; conv => whnf) | (refine QAnd.mk ?_ ?_; conv => whnf) | (apply QStepH.go; conv => whnf) | (refine Both.lit_true ?_; conv => whnf) | (refine Both.lit_false ?_; conv => whnf) | (apply QStep.go; conv => whnf) | (refine Need.mk ?_ ?_; (focus (first | omega | exact ⟨by omega, by omega⟩ | rfl | exact ⟨rfl, rfl⟩ | exact ⟨rfl, by omega, by omega⟩ | exact ⟨by omega, by omega, by omega⟩ | exact ⟨rfl, Nat.le_of_ble_eq_true rfl⟩ | exact Nat.le_of_ble_eq_true rfl | (refine ⟨rfl, rfl, ?_⟩; simp [isFar, ofV0, CV.up, SV.renL, SV.ren] <;> fail) | (refine ⟨rfl, Nat.le_of_ble_eq_true rfl, ?_⟩; simp [isFar, ofV0, CV.up, SV.renL, SV.ren] <;> fail) | (simp only [List.length_append, List.length_drop, List.length_take, List.length_replicate, List.length_map]; omega) | (simp <;> fail))); conv => whnf) | (refine ⟨_, rfl, ?_⟩; conv => whnf) | (refine Both.of_false ?_ ?_; (focus (first | rfl | (simp <;> fail))); conv => whnf) | (refine Both.of_true ?_ ?_; (focus (first | rfl | (simp <;> fail))); conv => whnf)))
      refine ⟨_, _, WeakV.auto ?_, h⟩
      (repeat' ((conv => whnf); first | exact True.intro | (refine And.intro ?_ ?_)))
      all_goals first | rfl | exact .eq rfl
    obtain ⟨p', b, rfl⟩ := snoc_of (q := p) (by omega)
    rw [last_snoc, drop_snoc] at h
    dsimp only at h
    have hll : (p' ++ [b]).length = p'.length + 1 := by simp
    have hw : IntKind.i64.wrap ((((p' ++ [b]).length : Nat) : Int) - 1) = ((p'.length : Nat) : Int) := by rw [hll, wrap_i64 (by omega) (by omega)]; omega
    have hat := strs_last p' b
    have hcut := strs_cut p' b
    have hin : (1 : Nat) = 1 ∧ 0 ≤ IntKind.i64.wrap ((((p' ++ [b]).length : Nat) : Int) - 1) ∧ IntKind.i64.wrap ((((p' ++ [b]).length : Nat) : Int) - 1) < (((p' ++ [b]).length : Nat) : Int) := ⟨rfl, by rw [hw]; omega, by rw [hw, hll]; omega⟩
    have hat2 : (strs (p' ++ [b]))[(IntKind.i64.wrap ((((p' ++ [b]).length : Nat) : Int) - 1)).toNat]? = some (CV.str b) := by rw [hw]; exact hat
    (conv => whnf)
    (repeat (first | (refine Need.mk hin ?_; conv => whnf) | (refine ⟨_, hat2, ?_⟩; conv => whnf) | (exact Out.same; conv => whnf) | (exact Out1.same; conv => whnf) | (refine QAnd.mk ?_ ?_; conv => whnf) | (apply QStepH.go; conv => whnf) | (refine Both.lit_true ?_; conv => whnf) | (refine Both.lit_false ?_; conv => whnf) | (apply QStep.go; conv => whnf) | (refine Need.mk ?_ ?_; (focus (first | omega | exact ⟨by omega, by omega⟩ | rfl | exact ⟨rfl, rfl⟩ | exact ⟨rfl, by omega, by omega⟩ | exact ⟨by omega, by omega, by omega⟩ | exact ⟨rfl, Nat.le_of_ble_eq_true rfl⟩ | exact Nat.le_of_ble_eq_true rfl | (refine ⟨rfl, rfl, ?_⟩; simp [isFar, ofV0, CV.up, SV.renL, SV.ren] <;> fail) | (refine ⟨rfl, Nat.le_of_ble_eq_true rfl, ?_⟩; simp [isFar, ofV0, CV.up, SV.renL, SV.ren] <;> fail) | (simp only [List.length_append, List.length_drop, List.length_take, List.length_replicate, List.length_map]; omega) | (simp <;> fail))); conv => whnf) | (refine ⟨_, rfl, ?_⟩; conv => whnf)))
    refine Both.dec_not (fun hbad => ?_) (fun hgood => ?_)
    · have hb : ¬ b.length = 32 := by omega
      rw [if_neg hb] at h
      (conv => whnf)
      (repeat (first | (exact Out.same; conv => whnf) | (exact Out1.same; conv => whnf) | (refine QAnd.mk ?_ ?_; conv => whnf) | (apply QStepH.go; conv => whnf) | (refine Both.lit_true ?_; conv => whnf) | (refine Both.lit_false ?_; conv => whnf) | (apply QStep.go; conv => whnf) | (refine Need.mk ?_ ?_; (focus (first | omega | exact ⟨by omega, by omega⟩ | rfl | exact ⟨rfl, rfl⟩ | exact ⟨rfl, by omega, by omega⟩ | exact ⟨by omega, by omega, by omega⟩ | exact ⟨rfl, Nat.le_of_ble_eq_true rfl⟩ | exact Nat.le_of_ble_eq_true rfl | (refine ⟨rfl, rfl, ?_⟩; simp [isFar, ofV0, CV.up, SV.renL, SV.ren] <;> fail) | (refine ⟨rfl, Nat.le_of_ble_eq_true rfl, ?_⟩; simp [isFar, ofV0, CV.up, SV.renL, SV.ren] <;> fail) | (simp only [List.length_append, List.length_drop, List.length_take, List.length_replicate, List.length_map]; omega) | (simp <;> fail))); conv => whnf) | (refine ⟨_, rfl, ?_⟩; conv => whnf) | (refine Both.of_false ?_ ?_; (focus (first | rfl | (simp <;> fail))); conv => whnf) | (refine Both.of_true ?_ ?_; (focus (first | rfl | (simp <;> fail))); conv => whnf)))
      refine ⟨_, _, WeakV.auto ?_, h⟩
      (repeat' ((conv => whnf); first | exact True.intro | (refine And.intro ?_ ?_)))
      all_goals first | rfl | exact .eq rfl
    have hb : b.length = 32 := by omega
    rw [if_pos hb] at h
    have hct : ti9.size = 1 ∧ (0 : Int) ≤ 0 ∧ (0 : Int) ≤ IntKind.i64.wrap ((((p' ++ [b]).length : Nat) : Int) - 1) ∧ IntKind.i64.wrap ((((p' ++ [b]).length : Nat) : Int) - 1) ≤ (((p' ++ [b]).length : Nat) : Int) := ⟨rfl, by omega, by rw [hw]; omega, by rw [hw, hll]; omega⟩
    have hcs : ((strs (p' ++ [b])).take ((IntKind.i64.wrap ((((p' ++ [b]).length : Nat) : Int) - 1)).toNat * 1)).drop ((0 : Int).toNat * 1) = strs p' := by rw [hw]; exact hcut
    have hcn : (IntKind.i64.wrap ((((p' ++ [b]).length : Nat) : Int) - 1)).toNat - (0 : Int).toNat = p'.length := by rw [hw]; rfl
    (conv => whnf)
    (repeat (first | (refine Need.mk hin ?_; conv => whnf) | (refine ⟨_, hat2, ?_⟩; conv => whnf) | (refine Need.mk hct ?_; conv => whnf) | (exact Out.same; conv => whnf) | (exact Out1.same; conv => whnf) | (refine QAnd.mk ?_ ?_; conv => whnf) | (apply QStepH.go; conv => whnf) | (refine Both.lit_true ?_; conv => whnf) | (refine Both.lit_false ?_; conv => whnf) | (apply QStep.go; conv => whnf) | (refine Need.mk ?_ ?_; (focus (first | omega | exact ⟨by omega, by omega⟩ | rfl | exact ⟨rfl, rfl⟩ | exact ⟨rfl, by omega, by omega⟩ | exact ⟨by omega, by omega, by omega⟩ | exact ⟨rfl, Nat.le_of_ble_eq_true rfl⟩ | exact Nat.le_of_ble_eq_true rfl | (refine ⟨rfl, rfl, ?_⟩; simp [isFar, ofV0, CV.up, SV.renL, SV.ren] <;> fail) | (refine ⟨rfl, Nat.le_of_ble_eq_true rfl, ?_⟩; simp [isFar, ofV0, CV.up, SV.renL, SV.ren] <;> fail) | (simp only [List.length_append, List.length_drop, List.length_take, List.length_replicate, List.length_map]; omega) | (simp <;> fail))); conv => whnf) | (refine ⟨_, rfl, ?_⟩; conv => whnf)))
    refine Both.dec (fun hlo => ?_) (fun hhi => ?_)
    · rw [if_pos (by omega)] at h
      dsimp only at h
      have hsh := up_short (txLeaf (k, v)) g g i p' ok (Nat.le_refl _)
      (conv => whnf)
      (repeat (first | (exact Out.same; conv => whnf) | (exact Out1.same; conv => whnf) | (refine QAnd.mk ?_ ?_; conv => whnf) | (apply QStepH.go; conv => whnf) | (refine Both.lit_true ?_; conv => whnf) | (refine Both.lit_false ?_; conv => whnf) | (apply QStep.go; conv => whnf) | (refine Need.mk ?_ ?_; (focus (first | omega | exact ⟨by omega, by omega⟩ | rfl | exact ⟨rfl, rfl⟩ | exact ⟨rfl, by omega, by omega⟩ | exact ⟨by omega, by omega, by omega⟩ | exact ⟨rfl, Nat.le_of_ble_eq_true rfl⟩ | exact Nat.le_of_ble_eq_true rfl | (refine ⟨rfl, rfl, ?_⟩; simp [isFar, ofV0, CV.up, SV.renL, SV.ren] <;> fail) | (refine ⟨rfl, Nat.le_of_ble_eq_true rfl, ?_⟩; simp [isFar, ofV0, CV.up, SV.renL, SV.ren] <;> fail) | (simp only [List.length_append, List.length_drop, List.length_take, List.length_replicate, List.length_map]; omega) | (simp <;> fail))); conv => whnf) | (refine ⟨_, rfl, ?_⟩; conv => whnf)))
      refine CallClo.auto ih ⟨i, g, p', rfl, rfl, by omega, by omega, by omega, hcs, hcn, by omega, hk, hv, ?_⟩
      revert h hsh
      generalize upP (txLeaf (k, v)) g i p' ok = r
      intro h hsh
      (conv => whnf)
      (repeat (first | (exact Out.same; conv => whnf) | (exact Out1.same; conv => whnf) | (refine QAnd.mk ?_ ?_; conv => whnf) | (apply QStepH.go; conv => whnf) | (refine Both.lit_true ?_; conv => whnf) | (refine Both.lit_false ?_; conv => whnf) | (apply QStep.go; conv => whnf) | (refine Need.mk ?_ ?_; (focus (first | omega | exact ⟨by omega, by omega⟩ | rfl | exact ⟨rfl, rfl⟩ | exact ⟨rfl, by omega, by omega⟩ | exact ⟨by omega, by omega, by omega⟩ | exact ⟨rfl, Nat.le_of_ble_eq_true rfl⟩ | exact Nat.le_of_ble_eq_true rfl | (refine ⟨rfl, rfl, ?_⟩; simp [isFar, ofV0, CV.up, SV.renL, SV.ren] <;> fail) | (refine ⟨rfl, Nat.le_of_ble_eq_true rfl, ?_⟩; simp [isFar, ofV0, CV.up, SV.renL, SV.ren] <;> fail) | (simp only [List.length_append, List.length_drop, List.length_take, List.length_replicate, List.length_map]; omega) | (simp <;> fail))); conv => whnf) | (refine ⟨_, rfl, ?_⟩; conv => whnf)))
      refine CallVC.auto (both_k hK) (Need.mk ⟨by omega, by omega⟩ ?_)
      (conv => whnf)
      (repeat (first | (exact Out.same; conv => whnf) | (exact Out1.same; conv => whnf) | (refine QAnd.mk ?_ ?_; conv => whnf) | (apply QStepH.go; conv => whnf) | (refine Both.lit_true ?_; conv => whnf) | (refine Both.lit_false ?_; conv => whnf) | (apply QStep.go; conv => whnf) | (refine Need.mk ?_ ?_; (focus (first | omega | exact ⟨by omega, by omega⟩ | rfl | exact ⟨rfl, rfl⟩ | exact ⟨rfl, by omega, by omega⟩ | exact ⟨by omega, by omega, by omega⟩ | exact ⟨rfl, Nat.le_of_ble_eq_true rfl⟩ | exact Nat.le_of_ble_eq_true rfl | (refine ⟨rfl, rfl, ?_⟩; simp [isFar, ofV0, CV.up, SV.renL, SV.ren] <;> fail) | (refine ⟨rfl, Nat.le_of_ble_eq_true rfl, ?_⟩; simp [isFar, ofV0, CV.up, SV.renL, SV.ren] <;> fail) | (simp only [List.length_append, List.length_drop, List.length_take, List.length_replicate, List.length_map]; omega) | (simp <;> fail))); conv => whnf) | (refine ⟨_, rfl, ?_⟩; conv => whnf)))
      refine ⟨_, _, WeakV.auto ?_, h⟩
      (repeat' ((conv => whnf); first | exact True.intro | (refine And.intro ?_ ?_)))
      all_goals first | rfl | exact .eq rfl
    · rw [if_neg (by omega)] at h
      dsimp only at h
      have hsh := up_short (txLeaf (k, v)) (cnt - g) (cnt - g) (i - g) p' ok (Nat.le_refl _)
      have w1 : IntKind.i64.wrap ((i : Int) - (g : Int)) = ((i - g : Nat) : Int) := by rw [wrap_i64 (by omega) (by omega)]; omega
      have w2 : IntKind.i64.wrap ((cnt : Int) - (g : Int)) = ((cnt - g : Nat) : Int) := by rw [wrap_i64 (by omega) (by omega)]; omega
      (conv => whnf)
      (repeat (first | (exact Out.same; conv => whnf) | (exact Out1.same; conv => whnf) | (refine QAnd.mk ?_ ?_; conv => whnf) | (apply QStepH.go; conv => whnf) | (refine Both.lit_true ?_; conv => whnf) | (refine Both.lit_false ?_; conv => whnf) | (apply QStep.go; conv => whnf) | (refine Need.mk ?_ ?_; (focus (first | omega | exact ⟨by omega, by omega⟩ | rfl | exact ⟨rfl, rfl⟩ | exact ⟨rfl, by omega, by omega⟩ | exact ⟨by omega, by omega, by omega⟩ | exact ⟨rfl, Nat.le_of_ble_eq_true rfl⟩ | exact Nat.le_of_ble_eq_true rfl | (refine ⟨rfl, rfl, ?_⟩; simp [isFar, ofV0, CV.up, SV.renL, SV.ren] <;> fail) | (refine ⟨rfl, Nat.le_of_ble_eq_true rfl, ?_⟩; simp [isFar, ofV0, CV.up, SV.renL, SV.ren] <;> fail) | (simp only [List.length_append, List.length_drop, List.length_take, List.length_replicate, List.length_map]; omega) | (simp <;> fail))); conv => whnf) | (refine ⟨_, rfl, ?_⟩; conv => whnf)))
      refine CallClo.auto ih ⟨i - g, cnt - g, p', w1, w2, by omega, by omega, by omega, hcs, hcn, by omega, hk, hv, ?_⟩
      revert h hsh
      generalize upP (txLeaf (k, v)) (cnt - g) (i - g) p' ok = r
      intro h hsh
      (conv => whnf)
      (repeat (first | (exact Out.same; conv => whnf) | (exact Out1.same; conv => whnf) | (refine QAnd.mk ?_ ?_; conv => whnf) | (apply QStepH.go; conv => whnf) | (refine Both.lit_true ?_; conv => whnf) | (refine Both.lit_false ?_; conv => whnf) | (apply QStep.go; conv => whnf) | (refine Need.mk ?_ ?_; (focus (first | omega | exact ⟨by omega, by omega⟩ | rfl | exact ⟨rfl, rfl⟩ | exact ⟨rfl, by omega, by omega⟩ | exact ⟨by omega, by omega, by omega⟩ | exact ⟨rfl, Nat.le_of_ble_eq_true rfl⟩ | exact Nat.le_of_ble_eq_true rfl | (refine ⟨rfl, rfl, ?_⟩; simp [isFar, ofV0, CV.up, SV.renL, SV.ren] <;> fail) | (refine ⟨rfl, Nat.le_of_ble_eq_true rfl, ?_⟩; simp [isFar, ofV0, CV.up, SV.renL, SV.ren] <;> fail) | (simp only [List.length_append, List.length_drop, List.length_take, List.length_replicate, List.length_map]; omega) | (simp <;> fail))); conv => whnf) | (refine ⟨_, rfl, ?_⟩; conv => whnf)))
      refine CallVC.auto (both_k hK) (Need.mk ⟨by omega, by omega⟩ ?_)
      (conv => whnf)
      (repeat (first | (exact Out.same; conv => whnf) | (exact Out1.same; conv => whnf) | (refine QAnd.mk ?_ ?_; conv => whnf) | (apply QStepH.go; conv => whnf) | (refine Both.lit_true ?_; conv => whnf) | (refine Both.lit_false ?_; conv => whnf) | (apply QStep.go; conv => whnf) | (refine Need.mk ?_ ?_; (focus (first | omega | exact ⟨by omega, by omega⟩ | rfl | exact ⟨rfl, rfl⟩ | exact ⟨rfl, by omega, by omega⟩ | exact ⟨by omega, by omega, by omega⟩ | exact ⟨rfl, Nat.le_of_ble_eq_true rfl⟩ | exact Nat.le_of_ble_eq_true rfl | (refine ⟨rfl, rfl, ?_⟩; simp [isFar, ofV0, CV.up, SV.renL, SV.ren] <;> fail) | (refine ⟨rfl, Nat.le_of_ble_eq_true rfl, ?_⟩; simp [isFar, ofV0, CV.up, SV.renL, SV.ren] <;> fail) | (simp only [List.length_append, List.length_drop, List.length_take, List.length_replicate, List.length_map]; omega) | (simp <;> fail))); conv => whnf) | (refine ⟨_, rfl, ?_⟩; conv => whnf)))
      refine ⟨_, _, WeakV.auto ?_, h⟩
      (repeat' ((conv => whnf); first | exact True.intro | (refine And.intro ?_ ?_)))
      all_goals first | rfl | exact .eq rfl
theorem up_k {y0 : CV} {cs0 : List CV} (hK : KAt y0 cs0) (m : Nat) : Contract Tryd.prog [(0, y0 :: cs0)] 91 (upS m) := ⟨⟨⟨_, rfl, rfl, rfl⟩⟩, up_c hK m⟩
/-- Whether a leaf stands where it may; to what it climbs, in the program. -/
abbrev okL (x c : Int) : Prop := 1 ≤ c ∧ c ≤ 4096 ∧ 0 ≤ x ∧ x < c
def climbP (lf : Bs) (x c : Int) (p : List Bs) : Bs × Bool :=
  if okL x c ∧ (upP lf c.toNat x.toNat p true).2.2 = true ∧ (upP lf c.toNat x.toNat p true).2.1 = [] then (shaD (topX c.toNat (upP lf c.toNat x.toNat p true).1), true) else ([], false)
def climbS : Spec := fun args H Q => match args, H with
  | [.agg [.int .i64 x, .int .i64 c, .str k, .str v, .sl 1 n cs false]], [] => ∃ p : List Bs, cs = strs p ∧ n = p.length ∧ p.length < 1000000 ∧ k.length < 50000 ∧ v.length < 50000 ∧
      Q (.tuple [.str (climbP (txLeaf (k, v)) x c p).1, .bool (climbP (txLeaf (k, v)) x c p).2]) []
  | _, _ => False
theorem climb_c {y0 : CV} {cs0 : List CV} (hK : KAt y0 cs0) : Meets Tryd.prog [(0, y0 :: cs0)] 77 climbS := by
  refine meets_of Γok Tryd.func77 rfl ?_
  intro args H Q h
  unfold climbS at h
  split at h
  case h_2 => exact h.elim
  rename_i x c k v n cs
  obtain ⟨p, rfl, rfl, hp, hk, hv, h⟩ := h
  have out : ¬ okL x c → Q (.tuple [.str [], .bool false]) [] := fun h9 => by
    unfold climbP at h
    rw [if_neg (fun h => h9 h.1)] at h
    exact h
  unfold okL at out
  (refine sx_sound Γok _ ?_; conv => whnf)
  (repeat (first | (exact Out.same; conv => whnf) | (exact Out1.same; conv => whnf) | (refine QAnd.mk ?_ ?_; conv => whnf) | (apply QStepH.go; conv => whnf) | (refine Both.lit_true ?_; conv => whnf) | (refine Both.lit_false ?_; conv => whnf) | (apply QStep.go; conv => whnf) | (refine Need.mk ?_ ?_; (focus (first | omega | exact ⟨by omega, by omega⟩ | rfl | exact ⟨rfl, rfl⟩ | exact ⟨rfl, by omega, by omega⟩ | exact ⟨by omega, by omega, by omega⟩ | exact ⟨rfl, Nat.le_of_ble_eq_true rfl⟩ | exact Nat.le_of_ble_eq_true rfl | (refine ⟨rfl, rfl, ?_⟩; simp [isFar, ofV0, CV.up, SV.renL, SV.ren] <;> fail) | (refine ⟨rfl, Nat.le_of_ble_eq_true rfl, ?_⟩; simp [isFar, ofV0, CV.up, SV.renL, SV.ren] <;> fail) | (simp only [List.length_append, List.length_drop, List.length_take, List.length_replicate, List.length_map]; omega) | (simp <;> fail))); conv => whnf) | (refine ⟨_, rfl, ?_⟩; conv => whnf)))
  refine Both.dec (fun b1 => ?_) (fun b1 => ?_)
  · (conv => whnf)
    (repeat (first | (exact Out.same; conv => whnf) | (exact Out1.same; conv => whnf) | (refine QAnd.mk ?_ ?_; conv => whnf) | (apply QStepH.go; conv => whnf) | (refine Both.lit_true ?_; conv => whnf) | (refine Both.lit_false ?_; conv => whnf) | (apply QStep.go; conv => whnf) | (refine Need.mk ?_ ?_; (focus (first | omega | exact ⟨by omega, by omega⟩ | rfl | exact ⟨rfl, rfl⟩ | exact ⟨rfl, by omega, by omega⟩ | exact ⟨by omega, by omega, by omega⟩ | exact ⟨rfl, Nat.le_of_ble_eq_true rfl⟩ | exact Nat.le_of_ble_eq_true rfl | (refine ⟨rfl, rfl, ?_⟩; simp [isFar, ofV0, CV.up, SV.renL, SV.ren] <;> fail) | (refine ⟨rfl, Nat.le_of_ble_eq_true rfl, ?_⟩; simp [isFar, ofV0, CV.up, SV.renL, SV.ren] <;> fail) | (simp only [List.length_append, List.length_drop, List.length_take, List.length_replicate, List.length_map]; omega) | (simp <;> fail))); conv => whnf) | (refine ⟨_, rfl, ?_⟩; conv => whnf) | (refine Both.of_false ?_ ?_; (focus (first | rfl | (simp <;> fail))); conv => whnf) | (refine Both.of_true ?_ ?_; (focus (first | rfl | (simp <;> fail))); conv => whnf)))
    refine ⟨_, _, WeakV.auto ?_, out (by omega)⟩
    (repeat' ((conv => whnf); first | exact True.intro | (refine And.intro ?_ ?_)))
    all_goals first | rfl | exact .eq rfl
  (conv => whnf)
  (repeat (first | (exact Out.same; conv => whnf) | (exact Out1.same; conv => whnf) | (refine QAnd.mk ?_ ?_; conv => whnf) | (apply QStepH.go; conv => whnf) | (refine Both.lit_true ?_; conv => whnf) | (refine Both.lit_false ?_; conv => whnf) | (apply QStep.go; conv => whnf) | (refine Need.mk ?_ ?_; (focus (first | omega | exact ⟨by omega, by omega⟩ | rfl | exact ⟨rfl, rfl⟩ | exact ⟨rfl, by omega, by omega⟩ | exact ⟨by omega, by omega, by omega⟩ | exact ⟨rfl, Nat.le_of_ble_eq_true rfl⟩ | exact Nat.le_of_ble_eq_true rfl | (refine ⟨rfl, rfl, ?_⟩; simp [isFar, ofV0, CV.up, SV.renL, SV.ren] <;> fail) | (refine ⟨rfl, Nat.le_of_ble_eq_true rfl, ?_⟩; simp [isFar, ofV0, CV.up, SV.renL, SV.ren] <;> fail) | (simp only [List.length_append, List.length_drop, List.length_take, List.length_replicate, List.length_map]; omega) | (simp <;> fail))); conv => whnf) | (refine ⟨_, rfl, ?_⟩; conv => whnf)))
  refine Both.dec (fun b2 => ?_) (fun b2 => ?_)
  · (conv => whnf)
    (repeat (first | (exact Out.same; conv => whnf) | (exact Out1.same; conv => whnf) | (refine QAnd.mk ?_ ?_; conv => whnf) | (apply QStepH.go; conv => whnf) | (refine Both.lit_true ?_; conv => whnf) | (refine Both.lit_false ?_; conv => whnf) | (apply QStep.go; conv => whnf) | (refine Need.mk ?_ ?_; (focus (first | omega | exact ⟨by omega, by omega⟩ | rfl | exact ⟨rfl, rfl⟩ | exact ⟨rfl, by omega, by omega⟩ | exact ⟨by omega, by omega, by omega⟩ | exact ⟨rfl, Nat.le_of_ble_eq_true rfl⟩ | exact Nat.le_of_ble_eq_true rfl | (refine ⟨rfl, rfl, ?_⟩; simp [isFar, ofV0, CV.up, SV.renL, SV.ren] <;> fail) | (refine ⟨rfl, Nat.le_of_ble_eq_true rfl, ?_⟩; simp [isFar, ofV0, CV.up, SV.renL, SV.ren] <;> fail) | (simp only [List.length_append, List.length_drop, List.length_take, List.length_replicate, List.length_map]; omega) | (simp <;> fail))); conv => whnf) | (refine ⟨_, rfl, ?_⟩; conv => whnf) | (refine Both.of_false ?_ ?_; (focus (first | rfl | (simp <;> fail))); conv => whnf) | (refine Both.of_true ?_ ?_; (focus (first | rfl | (simp <;> fail))); conv => whnf)))
    refine ⟨_, _, WeakV.auto ?_, out (by omega)⟩
    (repeat' ((conv => whnf); first | exact True.intro | (refine And.intro ?_ ?_)))
    all_goals first | rfl | exact .eq rfl
  (conv => whnf)
  (repeat (first | (exact Out.same; conv => whnf) | (exact Out1.same; conv => whnf) | (refine QAnd.mk ?_ ?_; conv => whnf) | (apply QStepH.go; conv => whnf) | (refine Both.lit_true ?_; conv => whnf) | (refine Both.lit_false ?_; conv => whnf) | (apply QStep.go; conv => whnf) | (refine Need.mk ?_ ?_; (focus (first | omega | exact ⟨by omega, by omega⟩ | rfl | exact ⟨rfl, rfl⟩ | exact ⟨rfl, by omega, by omega⟩ | exact ⟨by omega, by omega, by omega⟩ | exact ⟨rfl, Nat.le_of_ble_eq_true rfl⟩ | exact Nat.le_of_ble_eq_true rfl | (refine ⟨rfl, rfl, ?_⟩; simp [isFar, ofV0, CV.up, SV.renL, SV.ren] <;> fail) | (refine ⟨rfl, Nat.le_of_ble_eq_true rfl, ?_⟩; simp [isFar, ofV0, CV.up, SV.renL, SV.ren] <;> fail) | (simp only [List.length_append, List.length_drop, List.length_take, List.length_replicate, List.length_map]; omega) | (simp <;> fail))); conv => whnf) | (refine ⟨_, rfl, ?_⟩; conv => whnf)))
  refine Both.dec (fun b3 => ?_) (fun b3 => ?_)
  · (conv => whnf)
    (repeat (first | (exact Out.same; conv => whnf) | (exact Out1.same; conv => whnf) | (refine QAnd.mk ?_ ?_; conv => whnf) | (apply QStepH.go; conv => whnf) | (refine Both.lit_true ?_; conv => whnf) | (refine Both.lit_false ?_; conv => whnf) | (apply QStep.go; conv => whnf) | (refine Need.mk ?_ ?_; (focus (first | omega | exact ⟨by omega, by omega⟩ | rfl | exact ⟨rfl, rfl⟩ | exact ⟨rfl, by omega, by omega⟩ | exact ⟨by omega, by omega, by omega⟩ | exact ⟨rfl, Nat.le_of_ble_eq_true rfl⟩ | exact Nat.le_of_ble_eq_true rfl | (refine ⟨rfl, rfl, ?_⟩; simp [isFar, ofV0, CV.up, SV.renL, SV.ren] <;> fail) | (refine ⟨rfl, Nat.le_of_ble_eq_true rfl, ?_⟩; simp [isFar, ofV0, CV.up, SV.renL, SV.ren] <;> fail) | (simp only [List.length_append, List.length_drop, List.length_take, List.length_replicate, List.length_map]; omega) | (simp <;> fail))); conv => whnf) | (refine ⟨_, rfl, ?_⟩; conv => whnf) | (refine Both.of_false ?_ ?_; (focus (first | rfl | (simp <;> fail))); conv => whnf) | (refine Both.of_true ?_ ?_; (focus (first | rfl | (simp <;> fail))); conv => whnf)))
    refine ⟨_, _, WeakV.auto ?_, out (by omega)⟩
    (repeat' ((conv => whnf); first | exact True.intro | (refine And.intro ?_ ?_)))
    all_goals first | rfl | exact .eq rfl
  (conv => whnf)
  (repeat (first | (exact Out.same; conv => whnf) | (exact Out1.same; conv => whnf) | (refine QAnd.mk ?_ ?_; conv => whnf) | (apply QStepH.go; conv => whnf) | (refine Both.lit_true ?_; conv => whnf) | (refine Both.lit_false ?_; conv => whnf) | (apply QStep.go; conv => whnf) | (refine Need.mk ?_ ?_; (focus (first | omega | exact ⟨by omega, by omega⟩ | rfl | exact ⟨rfl, rfl⟩ | exact ⟨rfl, by omega, by omega⟩ | exact ⟨by omega, by omega, by omega⟩ | exact ⟨rfl, Nat.le_of_ble_eq_true rfl⟩ | exact Nat.le_of_ble_eq_true rfl | (refine ⟨rfl, rfl, ?_⟩; simp [isFar, ofV0, CV.up, SV.renL, SV.ren] <;> fail) | (refine ⟨rfl, Nat.le_of_ble_eq_true rfl, ?_⟩; simp [isFar, ofV0, CV.up, SV.renL, SV.ren] <;> fail) | (simp only [List.length_append, List.length_drop, List.length_take, List.length_replicate, List.length_map]; omega) | (simp <;> fail))); conv => whnf) | (refine ⟨_, rfl, ?_⟩; conv => whnf)))
  refine Both.dec (fun b4 => ?_) (fun b4 => ?_)
  · (conv => whnf)
    (repeat (first | (exact Out.same; conv => whnf) | (exact Out1.same; conv => whnf) | (refine QAnd.mk ?_ ?_; conv => whnf) | (apply QStepH.go; conv => whnf) | (refine Both.lit_true ?_; conv => whnf) | (refine Both.lit_false ?_; conv => whnf) | (apply QStep.go; conv => whnf) | (refine Need.mk ?_ ?_; (focus (first | omega | exact ⟨by omega, by omega⟩ | rfl | exact ⟨rfl, rfl⟩ | exact ⟨rfl, by omega, by omega⟩ | exact ⟨by omega, by omega, by omega⟩ | exact ⟨rfl, Nat.le_of_ble_eq_true rfl⟩ | exact Nat.le_of_ble_eq_true rfl | (refine ⟨rfl, rfl, ?_⟩; simp [isFar, ofV0, CV.up, SV.renL, SV.ren] <;> fail) | (refine ⟨rfl, Nat.le_of_ble_eq_true rfl, ?_⟩; simp [isFar, ofV0, CV.up, SV.renL, SV.ren] <;> fail) | (simp only [List.length_append, List.length_drop, List.length_take, List.length_replicate, List.length_map]; omega) | (simp <;> fail))); conv => whnf) | (refine ⟨_, rfl, ?_⟩; conv => whnf) | (refine Both.of_false ?_ ?_; (focus (first | rfl | (simp <;> fail))); conv => whnf) | (refine Both.of_true ?_ ?_; (focus (first | rfl | (simp <;> fail))); conv => whnf)))
    refine ⟨_, _, WeakV.auto ?_, out (by omega)⟩
    (repeat' ((conv => whnf); first | exact True.intro | (refine And.intro ?_ ?_)))
    all_goals first | rfl | exact .eq rfl
  have hL : okL x c := by unfold okL; omega
  have hx : x = ((x.toNat : Nat) : Int) := by omega
  have hc : c = ((c.toNat : Nat) : Int) := by omega
  have hxc : x.toNat < c.toNat := by omega
  have hc60 : c.toNat < 60000 := by omega
  have hsh := up_short (txLeaf (k, v)) c.toNat c.toNat x.toNat p true (Nat.le_refl _)
  unfold climbP at h
  (conv => whnf)
  (repeat (first | (exact Out.same; conv => whnf) | (exact Out1.same; conv => whnf) | (refine QAnd.mk ?_ ?_; conv => whnf) | (apply QStepH.go; conv => whnf) | (refine Both.lit_true ?_; conv => whnf) | (refine Both.lit_false ?_; conv => whnf) | (apply QStep.go; conv => whnf) | (refine Need.mk ?_ ?_; (focus (first | omega | exact ⟨by omega, by omega⟩ | rfl | exact ⟨rfl, rfl⟩ | exact ⟨rfl, by omega, by omega⟩ | exact ⟨by omega, by omega, by omega⟩ | exact ⟨rfl, Nat.le_of_ble_eq_true rfl⟩ | exact Nat.le_of_ble_eq_true rfl | (refine ⟨rfl, rfl, ?_⟩; simp [isFar, ofV0, CV.up, SV.renL, SV.ren] <;> fail) | (refine ⟨rfl, Nat.le_of_ble_eq_true rfl, ?_⟩; simp [isFar, ofV0, CV.up, SV.renL, SV.ren] <;> fail) | (simp only [List.length_append, List.length_drop, List.length_take, List.length_replicate, List.length_map]; omega) | (simp <;> fail))); conv => whnf) | (refine ⟨_, rfl, ?_⟩; conv => whnf) | (refine Both.of_false ?_ ?_; (focus (first | rfl | (simp <;> fail))); conv => whnf) | (refine Both.of_true ?_ ?_; (focus (first | rfl | (simp <;> fail))); conv => whnf)))
  refine CallClo.auto (up_k hK c.toNat) ⟨x.toNat, c.toNat, p, hx, hc, hxc, Nat.le_refl _, hc60, rfl, rfl, hp, hk, hv, ?_⟩
  revert h hsh
  generalize upP (txLeaf (k, v)) c.toNat x.toNat p true = r
  obtain ⟨d, q, o⟩ := r
  intro h hsh
  dsimp only at h hsh
  (conv => whnf)
  (repeat (first | (exact Out.same; conv => whnf) | (exact Out1.same; conv => whnf) | (refine QAnd.mk ?_ ?_; conv => whnf) | (apply QStepH.go; conv => whnf) | (refine Both.lit_true ?_; conv => whnf) | (refine Both.lit_false ?_; conv => whnf) | (apply QStep.go; conv => whnf) | (refine Need.mk ?_ ?_; (focus (first | omega | exact ⟨by omega, by omega⟩ | rfl | exact ⟨rfl, rfl⟩ | exact ⟨rfl, by omega, by omega⟩ | exact ⟨by omega, by omega, by omega⟩ | exact ⟨rfl, Nat.le_of_ble_eq_true rfl⟩ | exact Nat.le_of_ble_eq_true rfl | (refine ⟨rfl, rfl, ?_⟩; simp [isFar, ofV0, CV.up, SV.renL, SV.ren] <;> fail) | (refine ⟨rfl, Nat.le_of_ble_eq_true rfl, ?_⟩; simp [isFar, ofV0, CV.up, SV.renL, SV.ren] <;> fail) | (simp only [List.length_append, List.length_drop, List.length_take, List.length_replicate, List.length_map]; omega) | (simp <;> fail))); conv => whnf) | (refine ⟨_, rfl, ?_⟩; conv => whnf)))
  cases o with
  | false =>
    rw [if_neg (fun h => by cases h.2.1)] at h
    (repeat (first | (exact Out.same; conv => whnf) | (exact Out1.same; conv => whnf) | (refine QAnd.mk ?_ ?_; conv => whnf) | (apply QStepH.go; conv => whnf) | (refine Both.lit_true ?_; conv => whnf) | (refine Both.lit_false ?_; conv => whnf) | (apply QStep.go; conv => whnf) | (refine Need.mk ?_ ?_; (focus (first | omega | exact ⟨by omega, by omega⟩ | rfl | exact ⟨rfl, rfl⟩ | exact ⟨rfl, by omega, by omega⟩ | exact ⟨by omega, by omega, by omega⟩ | exact ⟨rfl, Nat.le_of_ble_eq_true rfl⟩ | exact Nat.le_of_ble_eq_true rfl | (refine ⟨rfl, rfl, ?_⟩; simp [isFar, ofV0, CV.up, SV.renL, SV.ren] <;> fail) | (refine ⟨rfl, Nat.le_of_ble_eq_true rfl, ?_⟩; simp [isFar, ofV0, CV.up, SV.renL, SV.ren] <;> fail) | (simp only [List.length_append, List.length_drop, List.length_take, List.length_replicate, List.length_map]; omega) | (simp <;> fail))); conv => whnf) | (refine ⟨_, rfl, ?_⟩; conv => whnf) | (refine Both.of_false ?_ ?_; (focus (first | rfl | (simp <;> fail))); conv => whnf) | (refine Both.of_true ?_ ?_; (focus (first | rfl | (simp <;> fail))); conv => whnf)))
    refine ⟨_, _, WeakV.auto ?_, h⟩
    (repeat' ((conv => whnf); first | exact True.intro | (refine And.intro ?_ ?_)))
    all_goals first | rfl | exact .eq rfl
  | true =>
    (repeat (first | (exact Out.same; conv => whnf) | (exact Out1.same; conv => whnf) | (refine QAnd.mk ?_ ?_; conv => whnf) | (apply QStepH.go; conv => whnf) | (refine Both.lit_true ?_; conv => whnf) | (refine Both.lit_false ?_; conv => whnf) | (apply QStep.go; conv => whnf) | (refine Need.mk ?_ ?_; (focus (first | omega | exact ⟨by omega, by omega⟩ | rfl | exact ⟨rfl, rfl⟩ | exact ⟨rfl, by omega, by omega⟩ | exact ⟨by omega, by omega, by omega⟩ | exact ⟨rfl, Nat.le_of_ble_eq_true rfl⟩ | exact Nat.le_of_ble_eq_true rfl | (refine ⟨rfl, rfl, ?_⟩; simp [isFar, ofV0, CV.up, SV.renL, SV.ren] <;> fail) | (refine ⟨rfl, Nat.le_of_ble_eq_true rfl, ?_⟩; simp [isFar, ofV0, CV.up, SV.renL, SV.ren] <;> fail) | (simp only [List.length_append, List.length_drop, List.length_take, List.length_replicate, List.length_map]; omega) | (simp <;> fail))); conv => whnf) | (refine ⟨_, rfl, ?_⟩; conv => whnf)))
    refine Both.dec (fun hl => ?_) (fun hl => ?_)
    · have hl1 : (0 : Int) < ((q.length : Nat) : Int) := hl
      rw [if_neg (fun h => by rw [h.2.2] at hl1; exact absurd hl1 (by decide))] at h
      (conv => whnf)
      (repeat (first | (exact Out.same; conv => whnf) | (exact Out1.same; conv => whnf) | (refine QAnd.mk ?_ ?_; conv => whnf) | (apply QStepH.go; conv => whnf) | (refine Both.lit_true ?_; conv => whnf) | (refine Both.lit_false ?_; conv => whnf) | (apply QStep.go; conv => whnf) | (refine Need.mk ?_ ?_; (focus (first | omega | exact ⟨by omega, by omega⟩ | rfl | exact ⟨rfl, rfl⟩ | exact ⟨rfl, by omega, by omega⟩ | exact ⟨by omega, by omega, by omega⟩ | exact ⟨rfl, Nat.le_of_ble_eq_true rfl⟩ | exact Nat.le_of_ble_eq_true rfl | (refine ⟨rfl, rfl, ?_⟩; simp [isFar, ofV0, CV.up, SV.renL, SV.ren] <;> fail) | (refine ⟨rfl, Nat.le_of_ble_eq_true rfl, ?_⟩; simp [isFar, ofV0, CV.up, SV.renL, SV.ren] <;> fail) | (simp only [List.length_append, List.length_drop, List.length_take, List.length_replicate, List.length_map]; omega) | (simp <;> fail))); conv => whnf) | (refine ⟨_, rfl, ?_⟩; conv => whnf) | (refine Both.of_false ?_ ?_; (focus (first | rfl | (simp <;> fail))); conv => whnf) | (refine Both.of_true ?_ ?_; (focus (first | rfl | (simp <;> fail))); conv => whnf)))
      refine ⟨_, _, WeakV.auto ?_, h⟩
      (repeat' ((conv => whnf); first | exact True.intro | (refine And.intro ?_ ?_)))
      all_goals first | rfl | exact .eq rfl
    · have hl1 : ¬ (0 : Int) < ((q.length : Nat) : Int) := hl
      have hq : q = [] := List.eq_nil_of_length_eq_zero (by omega)
      rw [if_pos ⟨hL, rfl, hq⟩] at h
      have hn : -9223372036854775808 ≤ c ∧ c ≤ 9223372036854775807 ∧ d.length < 50000 := ⟨by omega, by omega, by omega⟩
      (conv => whnf)
      (repeat (first | (exact Out.same; conv => whnf) | (exact Out1.same; conv => whnf) | (refine QAnd.mk ?_ ?_; conv => whnf) | (apply QStepH.go; conv => whnf) | (refine Both.lit_true ?_; conv => whnf) | (refine Both.lit_false ?_; conv => whnf) | (apply QStep.go; conv => whnf) | (refine Need.mk ?_ ?_; (focus (first | omega | exact ⟨by omega, by omega⟩ | rfl | exact ⟨rfl, rfl⟩ | exact ⟨rfl, by omega, by omega⟩ | exact ⟨by omega, by omega, by omega⟩ | exact ⟨rfl, Nat.le_of_ble_eq_true rfl⟩ | exact Nat.le_of_ble_eq_true rfl | (refine ⟨rfl, rfl, ?_⟩; simp [isFar, ofV0, CV.up, SV.renL, SV.ren] <;> fail) | (refine ⟨rfl, Nat.le_of_ble_eq_true rfl, ?_⟩; simp [isFar, ofV0, CV.up, SV.renL, SV.ren] <;> fail) | (simp only [List.length_append, List.length_drop, List.length_take, List.length_replicate, List.length_map]; omega) | (simp <;> fail))); conv => whnf) | (refine ⟨_, rfl, ?_⟩; conv => whnf) | (refine Both.of_false ?_ ?_; (focus (first | rfl | (simp <;> fail))); conv => whnf) | (refine Both.of_true ?_ ?_; (focus (first | rfl | (simp <;> fail))); conv => whnf)))
      refine CallVC.auto (top_k hK) (Need.mk hn ?_)
      (conv => whnf)
      (repeat (first | (exact Out.same; conv => whnf) | (exact Out1.same; conv => whnf) | (refine QAnd.mk ?_ ?_; conv => whnf) | (apply QStepH.go; conv => whnf) | (refine Both.lit_true ?_; conv => whnf) | (refine Both.lit_false ?_; conv => whnf) | (apply QStep.go; conv => whnf) | (refine Need.mk ?_ ?_; (focus (first | omega | exact ⟨by omega, by omega⟩ | rfl | exact ⟨rfl, rfl⟩ | exact ⟨rfl, by omega, by omega⟩ | exact ⟨by omega, by omega, by omega⟩ | exact ⟨rfl, Nat.le_of_ble_eq_true rfl⟩ | exact Nat.le_of_ble_eq_true rfl | (refine ⟨rfl, rfl, ?_⟩; simp [isFar, ofV0, CV.up, SV.renL, SV.ren] <;> fail) | (refine ⟨rfl, Nat.le_of_ble_eq_true rfl, ?_⟩; simp [isFar, ofV0, CV.up, SV.renL, SV.ren] <;> fail) | (simp only [List.length_append, List.length_drop, List.length_take, List.length_replicate, List.length_map]; omega) | (simp <;> fail))); conv => whnf) | (refine ⟨_, rfl, ?_⟩; conv => whnf)))
      refine ⟨_, _, WeakV.auto ?_, h⟩
      (repeat' ((conv => whnf); first | exact True.intro | (refine And.intro ?_ ?_)))
      all_goals first | rfl | exact .eq rfl
theorem climb_k {y0 : CV} {cs0 : List CV} (hK : KAt y0 cs0) : Contract Tryd.prog [(0, y0 :: cs0)] 77 climbS := ⟨⟨⟨_, rfl, rfl, rfl⟩⟩, climb_c hK⟩
end Go.LX
end
section
set_option maxRecDepth 100000
set_option maxHeartbeats 2000000
set_option autoImplicit false
set_option linter.unusedVariables false
set_option linter.unusedSimpArgs false
namespace Go.LX
open Go.Proofs

/-! ## The document's climb -/
def depS (m : Nat) : Spec := fun args H Q => match args, H with
  | [.int .i64 x, .int .i64 y], [] => ∃ i n : Nat, x = i ∧ y = n ∧ i < n ∧ n ≤ m ∧ n < 60000 ∧ Q (.int .i64 ((depP i n : Nat) : Int)) []
  | _, _ => False
def rupS (m : Nat) : Spec := fun args H Q => match args with
  | [.ptr 0 0, .agg [.int .i64 c1, .int .i64 c2, .str k, .str v, .sl 1 n cs false], .int .i64 x, .int .i64 y] => inB H fun T => ∃ (i cnt : Nat) (p : List Bs), x = i ∧ y = cnt ∧ i < cnt ∧ cnt ≤ m ∧ cnt < 60000 ∧ cs = strs p ∧ n = p.length ∧ p.length < 1000000 ∧ depP i cnt ≤ p.length ∧ (∀ s ∈ p, s.length = 32) ∧ k.length < 50000 ∧ v.length < 50000 ∧
      Q (.str (upD (txLeaf (k, v)) p i cnt)) (bkO (upT (txLeaf (k, v)) p i cnt T))
  | _ => False
end Go.LX
end
section
set_option maxRecDepth 100000
set_option maxHeartbeats 2000000
set_option autoImplicit false
set_option linter.unusedVariables false
set_option linter.unusedSimpArgs false
namespace Go.LX
open Go.Proofs

/-! ## Climbs: the program's and the document's are one -/
def rightP (p : List Bs) (x c : Int) : Prop := okL x c ∧ p.length = depP x.toNat c.toNat ∧ ∀ s ∈ p, s.length = 32
theorem climb_yes {lf : Bs} {x c : Int} {p : List Bs} (h : rightP p x c) : climbP lf x c p = (shaD (topX c.toNat (upD lf p x.toNat c.toNat)), true) := by
  obtain ⟨h1, h2, h3⟩ := h
  have h4 : upP lf c.toNat x.toNat p true = (upD lf p x.toNat c.toNat, [], true) := up_ok lf c.toNat c.toNat x.toNat [] p true (Nat.le_refl _) h2 h3
  unfold climbP
  rw [h4, if_pos ⟨h1, rfl, rfl⟩]
theorem climb_no {lf : Bs} {x c : Int} {p : List Bs} (h : ¬ rightP p x c) : climbP lf x c p = ([], false) := by
  unfold climbP
  rw [if_neg]
  rintro ⟨h1, h2, h3⟩
  obtain ⟨_, q, h4, h5, h6⟩ := up_back lf c.toNat c.toNat x.toNat p true (Nat.le_refl _) h2
  rw [h3] at h4
  have h4 : p = q := h4
  subst h4
  exact h ⟨h1, h5, h6⟩
/-- The texts that the document's climb asks. -/
def climbT (lf : Bs) (x c : Int) (p : List Bs) (T : List Bs) : List Bs := topX c.toNat (upD lf p x.toNat c.toNat) :: upT lf p x.toNat c.toNat T
def rclimbS : Spec := fun args H Q => match args with
  | [.ptr 0 0, .agg [.int .i64 x, .int .i64 c, .str k, .str v, .sl 1 n cs false]] => inB H fun T => ∃ p : List Bs, cs = strs p ∧ n = p.length ∧ p.length < 1000000 ∧ k.length < 50000 ∧ v.length < 50000 ∧
      (rightP p x c → Q (.tuple [.str (shaD (topX c.toNat (upD (txLeaf (k, v)) p x.toNat c.toNat))), .bool true]) (bkO (climbT (txLeaf (k, v)) x c p T))) ∧ (¬ rightP p x c → Q (.tuple [.str [], .bool false]) (bkO T))
  | _ => False
theorem getD_32 (p : List Bs) {k : Nat} (hk : k < p.length) (h : (p.getD k []).length = 32) (hall : ∀ j, j < k → (p.getD j []).length = 32) : ∀ j, j < k + 1 → (p.getD j []).length = 32 := fun j hj => by
  rcases Nat.lt_or_ge j k with h9 | h9
  · exact hall j h9
  · rw [show j = k by omega]; exact h
end Go.LX
end
section
set_option maxRecDepth 100000
set_option maxHeartbeats 2000000
set_option autoImplicit false
set_option linter.unusedVariables false
set_option linter.unusedSimpArgs false
namespace Go.LX
open Go.Proofs

/-! ## May pairs be a map? -/
theorem less_tri0 : ∀ a b : Bs, lessS a b = !(lessS b a || decide (a = b))
  | [], [] => by simp [lessS, Op.bytesLess]
  | [], y :: t => by simp [lessS, Op.bytesLess]
  | x :: s, [] => by simp [lessS, Op.bytesLess]
  | x :: s, y :: t => by
    have ih := less_tri0 s t
    unfold lessS at ih ⊢
    unfold Op.bytesLess
    by_cases h1 : x < y
    · have h2 : ¬ y < x := UInt8.lt_asymm h1
      have h3 : x ≠ y := UInt8.ne_of_lt h1
      simp [h1, h2, h3, h3.symm]
    · by_cases h2 : y < x
      · have h3 : x ≠ y := fun h => by rw [h] at h2; exact UInt8.lt_irrefl _ h2
        simp [h1, h2, h3]
      · have h3 : x = y := by
          rcases UInt8.lt_or_eq_of_le (UInt8.not_lt.1 h2) with h | h
          · exact absurd h h1
          · exact h
        subst h3
        simp [ih]
theorem less_tri (a b : Bs) : lessS a b = !(lessS b a || decide (b = a)) := by
  rw [less_tri0 a b]
  simp [eq_comm]
def kAt (l : List Pr) (j : Nat) : Bs := (l.getD j ([], [])).1
def badB (p : Pr) : Bool := decide (p.1.length < 1) || decide (16 < p.1.length) || decide (64 < p.2.length)
def ordB : List Pr → Bool
  | a :: b :: r => lessS a.1 b.1 && ordB (b :: r)
  | _ => true
def chkV (l : List Pr) : Int := if 4096 < l.length then 1 else if l.any badB = true then 1 else if ordB l = true then 0 else 15
theorem any_yes {l : List Pr} {f : Pr → Bool} {j : Nat} (hj : j < l.length) (h : f (l.getD j ([], [])) = true) : l.any f = true := by
  rw [List.any_eq_true]
  refine ⟨l.getD j ([], []), ?_, h⟩
  rw [List.getD_eq_getElem?_getD, List.getElem?_eq_getElem hj]
  exact List.getElem_mem _
theorem any_no {l : List Pr} {f : Pr → Bool} (h : ∀ j, j < l.length → f (l.getD j ([], [])) = false) : l.any f = false := by
  rw [List.any_eq_false]
  intro p hp
  obtain ⟨j, hj, rfl⟩ := List.getElem_of_mem hp
  have := h j hj
  rw [List.getD_eq_getElem?_getD, List.getElem?_eq_getElem hj] at this
  have h2 : f (l[j]) = false := this
  rw [h2]
  decide
theorem ordB_yes : ∀ (l : List Pr), (∀ j, j + 1 < l.length → lessS (kAt l j) (kAt l (j + 1)) = true) → ordB l = true
  | [], _ => rfl
  | [_], _ => rfl
  | a :: b :: r, h => by
    rw [ordB, Bool.and_eq_true]
    exact ⟨h 0 (by simp), ordB_yes (b :: r) fun j hj => h (j + 1) (by simp at hj ⊢; omega)⟩
theorem ordB_no : ∀ (l : List Pr) (j : Nat), j + 1 < l.length → lessS (kAt l j) (kAt l (j + 1)) = false → ordB l = false
  | [], j, hj, _ => by simp at hj
  | [_], j, hj, _ => by simp at hj
  | a :: b :: r, 0, hj, h => by
    have h : lessS a.1 b.1 = false := h
    rw [ordB, h]
    rfl
  | a :: b :: r, j + 1, hj, h => by
    have := ordB_no (b :: r) j (by simp at hj ⊢; omega) h
    rw [ordB, this, Bool.and_false]
theorem chk_big {l : List Pr} (h : 4096 < l.length) : chkV l = 1 := by rw [chkV, if_pos h]
theorem chk_bad {l : List Pr} {j : Nat} (hj : j < l.length) (h : badB (l.getD j ([], [])) = true) : chkV l = 1 := by
  rw [chkV]
  split
  · rfl
  · rw [if_pos (any_yes hj h)]
theorem chk_ord {l : List Pr} {j : Nat} (hl : ¬ 4096 < l.length) (hb : ∀ j, j < l.length → badB (l.getD j ([], [])) = false) (hj : j + 1 < l.length) (h : lessS (kAt l j) (kAt l (j + 1)) = false) : chkV l = 15 := by
  rw [chkV, if_neg hl, if_neg (by rw [any_no hb]; decide), if_neg (by rw [ordB_no l j hj h]; decide)]
theorem chk_ok {l : List Pr} (hl : ¬ 4096 < l.length) (hb : ∀ j, j < l.length → badB (l.getD j ([], [])) = false) (h : ∀ j, j + 1 < l.length → lessS (kAt l j) (kAt l (j + 1)) = true) : chkV l = 0 := by
  rw [chkV, if_neg hl, if_neg (by rw [any_no hb]; decide), if_pos (ordB_yes l h)]
theorem bad_1 {p : Pr} (h : p.1.length < 1) : badB p = true := by unfold badB; rw [decide_eq_true h]; rfl
theorem bad_2 {p : Pr} (h : 16 < p.1.length) : badB p = true := by unfold badB; rw [decide_eq_true h, Bool.or_true]; rfl
theorem bad_3 {p : Pr} (h : 64 < p.2.length) : badB p = true := by unfold badB; rw [decide_eq_true h, Bool.or_true]
theorem bad_0 {p : Pr} (h1 : ¬ p.1.length < 1) (h2 : ¬ 16 < p.1.length) (h3 : ¬ 64 < p.2.length) : badB p = false := by simp only [badB, decide_eq_false h1, decide_eq_false h2, decide_eq_false h3]; rfl
theorem all_next {l : List Pr} {k : Nat} (h : badB (l.getD k ([], [])) = false) (hall : ∀ j, j < k → badB (l.getD j ([], [])) = false) : ∀ j, j < k + 1 → badB (l.getD j ([], [])) = false := fun j hj => by
  rcases Nat.lt_or_ge j k with h9 | h9
  · exact hall j h9
  · rw [show j = k by omega]; exact h
theorem ord_next {l : List Pr} {k : Nat} (h : lessS (kAt l k) (kAt l (k + 1)) = true) (hall : ∀ j, j < k → lessS (kAt l j) (kAt l (j + 1)) = true) : ∀ j, j < k + 1 → lessS (kAt l j) (kAt l (j + 1)) = true := fun j hj => by
  rcases Nat.lt_or_ge j k with h9 | h9
  · exact hall j h9
  · rw [show j = k by omega]; exact h
def chkS : Spec := fun args H Q => match args, H with
  | [.nilsl], [] => Q (.int .i64 0) []
  | [.sl 2 n cs f], [] => ∃ l : List Pr, n = l.length ∧ cs = flP l ∧ l.length ≤ 9223372036854775807 ∧ Q (.int .i64 (chkV l)) []
  | _, _ => False
end Go.LX
end
section
set_option maxRecDepth 100000
set_option maxHeartbeats 2000000
set_option autoImplicit false
set_option linter.unusedVariables false
set_option linter.unusedSimpArgs false
namespace Go.LX
open Go.Proofs

def rchkS : Spec := fun args H Q => match args, H with
  | [.sl 2 n cs f], [] => ∃ l : List Pr, n = l.length ∧ cs = flP l ∧ l.length ≤ 9223372036854775807 ∧ Q (.int .i64 (chkV l)) []
  | _, _ => False
theorem rchk_c : Meets Tryd.prog [] 21 rchkS := by
  refine meets_of Γok Tryd.func21 rfl ?_
  intro args H Q h
  unfold rchkS at h
  split at h
  case h_2 => exact h.elim
  rename_i n cs f
  obtain ⟨l, rfl, rfl, hlc, h⟩ := h
  (refine sx_sound Γok _ ?_; conv => whnf)
  (repeat (first | (exact Out.same; conv => whnf) | (exact Out1.same; conv => whnf) | (refine QAnd.mk ?_ ?_; conv => whnf) | (apply QStepH.go; conv => whnf) | (refine Both.lit_true ?_; conv => whnf) | (refine Both.lit_false ?_; conv => whnf) | (apply QStep.go; conv => whnf) | (refine Need.mk ?_ ?_; (focus (first | omega | exact ⟨by omega, by omega⟩ | rfl | exact ⟨rfl, rfl⟩ | exact ⟨rfl, by omega, by omega⟩ | exact ⟨by omega, by omega, by omega⟩ | exact ⟨rfl, Nat.le_of_ble_eq_true rfl⟩ | exact Nat.le_of_ble_eq_true rfl | (refine ⟨rfl, rfl, ?_⟩; simp [isFar, ofV0, CV.up, SV.renL, SV.ren] <;> fail) | (refine ⟨rfl, Nat.le_of_ble_eq_true rfl, ?_⟩; simp [isFar, ofV0, CV.up, SV.renL, SV.ren] <;> fail) | (simp only [List.length_append, List.length_drop, List.length_take, List.length_replicate, List.length_map]; omega) | (simp <;> fail))); conv => whnf) | (refine ⟨_, rfl, ?_⟩; conv => whnf)))
  refine Both.dec (fun hbig => ?_) (fun hbig => ?_)
  · rw [chk_big (by omega)] at h
    (conv => whnf)
    (repeat (first | (exact Out.same; conv => whnf) | (exact Out1.same; conv => whnf) | (refine QAnd.mk ?_ ?_; conv => whnf) | (apply QStepH.go; conv => whnf) | (refine Both.lit_true ?_; conv => whnf) | (refine Both.lit_false ?_; conv => whnf) | (apply QStep.go; conv => whnf) | (refine Need.mk ?_ ?_; (focus (first | omega | exact ⟨by omega, by omega⟩ | rfl | exact ⟨rfl, rfl⟩ | exact ⟨rfl, by omega, by omega⟩ | exact ⟨by omega, by omega, by omega⟩ | exact ⟨rfl, Nat.le_of_ble_eq_true rfl⟩ | exact Nat.le_of_ble_eq_true rfl | (refine ⟨rfl, rfl, ?_⟩; simp [isFar, ofV0, CV.up, SV.renL, SV.ren] <;> fail) | (refine ⟨rfl, Nat.le_of_ble_eq_true rfl, ?_⟩; simp [isFar, ofV0, CV.up, SV.renL, SV.ren] <;> fail) | (simp only [List.length_append, List.length_drop, List.length_take, List.length_replicate, List.length_map]; omega) | (simp <;> fail))); conv => whnf) | (refine ⟨_, rfl, ?_⟩; conv => whnf) | (refine Both.of_false ?_ ?_; (focus (first | rfl | (simp <;> fail))); conv => whnf) | (refine Both.of_true ?_ ?_; (focus (first | rfl | (simp <;> fail))); conv => whnf)))
    exact ⟨_, _, WeakV.drop rfl, h⟩
  have hl4 : ¬ 4096 < l.length := by omega
  (conv => whnf)
  (repeat (first | (exact Out.same; conv => whnf) | (exact Out1.same; conv => whnf) | (refine QAnd.mk ?_ ?_; conv => whnf) | (apply QStepH.go; conv => whnf) | (refine Both.lit_true ?_; conv => whnf) | (refine Both.lit_false ?_; conv => whnf) | (apply QStep.go; conv => whnf) | (refine Need.mk ?_ ?_; (focus (first | omega | exact ⟨by omega, by omega⟩ | rfl | exact ⟨rfl, rfl⟩ | exact ⟨rfl, by omega, by omega⟩ | exact ⟨by omega, by omega, by omega⟩ | exact ⟨rfl, Nat.le_of_ble_eq_true rfl⟩ | exact Nat.le_of_ble_eq_true rfl | (refine ⟨rfl, rfl, ?_⟩; simp [isFar, ofV0, CV.up, SV.renL, SV.ren] <;> fail) | (refine ⟨rfl, Nat.le_of_ble_eq_true rfl, ?_⟩; simp [isFar, ofV0, CV.up, SV.renL, SV.ren] <;> fail) | (simp only [List.length_append, List.length_drop, List.length_take, List.length_replicate, List.length_map]; omega) | (simp <;> fail))); conv => whnf) | (refine ⟨_, rfl, ?_⟩; conv => whnf) | (refine Both.of_false ?_ ?_; (focus (first | rfl | (simp <;> fail))); conv => whnf) | (refine Both.of_true ?_ ?_; (focus (first | rfl | (simp <;> fail))); conv => whnf)))
  refine loop_rule (fun k : Nat => ⟨[.sl 2 l.length (flP l) f, .any, .any, .int .i64 (k : Int), .any, .any, .any, .any, .any, .any, .any, .any, .any, .any, .any, .any, .any, .any, .any, .any, .any, .any, .any, .any, .any, .any, .any, .any, .any, .any, .any, .any, .any, .any, .any, .any, .any, .any, .any, .any, .any, .any, .any, .any, .any, .any, .any, .any, .any, .any, .any, .any, .any, .any, .any, .any, .any], []⟩) (fun k => k ≤ l.length ∧ ∀ j, j < k → badB (l.getD j ([], [])) = false) (fun k => l.length - k) 0 ⟨Nat.zero_le _, fun j hj => by omega⟩ (Weak.auto ?_) ?_
  · (repeat' ((conv => whnf); first | exact True.intro | (refine And.intro ?_ ?_)))
    all_goals first | rfl | exact .eq rfl
  rintro k ⟨hk, hall⟩
  (refine sx_sound Γok _ ?_; conv => whnf)
  (repeat (first | (exact Out.same; conv => whnf) | (exact Out1.same; conv => whnf) | (refine QAnd.mk ?_ ?_; conv => whnf) | (apply QStepH.go; conv => whnf) | (refine Both.lit_true ?_; conv => whnf) | (refine Both.lit_false ?_; conv => whnf) | (apply QStep.go; conv => whnf) | (refine Need.mk ?_ ?_; (focus (first | omega | exact ⟨by omega, by omega⟩ | rfl | exact ⟨rfl, rfl⟩ | exact ⟨rfl, by omega, by omega⟩ | exact ⟨by omega, by omega, by omega⟩ | exact ⟨rfl, Nat.le_of_ble_eq_true rfl⟩ | exact Nat.le_of_ble_eq_true rfl | (refine ⟨rfl, rfl, ?_⟩; simp [isFar, ofV0, CV.up, SV.renL, SV.ren] <;> fail) | (refine ⟨rfl, Nat.le_of_ble_eq_true rfl, ?_⟩; simp [isFar, ofV0, CV.up, SV.renL, SV.ren] <;> fail) | (simp only [List.length_append, List.length_drop, List.length_take, List.length_replicate, List.length_map]; omega) | (simp <;> fail))); conv => whnf) | (refine ⟨_, rfl, ?_⟩; conv => whnf)))
  refine Both.dec (fun hlt => ?_) (fun hge => ?_)
  · have hkl : k < l.length := by omega
    have hat := flP_at l hkl
    have hin : ti38.size = 2 ∧ (0 : Int) ≤ (k : Int) ∧ (k : Int) < ((l.length : Nat) : Int) := ⟨rfl, by omega, by omega⟩
    have hwr : IntKind.i64.wrap ((k : Int) + 1) = ((k + 1 : Nat) : Int) := by rw [wrap_i64 (by omega) (by omega)]; rfl
    have hbad : badB (l.getD k ([], [])) = true → chkV l = 1 := chk_bad hkl
    have hnext := all_next (l := l) (k := k)
    revert hat hbad hnext
    generalize hpk : l.getD k ([], []) = p
    intro hat hbad hnext
    (conv => whnf)
    (repeat (first | (refine Need.mk hin ?_; conv => whnf) | (refine ⟨_, hat, ?_⟩; conv => whnf) | (exact Out.same; conv => whnf) | (exact Out1.same; conv => whnf) | (refine QAnd.mk ?_ ?_; conv => whnf) | (apply QStepH.go; conv => whnf) | (refine Both.lit_true ?_; conv => whnf) | (refine Both.lit_false ?_; conv => whnf) | (apply QStep.go; conv => whnf) | (refine Need.mk ?_ ?_; (focus (first | omega | exact ⟨by omega, by omega⟩ | rfl | exact ⟨rfl, rfl⟩ | exact ⟨rfl, by omega, by omega⟩ | exact ⟨by omega, by omega, by omega⟩ | exact ⟨rfl, Nat.le_of_ble_eq_true rfl⟩ | exact Nat.le_of_ble_eq_true rfl | (refine ⟨rfl, rfl, ?_⟩; simp [isFar, ofV0, CV.up, SV.renL, SV.ren] <;> fail) | (refine ⟨rfl, Nat.le_of_ble_eq_true rfl, ?_⟩; simp [isFar, ofV0, CV.up, SV.renL, SV.ren] <;> fail) | (simp only [List.length_append, List.length_drop, List.length_take, List.length_replicate, List.length_map]; omega) | (simp <;> fail))); conv => whnf) | (refine ⟨_, rfl, ?_⟩; conv => whnf)))
    refine Both.dec (fun c1 => ?_) (fun c1 => ?_)
    · rw [hbad (bad_1 (by omega))] at h
      (conv => whnf)
      (repeat (first | (exact Out.same; conv => whnf) | (exact Out1.same; conv => whnf) | (refine QAnd.mk ?_ ?_; conv => whnf) | (apply QStepH.go; conv => whnf) | (refine Both.lit_true ?_; conv => whnf) | (refine Both.lit_false ?_; conv => whnf) | (apply QStep.go; conv => whnf) | (refine Need.mk ?_ ?_; (focus (first | omega | exact ⟨by omega, by omega⟩ | rfl | exact ⟨rfl, rfl⟩ | exact ⟨rfl, by omega, by omega⟩ | exact ⟨by omega, by omega, by omega⟩ | exact ⟨rfl, Nat.le_of_ble_eq_true rfl⟩ | exact Nat.le_of_ble_eq_true rfl | (refine ⟨rfl, rfl, ?_⟩; simp [isFar, ofV0, CV.up, SV.renL, SV.ren] <;> fail) | (refine ⟨rfl, Nat.le_of_ble_eq_true rfl, ?_⟩; simp [isFar, ofV0, CV.up, SV.renL, SV.ren] <;> fail) | (simp only [List.length_append, List.length_drop, List.length_take, List.length_replicate, List.length_map]; omega) | (simp <;> fail))); conv => whnf) | (refine ⟨_, rfl, ?_⟩; conv => whnf) | (refine Both.of_false ?_ ?_; (focus (first | rfl | (simp <;> fail))); conv => whnf) | (refine Both.of_true ?_ ?_; (focus (first | rfl | (simp <;> fail))); conv => whnf)))
      exact ⟨_, _, WeakV.drop rfl, h⟩
    (conv => whnf)
    (repeat (first | (refine Need.mk hin ?_; conv => whnf) | (refine ⟨_, hat, ?_⟩; conv => whnf) | (exact Out.same; conv => whnf) | (exact Out1.same; conv => whnf) | (refine QAnd.mk ?_ ?_; conv => whnf) | (apply QStepH.go; conv => whnf) | (refine Both.lit_true ?_; conv => whnf) | (refine Both.lit_false ?_; conv => whnf) | (apply QStep.go; conv => whnf) | (refine Need.mk ?_ ?_; (focus (first | omega | exact ⟨by omega, by omega⟩ | rfl | exact ⟨rfl, rfl⟩ | exact ⟨rfl, by omega, by omega⟩ | exact ⟨by omega, by omega, by omega⟩ | exact ⟨rfl, Nat.le_of_ble_eq_true rfl⟩ | exact Nat.le_of_ble_eq_true rfl | (refine ⟨rfl, rfl, ?_⟩; simp [isFar, ofV0, CV.up, SV.renL, SV.ren] <;> fail) | (refine ⟨rfl, Nat.le_of_ble_eq_true rfl, ?_⟩; simp [isFar, ofV0, CV.up, SV.renL, SV.ren] <;> fail) | (simp only [List.length_append, List.length_drop, List.length_take, List.length_replicate, List.length_map]; omega) | (simp <;> fail))); conv => whnf) | (refine ⟨_, rfl, ?_⟩; conv => whnf)))
    refine Both.dec (fun c2 => ?_) (fun c2 => ?_)
    · rw [hbad (bad_2 (by omega))] at h
      (conv => whnf)
      (repeat (first | (exact Out.same; conv => whnf) | (exact Out1.same; conv => whnf) | (refine QAnd.mk ?_ ?_; conv => whnf) | (apply QStepH.go; conv => whnf) | (refine Both.lit_true ?_; conv => whnf) | (refine Both.lit_false ?_; conv => whnf) | (apply QStep.go; conv => whnf) | (refine Need.mk ?_ ?_; (focus (first | omega | exact ⟨by omega, by omega⟩ | rfl | exact ⟨rfl, rfl⟩ | exact ⟨rfl, by omega, by omega⟩ | exact ⟨by omega, by omega, by omega⟩ | exact ⟨rfl, Nat.le_of_ble_eq_true rfl⟩ | exact Nat.le_of_ble_eq_true rfl | (refine ⟨rfl, rfl, ?_⟩; simp [isFar, ofV0, CV.up, SV.renL, SV.ren] <;> fail) | (refine ⟨rfl, Nat.le_of_ble_eq_true rfl, ?_⟩; simp [isFar, ofV0, CV.up, SV.renL, SV.ren] <;> fail) | (simp only [List.length_append, List.length_drop, List.length_take, List.length_replicate, List.length_map]; omega) | (simp <;> fail))); conv => whnf) | (refine ⟨_, rfl, ?_⟩; conv => whnf) | (refine Both.of_false ?_ ?_; (focus (first | rfl | (simp <;> fail))); conv => whnf) | (refine Both.of_true ?_ ?_; (focus (first | rfl | (simp <;> fail))); conv => whnf)))
      exact ⟨_, _, WeakV.drop rfl, h⟩
    (conv => whnf)
    (repeat (first | (refine Need.mk hin ?_; conv => whnf) | (refine ⟨_, hat, ?_⟩; conv => whnf) | (exact Out.same; conv => whnf) | (exact Out1.same; conv => whnf) | (refine QAnd.mk ?_ ?_; conv => whnf) | (apply QStepH.go; conv => whnf) | (refine Both.lit_true ?_; conv => whnf) | (refine Both.lit_false ?_; conv => whnf) | (apply QStep.go; conv => whnf) | (refine Need.mk ?_ ?_; (focus (first | omega | exact ⟨by omega, by omega⟩ | rfl | exact ⟨rfl, rfl⟩ | exact ⟨rfl, by omega, by omega⟩ | exact ⟨by omega, by omega, by omega⟩ | exact ⟨rfl, Nat.le_of_ble_eq_true rfl⟩ | exact Nat.le_of_ble_eq_true rfl | (refine ⟨rfl, rfl, ?_⟩; simp [isFar, ofV0, CV.up, SV.renL, SV.ren] <;> fail) | (refine ⟨rfl, Nat.le_of_ble_eq_true rfl, ?_⟩; simp [isFar, ofV0, CV.up, SV.renL, SV.ren] <;> fail) | (simp only [List.length_append, List.length_drop, List.length_take, List.length_replicate, List.length_map]; omega) | (simp <;> fail))); conv => whnf) | (refine ⟨_, rfl, ?_⟩; conv => whnf)))
    refine Both.dec (fun c3 => ?_) (fun c3 => ?_)
    · rw [hbad (bad_3 (by omega))] at h
      (conv => whnf)
      (repeat (first | (exact Out.same; conv => whnf) | (exact Out1.same; conv => whnf) | (refine QAnd.mk ?_ ?_; conv => whnf) | (apply QStepH.go; conv => whnf) | (refine Both.lit_true ?_; conv => whnf) | (refine Both.lit_false ?_; conv => whnf) | (apply QStep.go; conv => whnf) | (refine Need.mk ?_ ?_; (focus (first | omega | exact ⟨by omega, by omega⟩ | rfl | exact ⟨rfl, rfl⟩ | exact ⟨rfl, by omega, by omega⟩ | exact ⟨by omega, by omega, by omega⟩ | exact ⟨rfl, Nat.le_of_ble_eq_true rfl⟩ | exact Nat.le_of_ble_eq_true rfl | (refine ⟨rfl, rfl, ?_⟩; simp [isFar, ofV0, CV.up, SV.renL, SV.ren] <;> fail) | (refine ⟨rfl, Nat.le_of_ble_eq_true rfl, ?_⟩; simp [isFar, ofV0, CV.up, SV.renL, SV.ren] <;> fail) | (simp only [List.length_append, List.length_drop, List.length_take, List.length_replicate, List.length_map]; omega) | (simp <;> fail))); conv => whnf) | (refine ⟨_, rfl, ?_⟩; conv => whnf) | (refine Both.of_false ?_ ?_; (focus (first | rfl | (simp <;> fail))); conv => whnf) | (refine Both.of_true ?_ ?_; (focus (first | rfl | (simp <;> fail))); conv => whnf)))
      exact ⟨_, _, WeakV.drop rfl, h⟩
    (conv => whnf)
    (repeat (first | (exact Out.same; conv => whnf) | (exact Out1.same; conv => whnf) | (refine QAnd.mk ?_ ?_; conv => whnf) | (apply QStepH.go; conv => whnf) | (refine Both.lit_true ?_; conv => whnf) | (refine Both.lit_false ?_; conv => whnf) | (apply QStep.go; conv => whnf) | (refine Need.mk ?_ ?_; (focus (first | omega | exact ⟨by omega, by omega⟩ | rfl | exact ⟨rfl, rfl⟩ | exact ⟨rfl, by omega, by omega⟩ | exact ⟨by omega, by omega, by omega⟩ | exact ⟨rfl, Nat.le_of_ble_eq_true rfl⟩ | exact Nat.le_of_ble_eq_true rfl | (refine ⟨rfl, rfl, ?_⟩; simp [isFar, ofV0, CV.up, SV.renL, SV.ren] <;> fail) | (refine ⟨rfl, Nat.le_of_ble_eq_true rfl, ?_⟩; simp [isFar, ofV0, CV.up, SV.renL, SV.ren] <;> fail) | (simp only [List.length_append, List.length_drop, List.length_take, List.length_replicate, List.length_map]; omega) | (simp <;> fail))); conv => whnf) | (refine ⟨_, rfl, ?_⟩; conv => whnf) | (refine Both.of_false ?_ ?_; (focus (first | rfl | (simp <;> fail))); conv => whnf) | (refine Both.of_true ?_ ?_; (focus (first | rfl | (simp <;> fail))); conv => whnf)))
    refine ⟨k + 1, ⟨hkl, hnext (bad_0 (by omega) (by omega) (by omega)) hall⟩, by omega, Weak.auto ?_⟩
    (repeat' ((conv => whnf); first | exact True.intro | (refine And.intro ?_ ?_)))
    all_goals first | rfl | exact .eq rfl | exact congrArg (SV.int .i64) hwr
  have hke : k = l.length := by omega
  subst hke
  clear hge
  (conv => whnf)
  (repeat (first | (exact Out.same; conv => whnf) | (exact Out1.same; conv => whnf) | (refine QAnd.mk ?_ ?_; conv => whnf) | (apply QStepH.go; conv => whnf) | (refine Both.lit_true ?_; conv => whnf) | (refine Both.lit_false ?_; conv => whnf) | (apply QStep.go; conv => whnf) | (refine Need.mk ?_ ?_; (focus (first | omega | exact ⟨by omega, by omega⟩ | rfl | exact ⟨rfl, rfl⟩ | exact ⟨rfl, by omega, by omega⟩ | exact ⟨by omega, by omega, by omega⟩ | exact ⟨rfl, Nat.le_of_ble_eq_true rfl⟩ | exact Nat.le_of_ble_eq_true rfl | (refine ⟨rfl, rfl, ?_⟩; simp [isFar, ofV0, CV.up, SV.renL, SV.ren] <;> fail) | (refine ⟨rfl, Nat.le_of_ble_eq_true rfl, ?_⟩; simp [isFar, ofV0, CV.up, SV.renL, SV.ren] <;> fail) | (simp only [List.length_append, List.length_drop, List.length_take, List.length_replicate, List.length_map]; omega) | (simp <;> fail))); conv => whnf) | (refine ⟨_, rfl, ?_⟩; conv => whnf) | (refine Both.of_false ?_ ?_; (focus (first | rfl | (simp <;> fail))); conv => whnf) | (refine Both.of_true ?_ ?_; (focus (first | rfl | (simp <;> fail))); conv => whnf)))
  refine loop_rule (fun k : Nat => ⟨[.sl 2 l.length (flP l) f, .any, .any, .any, .int .i64 ((k + 1 : Nat) : Int), .any, .any, .any, .any, .any, .any, .any, .any, .any, .any, .any, .any, .any, .any, .any, .any, .any, .any, .any, .any, .any, .any, .any, .any, .any, .any, .any, .any, .any, .any, .any, .any, .any, .any, .any, .any, .any, .any, .any, .any, .any, .any, .any, .any, .any, .any, .any, .any, .any, .any, .any, .any], []⟩) (fun k => k ≤ l.length ∧ ∀ j, j < k → j + 1 < l.length → lessS (kAt l j) (kAt l (j + 1)) = true) (fun k => l.length - k) 0 ⟨Nat.zero_le _, fun j hj => by omega⟩ (Weak.auto ?_) ?_
  · (repeat' ((conv => whnf); first | exact True.intro | (refine And.intro ?_ ?_)))
    all_goals first | rfl | exact .eq rfl
  rintro k ⟨hk2, hord⟩
  (refine sx_sound Γok _ ?_; conv => whnf)
  (repeat (first | (exact Out.same; conv => whnf) | (exact Out1.same; conv => whnf) | (refine QAnd.mk ?_ ?_; conv => whnf) | (apply QStepH.go; conv => whnf) | (refine Both.lit_true ?_; conv => whnf) | (refine Both.lit_false ?_; conv => whnf) | (apply QStep.go; conv => whnf) | (refine Need.mk ?_ ?_; (focus (first | omega | exact ⟨by omega, by omega⟩ | rfl | exact ⟨rfl, rfl⟩ | exact ⟨rfl, by omega, by omega⟩ | exact ⟨by omega, by omega, by omega⟩ | exact ⟨rfl, Nat.le_of_ble_eq_true rfl⟩ | exact Nat.le_of_ble_eq_true rfl | (refine ⟨rfl, rfl, ?_⟩; simp [isFar, ofV0, CV.up, SV.renL, SV.ren] <;> fail) | (refine ⟨rfl, Nat.le_of_ble_eq_true rfl, ?_⟩; simp [isFar, ofV0, CV.up, SV.renL, SV.ren] <;> fail) | (simp only [List.length_append, List.length_drop, List.length_take, List.length_replicate, List.length_map]; omega) | (simp <;> fail))); conv => whnf) | (refine ⟨_, rfl, ?_⟩; conv => whnf)))
  refine Both.dec (fun hlt => ?_) (fun hge => ?_)
  · have hkl : k + 1 < l.length := by omega
    have hat := flP_at l (k := k) (by omega)
    have hat1 := flP_at l hkl
    have hwr : IntKind.i64.wrap (((k + 1 : Nat) : Int) + 1) = ((k + 1 + 1 : Nat) : Int) := by rw [wrap_i64 (by omega) (by omega)]; rfl
    have hwm : IntKind.i64.wrap (((k + 1 : Nat) : Int) - 1) = ((k : Nat) : Int) := by rw [wrap_i64 (by omega) (by omega)]; omega
    have hin : ti38.size = 2 ∧ (0 : Int) ≤ ((k + 1 : Nat) : Int) ∧ ((k + 1 : Nat) : Int) < ((l.length : Nat) : Int) := ⟨rfl, by omega, by omega⟩
    have hin1 : ti38.size = 2 ∧ (0 : Int) ≤ IntKind.i64.wrap (((k + 1 : Nat) : Int) - 1) ∧ IntKind.i64.wrap (((k + 1 : Nat) : Int) - 1) < ((l.length : Nat) : Int) := ⟨rfl, by rw [hwm]; omega, by rw [hwm]; omega⟩
    have hat2 : ((flP l).drop ((IntKind.i64.wrap (((k + 1 : Nat) : Int) - 1)).toNat * 2)).take 2 = [.str (l.getD k ([], [])).1, .str (l.getD k ([], [])).2] := by rw [hwm]; exact hat
    have hbad : lessS (kAt l k) (kAt l (k + 1)) = false → chkV l = 15 := chk_ord hl4 hall hkl
    have hnext : lessS (kAt l k) (kAt l (k + 1)) = true → ∀ j, j < k + 1 → j + 1 < l.length → lessS (kAt l j) (kAt l (j + 1)) = true := fun h j hj hl => by
      rcases Nat.lt_or_ge j k with h9 | h9
      · exact hord j h9 hl
      · rw [show j = k by omega]; exact h
    have htri := less_tri (kAt l k) (kAt l (k + 1))
    unfold kAt at hbad hnext htri
    clear hat
    revert hat1 hat2 hbad htri hnext
    generalize l.getD k ([], []) = p
    generalize l.getD (k + 1) ([], []) = q
    intro hat1 hat2 hbad hnext htri
    (conv => whnf)
    (refine DrawVC.any Γok (by kernel_rfl) (by kernel_rfl) (by kernel_rfl) (by rfl) ?_; conv => whnf)
    (repeat (first | (refine Need.mk hin ?_; conv => whnf) | (refine Need.mk hin1 ?_; conv => whnf) | (refine ⟨_, hat1, ?_⟩; conv => whnf) | (refine ⟨_, hat2, ?_⟩; conv => whnf) | (exact Out.same; conv => whnf) | (exact Out1.same; conv => whnf) | (refine QAnd.mk ?_ ?_; conv => whnf) | (apply QStepH.go; conv => whnf) | (refine Both.lit_true ?_; conv => whnf) | (refine Both.lit_false ?_; conv => whnf) | (apply QStep.go; conv => whnf) | (refine Need.mk ?_ ?_; (focus (first | omega | exact ⟨by omega, by omega⟩ | rfl | exact ⟨rfl, rfl⟩ | exact ⟨rfl, by omega, by omega⟩ | exact ⟨by omega, by omega, by omega⟩ | exact ⟨rfl, Nat.le_of_ble_eq_true rfl⟩ | exact Nat.le_of_ble_eq_true rfl | (refine ⟨rfl, rfl, ?_⟩; simp [isFar, ofV0, CV.up, SV.renL, SV.ren] <;> fail) | (refine ⟨rfl, Nat.le_of_ble_eq_true rfl, ?_⟩; simp [isFar, ofV0, CV.up, SV.renL, SV.ren] <;> fail) | (simp only [List.length_append, List.length_drop, List.length_take, List.length_replicate, List.length_map]; omega) | (simp <;> fail))); conv => whnf) | (refine ⟨_, rfl, ?_⟩; conv => whnf)))
    refine Both.cases (fun c1 => ?_) (fun c1 => ?_)
    · rw [hbad (by rw [htri, c1]; rfl)] at h
      (conv => whnf)
      (repeat (first | (exact Out.same; conv => whnf) | (exact Out1.same; conv => whnf) | (refine QAnd.mk ?_ ?_; conv => whnf) | (apply QStepH.go; conv => whnf) | (refine Both.lit_true ?_; conv => whnf) | (refine Both.lit_false ?_; conv => whnf) | (apply QStep.go; conv => whnf) | (refine Need.mk ?_ ?_; (focus (first | omega | exact ⟨by omega, by omega⟩ | rfl | exact ⟨rfl, rfl⟩ | exact ⟨rfl, by omega, by omega⟩ | exact ⟨by omega, by omega, by omega⟩ | exact ⟨rfl, Nat.le_of_ble_eq_true rfl⟩ | exact Nat.le_of_ble_eq_true rfl | (refine ⟨rfl, rfl, ?_⟩; simp [isFar, ofV0, CV.up, SV.renL, SV.ren] <;> fail) | (refine ⟨rfl, Nat.le_of_ble_eq_true rfl, ?_⟩; simp [isFar, ofV0, CV.up, SV.renL, SV.ren] <;> fail) | (simp only [List.length_append, List.length_drop, List.length_take, List.length_replicate, List.length_map]; omega) | (simp <;> fail))); conv => whnf) | (refine ⟨_, rfl, ?_⟩; conv => whnf) | (refine Both.of_false ?_ ?_; (focus (first | rfl | (simp <;> fail))); conv => whnf) | (refine Both.of_true ?_ ?_; (focus (first | rfl | (simp <;> fail))); conv => whnf)))
      exact ⟨_, _, WeakV.drop rfl, h⟩
    · (conv => whnf)
      (repeat (first | (exact Out.same; conv => whnf) | (exact Out1.same; conv => whnf) | (refine QAnd.mk ?_ ?_; conv => whnf) | (apply QStepH.go; conv => whnf) | (refine Both.lit_true ?_; conv => whnf) | (refine Both.lit_false ?_; conv => whnf) | (apply QStep.go; conv => whnf) | (refine Need.mk ?_ ?_; (focus (first | omega | exact ⟨by omega, by omega⟩ | rfl | exact ⟨rfl, rfl⟩ | exact ⟨rfl, by omega, by omega⟩ | exact ⟨by omega, by omega, by omega⟩ | exact ⟨rfl, Nat.le_of_ble_eq_true rfl⟩ | exact Nat.le_of_ble_eq_true rfl | (refine ⟨rfl, rfl, ?_⟩; simp [isFar, ofV0, CV.up, SV.renL, SV.ren] <;> fail) | (refine ⟨rfl, Nat.le_of_ble_eq_true rfl, ?_⟩; simp [isFar, ofV0, CV.up, SV.renL, SV.ren] <;> fail) | (simp only [List.length_append, List.length_drop, List.length_take, List.length_replicate, List.length_map]; omega) | (simp <;> fail))); conv => whnf) | (refine ⟨_, rfl, ?_⟩; conv => whnf) | (refine Both.of_false ?_ ?_; (focus (first | rfl | (simp <;> fail))); conv => whnf) | (refine Both.of_true ?_ ?_; (focus (first | rfl | (simp <;> fail))); conv => whnf)))
      refine ⟨k + 1, ⟨by omega, hnext (by rw [htri, c1]; rfl)⟩, by omega, Weak.auto ?_⟩
      (repeat' ((conv => whnf); first | exact True.intro | (refine And.intro ?_ ?_)))
      all_goals first | rfl | exact .eq rfl | exact congrArg (SV.int .i64) hwr
  rw [chk_ok hl4 hall (fun j hj => hord j (by omega) hj)] at h
  (conv => whnf)
  (repeat (first | (exact Out.same; conv => whnf) | (exact Out1.same; conv => whnf) | (refine QAnd.mk ?_ ?_; conv => whnf) | (apply QStepH.go; conv => whnf) | (refine Both.lit_true ?_; conv => whnf) | (refine Both.lit_false ?_; conv => whnf) | (apply QStep.go; conv => whnf) | (refine Need.mk ?_ ?_; (focus (first | omega | exact ⟨by omega, by omega⟩ | rfl | exact ⟨rfl, rfl⟩ | exact ⟨rfl, by omega, by omega⟩ | exact ⟨by omega, by omega, by omega⟩ | exact ⟨rfl, Nat.le_of_ble_eq_true rfl⟩ | exact Nat.le_of_ble_eq_true rfl | (refine ⟨rfl, rfl, ?_⟩; simp [isFar, ofV0, CV.up, SV.renL, SV.ren] <;> fail) | (refine ⟨rfl, Nat.le_of_ble_eq_true rfl, ?_⟩; simp [isFar, ofV0, CV.up, SV.renL, SV.ren] <;> fail) | (simp only [List.length_append, List.length_drop, List.length_take, List.length_replicate, List.length_map]; omega) | (simp <;> fail))); conv => whnf) | (refine ⟨_, rfl, ?_⟩; conv => whnf) | (refine Both.of_false ?_ ?_; (focus (first | rfl | (simp <;> fail))); conv => whnf) | (refine Both.of_true ?_ ?_; (focus (first | rfl | (simp <;> fail))); conv => whnf)))
  exact ⟨_, _, WeakV.drop rfl, h⟩
theorem rchk_k : Contract Tryd.prog [] 21 rchkS := ⟨⟨⟨_, rfl, rfl, rfl⟩⟩, rchk_c⟩
/-! ## What the laws ask first -/
def few8S : Spec := fun args H Q => match args, H with
  | [.sl 2 n cs f], [] => ∃ l : List Pr, n = l.length ∧ cs = flP l ∧ (∀ r : Bool, (r = true → l.length ≤ 40 ∧ ∀ p ∈ l, p.1.length ≤ 300 ∧ p.2.length ≤ 300) → Q (.bool r) [])
  | _, _ => False
/-! ## MerkleClimbs -/
def lawClimbS : Spec := fun args H Q => match args, H with
  | [.agg [.int .i64 x, .int .i64 c, .str k, .str v, .sl 1 n cs false]], [] => ∃ p : List Bs, cs = strs p ∧ n = p.length ∧ Q (.bool true) []
  | _, _ => False
end Go.LX
end
section
set_option maxRecDepth 100000
set_option maxHeartbeats 1000000
set_option autoImplicit false
set_option linter.unusedVariables false
set_option linter.unusedSimpArgs false
namespace Go.LX
open Go.Proofs

/-! ## A contract whose outcome is looked at in a weaker way; a row in a pair, published -/
theorem Contract.post {P : Program} {G : Gl} {f : FuncId} {S S' : Spec} (hc : Contract P G f S) (h : ∀ args H Q, S' args H Q → S args H fun r H1 => ∃ r' H', WeakV G H.length r H1 r' H' ∧ Q r' H') : Contract P G f S' := by
  refine ⟨hc.ok, fun args H Q hs E w vs hv hr hg => ?_⟩
  refine (hc.meets args H _ (h args H Q hs) E w vs hv hr hg).mono ?_
  rintro e w' ⟨v, r, H1, E1, h1, ⟨r', H', hw, hq⟩, h3, h4, h5, h6⟩
  obtain ⟨E2, a1, a2, a3, a4, a5⟩ := hw E E1 w' v hr.len.symm h6 h3 h4 (hg.kept h5.Imono fun b hb => h5.keep b (hr.ltI b hb) fun q => hr.imm b q hb)
  exact ⟨v, r', H', E2, h1, hq, a2, a3, h5.trans a5, a1⟩
theorem WeakV.pubTup {G : Gl} {N : Nat} {rs : List SV} {H : List LObj} (i : Nat) {e sz n : Nat} {xs : List CV} {wr : Bool} (hi : H[i]? = some (.own e sz n xs wr)) :
    WeakV G N (.tuple rs) H (.tuple (pubL i sz n xs rs)) (H.set i .gone) := fun A E w v hA hle hv hr hg => by
  obtain ⟨le, h1, h2, h3⟩ := hr.pub hi
  cases hv with
  | tuple vs hl h =>
    have hvs : VRs E w rs vs := ⟨hl, h⟩
    have hk := pubL_sound h3 (hvs.kept le (fun _ h => .inl h) (fun _ _ => rfl))
    exact ⟨_, hle.trans le, .tuple vs hk.1 hk.2, h1, hg.kept (fun _ h => .inl h) (fun _ _ => rfl), h2⟩
/-- What stands behind a piece of code may be looked at in a weaker way. -/
theorem WpX.postWeak {P : Program} {G : Gl} {N : Nat} {X : Cx} {c : Code} {s : LS} {K : Exit → LS → Prop} (h : WpX P G N X c s fun e s' => ∃ s2, Weak G N s' s2 ∧ K e s2) : WpX P G N X c s K := fun A E w a hA hs hJ =>
  wpIn_mono (h A E w a hA hs hJ) fun e a' w' ⟨a0, e0, s1, E1, ⟨s2, hw, hk⟩, h2, h3⟩ => by
    obtain ⟨E2, q1, q2⟩ := hw A E1 w' a0 hA h2
    exact ⟨a0, e0, s2, E2, hk, q1, h3.trans q2⟩
theorem DrawVC.postWeak {P : Program} {Γ : Ty} {G : Gl} {N id : Nat} {ops : Array Oper} {s : LS} {K : Exit → LS → Prop} (h : DrawVC P Γ G N id ops s fun e s' => ∃ s2, Weak G N s' s2 ∧ K e s2) : DrawVC P Γ G N id ops s K := ⟨fun X hX => WpX.postWeak (h.out X hX)⟩
end Go.LX
end
section
set_option maxRecDepth 100000
set_option maxHeartbeats 1000000
set_option autoImplicit false
set_option linter.unusedVariables false
set_option linter.unusedSimpArgs false
namespace Go.LX
open Go.Proofs

/-! ## Where a key is, or would be -/
theorem less_cons (x y : UInt8) (a b : Bs) : lessS (x :: a) (y :: b) = true ↔ x < y ∨ x = y ∧ lessS a b = true := by
  unfold lessS
  rw [show Op.bytesLess (x :: a) (y :: b) = (decide (x < y) || (x == y && Op.bytesLess a b)) from rfl]
  simp only [Bool.or_eq_true, Bool.and_eq_true, decide_eq_true_eq, beq_iff_eq]
theorem less_nil (b : Bs) : lessS b [] = false := by cases b <;> rfl
theorem less_trans : ∀ a b c : Bs, lessS a b = true → lessS b c = true → lessS a c = true
  | a, b, [], _, h2 => by rw [less_nil] at h2; cases h2
  | a, [], c, h1, _ => by rw [less_nil] at h1; cases h1
  | [], b, z :: c, _, _ => rfl
  | x :: a, y :: b, z :: c, h1, h2 => by
    rw [less_cons] at h1 h2 ⊢
    rcases h1 with h1 | ⟨rfl, h1⟩
    · rcases h2 with h2 | ⟨rfl, h2⟩
      · exact .inl (UInt8.lt_trans h1 h2)
      · exact .inl h1
    · rcases h2 with h2 | ⟨rfl, h2⟩
      · exact .inl h2
      · exact .inr ⟨rfl, less_trans a b c h1 h2⟩
def sortB (l : List Pr) : Prop := ∀ j, j + 1 < l.length → lessS (kAt l j) (kAt l (j + 1)) = true
theorem sort_less {l : List Pr} (h : sortB l) : ∀ (d j : Nat), j + (d + 1) < l.length → lessS (kAt l j) (kAt l (j + (d + 1))) = true
  | 0, j, hj => h j hj
  | d + 1, j, hj => less_trans _ _ _ (sort_less h d j (by omega)) (h (j + (d + 1)) (by omega))
theorem sort_down {l : List Pr} (h : sortB l) {t : Bs} {j k : Nat} (hjk : j ≤ k) (hk : k < l.length) (ht : lessS (kAt l k) t = true) : lessS (kAt l j) t = true := by
  rcases Nat.lt_or_ge j k with q | q
  · have := sort_less h (k - j - 1) j (by omega)
    rw [show j + (k - j - 1 + 1) = k by omega] at this
    exact less_trans _ _ _ this ht
  · rw [show j = k by omega]
    exact ht
structure IsPlace (l : List Pr) (t : Bs) (n : Nat) : Prop where
  le : n ≤ l.length
  lo : ∀ j, j < n → lessS (kAt l j) t = true
  hi : ∀ j, n ≤ j → j < l.length → lessS (kAt l j) t = false
theorem IsPlace.eq {l : List Pr} {t : Bs} {n m : Nat} (h1 : IsPlace l t n) (h2 : IsPlace l t m) : n = m := by
  have l1 := h1.le
  have l2 := h2.le
  rcases Nat.lt_trichotomy n m with q | q | q
  · have e1 := h1.hi n (Nat.le_refl _) (by omega)
    rw [h2.lo n q] at e1
    cases e1
  · exact q
  · have e1 := h2.hi m (Nat.le_refl _) (by omega)
    rw [h1.lo m q] at e1
    cases e1
theorem ordB_sort : ∀ (l : List Pr), ordB l = true → sortB l
  | [], _, j, hj => by simp at hj
  | [_], _, j, hj => by simp at hj
  | a :: b :: r, h, j, hj => by
    rw [ordB, Bool.and_eq_true] at h
    match j with
    | 0 => exact h.1
    | j + 1 => exact ordB_sort (b :: r) h.2 j (by simpa using hj)
/-! ### cmp.Compare -/
def nanS : Spec := fun args H Q => match args, H with
  | [.str s], [] => Q (.bool false) []
  | _, _ => False
theorem nan_c : Meets Tryd.prog [] 79 nanS := by
  refine meets_of Γok Tryd.func79 rfl ?_
  intro args H Q h
  unfold nanS at h
  split at h
  case h_2 => exact h.elim
  rename_i s
  have e : (!decide (s = s)) = false := by simp
  (refine sx_sound Γok _ ?_; conv => whnf)
  (repeat (first | (exact Out.same; conv => whnf) | (exact Out1.same; conv => whnf) | (refine QAnd.mk ?_ ?_; conv => whnf) | (apply QStepH.go; conv => whnf) | (refine Both.lit_true ?_; conv => whnf) | (refine Both.lit_false ?_; conv => whnf) | (apply QStep.go; conv => whnf) | (refine Need.mk ?_ ?_; (focus (first | omega | exact ⟨by omega, by omega⟩ | rfl | exact ⟨rfl, rfl⟩ | exact ⟨rfl, by omega, by omega⟩ | exact ⟨by omega, by omega, by omega⟩ | exact ⟨rfl, Nat.le_of_ble_eq_true rfl⟩ | exact Nat.le_of_ble_eq_true rfl | (refine ⟨rfl, rfl, ?_⟩; simp [isFar, ofV0, CV.up, SV.renL, SV.ren] <;> fail) | (refine ⟨rfl, Nat.le_of_ble_eq_true rfl, ?_⟩; simp [isFar, ofV0, CV.up, SV.renL, SV.ren] <;> fail) | (simp only [List.length_append, List.length_drop, List.length_take, List.length_replicate, List.length_map]; omega) | (simp <;> fail))); conv => whnf) | (refine ⟨_, rfl, ?_⟩; conv => whnf)))
  refine ⟨_, _, WeakV.drop rfl, ?_⟩
  exact (congrArg (fun b => Q (SV.bool b) []) e).mpr h
theorem nan_k : Contract Tryd.prog [] 79 nanS := ⟨⟨⟨_, rfl, rfl, rfl⟩⟩, nan_c⟩
def cmpV (a b : Bs) : Int := if lessS a b = true then -1 else if lessS b a = true then 1 else 0
def cmpS : Spec := fun args H Q => match args, H with
  | [.str a, .str b], [] => Q (.int .i64 (cmpV a b)) []
  | _, _ => False
theorem cmp_c : Meets Tryd.prog [] 53 cmpS := by
  refine meets_of Γok Tryd.func53 rfl ?_
  intro args H Q h
  unfold cmpS at h
  split at h
  case h_2 => exact h.elim
  rename_i a b
  unfold cmpV at h
  by_cases h1 : lessS a b = true
  · rw [if_pos h1] at h
    (refine sx_sound Γok _ ?_; conv => whnf)
    (repeat (first | (refine Both.of_true h1 ?_; conv => whnf) | (exact Out.same; conv => whnf) | (exact Out1.same; conv => whnf) | (refine QAnd.mk ?_ ?_; conv => whnf) | (apply QStepH.go; conv => whnf) | (refine Both.lit_true ?_; conv => whnf) | (refine Both.lit_false ?_; conv => whnf) | (apply QStep.go; conv => whnf) | (refine Need.mk ?_ ?_; (focus (first | omega | exact ⟨by omega, by omega⟩ | rfl | exact ⟨rfl, rfl⟩ | exact ⟨rfl, by omega, by omega⟩ | exact ⟨by omega, by omega, by omega⟩ | exact ⟨rfl, Nat.le_of_ble_eq_true rfl⟩ | exact Nat.le_of_ble_eq_true rfl | (refine ⟨rfl, rfl, ?_⟩; simp [isFar, ofV0, CV.up, SV.renL, SV.ren] <;> fail) | (refine ⟨rfl, Nat.le_of_ble_eq_true rfl, ?_⟩; simp [isFar, ofV0, CV.up, SV.renL, SV.ren] <;> fail) | (simp only [List.length_append, List.length_drop, List.length_take, List.length_replicate, List.length_map]; omega) | (simp <;> fail))); conv => whnf) | (refine ⟨_, rfl, ?_⟩; conv => whnf) | (refine CallVC.auto nan_k ?_; conv => whnf)))
    exact ⟨_, _, WeakV.drop rfl, h⟩
  · rw [if_neg h1] at h
    have h1 : lessS a b = false := by simpa using h1
    by_cases h2 : lessS b a = true
    · rw [if_pos h2] at h
      rw [less_tri b a] at h2
      (refine sx_sound Γok _ ?_; conv => whnf)
      (repeat (first | (refine Both.of_false h1 ?_; conv => whnf) | (refine Both.of_true h2 ?_; conv => whnf) | (exact Out.same; conv => whnf) | (exact Out1.same; conv => whnf) | (refine QAnd.mk ?_ ?_; conv => whnf) | (apply QStepH.go; conv => whnf) | (refine Both.lit_true ?_; conv => whnf) | (refine Both.lit_false ?_; conv => whnf) | (apply QStep.go; conv => whnf) | (refine Need.mk ?_ ?_; (focus (first | omega | exact ⟨by omega, by omega⟩ | rfl | exact ⟨rfl, rfl⟩ | exact ⟨rfl, by omega, by omega⟩ | exact ⟨by omega, by omega, by omega⟩ | exact ⟨rfl, Nat.le_of_ble_eq_true rfl⟩ | exact Nat.le_of_ble_eq_true rfl | (refine ⟨rfl, rfl, ?_⟩; simp [isFar, ofV0, CV.up, SV.renL, SV.ren] <;> fail) | (refine ⟨rfl, Nat.le_of_ble_eq_true rfl, ?_⟩; simp [isFar, ofV0, CV.up, SV.renL, SV.ren] <;> fail) | (simp only [List.length_append, List.length_drop, List.length_take, List.length_replicate, List.length_map]; omega) | (simp <;> fail))); conv => whnf) | (refine ⟨_, rfl, ?_⟩; conv => whnf) | (refine CallVC.auto nan_k ?_; conv => whnf)))
      exact ⟨_, _, WeakV.drop rfl, h⟩
    · rw [if_neg h2] at h
      have h2 : lessS b a = false := by simpa using h2
      rw [less_tri b a] at h2
      (refine sx_sound Γok _ ?_; conv => whnf)
      (repeat (first | (refine Both.of_false h1 ?_; conv => whnf) | (refine Both.of_false h2 ?_; conv => whnf) | (exact Out.same; conv => whnf) | (exact Out1.same; conv => whnf) | (refine QAnd.mk ?_ ?_; conv => whnf) | (apply QStepH.go; conv => whnf) | (refine Both.lit_true ?_; conv => whnf) | (refine Both.lit_false ?_; conv => whnf) | (apply QStep.go; conv => whnf) | (refine Need.mk ?_ ?_; (focus (first | omega | exact ⟨by omega, by omega⟩ | rfl | exact ⟨rfl, rfl⟩ | exact ⟨rfl, by omega, by omega⟩ | exact ⟨by omega, by omega, by omega⟩ | exact ⟨rfl, Nat.le_of_ble_eq_true rfl⟩ | exact Nat.le_of_ble_eq_true rfl | (refine ⟨rfl, rfl, ?_⟩; simp [isFar, ofV0, CV.up, SV.renL, SV.ren] <;> fail) | (refine ⟨rfl, Nat.le_of_ble_eq_true rfl, ?_⟩; simp [isFar, ofV0, CV.up, SV.renL, SV.ren] <;> fail) | (simp only [List.length_append, List.length_drop, List.length_take, List.length_replicate, List.length_map]; omega) | (simp <;> fail))); conv => whnf) | (refine ⟨_, rfl, ?_⟩; conv => whnf) | (refine CallVC.auto nan_k ?_; conv => whnf)))
      exact ⟨_, _, WeakV.drop rfl, h⟩
theorem cmp_k : Contract Tryd.prog [] 53 cmpS := ⟨⟨⟨_, rfl, rfl, rfl⟩⟩, cmp_c⟩
def find1S : Spec := fun args H Q => match args, H with
  | [.agg [.str k, .str v], .str t], [] => Q (.int .i64 (cmpV k t)) []
  | _, _ => False
theorem find1_c : Meets Tryd.prog [] 52 find1S := by
  refine meets_of Γok Tryd.func52 rfl ?_
  intro args H Q h
  unfold find1S at h
  split at h
  case h_2 => exact h.elim
  (refine sx_sound Γok _ ?_; conv => whnf)
  (repeat (first | (exact Out.same; conv => whnf) | (exact Out1.same; conv => whnf) | (refine QAnd.mk ?_ ?_; conv => whnf) | (apply QStepH.go; conv => whnf) | (refine Both.lit_true ?_; conv => whnf) | (refine Both.lit_false ?_; conv => whnf) | (apply QStep.go; conv => whnf) | (refine Need.mk ?_ ?_; (focus (first | omega | exact ⟨by omega, by omega⟩ | rfl | exact ⟨rfl, rfl⟩ | exact ⟨rfl, by omega, by omega⟩ | exact ⟨by omega, by omega, by omega⟩ | exact ⟨rfl, Nat.le_of_ble_eq_true rfl⟩ | exact Nat.le_of_ble_eq_true rfl | (refine ⟨rfl, rfl, ?_⟩; simp [isFar, ofV0, CV.up, SV.renL, SV.ren] <;> fail) | (refine ⟨rfl, Nat.le_of_ble_eq_true rfl, ?_⟩; simp [isFar, ofV0, CV.up, SV.renL, SV.ren] <;> fail) | (simp only [List.length_append, List.length_drop, List.length_take, List.length_replicate, List.length_map]; omega) | (simp <;> fail))); conv => whnf) | (refine ⟨_, rfl, ?_⟩; conv => whnf) | (refine CallVC.auto cmp_k ?_; conv => whnf)))
  exact ⟨_, _, WeakV.drop rfl, h⟩
theorem find1_k : Contract Tryd.prog [] 52 find1S := ⟨⟨⟨_, rfl, rfl, rfl⟩⟩, find1_c⟩
theorem cmp_lt (a b : Bs) : decide (cmpV a b < 0) = lessS a b := by
  unfold cmpV
  by_cases h1 : lessS a b = true
  · rw [if_pos h1, h1]
    rfl
  · rw [if_neg h1]
    have h1 : lessS a b = false := by simpa using h1
    rw [h1]
    by_cases h2 : lessS b a = true
    · rw [if_pos h2]
      rfl
    · rw [if_neg h2]
      rfl
theorem cmp_eq (a b : Bs) : decide (cmpV a b = 0) = decide (a = b) := by
  unfold cmpV
  have ht := less_tri0 a b
  by_cases h1 : lessS a b = true
  · rw [if_pos h1]
    rw [h1] at ht
    have : a ≠ b := fun e => by
      rw [decide_eq_true e, Bool.or_true] at ht
      cases ht
    rw [decide_eq_false this]
    rfl
  · rw [if_neg h1]
    have h1 : lessS a b = false := by simpa using h1
    rw [h1] at ht
    by_cases h2 : lessS b a = true
    · rw [if_pos h2]
      have : a ≠ b := fun e => by
        rw [e] at h2
        have h3 := less_tri0 b b
        rw [h2] at h3
        cases h3
      rw [decide_eq_false this]
      rfl
    · rw [if_neg h2]
      have h2 : lessS b a = false := by simpa using h2
      rw [h2, Bool.false_or] at ht
      have : a = b := by simpa using ht
      rw [decide_eq_true this]
      rfl
def bsfS : Spec := fun args H Q => match args, H with
  | [.sl 2 n cs f, .str t, .func (.func 52) []], [] => ∃ l : List Pr, n = l.length ∧ cs = flP l ∧ l.length ≤ 1000000 ∧ sortB l ∧ ∀ k, IsPlace l t k → Q (.tuple [.int .i64 (k : Int), .bool (decide (k < l.length ∧ kAt l k = t))]) []
  | _, _ => False
theorem bsf_c : Meets Tryd.prog [] 51 bsfS := by
  refine meets_of Γok Tryd.func51 rfl ?_
  intro args H Q h
  unfold bsfS at h
  split at h
  case h_2 => exact h.elim
  rename_i n cs f t
  obtain ⟨l, rfl, rfl, hl, hsort, h⟩ := h
  (refine sx_sound Γok _ ?_; conv => whnf)
  (repeat (first | (exact Out.same; conv => whnf) | (exact Out1.same; conv => whnf) | (refine QAnd.mk ?_ ?_; conv => whnf) | (apply QStepH.go; conv => whnf) | (refine Both.lit_true ?_; conv => whnf) | (refine Both.lit_false ?_; conv => whnf) | (apply QStep.go; conv => whnf) | (refine Need.mk ?_ ?_; (focus (first | omega | exact ⟨by omega, by omega⟩ | rfl | exact ⟨rfl, rfl⟩ | exact ⟨rfl, by omega, by omega⟩ | exact ⟨by omega, by omega, by omega⟩ | exact ⟨rfl, Nat.le_of_ble_eq_true rfl⟩ | exact Nat.le_of_ble_eq_true rfl | (refine ⟨rfl, rfl, ?_⟩; simp [isFar, ofV0, CV.up, SV.renL, SV.ren] <;> fail) | (refine ⟨rfl, Nat.le_of_ble_eq_true rfl, ?_⟩; simp [isFar, ofV0, CV.up, SV.renL, SV.ren] <;> fail) | (simp only [List.length_append, List.length_drop, List.length_take, List.length_replicate, List.length_map]; omega) | (simp <;> fail))); conv => whnf) | (refine ⟨_, rfl, ?_⟩; conv => whnf)))
  refine loop_rule (fun x : Nat × Nat => match x with | (i, j) => ⟨[.sl 2 l.length (flP l) f, .str t, .func (.func 52) [], .any, .any, .any, .any, .any, .int .i64 ((l.length : Nat) : Int), .int .i64 (i : Int), .int .i64 (j : Int), .any, .any, .any, .any, .any, .any, .any, .any, .any, .any, .any, .any, .any, .any, .any, .any, .any, .any, .any, .any, .any, .any, .any, .any, .any, .any, .any, .any, .any, .any, .any, .any, .any, .any, .any, .any, .any, .any], []⟩) (fun x => match x with | (i, j) => i ≤ j ∧ j ≤ l.length ∧ (∀ q, q < i → lessS (kAt l q) t = true) ∧ ∀ q, j ≤ q → q < l.length → lessS (kAt l q) t = false) (fun x => match x with | (i, j) => j - i) (0, l.length) ⟨Nat.zero_le _, Nat.le_refl _, fun q hq => absurd hq (by omega), fun q h1 h2 => absurd h2 (by omega)⟩ (Weak.auto ?_) ?_
  · (repeat' ((conv => whnf); first | exact True.intro | (refine And.intro ?_ ?_)))
    all_goals first | rfl | exact .eq rfl
  rintro ⟨i, j⟩ ⟨hij, hjl, hlo, hhi⟩
  (refine sx_sound Γok _ ?_; conv => whnf)
  (repeat (first | (exact Out.same; conv => whnf) | (exact Out1.same; conv => whnf) | (refine QAnd.mk ?_ ?_; conv => whnf) | (apply QStepH.go; conv => whnf) | (refine Both.lit_true ?_; conv => whnf) | (refine Both.lit_false ?_; conv => whnf) | (apply QStep.go; conv => whnf) | (refine Need.mk ?_ ?_; (focus (first | omega | exact ⟨by omega, by omega⟩ | rfl | exact ⟨rfl, rfl⟩ | exact ⟨rfl, by omega, by omega⟩ | exact ⟨by omega, by omega, by omega⟩ | exact ⟨rfl, Nat.le_of_ble_eq_true rfl⟩ | exact Nat.le_of_ble_eq_true rfl | (refine ⟨rfl, rfl, ?_⟩; simp [isFar, ofV0, CV.up, SV.renL, SV.ren] <;> fail) | (refine ⟨rfl, Nat.le_of_ble_eq_true rfl, ?_⟩; simp [isFar, ofV0, CV.up, SV.renL, SV.ren] <;> fail) | (simp only [List.length_append, List.length_drop, List.length_take, List.length_replicate, List.length_map]; omega) | (simp <;> fail))); conv => whnf) | (refine ⟨_, rfl, ?_⟩; conv => whnf)))
  refine Both.dec (fun hlt => ?_) (fun hge => ?_)
  · have hlt : i < j := by omega
    obtain ⟨m, hm⟩ : ∃ m, (i + j) / 2 = m := ⟨_, rfl⟩
    have hw1 : IntKind.i64.wrap ((i : Int) + (j : Int)) = ((i + j : Nat) : Int) := by rw [wrap_i64 (by omega) (by omega)]; rfl
    have hw2 : IntKind.u64.wrap ((i + j : Nat) : Int) = ((i + j : Nat) : Int) := wrap_u64 (by omega) (by omega)
    have hw3 : shrI .u64 ((i + j : Nat) : Int) 1 = (m : Int) := by
      unfold shrI
      rw [show min (1 : Int).toNat IntKind.u64.bits = 1 from rfl, show (2 : Int) ^ 1 = 2 from rfl, Int.fdiv_eq_ediv_of_nonneg _ (by omega)]
      omega
    have hw4 : IntKind.i64.wrap (m : Int) = (m : Int) := wrap_i64 (by omega) (by omega)
    have hmw : IntKind.i64.wrap (shrI .u64 (IntKind.u64.wrap (IntKind.i64.wrap ((i : Int) + (j : Int)))) 1) = (m : Int) := by rw [hw1, hw2, hw3, hw4]
    have hml : m < l.length := by omega
    have hat := flP_at l hml
    obtain ⟨R, hR⟩ : ∃ R, IntKind.i64.wrap (shrI .u64 (IntKind.u64.wrap (IntKind.i64.wrap ((i : Int) + (j : Int)))) 1) = R := ⟨_, rfl⟩
    have hRm : R = (m : Int) := hR.symm.trans hmw
    have hatR : ((flP l).drop ((IntKind.i64.wrap (shrI .u64 (IntKind.u64.wrap (IntKind.i64.wrap ((i : Int) + (j : Int)))) 1)).toNat * 2)).take 2 = _ := (congrArg (fun q : Int => ((flP l).drop (q.toNat * 2)).take 2) hmw).trans hat
    have hix : ti38.size = 2 ∧ (0 : Int) ≤ IntKind.i64.wrap (shrI .u64 (IntKind.u64.wrap (IntKind.i64.wrap ((i : Int) + (j : Int)))) 1) ∧ IntKind.i64.wrap (shrI .u64 (IntKind.u64.wrap (IntKind.i64.wrap ((i : Int) + (j : Int)))) 1) < ((l.length : Nat) : Int) := ⟨rfl, by rw [hmw]; omega, by rw [hmw]; omega⟩
    have hm1 : IntKind.i64.wrap (IntKind.i64.wrap (shrI .u64 (IntKind.u64.wrap (IntKind.i64.wrap ((i : Int) + (j : Int)))) 1) + 1) = ((m + 1 : Nat) : Int) := by rw [hmw, wrap_i64 (by omega) (by omega)]; rfl
    have hcl := cmp_lt (l.getD m ([], [])).1 t
    (conv => whnf)
    (repeat (first | (refine Need.mk hix ?_; conv => whnf) | (refine ⟨_, hatR, ?_⟩; conv => whnf) | (refine CallClo.auto find1_k ?_; conv => whnf) | (exact Out.same; conv => whnf) | (exact Out1.same; conv => whnf) | (refine QAnd.mk ?_ ?_; conv => whnf) | (apply QStepH.go; conv => whnf) | (refine Both.lit_true ?_; conv => whnf) | (refine Both.lit_false ?_; conv => whnf) | (apply QStep.go; conv => whnf) | (refine Need.mk ?_ ?_; (focus (first | omega | exact ⟨by omega, by omega⟩ | rfl | exact ⟨rfl, rfl⟩ | exact ⟨rfl, by omega, by omega⟩ | exact ⟨by omega, by omega, by omega⟩ | exact ⟨rfl, Nat.le_of_ble_eq_true rfl⟩ | exact Nat.le_of_ble_eq_true rfl | (refine ⟨rfl, rfl, ?_⟩; simp [isFar, ofV0, CV.up, SV.renL, SV.ren] <;> fail) | (refine ⟨rfl, Nat.le_of_ble_eq_true rfl, ?_⟩; simp [isFar, ofV0, CV.up, SV.renL, SV.ren] <;> fail) | (simp only [List.length_append, List.length_drop, List.length_take, List.length_replicate, List.length_map]; omega) | (simp <;> fail))); conv => whnf) | (refine ⟨_, rfl, ?_⟩; conv => whnf)))
    refine Both.dec (fun hc => ?_) (fun hc => ?_)
    · have hP : lessS (kAt l m) t = true := hcl.symm.trans (decide_eq_true hc)
      have hA : m + 1 ≤ j ∧ j ≤ l.length ∧ (∀ q, q < m + 1 → lessS (kAt l q) t = true) ∧ ∀ q, j ≤ q → q < l.length → lessS (kAt l q) t = false := ⟨by omega, hjl, fun q hq => sort_down hsort (by omega) hml hP, hhi⟩
      have hB : j - (m + 1) < j - i := by omega
      (conv => whnf)
      (repeat (first | (exact Out.same; conv => whnf) | (exact Out1.same; conv => whnf) | (refine QAnd.mk ?_ ?_; conv => whnf) | (apply QStepH.go; conv => whnf) | (refine Both.lit_true ?_; conv => whnf) | (refine Both.lit_false ?_; conv => whnf) | (apply QStep.go; conv => whnf) | (refine Need.mk ?_ ?_; (focus (first | omega | exact ⟨by omega, by omega⟩ | rfl | exact ⟨rfl, rfl⟩ | exact ⟨rfl, by omega, by omega⟩ | exact ⟨by omega, by omega, by omega⟩ | exact ⟨rfl, Nat.le_of_ble_eq_true rfl⟩ | exact Nat.le_of_ble_eq_true rfl | (refine ⟨rfl, rfl, ?_⟩; simp [isFar, ofV0, CV.up, SV.renL, SV.ren] <;> fail) | (refine ⟨rfl, Nat.le_of_ble_eq_true rfl, ?_⟩; simp [isFar, ofV0, CV.up, SV.renL, SV.ren] <;> fail) | (simp only [List.length_append, List.length_drop, List.length_take, List.length_replicate, List.length_map]; omega) | (simp <;> fail))); conv => whnf) | (refine ⟨_, rfl, ?_⟩; conv => whnf)))
      refine ⟨(m + 1, j), hA, hB, Weak.auto ?_⟩
      (repeat' ((conv => whnf); first | exact True.intro | (refine And.intro ?_ ?_)))
      all_goals first | rfl | exact .eq rfl | exact congrArg (SV.int .i64) hm1
    · have hP : lessS (kAt l m) t = false := hcl.symm.trans (decide_eq_false hc)
      have hA : i ≤ m ∧ m ≤ l.length ∧ (∀ q, q < i → lessS (kAt l q) t = true) ∧ ∀ q, m ≤ q → q < l.length → lessS (kAt l q) t = false := ⟨by omega, by omega, hlo, fun q h1 h2 => by
        cases hq : lessS (kAt l q) t with
        | false => rfl
        | true =>
          rw [sort_down hsort h1 h2 hq] at hP
          cases hP⟩
      have hB : m - i < j - i := by omega
      (conv => whnf)
      (repeat (first | (exact Out.same; conv => whnf) | (exact Out1.same; conv => whnf) | (refine QAnd.mk ?_ ?_; conv => whnf) | (apply QStepH.go; conv => whnf) | (refine Both.lit_true ?_; conv => whnf) | (refine Both.lit_false ?_; conv => whnf) | (apply QStep.go; conv => whnf) | (refine Need.mk ?_ ?_; (focus (first | omega | exact ⟨by omega, by omega⟩ | rfl | exact ⟨rfl, rfl⟩ | exact ⟨rfl, by omega, by omega⟩ | exact ⟨by omega, by omega, by omega⟩ | exact ⟨rfl, Nat.le_of_ble_eq_true rfl⟩ | exact Nat.le_of_ble_eq_true rfl | (refine ⟨rfl, rfl, ?_⟩; simp [isFar, ofV0, CV.up, SV.renL, SV.ren] <;> fail) | (refine ⟨rfl, Nat.le_of_ble_eq_true rfl, ?_⟩; simp [isFar, ofV0, CV.up, SV.renL, SV.ren] <;> fail) | (simp only [List.length_append, List.length_drop, List.length_take, List.length_replicate, List.length_map]; omega) | (simp <;> fail))); conv => whnf) | (refine ⟨_, rfl, ?_⟩; conv => whnf)))
      refine ⟨(i, m), hA, hB, Weak.auto ?_⟩
      (repeat' ((conv => whnf); first | exact True.intro | (refine And.intro ?_ ?_)))
      all_goals first | rfl | exact .eq rfl | exact congrArg (SV.int .i64) hmw
  · have hij2 : i = j := by omega
    subst hij2
    have hplace : IsPlace l t i := ⟨hjl, hlo, hhi⟩
    have h := h i hplace
    (conv => whnf)
    (repeat (first | (exact Out.same; conv => whnf) | (exact Out1.same; conv => whnf) | (refine QAnd.mk ?_ ?_; conv => whnf) | (apply QStepH.go; conv => whnf) | (refine Both.lit_true ?_; conv => whnf) | (refine Both.lit_false ?_; conv => whnf) | (apply QStep.go; conv => whnf) | (refine Need.mk ?_ ?_; (focus (first | omega | exact ⟨by omega, by omega⟩ | rfl | exact ⟨rfl, rfl⟩ | exact ⟨rfl, by omega, by omega⟩ | exact ⟨by omega, by omega, by omega⟩ | exact ⟨rfl, Nat.le_of_ble_eq_true rfl⟩ | exact Nat.le_of_ble_eq_true rfl | (refine ⟨rfl, rfl, ?_⟩; simp [isFar, ofV0, CV.up, SV.renL, SV.ren] <;> fail) | (refine ⟨rfl, Nat.le_of_ble_eq_true rfl, ?_⟩; simp [isFar, ofV0, CV.up, SV.renL, SV.ren] <;> fail) | (simp only [List.length_append, List.length_drop, List.length_take, List.length_replicate, List.length_map]; omega) | (simp <;> fail))); conv => whnf) | (refine ⟨_, rfl, ?_⟩; conv => whnf)))
    refine Both.dec (fun hil => ?_) (fun hil => ?_)
    · have hil : i < l.length := by omega
      have hat := flP_at l hil
      have hix : ti38.size = 2 ∧ (0 : Int) ≤ (i : Int) ∧ (i : Int) < ((l.length : Nat) : Int) := ⟨rfl, by omega, by omega⟩
      have hce := cmp_eq (l.getD i ([], [])).1 t
      have hfin : decide (cmpV (l.getD i ([], [])).1 t = 0) = decide (i < l.length ∧ kAt l i = t) := by
        rw [hce]
        exact decide_eq_decide.2 ⟨fun q => ⟨hil, q⟩, fun q => q.2⟩
      (conv => whnf)
      (repeat (first | (refine Need.mk hix ?_; conv => whnf) | (refine ⟨_, hat, ?_⟩; conv => whnf) | (refine CallClo.auto find1_k ?_; conv => whnf) | (exact Out.same; conv => whnf) | (exact Out1.same; conv => whnf) | (refine QAnd.mk ?_ ?_; conv => whnf) | (apply QStepH.go; conv => whnf) | (refine Both.lit_true ?_; conv => whnf) | (refine Both.lit_false ?_; conv => whnf) | (apply QStep.go; conv => whnf) | (refine Need.mk ?_ ?_; (focus (first | omega | exact ⟨by omega, by omega⟩ | rfl | exact ⟨rfl, rfl⟩ | exact ⟨rfl, by omega, by omega⟩ | exact ⟨by omega, by omega, by omega⟩ | exact ⟨rfl, Nat.le_of_ble_eq_true rfl⟩ | exact Nat.le_of_ble_eq_true rfl | (refine ⟨rfl, rfl, ?_⟩; simp [isFar, ofV0, CV.up, SV.renL, SV.ren] <;> fail) | (refine ⟨rfl, Nat.le_of_ble_eq_true rfl, ?_⟩; simp [isFar, ofV0, CV.up, SV.renL, SV.ren] <;> fail) | (simp only [List.length_append, List.length_drop, List.length_take, List.length_replicate, List.length_map]; omega) | (simp <;> fail))); conv => whnf) | (refine ⟨_, rfl, ?_⟩; conv => whnf)))
      refine ⟨_, _, WeakV.drop rfl, ?_⟩
      exact (congrArg (fun b => Q (SV.tuple [SV.int .i64 (i : Int), SV.bool b]) []) hfin).mpr h
    · have hfin : false = decide (i < l.length ∧ kAt l i = t) := (decide_eq_false (fun q => by omega)).symm
      (conv => whnf)
      (repeat (first | (exact Out.same; conv => whnf) | (exact Out1.same; conv => whnf) | (refine QAnd.mk ?_ ?_; conv => whnf) | (apply QStepH.go; conv => whnf) | (refine Both.lit_true ?_; conv => whnf) | (refine Both.lit_false ?_; conv => whnf) | (apply QStep.go; conv => whnf) | (refine Need.mk ?_ ?_; (focus (first | omega | exact ⟨by omega, by omega⟩ | rfl | exact ⟨rfl, rfl⟩ | exact ⟨rfl, by omega, by omega⟩ | exact ⟨by omega, by omega, by omega⟩ | exact ⟨rfl, Nat.le_of_ble_eq_true rfl⟩ | exact Nat.le_of_ble_eq_true rfl | (refine ⟨rfl, rfl, ?_⟩; simp [isFar, ofV0, CV.up, SV.renL, SV.ren] <;> fail) | (refine ⟨rfl, Nat.le_of_ble_eq_true rfl, ?_⟩; simp [isFar, ofV0, CV.up, SV.renL, SV.ren] <;> fail) | (simp only [List.length_append, List.length_drop, List.length_take, List.length_replicate, List.length_map]; omega) | (simp <;> fail))); conv => whnf) | (refine ⟨_, rfl, ?_⟩; conv => whnf)))
      refine ⟨_, _, WeakV.drop rfl, ?_⟩
      exact (congrArg (fun b => Q (SV.tuple [SV.int .i64 (i : Int), SV.bool b]) []) hfin).mpr h
theorem bsf_k : Contract Tryd.prog [] 51 bsfS := ⟨⟨⟨_, rfl, rfl, rfl⟩⟩, bsf_c⟩
def findS : Spec := fun args H Q => match args, H with
  | [.sl 2 n cs f, .str t], [] => ∃ l : List Pr, n = l.length ∧ cs = flP l ∧ l.length ≤ 1000000 ∧ sortB l ∧ ∀ k, IsPlace l t k → Q (.tuple [.int .i64 (k : Int), .bool (decide (k < l.length ∧ kAt l k = t))]) []
  | _, _ => False
theorem find_c : Meets Tryd.prog [] 23 findS := by
  refine meets_of Γok Tryd.func23 rfl ?_
  intro args H Q h
  unfold findS at h
  split at h
  case h_2 => exact h.elim
  rename_i n cs f t
  obtain ⟨l, rfl, rfl, hl, hsort, h⟩ := h
  (refine sx_sound Γok _ ?_; conv => whnf)
  (repeat (first | (exact Out.same; conv => whnf) | (exact Out1.same; conv => whnf) | (refine QAnd.mk ?_ ?_; conv => whnf) | (apply QStepH.go; conv => whnf) | (refine Both.lit_true ?_; conv => whnf) | (refine Both.lit_false ?_; conv => whnf) | (apply QStep.go; conv => whnf) | (refine Need.mk ?_ ?_; (focus (first | omega | exact ⟨by omega, by omega⟩ | rfl | exact ⟨rfl, rfl⟩ | exact ⟨rfl, by omega, by omega⟩ | exact ⟨by omega, by omega, by omega⟩ | exact ⟨rfl, Nat.le_of_ble_eq_true rfl⟩ | exact Nat.le_of_ble_eq_true rfl | (refine ⟨rfl, rfl, ?_⟩; simp [isFar, ofV0, CV.up, SV.renL, SV.ren] <;> fail) | (refine ⟨rfl, Nat.le_of_ble_eq_true rfl, ?_⟩; simp [isFar, ofV0, CV.up, SV.renL, SV.ren] <;> fail) | (simp only [List.length_append, List.length_drop, List.length_take, List.length_replicate, List.length_map]; omega) | (simp <;> fail))); conv => whnf) | (refine ⟨_, rfl, ?_⟩; conv => whnf)))
  refine CallVC.auto bsf_k ⟨l, rfl, rfl, hl, hsort, fun k hk => ?_⟩
  have h := h k hk
  (conv => whnf)
  (repeat (first | (exact Out.same; conv => whnf) | (exact Out1.same; conv => whnf) | (refine QAnd.mk ?_ ?_; conv => whnf) | (apply QStepH.go; conv => whnf) | (refine Both.lit_true ?_; conv => whnf) | (refine Both.lit_false ?_; conv => whnf) | (apply QStep.go; conv => whnf) | (refine Need.mk ?_ ?_; (focus (first | omega | exact ⟨by omega, by omega⟩ | rfl | exact ⟨rfl, rfl⟩ | exact ⟨rfl, by omega, by omega⟩ | exact ⟨by omega, by omega, by omega⟩ | exact ⟨rfl, Nat.le_of_ble_eq_true rfl⟩ | exact Nat.le_of_ble_eq_true rfl | (refine ⟨rfl, rfl, ?_⟩; simp [isFar, ofV0, CV.up, SV.renL, SV.ren] <;> fail) | (refine ⟨rfl, Nat.le_of_ble_eq_true rfl, ?_⟩; simp [isFar, ofV0, CV.up, SV.renL, SV.ren] <;> fail) | (simp only [List.length_append, List.length_drop, List.length_take, List.length_replicate, List.length_map]; omega) | (simp <;> fail))); conv => whnf) | (refine ⟨_, rfl, ?_⟩; conv => whnf)))
  exact ⟨_, _, WeakV.drop rfl, h⟩
theorem find_k : Contract Tryd.prog [] 23 findS := ⟨⟨⟨_, rfl, rfl, rfl⟩⟩, find_c⟩
/-! ### The document's place -/
def placeS : Spec := fun args H Q => match args, H with
  | [.sl 2 n cs f, .str t], [] => ∃ l : List Pr, n = l.length ∧ cs = flP l ∧ l.length ≤ 1000000 ∧ sortB l ∧ ∀ k, IsPlace l t k → Q (.int .i64 (k : Int)) []
  | _, _ => False
theorem place_c : Meets Tryd.prog [] 25 placeS := by
  refine meets_of Γok Tryd.func25 rfl ?_
  intro args H Q h
  unfold placeS at h
  split at h
  case h_2 => exact h.elim
  rename_i n cs f t
  obtain ⟨l, rfl, rfl, hl, hsort, h⟩ := h
  (refine sx_sound Γok _ ?_; conv => whnf)
  (repeat (first | (exact Out.same; conv => whnf) | (exact Out1.same; conv => whnf) | (refine QAnd.mk ?_ ?_; conv => whnf) | (apply QStepH.go; conv => whnf) | (refine Both.lit_true ?_; conv => whnf) | (refine Both.lit_false ?_; conv => whnf) | (apply QStep.go; conv => whnf) | (refine Need.mk ?_ ?_; (focus (first | omega | exact ⟨by omega, by omega⟩ | rfl | exact ⟨rfl, rfl⟩ | exact ⟨rfl, by omega, by omega⟩ | exact ⟨by omega, by omega, by omega⟩ | exact ⟨rfl, Nat.le_of_ble_eq_true rfl⟩ | exact Nat.le_of_ble_eq_true rfl | (refine ⟨rfl, rfl, ?_⟩; simp [isFar, ofV0, CV.up, SV.renL, SV.ren] <;> fail) | (refine ⟨rfl, Nat.le_of_ble_eq_true rfl, ?_⟩; simp [isFar, ofV0, CV.up, SV.renL, SV.ren] <;> fail) | (simp only [List.length_append, List.length_drop, List.length_take, List.length_replicate, List.length_map]; omega) | (simp <;> fail))); conv => whnf) | (refine ⟨_, rfl, ?_⟩; conv => whnf)))
  refine loop_rule (fun x : Nat × Nat => match x with | (c, k) => ⟨[.sl 2 l.length (flP l) f, .str t, .any, .any, .any, .int .i64 (c : Int), .int .i64 (k : Int), .any, .any, .any, .any, .any, .any, .any, .any, .any, .any, .any, .any, .any, .any, .any, .any], []⟩) (fun x => match x with | (c, k) => c ≤ k ∧ k ≤ l.length ∧ (∀ q, q < c → lessS (kAt l q) t = true) ∧ (c < k → lessS (kAt l c) t = false)) (fun x => match x with | (c, k) => l.length - k) (0, 0) ⟨Nat.le_refl _, Nat.zero_le _, fun q hq => absurd hq (by omega), fun q => absurd q (by omega)⟩ (Weak.auto ?_) ?_
  · (repeat' ((conv => whnf); first | exact True.intro | (refine And.intro ?_ ?_)))
    all_goals first | rfl | exact .eq rfl
  rintro ⟨c, k⟩ ⟨hck, hkl, hlo, hhi⟩
  (refine sx_sound Γok _ ?_; conv => whnf)
  (repeat (first | (exact Out.same; conv => whnf) | (exact Out1.same; conv => whnf) | (refine QAnd.mk ?_ ?_; conv => whnf) | (apply QStepH.go; conv => whnf) | (refine Both.lit_true ?_; conv => whnf) | (refine Both.lit_false ?_; conv => whnf) | (apply QStep.go; conv => whnf) | (refine Need.mk ?_ ?_; (focus (first | omega | exact ⟨by omega, by omega⟩ | rfl | exact ⟨rfl, rfl⟩ | exact ⟨rfl, by omega, by omega⟩ | exact ⟨by omega, by omega, by omega⟩ | exact ⟨rfl, Nat.le_of_ble_eq_true rfl⟩ | exact Nat.le_of_ble_eq_true rfl | (refine ⟨rfl, rfl, ?_⟩; simp [isFar, ofV0, CV.up, SV.renL, SV.ren] <;> fail) | (refine ⟨rfl, Nat.le_of_ble_eq_true rfl, ?_⟩; simp [isFar, ofV0, CV.up, SV.renL, SV.ren] <;> fail) | (simp only [List.length_append, List.length_drop, List.length_take, List.length_replicate, List.length_map]; omega) | (simp <;> fail))); conv => whnf) | (refine ⟨_, rfl, ?_⟩; conv => whnf)))
  refine Both.dec (fun hlt => ?_) (fun hge => ?_)
  · have hlt : k < l.length := by omega
    have hat := flP_at l hlt
    have hix : ti38.size = 2 ∧ (0 : Int) ≤ (k : Int) ∧ (k : Int) < ((l.length : Nat) : Int) := ⟨rfl, by omega, by omega⟩
    have hk1 : IntKind.i64.wrap ((k : Int) + 1) = ((k + 1 : Nat) : Int) := by rw [wrap_i64 (by omega) (by omega)]; rfl
    have hc1 : IntKind.i64.wrap ((c : Int) + 1) = ((c + 1 : Nat) : Int) := by rw [wrap_i64 (by omega) (by omega)]; rfl
    have hB : l.length - (k + 1) < l.length - k := by omega
    cases hP : lessS (kAt l k) t with
    | true =>
      have hck2 : c = k := by
        rcases Nat.lt_or_ge c k with q | q
        · have := hhi q
          rw [sort_down hsort hck hlt hP] at this
          cases this
        · omega
      subst hck2
      have hA : c + 1 ≤ c + 1 ∧ c + 1 ≤ l.length ∧ (∀ q, q < c + 1 → lessS (kAt l q) t = true) ∧ (c + 1 < c + 1 → lessS (kAt l (c + 1)) t = false) := ⟨Nat.le_refl _, hlt, fun q hq => sort_down hsort (by omega) hlt hP, fun q => absurd q (by omega)⟩
      (conv => whnf)
      (repeat (first | (refine Need.mk hix ?_; conv => whnf) | (refine ⟨_, hat, ?_⟩; conv => whnf) | (refine Both.of_true hP ?_; conv => whnf) | (exact Out.same; conv => whnf) | (exact Out1.same; conv => whnf) | (refine QAnd.mk ?_ ?_; conv => whnf) | (apply QStepH.go; conv => whnf) | (refine Both.lit_true ?_; conv => whnf) | (refine Both.lit_false ?_; conv => whnf) | (apply QStep.go; conv => whnf) | (refine Need.mk ?_ ?_; (focus (first | omega | exact ⟨by omega, by omega⟩ | rfl | exact ⟨rfl, rfl⟩ | exact ⟨rfl, by omega, by omega⟩ | exact ⟨by omega, by omega, by omega⟩ | exact ⟨rfl, Nat.le_of_ble_eq_true rfl⟩ | exact Nat.le_of_ble_eq_true rfl | (refine ⟨rfl, rfl, ?_⟩; simp [isFar, ofV0, CV.up, SV.renL, SV.ren] <;> fail) | (refine ⟨rfl, Nat.le_of_ble_eq_true rfl, ?_⟩; simp [isFar, ofV0, CV.up, SV.renL, SV.ren] <;> fail) | (simp only [List.length_append, List.length_drop, List.length_take, List.length_replicate, List.length_map]; omega) | (simp <;> fail))); conv => whnf) | (refine ⟨_, rfl, ?_⟩; conv => whnf)))
      refine ⟨(c + 1, c + 1), hA, hB, Weak.auto ?_⟩
      (repeat' ((conv => whnf); first | exact True.intro | (refine And.intro ?_ ?_)))
      all_goals first | rfl | exact .eq rfl | exact congrArg (SV.int .i64) hk1
    | false =>
      have hA : c ≤ k + 1 ∧ k + 1 ≤ l.length ∧ (∀ q, q < c → lessS (kAt l q) t = true) ∧ (c < k + 1 → lessS (kAt l c) t = false) := ⟨by omega, hlt, hlo, fun _ => by
        rcases Nat.lt_or_ge c k with q | q
        · exact hhi q
        · rw [show c = k by omega]
          exact hP⟩
      (conv => whnf)
      (repeat (first | (refine Need.mk hix ?_; conv => whnf) | (refine ⟨_, hat, ?_⟩; conv => whnf) | (refine Both.of_false hP ?_; conv => whnf) | (exact Out.same; conv => whnf) | (exact Out1.same; conv => whnf) | (refine QAnd.mk ?_ ?_; conv => whnf) | (apply QStepH.go; conv => whnf) | (refine Both.lit_true ?_; conv => whnf) | (refine Both.lit_false ?_; conv => whnf) | (apply QStep.go; conv => whnf) | (refine Need.mk ?_ ?_; (focus (first | omega | exact ⟨by omega, by omega⟩ | rfl | exact ⟨rfl, rfl⟩ | exact ⟨rfl, by omega, by omega⟩ | exact ⟨by omega, by omega, by omega⟩ | exact ⟨rfl, Nat.le_of_ble_eq_true rfl⟩ | exact Nat.le_of_ble_eq_true rfl | (refine ⟨rfl, rfl, ?_⟩; simp [isFar, ofV0, CV.up, SV.renL, SV.ren] <;> fail) | (refine ⟨rfl, Nat.le_of_ble_eq_true rfl, ?_⟩; simp [isFar, ofV0, CV.up, SV.renL, SV.ren] <;> fail) | (simp only [List.length_append, List.length_drop, List.length_take, List.length_replicate, List.length_map]; omega) | (simp <;> fail))); conv => whnf) | (refine ⟨_, rfl, ?_⟩; conv => whnf)))
      refine ⟨(c, k + 1), hA, hB, Weak.auto ?_⟩
      (repeat' ((conv => whnf); first | exact True.intro | (refine And.intro ?_ ?_)))
      all_goals first | rfl | exact .eq rfl | exact congrArg (SV.int .i64) hk1
  · have hke : k = l.length := by omega
    have h := h c ⟨by omega, hlo, fun q h1 h2 => by
      cases hq : lessS (kAt l q) t with
      | false => rfl
      | true =>
        have := hhi (by omega)
        rw [sort_down hsort h1 h2 hq] at this
        cases this⟩
    (conv => whnf)
    (repeat (first | (exact Out.same; conv => whnf) | (exact Out1.same; conv => whnf) | (refine QAnd.mk ?_ ?_; conv => whnf) | (apply QStepH.go; conv => whnf) | (refine Both.lit_true ?_; conv => whnf) | (refine Both.lit_false ?_; conv => whnf) | (apply QStep.go; conv => whnf) | (refine Need.mk ?_ ?_; (focus (first | omega | exact ⟨by omega, by omega⟩ | rfl | exact ⟨rfl, rfl⟩ | exact ⟨rfl, by omega, by omega⟩ | exact ⟨by omega, by omega, by omega⟩ | exact ⟨rfl, Nat.le_of_ble_eq_true rfl⟩ | exact Nat.le_of_ble_eq_true rfl | (refine ⟨rfl, rfl, ?_⟩; simp [isFar, ofV0, CV.up, SV.renL, SV.ren] <;> fail) | (refine ⟨rfl, Nat.le_of_ble_eq_true rfl, ?_⟩; simp [isFar, ofV0, CV.up, SV.renL, SV.ren] <;> fail) | (simp only [List.length_append, List.length_drop, List.length_take, List.length_replicate, List.length_map]; omega) | (simp <;> fail))); conv => whnf) | (refine ⟨_, rfl, ?_⟩; conv => whnf)))
    exact ⟨_, _, WeakV.drop rfl, h⟩
theorem place_k : Contract Tryd.prog [] 25 placeS := ⟨⟨⟨_, rfl, rfl, rfl⟩⟩, place_c⟩
end Go.LX
end
section
set_option maxRecDepth 100000
set_option maxHeartbeats 1000000
set_option autoImplicit false
set_option linter.unusedVariables false
set_option linter.unusedSimpArgs false
namespace Go.LX
open Go.Proofs Go.RowKit Go.ChangeShapes Go.WideShapes Go.ChangeAt
section
variable {H : Type} {enc : TypeId × Value → H} {W : World}
/-! ### Arguments that are slices of strings -/
theorem open_str1 {n : Nat} {cs : List Value} {y : DataW H × List MemPlace} (h : DataW.trod enc Tryd.prog W 0 (fun _ => true) true n 9 cs = some y) (hw : InReach Tryd.prog 9 y.1) : ∃ r : List UInt8, CRs (E0 W).I W [.str r] cs ∧ r.length ≤ reachBytes := by
  obtain ⟨s, hs, _, _⟩ := DataW.trod_string Tryd.underlying9 h
  subst hs
  obtain ⟨l, hl, hb⟩ := leaf_str Tryd.underlying9 h hw
  rw [hl]
  refine ⟨l, ⟨rfl, fun j x v hx hv => ?_⟩, hb⟩
  match j with
  | 0 => cases hx; cases hv; exact .str _
  | j + 1 => simp at hx
theorem open_strs {v : Value} {d : DataW H} {ps : List MemPlace} (hv : v.cells = #[v]) (h : DataW.Trod enc Tryd.prog W 0 (fun _ => true) true 39 v d ps) (hw : InReach Tryd.prog 39 d) :
    ∃ l : List (List UInt8), VR (E0 W) W (.sl 1 l.length (l.flatMap fun s => [CV.str s]) false) v ∧ (∀ c ∈ l, c.length ≤ reachBytes) ∧ l.length ≤ 9223372036854775807 :=
  open_rows (t := 39) (e := 9) (sz := 1) (fun s => [CV.str s]) (fun s => s.length ≤ reachBytes) Tryd.underlying39 (by kernel_rfl) (by omega) (fun r => rfl) (fun n cs y hy hw => open_str1 hy hw) hv h hw
theorem flat_strs (l : List (List UInt8)) : (l.flatMap fun s => [CV.str s]) = l.map CV.str := by
  induction l with
  | nil => rfl
  | cons a r ih => rw [List.flatMap_cons, ih]; rfl
end
/-! ### Numbers in their ranges -/
theorem u64_rng (r : BitVec 64) : 0 ≤ u64 r ∧ u64 r < 18446744073709551616 := by
  have := r.isLt
  unfold u64
  omega
theorem u64_bd {n : Int} (h : (Lit.int .u64 n).wf = true) : 0 ≤ n ∧ n < 18446744073709551616 := by
  obtain ⟨r, rfl⟩ := wf_u64 h
  exact u64_rng r
end Go.LX
end
section
set_option maxRecDepth 100000
set_option maxHeartbeats 1000000
set_option autoImplicit false
set_option linter.unusedVariables false
set_option linter.unusedSimpArgs false
namespace Go.LX
open Go.Proofs Go.RowKit Go.ChangeShapes Go.WideShapes Go.ChangeAt
section
variable {H : Type} {enc : TypeId × Value → H} {W : World}
theorem cells_str : Tryd.prog.cellsOf 9 = 1 := by kernel_rfl
theorem cells_pair : Tryd.prog.cellsOf 38 = 2 := by kernel_rfl
theorem len2 {α : Type} {l : List α} (h : l.length = 2) : ∃ a b, l = [a, b] := by
  match l, h with
  | [a, b], _ => exact ⟨a, b, rfl⟩
theorem crs2 {I : Nat → Prop} {a b : CV} {u v : Value} (h1 : CR I W a u) (h2 : CR I W b v) : CRs I W [a, b] [u, v] := ⟨rfl, fun j x y hx hy => by
  match j with
  | 0 => cases hx; cases hy; exact h1
  | 1 => cases hx; cases hy; exact h2
  | j + 2 => simp at hx⟩
theorem open_pair1 {n : Nat} {cs : List Value} {y : DataW H × List MemPlace} (h : DataW.trod enc Tryd.prog W 0 (fun _ => true) true n 38 cs = some y) (hw : InReach Tryd.prog 38 y.1) :
    ∃ p : Pr, CRs (E0 W).I W (enP p) cs ∧ p.1.length ≤ reachBytes ∧ p.2.length ≤ reachBytes := by
  obtain ⟨hl, hf⟩ := open_fields2 (t := 38) Tryd.underlying38 h hw
  rw [cells_pair] at hl
  obtain ⟨c0, c1, rfl⟩ := len2 hl
  obtain ⟨n0, y0, t0, q0⟩ := hf 0 _ rfl
  obtain ⟨n1, y1, t1, q1⟩ := hf 1 _ rfl
  replace t0 : DataW.trod enc Tryd.prog W 0 (fun _ => true) true n0 9 (List.take (Tryd.prog.cellsOf 9) (List.drop 0 [c0, c1])) = some y0 := t0
  replace t1 : DataW.trod enc Tryd.prog W 0 (fun _ => true) true n1 9 (List.take (Tryd.prog.cellsOf 9) (List.drop 1 [c0, c1])) = some y1 := t1
  rw [cells_str] at t0 t1
  obtain ⟨s0, rfl, w0⟩ := leaf_str Tryd.underlying9 t0 q0
  obtain ⟨s1, rfl, w1⟩ := leaf_str Tryd.underlying9 t1 q1
  exact ⟨(s0, s1), crs2 (.str _) (.str _), w0, w1⟩
theorem open_pairs {v : Value} {d : DataW H} {ps : List MemPlace} (hv : v.cells = #[v]) (h : DataW.Trod enc Tryd.prog W 0 (fun _ => true) true 22 v d ps) (hw : InReach Tryd.prog 22 d) :
    ∃ l : List Pr, VR (E0 W) W (.sl 2 l.length (l.flatMap enP) false) v ∧ (∀ p ∈ l, p.1.length ≤ reachBytes ∧ p.2.length ≤ reachBytes) ∧ l.length ≤ 9223372036854775807 :=
  open_rows (t := 22) (e := 38) (sz := 2) enP (fun p => p.1.length ≤ reachBytes ∧ p.2.length ≤ reachBytes) Tryd.underlying22 (by kernel_rfl) (by omega) (fun r => rfl) (fun n cs y hy hw => open_pair1 hy hw) hv h hw
/-- A leaf, as a law gets it. -/
structure LeafA where
  i : Int
  c : Int
  k : Bs
  v : Bs
  p : List Bs
structure LeafA.ok (a : LeafA) : Prop where
  i : -9223372036854775808 ≤ a.i ∧ a.i ≤ 9223372036854775807
  c : -9223372036854775808 ≤ a.c ∧ a.c ≤ 9223372036854775807
  p : a.p.length ≤ 9223372036854775807
theorem open_leaf {v : Value} {d : DataW H} {ps : List MemPlace} {b0 : Nat} (hval : Value.okWide Tryd.prog W .any b0 41 v) (h : DataW.Trod enc Tryd.prog W 0 (fun _ => true) true 41 v d ps) (hw : InReach Tryd.prog 41 d) :
    ∃ a : LeafA, VR (E0 W) W (.agg [.int .i64 a.i, .int .i64 a.c, .str a.k, .str a.v, .sl 1 a.p.length (a.p.map CV.str) false]) v ∧ a.ok := by
  obtain ⟨cs, rfl, hsz⟩ := WideShapes.okWide_struct Tryd.underlying41 hval
  obtain ⟨fuel, hf⟩ := h
  have hcl : (Value.agg cs).cells = cs := rfl
  rw [hcl] at hf
  obtain ⟨hl, hf⟩ := open_fields2 (t := 41) Tryd.underlying41 hf hw
  have hc5 : Tryd.prog.cellsOf 41 = 5 := by kernel_rfl
  have hci : Tryd.prog.cellsOf 3 = 1 := by kernel_rfl
  have hcs : Tryd.prog.cellsOf 39 = 1 := by kernel_rfl
  rw [hc5] at hl
  obtain ⟨c0, c1, c2, c3, c4, hcc⟩ : ∃ a b c d e, cs.toList = [a, b, c, d, e] := by
    match cs.toList, hl with
    | [a, b, c, d, e], _ => exact ⟨a, b, c, d, e, rfl⟩
  rw [hcc] at hf
  obtain ⟨n0, y0, t0, q0⟩ := hf 0 _ rfl
  obtain ⟨n1, y1, t1, q1⟩ := hf 1 _ rfl
  obtain ⟨n2, y2, t2, q2⟩ := hf 2 _ rfl
  obtain ⟨n3, y3, t3, q3⟩ := hf 3 _ rfl
  replace t0 : DataW.trod enc Tryd.prog W 0 (fun _ => true) true n0 3 (List.take (Tryd.prog.cellsOf 3) (List.drop 0 [c0, c1, c2, c3, c4])) = some y0 := t0
  replace t1 : DataW.trod enc Tryd.prog W 0 (fun _ => true) true n1 3 (List.take (Tryd.prog.cellsOf 3) (List.drop 1 [c0, c1, c2, c3, c4])) = some y1 := t1
  replace t2 : DataW.trod enc Tryd.prog W 0 (fun _ => true) true n2 38 (List.take (Tryd.prog.cellsOf 38) (List.drop 2 [c0, c1, c2, c3, c4])) = some y2 := t2
  replace t3 : DataW.trod enc Tryd.prog W 0 (fun _ => true) true n3 39 (List.take (Tryd.prog.cellsOf 39) (List.drop 4 [c0, c1, c2, c3, c4])) = some y3 := t3
  rw [hci] at t0 t1
  rw [cells_pair] at t2
  rw [hcs] at t3
  obtain ⟨i0, e0, w0⟩ := leaf_int Tryd.underlying3 t0
  obtain ⟨i1, e1, w1⟩ := leaf_int Tryd.underlying3 t1
  obtain ⟨p, hp, _, _⟩ := open_pair1 t2 q2
  obtain ⟨l, hl3, _, hl4⟩ := leaf_rows (t := 39) (e := 9) (sz := 1) (fun s => [CV.str s]) (fun s => s.length ≤ reachBytes) Tryd.underlying39 (by kernel_rfl) (by omega) (fun r => rfl) (fun n cs y hy hw => open_str1 hy hw) t3 q3
  rw [flat_strs] at hl3
  refine ⟨⟨i0, i1, p.1, p.2, l⟩, vr_agg (l := [.int .i64 i0, .int .i64 i1, .str p.1, .str p.2, .sl 1 l.length (l.map CV.str) false]) ⟨by rw [hcc]; rfl, fun j x u hx hu => ?_⟩, wf_i64 w0, wf_i64 w1, hl4⟩
  rw [hcc] at hu
  match j with
  | 0 => cases hx; cases hu; rw [e0]; exact .int _ _
  | 1 => cases hx; cases hu; rw [e1]; exact .int _ _
  | 2 => cases hx; cases hu; exact hp.2 0 _ _ rfl rfl
  | 3 => cases hx; cases hu; exact hp.2 1 _ _ rfl rfl
  | 4 => cases hx; cases hu; exact hl3
  | j + 5 => cases hx
end
end Go.LX
end
section
set_option maxRecDepth 100000
set_option maxHeartbeats 2000000
set_option autoImplicit false
set_option linter.unusedVariables false
set_option linter.unusedSimpArgs false
namespace Go.LX
open Go.Proofs

/-! ## The document's path, at any index -/
def pathU (l : List Pr) (x : Int) (T : List Bs) : List Bs := if x < 0 ∨ (l.length : Int) ≤ x then T else pathT l x.toNat T
def rpathO : Spec := fun args H Q => match args with
  | [.ptr 0 0, .sl 2 n cs f, .int .i64 x] => inB H fun T => ∃ l : List Pr, n = l.length ∧ cs = flP l ∧ l.length < 60000 ∧ (∀ p ∈ l, okP p) ∧
      Q (.own 2) (bkO (pathU l x T) ++ [.own 9 1 (pathO l x).length (strs (pathO l x)) true])
  | _ => False
theorem rpathO_c : Meets Tryd.prog [] 55 rpathO := by
  intro args H Q h
  have h0 := h
  unfold rpathO at h0
  split at h0
  case h_2 => exact h0.elim
  rename_i n cs f x
  obtain ⟨T, rfl, l, rfl, rfl, h60, hok, h2⟩ := inB_out h0
  clear h0
  by_cases hx : x < 0 ∨ (l.length : Int) ≤ x
  · clear h
    unfold pathU pathO at h2
    rw [if_pos hx, if_pos hx] at h2
    have hm : Meets Tryd.prog [] 55 fun args H Q => match args with
        | [.ptr 0 0, .sl 2 n cs f, .int .i64 x] => inB H fun T => (x < 0 ∨ (n : Int) ≤ x) ∧ Q (.own 2) (bkO T ++ [.own 9 1 0 [] true])
        | _ => False := by
      refine meets_of Γok Tryd.func55 rfl ?_
      intro args H Q h
      split at h
      case h_2 => exact h.elim
      rename_i n cs f x
      obtain ⟨T, rfl, hx, h⟩ := inB_out h
      (refine sx_sound Γok _ ?_; conv => whnf)
      (repeat (first | (exact Out.same; conv => whnf) | (exact Out1.same; conv => whnf) | (refine QAnd.mk ?_ ?_; conv => whnf) | (apply QStepH.go; conv => whnf) | (refine Both.lit_true ?_; conv => whnf) | (refine Both.lit_false ?_; conv => whnf) | (apply QStep.go; conv => whnf) | (refine Need.mk ?_ ?_; (focus (first | omega | exact ⟨by omega, by omega⟩ | rfl | exact ⟨rfl, rfl⟩ | exact ⟨rfl, by omega, by omega⟩ | exact ⟨by omega, by omega, by omega⟩ | exact ⟨rfl, Nat.le_of_ble_eq_true rfl⟩ | exact Nat.le_of_ble_eq_true rfl | (refine ⟨rfl, rfl, ?_⟩; simp [isFar, ofV0, CV.up, SV.renL, SV.ren] <;> fail) | (refine ⟨rfl, Nat.le_of_ble_eq_true rfl, ?_⟩; simp [isFar, ofV0, CV.up, SV.renL, SV.ren] <;> fail) | (simp only [List.length_append, List.length_drop, List.length_take, List.length_replicate, List.length_map]; omega) | (simp <;> fail))); conv => whnf) | (refine ⟨_, rfl, ?_⟩; conv => whnf)))
      refine Both.dec (fun hneg => ?_) (fun hpos => ?_)
      · (conv => whnf)
        (repeat (first | (exact Out.same; conv => whnf) | (exact Out1.same; conv => whnf) | (refine QAnd.mk ?_ ?_; conv => whnf) | (apply QStepH.go; conv => whnf) | (refine Both.lit_true ?_; conv => whnf) | (refine Both.lit_false ?_; conv => whnf) | (apply QStep.go; conv => whnf) | (refine Need.mk ?_ ?_; (focus (first | omega | exact ⟨by omega, by omega⟩ | rfl | exact ⟨rfl, rfl⟩ | exact ⟨rfl, by omega, by omega⟩ | exact ⟨by omega, by omega, by omega⟩ | exact ⟨rfl, Nat.le_of_ble_eq_true rfl⟩ | exact Nat.le_of_ble_eq_true rfl | (refine ⟨rfl, rfl, ?_⟩; simp [isFar, ofV0, CV.up, SV.renL, SV.ren] <;> fail) | (refine ⟨rfl, Nat.le_of_ble_eq_true rfl, ?_⟩; simp [isFar, ofV0, CV.up, SV.renL, SV.ren] <;> fail) | (simp only [List.length_append, List.length_drop, List.length_take, List.length_replicate, List.length_map]; omega) | (simp <;> fail))); conv => whnf) | (refine ⟨_, rfl, ?_⟩; conv => whnf) | (refine Both.of_false ?_ ?_; (focus (first | rfl | (simp <;> fail))); conv => whnf) | (refine Both.of_true ?_ ?_; (focus (first | rfl | (simp <;> fail))); conv => whnf)))
        refine ⟨_, _, WeakV.of ((Weak.ownNilT 0 9 1 rfl).trans (Weak.auto ?_)), h⟩
        (repeat' ((conv => whnf); first | exact True.intro | (refine And.intro ?_ ?_)))
        all_goals first | rfl | exact .eq rfl
      · (conv => whnf)
        (repeat (first | (exact Out.same; conv => whnf) | (exact Out1.same; conv => whnf) | (refine QAnd.mk ?_ ?_; conv => whnf) | (apply QStepH.go; conv => whnf) | (refine Both.lit_true ?_; conv => whnf) | (refine Both.lit_false ?_; conv => whnf) | (apply QStep.go; conv => whnf) | (refine Need.mk ?_ ?_; (focus (first | omega | exact ⟨by omega, by omega⟩ | rfl | exact ⟨rfl, rfl⟩ | exact ⟨rfl, by omega, by omega⟩ | exact ⟨by omega, by omega, by omega⟩ | exact ⟨rfl, Nat.le_of_ble_eq_true rfl⟩ | exact Nat.le_of_ble_eq_true rfl | (refine ⟨rfl, rfl, ?_⟩; simp [isFar, ofV0, CV.up, SV.renL, SV.ren] <;> fail) | (refine ⟨rfl, Nat.le_of_ble_eq_true rfl, ?_⟩; simp [isFar, ofV0, CV.up, SV.renL, SV.ren] <;> fail) | (simp only [List.length_append, List.length_drop, List.length_take, List.length_replicate, List.length_map]; omega) | (simp <;> fail))); conv => whnf) | (refine ⟨_, rfl, ?_⟩; conv => whnf)))
        refine Both.dec (fun hbig => ?_) (fun hin => ?_)
        · (conv => whnf)
          (repeat (first | (exact Out.same; conv => whnf) | (exact Out1.same; conv => whnf) | (refine QAnd.mk ?_ ?_; conv => whnf) | (apply QStepH.go; conv => whnf) | (refine Both.lit_true ?_; conv => whnf) | (refine Both.lit_false ?_; conv => whnf) | (apply QStep.go; conv => whnf) | (refine Need.mk ?_ ?_; (focus (first | omega | exact ⟨by omega, by omega⟩ | rfl | exact ⟨rfl, rfl⟩ | exact ⟨rfl, by omega, by omega⟩ | exact ⟨by omega, by omega, by omega⟩ | exact ⟨rfl, Nat.le_of_ble_eq_true rfl⟩ | exact Nat.le_of_ble_eq_true rfl | (refine ⟨rfl, rfl, ?_⟩; simp [isFar, ofV0, CV.up, SV.renL, SV.ren] <;> fail) | (refine ⟨rfl, Nat.le_of_ble_eq_true rfl, ?_⟩; simp [isFar, ofV0, CV.up, SV.renL, SV.ren] <;> fail) | (simp only [List.length_append, List.length_drop, List.length_take, List.length_replicate, List.length_map]; omega) | (simp <;> fail))); conv => whnf) | (refine ⟨_, rfl, ?_⟩; conv => whnf) | (refine Both.of_false ?_ ?_; (focus (first | rfl | (simp <;> fail))); conv => whnf) | (refine Both.of_true ?_ ?_; (focus (first | rfl | (simp <;> fail))); conv => whnf)))
          refine ⟨_, _, WeakV.of ((Weak.ownNilT 0 9 1 rfl).trans (Weak.auto ?_)), h⟩
          (repeat' ((conv => whnf); first | exact True.intro | (refine And.intro ?_ ?_)))
          all_goals first | rfl | exact .eq rfl
        · exfalso
          omega
    exact hm _ _ Q (inB_mk ⟨hx, h2⟩)
  · unfold pathU pathO at h2
    rw [if_neg hx, if_neg hx] at h2
    exact rpath_c l.length _ _ Q (inB_mk ⟨l, x.toNat, rfl, rfl, by omega, by omega, Nat.le_refl _, h60, hok, h2⟩)
theorem rpathO_k : Contract Tryd.prog [] 55 rpathO := ⟨⟨⟨_, rfl, rfl, rfl⟩⟩, rpathO_c⟩
def textsS : Spec := fun args H Q => match args, H with
  | [.sl 1 n cs f, .sl 1 n' cs' f'], [] => ∃ p : List Bs, cs = strs p ∧ cs' = strs p ∧ n = p.length ∧ n' = p.length ∧ p.length ≤ 9223372036854775807 ∧ Q (.bool true) []
  | _, _ => False
theorem texts_c : Meets Tryd.prog [] 27 textsS := by
  refine meets_of Γok Tryd.func27 rfl ?_
  intro args H Q h
  unfold textsS at h
  split at h
  case h_2 => exact h.elim
  rename_i n cs f n' cs' f'
  obtain ⟨p, rfl, rfl, rfl, rfl, hp, h⟩ := h
  have hq : (!decide (((p.length : Nat) : Int) = ((p.length : Nat) : Int))) = false := by simp
  (refine sx_sound Γok _ ?_; conv => whnf)
  (repeat (first | (refine Both.of_false hq ?_; conv => whnf) | (exact Out.same; conv => whnf) | (exact Out1.same; conv => whnf) | (refine QAnd.mk ?_ ?_; conv => whnf) | (apply QStepH.go; conv => whnf) | (refine Both.lit_true ?_; conv => whnf) | (refine Both.lit_false ?_; conv => whnf) | (apply QStep.go; conv => whnf) | (refine Need.mk ?_ ?_; (focus (first | omega | exact ⟨by omega, by omega⟩ | rfl | exact ⟨rfl, rfl⟩ | exact ⟨rfl, by omega, by omega⟩ | exact ⟨by omega, by omega, by omega⟩ | exact ⟨rfl, Nat.le_of_ble_eq_true rfl⟩ | exact Nat.le_of_ble_eq_true rfl | (refine ⟨rfl, rfl, ?_⟩; simp [isFar, ofV0, CV.up, SV.renL, SV.ren] <;> fail) | (refine ⟨rfl, Nat.le_of_ble_eq_true rfl, ?_⟩; simp [isFar, ofV0, CV.up, SV.renL, SV.ren] <;> fail) | (simp only [List.length_append, List.length_drop, List.length_take, List.length_replicate, List.length_map]; omega) | (simp <;> fail))); conv => whnf) | (refine ⟨_, rfl, ?_⟩; conv => whnf)))
  refine loop_rule (fun k : Nat => ⟨[.sl 1 p.length (strs p) f, .sl 1 p.length (strs p) f', .any, .any, .any, .int .i64 (k : Int), .any, .any, .any, .any, .any, .any, .any, .any, .any, .any, .any, .any, .any, .any, .any, .any, .any, .any, .any, .any], []⟩) (fun k => k ≤ p.length) (fun k => p.length - k) 0 (Nat.zero_le _) (Weak.auto ?_) ?_
  · (repeat' ((conv => whnf); first | exact True.intro | (refine And.intro ?_ ?_)))
    all_goals first | rfl | exact .eq rfl
  intro k hk
  (refine sx_sound Γok _ ?_; conv => whnf)
  (repeat (first | (exact Out.same; conv => whnf) | (exact Out1.same; conv => whnf) | (refine QAnd.mk ?_ ?_; conv => whnf) | (apply QStepH.go; conv => whnf) | (refine Both.lit_true ?_; conv => whnf) | (refine Both.lit_false ?_; conv => whnf) | (apply QStep.go; conv => whnf) | (refine Need.mk ?_ ?_; (focus (first | omega | exact ⟨by omega, by omega⟩ | rfl | exact ⟨rfl, rfl⟩ | exact ⟨rfl, by omega, by omega⟩ | exact ⟨by omega, by omega, by omega⟩ | exact ⟨rfl, Nat.le_of_ble_eq_true rfl⟩ | exact Nat.le_of_ble_eq_true rfl | (refine ⟨rfl, rfl, ?_⟩; simp [isFar, ofV0, CV.up, SV.renL, SV.ren] <;> fail) | (refine ⟨rfl, Nat.le_of_ble_eq_true rfl, ?_⟩; simp [isFar, ofV0, CV.up, SV.renL, SV.ren] <;> fail) | (simp only [List.length_append, List.length_drop, List.length_take, List.length_replicate, List.length_map]; omega) | (simp <;> fail))); conv => whnf) | (refine ⟨_, rfl, ?_⟩; conv => whnf)))
  refine Both.dec (fun hlt => ?_) (fun hge => ?_)
  · have hkl : k < p.length := by omega
    have hat := strs_at p hkl
    have hwr : IntKind.i64.wrap ((k : Int) + 1) = ((k + 1 : Nat) : Int) := by rw [wrap_i64 (by omega) (by omega)]; rfl
    have hq2 : (!decide (p.getD k [] = p.getD k [])) = false := by simp
    (conv => whnf)
    (refine DrawVC.any Γok (by kernel_rfl) (by kernel_rfl) (by kernel_rfl) (by rfl) ?_; conv => whnf)
    (repeat (first | (refine ⟨_, hat, ?_⟩; conv => whnf) | (refine Both.of_false hq2 ?_; conv => whnf) | (exact Out.same; conv => whnf) | (exact Out1.same; conv => whnf) | (refine QAnd.mk ?_ ?_; conv => whnf) | (apply QStepH.go; conv => whnf) | (refine Both.lit_true ?_; conv => whnf) | (refine Both.lit_false ?_; conv => whnf) | (apply QStep.go; conv => whnf) | (refine Need.mk ?_ ?_; (focus (first | omega | exact ⟨by omega, by omega⟩ | rfl | exact ⟨rfl, rfl⟩ | exact ⟨rfl, by omega, by omega⟩ | exact ⟨by omega, by omega, by omega⟩ | exact ⟨rfl, Nat.le_of_ble_eq_true rfl⟩ | exact Nat.le_of_ble_eq_true rfl | (refine ⟨rfl, rfl, ?_⟩; simp [isFar, ofV0, CV.up, SV.renL, SV.ren] <;> fail) | (refine ⟨rfl, Nat.le_of_ble_eq_true rfl, ?_⟩; simp [isFar, ofV0, CV.up, SV.renL, SV.ren] <;> fail) | (simp only [List.length_append, List.length_drop, List.length_take, List.length_replicate, List.length_map]; omega) | (simp <;> fail))); conv => whnf) | (refine ⟨_, rfl, ?_⟩; conv => whnf)))
    refine ⟨k + 1, by omega, by omega, Weak.auto ?_⟩
    (repeat' ((conv => whnf); first | exact True.intro | (refine And.intro ?_ ?_)))
    all_goals first | rfl | exact .eq rfl | exact congrArg (SV.int .i64) hwr
  (conv => whnf)
  (repeat (first | (exact Out.same; conv => whnf) | (exact Out1.same; conv => whnf) | (refine QAnd.mk ?_ ?_; conv => whnf) | (apply QStepH.go; conv => whnf) | (refine Both.lit_true ?_; conv => whnf) | (refine Both.lit_false ?_; conv => whnf) | (apply QStep.go; conv => whnf) | (refine Need.mk ?_ ?_; (focus (first | omega | exact ⟨by omega, by omega⟩ | rfl | exact ⟨rfl, rfl⟩ | exact ⟨rfl, by omega, by omega⟩ | exact ⟨by omega, by omega, by omega⟩ | exact ⟨rfl, Nat.le_of_ble_eq_true rfl⟩ | exact Nat.le_of_ble_eq_true rfl | (refine ⟨rfl, rfl, ?_⟩; simp [isFar, ofV0, CV.up, SV.renL, SV.ren] <;> fail) | (refine ⟨rfl, Nat.le_of_ble_eq_true rfl, ?_⟩; simp [isFar, ofV0, CV.up, SV.renL, SV.ren] <;> fail) | (simp only [List.length_append, List.length_drop, List.length_take, List.length_replicate, List.length_map]; omega) | (simp <;> fail))); conv => whnf) | (refine ⟨_, rfl, ?_⟩; conv => whnf)))
  exact ⟨_, _, WeakV.drop rfl, h⟩
theorem texts_k : Contract Tryd.prog [] 27 textsS := ⟨⟨⟨_, rfl, rfl, rfl⟩⟩, texts_c⟩
/-! ## MerkleTells -/
def lawTellS : Spec := fun args H Q => match args, H with
  | [.sl 2 n cs f, .int .i64 x, .int .i64 c, .str d], [] => ∃ l : List Pr, n = l.length ∧ cs = flP l ∧ (-9223372036854775808 ≤ c ∧ c ≤ 9223372036854775807) ∧ Q (.bool true) []
  | _, _ => False
theorem pathO_lt (l : List Pr) (x : Int) : (pathO l x).length ≤ l.length := by
  unfold pathO
  split
  · exact Nat.zero_le _
  · exact Nat.le_of_lt (path_lt l _ (by omega))
theorem mt_done : True := trivial
end Go.LX
end
section
set_option maxRecDepth 100000
set_option maxHeartbeats 2000000
set_option autoImplicit false
set_option linter.unusedVariables false
set_option linter.unusedSimpArgs false
namespace Go.LX
open Go.Proofs

/-- A slot that holds a row, by itself or in a struct. -/
def pubV2 (i s n : Nat) (xs : List CV) (x : SV) : SV :=
  match x with
  | .agg l => .agg (pubL i s n xs l)
  | x => pubV i s n xs x
def pubL2 (i s n : Nat) (xs : List CV) : List SV → List SV
  | [] => []
  | x :: r => pubV2 i s n xs x :: pubL2 i s n xs r
theorem pubL2_eq (i s n : Nat) (xs : List CV) : ∀ l, pubL2 i s n xs l = l.map (pubV2 i s n xs)
  | [] => rfl
  | x :: r => by rw [pubL2, pubL2_eq i s n xs r]; rfl
theorem pubV1_sound {E : Env} {w : World} {i s n : Nat} {xs : List CV} (h : VR E w (.sl s n xs false) (E.v i)) {y : SV} {v : Value} (h0 : VR E w y v) : VR E w (pubV i s n xs y) v := by
  have h1 : VRs E w [y] [v] := ⟨rfl, fun j x u hx hu => by
    match j with
    | 0 => cases hx; cases hu; exact h0
    | j + 1 => simp at hx⟩
  exact (pubL_sound h h1).2 0 _ v rfl rfl
theorem pubL2_sound {E : Env} {w : World} {i s n : Nat} {xs : List CV} (h : VR E w (.sl s n xs false) (E.v i)) {l : List SV} {vs : List Value} (hv : VRs E w l vs) : VRs E w (pubL2 i s n xs l) vs := by
  rw [pubL2_eq]
  refine ⟨by simpa using hv.1, fun j x v hx hj => ?_⟩
  rw [List.getElem?_map, Option.map_eq_some_iff] at hx
  obtain ⟨y, hy, rfl⟩ := hx
  have h0 := hv.2 j y v hy hj
  unfold pubV2
  split
  · cases h0 with
    | agg ws hl hw =>
      have := pubL_sound h (l := _) (vs := ws) ⟨hl, hw⟩
      exact .agg ws this.1 this.2
  · exact pubV1_sound h h0
theorem Weak.pubA {G : Gl} {N : Nat} {s : LS} (i : Nat) {e sz n : Nat} {xs : List CV} {wr : Bool} (hi : s.h[i]? = some (.own e sz n xs wr)) :
    Weak G N s ⟨pubL2 i sz n xs s.t, s.h.set i .gone⟩ := by
  intro A E w a hA hs
  obtain ⟨le, h1, h2, h3⟩ := hs.rel.pub hi
  exact ⟨_, ⟨hs.anc.trans le, pubL2_sound h3 (hs.vals.kept le (fun _ h => .inl h) (fun _ _ => rfl)), h1, hs.gl.kept (fun _ h => .inl h) (fun _ _ => rfl), hs.nod⟩, h2⟩
/-! ## MerkleBack -/
def lawOneS : Spec := fun args H Q => match args, H with
  | [.sl 2 n cs f], [] => ∃ l : List Pr, n = l.length ∧ cs = flP l ∧ Q (.bool true) []
  | _, _ => False
theorem back_right {l : List Pr} {k : Nat} (h40 : l.length ≤ 40) (hk : k < l.length) : climbP (txLeaf (l.getD k ([], []))) (k : Int) (l.length : Int) (pathP l k) = (shaD (rootX l), true) := by
  have hd := path_dep l.length l k (Nat.le_refl _)
  have hr : rightP (pathP l k) (k : Int) (l.length : Int) := ⟨by omega, by rw [Int.toNat_natCast, Int.toNat_natCast]; exact hd.1, hd.2⟩
  rw [climb_yes hr, Int.toNat_natCast, Int.toNat_natCast, path_up l.length l k (Nat.le_refl _) hk, rootX, if_neg (by omega)]
end Go.LX
end
section
set_option maxRecDepth 100000
set_option maxHeartbeats 2000000
set_option autoImplicit false
set_option linter.unusedVariables false
set_option linter.unusedSimpArgs false
namespace Go.LX
open Go.Proofs

/-! ## Leaves and proofs, in plain words -/
structure Lf where
  i : Int
  c : Int
  k : Bs
  v : Bs
  p : List Bs
def enL (x : Lf) : List CV := [.int .i64 x.i, .int .i64 x.c, .str x.k, .str x.v, .sl 1 x.p.length (strs x.p) false]
def flL (l : List Lf) : List CV := l.flatMap enL
def lfSV (x : Lf) : SV := .agg [.int .i64 x.i, .int .i64 x.c, .str x.k, .str x.v, .sl 1 x.p.length (strs x.p) false]
def prSV (a : Bool) (L : List Lf) : SV := .agg [.bool a, .sl 5 L.length (flL L) false]
theorem flL_len (l : List Lf) : (flL l).length = 5 * l.length := by
  induction l with
  | nil => rfl
  | cons a r ih => rw [flL, List.flatMap_cons, List.length_append, ← flL, ih, List.length_cons]; show 5 + _ = _; omega
theorem flL_app (l m : List Lf) : flL (l ++ m) = flL l ++ flL m := by rw [flL, List.flatMap_append]; rfl
theorem flL_one (x : Lf) : flL [x] = enL x := by rw [flL, List.flatMap_cons]; exact List.append_nil _
/-- The leaf that is made, at a place. -/
def madeL (l : List Pr) (k : Nat) : Lf := ⟨(k : Int), (l.length : Int), (l.getD k ([], [])).1, (l.getD k ([], [])).2, pathP l k⟩
def presV (l : List Pr) (t : Bs) (k : Nat) : List Lf × Int := if k < l.length ∧ kAt l k = t then ([madeL l k], 0) else ([], 3)
def absV (l : List Pr) (t : Bs) (k : Nat) : Bool × List Lf × Int :=
  if t.length < 1 ∨ 16 < t.length then (false, [], 1) else if k < l.length ∧ kAt l k = t then (false, [], 4) else
    (true, (if 0 < k then [madeL l (k - 1)] else []) ++ (if k < l.length then [madeL l k] else []), 0)
/-! ### Outcomes, looked at in a weaker way -/
theorem WeakV.val {G : Gl} {N : Nat} {r r' : SV} {H : List LObj} (h : ∀ E w v, VR E w r v → VR E w r' v) : WeakV G N r H r' H := fun A E w v hA hle hv hr hg => ⟨E, hle, h E w v hv, hr, hg, Step.refl E H w⟩
theorem vr_nil2 {E : Env} {w : World} {a : Bool} {x : SV} {v : Value} (sz : Nat) (h : VR E w (.tuple [.agg [.bool a, .nilsl], x]) v) : VR E w (.tuple [.agg [.bool a, .sl sz 0 [] false], x]) v := by
  cases h with
  | tuple vs hl h =>
    refine .tuple vs hl (fun j y v hx hv => ?_)
    match j with
    | 0 =>
      cases hx
      have h0 := h 0 _ v rfl hv
      cases h0 with
      | agg ws hw g =>
        refine .agg ws hw (fun i y u hy hu => ?_)
        match i with
        | 0 => cases hy; exact g 0 _ u rfl hu
        | 1 => cases hy; exact (g 1 _ u rfl hu).nilSl sz false
        | i + 2 => simp at hy
    | 1 => cases hx; exact h 1 _ v rfl hv
    | j + 2 => simp at hx
theorem WeakV.pubTup2 {G : Gl} {N : Nat} {rs : List SV} {H : List LObj} (i : Nat) {e sz n : Nat} {xs : List CV} {wr : Bool} (hi : H[i]? = some (.own e sz n xs wr)) :
    WeakV G N (.tuple rs) H (.tuple (pubL2 i sz n xs rs)) (H.set i .gone) := fun A E w v hA hle hv hr hg => by
  obtain ⟨le, h1, h2, h3⟩ := hr.pub hi
  cases hv with
  | tuple vs hl h =>
    have hvs : VRs E w rs vs := ⟨hl, h⟩
    have hk := pubL2_sound h3 (hvs.kept le (fun _ h => .inl h) (fun _ _ => rfl))
    exact ⟨_, hle.trans le, .tuple vs hk.1 hk.2, h1, hg.kept (fun _ h => .inl h) (fun _ _ => rfl), h2⟩
/-! ## The program's side -/
def mpathPS : Spec := fun args H Q => match args, H with
  | [.sl 2 n cs f, .int .i64 x], [] => ∃ l : List Pr, n = l.length ∧ cs = flP l ∧ l.length < 60000 ∧ (∀ p ∈ l, okP p) ∧ Q (.sl 1 (pathO l x).length (strs (pathO l x)) false) []
  | _, _ => False
theorem mpathP_k {y0 : CV} {cs0 : List CV} (hK : KAt y0 cs0) : Contract Tryd.prog [(0, y0 :: cs0)] 54 mpathPS := (mpath_k hK).post fun args H Q h => by
  unfold mpathPS at h
  split at h
  case h_2 => exact h.elim
  rename_i n cs f x
  obtain ⟨l, rfl, rfl, h60, hok, h⟩ := h
  exact ⟨l, rfl, rfl, h60, hok, _, _, (WeakV.of (Weak.pubT (e := 9) (sz := 1) (n := (pathO l x).length) (xs := strs (pathO l x)) (wr := true) 0 rfl)).trans (WeakV.drop rfl), h⟩
def kInts (at' : List Nat) : List CV := at'.map fun (k : Nat) => CV.int .i64 (k : Int)
def leavesS : Spec := fun args H Q => match args, H with
  | [.sl 2 n cs f, .sl 1 m ks f'], [] => ∃ (l : List Pr) (at' : List Nat), n = l.length ∧ cs = flP l ∧ l.length < 60000 ∧ (∀ p ∈ l, okP p) ∧ ks = kInts at' ∧ m = at'.length ∧ at'.length ≤ 1000 ∧ (∀ k ∈ at', k < l.length) ∧
      Q (.sl 5 (at'.map (madeL l)).length (flL (at'.map (madeL l))) false) []
  | _, _ => False
theorem leaves_c {y0 : CV} {cs0 : List CV} (hK : KAt y0 cs0) : Meets Tryd.prog [(0, y0 :: cs0)] 24 leavesS := by
  refine meets_of Γok Tryd.func24 rfl ?_
  intro args H Q h
  unfold leavesS at h
  split at h
  case h_2 => exact h.elim
  rename_i n cs f m ks f'
  obtain ⟨l, at', rfl, rfl, h60, hok, rfl, rfl, ha, hall, h⟩ := h
  (refine sx_sound Γok _ ?_; conv => whnf)
  (repeat (first | (exact Out.same; conv => whnf) | (exact Out1.same; conv => whnf) | (refine QAnd.mk ?_ ?_; conv => whnf) | (apply QStepH.go; conv => whnf) | (refine Both.lit_true ?_; conv => whnf) | (refine Both.lit_false ?_; conv => whnf) | (apply QStep.go; conv => whnf) | (refine Need.mk ?_ ?_; (focus (first | omega | exact ⟨by omega, by omega⟩ | rfl | exact ⟨rfl, rfl⟩ | exact ⟨rfl, by omega, by omega⟩ | exact ⟨by omega, by omega, by omega⟩ | exact ⟨rfl, Nat.le_of_ble_eq_true rfl⟩ | exact Nat.le_of_ble_eq_true rfl | (refine ⟨rfl, rfl, ?_⟩; simp [isFar, ofV0, CV.up, SV.renL, SV.ren] <;> fail) | (refine ⟨rfl, Nat.le_of_ble_eq_true rfl, ?_⟩; simp [isFar, ofV0, CV.up, SV.renL, SV.ren] <;> fail) | (simp only [List.length_append, List.length_drop, List.length_take, List.length_replicate, List.length_map]; omega) | (simp <;> fail))); conv => whnf) | (refine ⟨_, rfl, ?_⟩; conv => whnf)))
  refine loop_rule (fun k : Nat => ⟨[.sl 2 l.length (flP l) f, .any, .any, .any, .any, .own 0, .any, .any, .sl 1 at'.length (kInts at') f', .int .i64 ((at'.length : Nat) : Int), .int .i64 (k : Int), .any, .any, .any, .any, .any, .any, .any, .any, .any, .any, .any, .any, .any, .any, .any, .any, .any, .any, .any], [.own 41 5 ((at'.take k).map (madeL l)).length (flL ((at'.take k).map (madeL l))) true]⟩) (fun k => k ≤ at'.length) (fun k => at'.length - k) 0 (Nat.zero_le _) ((Weak.ownNilT 5 41 5 rfl).trans (Weak.auto ?_)) ?_
  · (repeat' ((conv => whnf); first | exact True.intro | (refine And.intro ?_ ?_)))
    all_goals first | rfl | exact .eq rfl
  intro k hk
  have htl : ((at'.take k).map (madeL l)).length = k := by rw [List.length_map, List.length_take]; omega
  (refine sx_sound Γok _ ?_; conv => whnf)
  (repeat (first | (exact Out.same; conv => whnf) | (exact Out1.same; conv => whnf) | (refine QAnd.mk ?_ ?_; conv => whnf) | (apply QStepH.go; conv => whnf) | (refine Both.lit_true ?_; conv => whnf) | (refine Both.lit_false ?_; conv => whnf) | (apply QStep.go; conv => whnf) | (refine Need.mk ?_ ?_; (focus (first | omega | exact ⟨by omega, by omega⟩ | rfl | exact ⟨rfl, rfl⟩ | exact ⟨rfl, by omega, by omega⟩ | exact ⟨by omega, by omega, by omega⟩ | exact ⟨rfl, Nat.le_of_ble_eq_true rfl⟩ | exact Nat.le_of_ble_eq_true rfl | (refine ⟨rfl, rfl, ?_⟩; simp [isFar, ofV0, CV.up, SV.renL, SV.ren] <;> fail) | (refine ⟨rfl, Nat.le_of_ble_eq_true rfl, ?_⟩; simp [isFar, ofV0, CV.up, SV.renL, SV.ren] <;> fail) | (simp only [List.length_append, List.length_drop, List.length_take, List.length_replicate, List.length_map]; omega) | (simp <;> fail))); conv => whnf) | (refine ⟨_, rfl, ?_⟩; conv => whnf)))
  refine Both.dec (fun hlt => ?_) (fun hge => ?_)
  · have hkl : k < at'.length := by omega
    obtain ⟨x, hx⟩ : ∃ x, at'.getD k 0 = x := ⟨_, rfl⟩
    have hxg : at'[k] = x := by rw [← hx, List.getD_eq_getElem?_getD, List.getElem?_eq_getElem hkl]; rfl
    have hxl : x < l.length := hall x (by rw [← hxg]; exact List.getElem_mem hkl)
    have hat : (kInts at')[((k : Nat) : Int).toNat]? = some (CV.int .i64 (x : Int)) := by
      unfold kInts
      rw [Int.toNat_natCast, List.getElem?_map, List.getElem?_eq_getElem hkl, hxg]
      rfl
    have hat2 := flP_at l hxl
    have hix : ti38.size = 2 ∧ (0 : Int) ≤ (x : Int) ∧ (x : Int) < ((l.length : Nat) : Int) := ⟨rfl, by omega, by omega⟩
    have hk1 : IntKind.i64.wrap ((k : Int) + 1) = ((k + 1 : Nat) : Int) := by rw [wrap_i64 (by omega) (by omega)]; rfl
    have hpo : pathO l (x : Int) = pathP l x := by
      unfold pathO
      rw [if_neg (by omega), Int.toNat_natCast]
    have hcap : (((at'.take k).map (madeL l)).length + 1) * ti41.bytes ≤ 140737488355328 := by
      rw [htl]
      show (k + 1) * 72 ≤ _
      omega
    have hnext : (at'.take (k + 1)).map (madeL l) = (at'.take k).map (madeL l) ++ [madeL l x] := by rw [List.take_succ_eq_append_getElem hkl, List.map_append, hxg]; rfl
    have end1 : LObj.own 41 5 (((at'.take k).map (madeL l)).length + 1) (flL ((at'.take k).map (madeL l)) ++ [.int .i64 (x : Int), .int .i64 ((l.length : Nat) : Int), .str (l.getD x ([], [])).1, .str (l.getD x ([], [])).2, .sl 1 (pathO l (x : Int)).length (strs (pathO l (x : Int))) false]) true = LObj.own 41 5 ((at'.take (k + 1)).map (madeL l)).length (flL ((at'.take (k + 1)).map (madeL l))) true := by
      rw [hpo, hnext, flL_app, flL_one, List.length_append]
      rfl
    (conv => whnf)
    (repeat (first | (refine ⟨_, hat, ?_⟩; conv => whnf) | (exact Out.same; conv => whnf) | (exact Out1.same; conv => whnf) | (refine QAnd.mk ?_ ?_; conv => whnf) | (apply QStepH.go; conv => whnf) | (refine Both.lit_true ?_; conv => whnf) | (refine Both.lit_false ?_; conv => whnf) | (apply QStep.go; conv => whnf) | (refine Need.mk ?_ ?_; (focus (first | omega | exact ⟨by omega, by omega⟩ | rfl | exact ⟨rfl, rfl⟩ | exact ⟨rfl, by omega, by omega⟩ | exact ⟨by omega, by omega, by omega⟩ | exact ⟨rfl, Nat.le_of_ble_eq_true rfl⟩ | exact Nat.le_of_ble_eq_true rfl | (refine ⟨rfl, rfl, ?_⟩; simp [isFar, ofV0, CV.up, SV.renL, SV.ren] <;> fail) | (refine ⟨rfl, Nat.le_of_ble_eq_true rfl, ?_⟩; simp [isFar, ofV0, CV.up, SV.renL, SV.ren] <;> fail) | (simp only [List.length_append, List.length_drop, List.length_take, List.length_replicate, List.length_map]; omega) | (simp <;> fail))); conv => whnf) | (refine ⟨_, rfl, ?_⟩; conv => whnf)))
    (refine DrawVC.any Γok (by kernel_rfl) (by kernel_rfl) (by kernel_rfl) (by rfl) ?_; conv => whnf)
    (repeat (first | (refine Need.mk hix ?_; conv => whnf) | (refine ⟨_, hat2, ?_⟩; conv => whnf) | (refine CallVC.auto (mpathP_k hK) ⟨l, rfl, rfl, h60, hok, ?_⟩; conv => whnf) | (refine Need.mk hcap ?_; conv => whnf) | (exact Out.same; conv => whnf) | (exact Out1.same; conv => whnf) | (refine QAnd.mk ?_ ?_; conv => whnf) | (apply QStepH.go; conv => whnf) | (refine Both.lit_true ?_; conv => whnf) | (refine Both.lit_false ?_; conv => whnf) | (apply QStep.go; conv => whnf) | (refine Need.mk ?_ ?_; (focus (first | omega | exact ⟨by omega, by omega⟩ | rfl | exact ⟨rfl, rfl⟩ | exact ⟨rfl, by omega, by omega⟩ | exact ⟨by omega, by omega, by omega⟩ | exact ⟨rfl, Nat.le_of_ble_eq_true rfl⟩ | exact Nat.le_of_ble_eq_true rfl | (refine ⟨rfl, rfl, ?_⟩; simp [isFar, ofV0, CV.up, SV.renL, SV.ren] <;> fail) | (refine ⟨rfl, Nat.le_of_ble_eq_true rfl, ?_⟩; simp [isFar, ofV0, CV.up, SV.renL, SV.ren] <;> fail) | (simp only [List.length_append, List.length_drop, List.length_take, List.length_replicate, List.length_map]; omega) | (simp <;> fail))); conv => whnf) | (refine ⟨_, rfl, ?_⟩; conv => whnf)))
    refine ⟨k + 1, by omega, by omega, Weak.auto ?_⟩
    (repeat' ((conv => whnf); first | exact True.intro | (refine And.intro ?_ ?_)))
    all_goals first | rfl | exact .eq rfl | exact congrArg (SV.int .i64) hk1 | exact end1
  · have hke : k = at'.length := by omega
    have hfin : at'.take k = at' := List.take_of_length_le (by omega)
    rw [← hfin] at h
    (conv => whnf)
    (repeat (first | (exact Out.same; conv => whnf) | (exact Out1.same; conv => whnf) | (refine QAnd.mk ?_ ?_; conv => whnf) | (apply QStepH.go; conv => whnf) | (refine Both.lit_true ?_; conv => whnf) | (refine Both.lit_false ?_; conv => whnf) | (apply QStep.go; conv => whnf) | (refine Need.mk ?_ ?_; (focus (first | omega | exact ⟨by omega, by omega⟩ | rfl | exact ⟨rfl, rfl⟩ | exact ⟨rfl, by omega, by omega⟩ | exact ⟨by omega, by omega, by omega⟩ | exact ⟨rfl, Nat.le_of_ble_eq_true rfl⟩ | exact Nat.le_of_ble_eq_true rfl | (refine ⟨rfl, rfl, ?_⟩; simp [isFar, ofV0, CV.up, SV.renL, SV.ren] <;> fail) | (refine ⟨rfl, Nat.le_of_ble_eq_true rfl, ?_⟩; simp [isFar, ofV0, CV.up, SV.renL, SV.ren] <;> fail) | (simp only [List.length_append, List.length_drop, List.length_take, List.length_replicate, List.length_map]; omega) | (simp <;> fail))); conv => whnf) | (refine ⟨_, rfl, ?_⟩; conv => whnf)))
    refine ⟨_, _, WeakV.of ((Weak.pubT (e := 41) (sz := 5) (n := ((at'.take k).map (madeL l)).length) (xs := flL ((at'.take k).map (madeL l))) (wr := true) 0 rfl).trans (Weak.auto ?_)), h⟩
    (repeat' ((conv => whnf); first | exact True.intro | (refine And.intro ?_ ?_)))
    all_goals first | rfl | exact .eq rfl
theorem leaves_k {y0 : CV} {cs0 : List CV} (hK : KAt y0 cs0) : Contract Tryd.prog [(0, y0 :: cs0)] 24 leavesS := ⟨⟨⟨_, rfl, rfl, rfl⟩⟩, leaves_c hK⟩
end Go.LX
end
section
set_option maxRecDepth 100000
set_option maxHeartbeats 2000000
set_option autoImplicit false
set_option linter.unusedVariables false
set_option linter.unusedSimpArgs false
namespace Go.LX
open Go.Proofs

/-! ## The program's proofs -/
def presS : Spec := fun args H Q => match args, H with
  | [.sl 2 n cs f, .str t], [] => ∃ l : List Pr, n = l.length ∧ cs = flP l ∧ l.length < 60000 ∧ (∀ p ∈ l, okP p) ∧ sortB l ∧ ∀ k L e, IsPlace l t k → (L, e) = presV l t k → Q (.tuple [prSV false L, .int .i64 e]) []
  | _, _ => False
theorem mpres_c {y0 : CV} {cs0 : List CV} (hK : KAt y0 cs0) : Meets Tryd.prog [(0, y0 :: cs0)] 9 presS := by
  refine meets_of Γok Tryd.func9 rfl ?_
  intro args H Q h
  unfold presS at h
  split at h
  case h_2 => exact h.elim
  rename_i n cs f t
  obtain ⟨l, rfl, rfl, h60, hok, hsort, h⟩ := h
  (refine sx_sound Γok _ ?_; conv => whnf)
  (repeat (first | (exact Out.same; conv => whnf) | (exact Out1.same; conv => whnf) | (refine QAnd.mk ?_ ?_; conv => whnf) | (apply QStepH.go; conv => whnf) | (refine Both.lit_true ?_; conv => whnf) | (refine Both.lit_false ?_; conv => whnf) | (apply QStep.go; conv => whnf) | (refine Need.mk ?_ ?_; (focus (first | omega | exact ⟨by omega, by omega⟩ | rfl | exact ⟨rfl, rfl⟩ | exact ⟨rfl, by omega, by omega⟩ | exact ⟨by omega, by omega, by omega⟩ | exact ⟨rfl, Nat.le_of_ble_eq_true rfl⟩ | exact Nat.le_of_ble_eq_true rfl | (refine ⟨rfl, rfl, ?_⟩; simp [isFar, ofV0, CV.up, SV.renL, SV.ren] <;> fail) | (refine ⟨rfl, Nat.le_of_ble_eq_true rfl, ?_⟩; simp [isFar, ofV0, CV.up, SV.renL, SV.ren] <;> fail) | (simp only [List.length_append, List.length_drop, List.length_take, List.length_replicate, List.length_map]; omega) | (simp <;> fail))); conv => whnf) | (refine ⟨_, rfl, ?_⟩; conv => whnf)))
  refine CallVC.auto find_k.gl ⟨l, rfl, rfl, by omega, hsort, fun k hk => ?_⟩
  by_cases hc : k < l.length ∧ kAt l k = t
  · have h := h k _ _ hk (if_pos hc).symm
    have c1 : (!decide (k < l.length ∧ kAt l k = t)) = false := by rw [decide_eq_true hc]; rfl
    (conv => whnf)
    (repeat (first | (refine Both.of_false c1 ?_; conv => whnf) | (exact Out.same; conv => whnf) | (exact Out1.same; conv => whnf) | (refine QAnd.mk ?_ ?_; conv => whnf) | (apply QStepH.go; conv => whnf) | (refine Both.lit_true ?_; conv => whnf) | (refine Both.lit_false ?_; conv => whnf) | (apply QStep.go; conv => whnf) | (refine Need.mk ?_ ?_; (focus (first | omega | exact ⟨by omega, by omega⟩ | rfl | exact ⟨rfl, rfl⟩ | exact ⟨rfl, by omega, by omega⟩ | exact ⟨by omega, by omega, by omega⟩ | exact ⟨rfl, Nat.le_of_ble_eq_true rfl⟩ | exact Nat.le_of_ble_eq_true rfl | (refine ⟨rfl, rfl, ?_⟩; simp [isFar, ofV0, CV.up, SV.renL, SV.ren] <;> fail) | (refine ⟨rfl, Nat.le_of_ble_eq_true rfl, ?_⟩; simp [isFar, ofV0, CV.up, SV.renL, SV.ren] <;> fail) | (simp only [List.length_append, List.length_drop, List.length_take, List.length_replicate, List.length_map]; omega) | (simp <;> fail))); conv => whnf) | (refine ⟨_, rfl, ?_⟩; conv => whnf)))
    refine CallVC.auto (leaves_k hK) ⟨l, [k], rfl, rfl, h60, hok, rfl, rfl, Nat.le_of_ble_eq_true rfl, fun x hx => by rw [List.mem_singleton.1 hx]; exact hc.1, ?_⟩
    (conv => whnf)
    (repeat (first | (exact Out.same; conv => whnf) | (exact Out1.same; conv => whnf) | (refine QAnd.mk ?_ ?_; conv => whnf) | (apply QStepH.go; conv => whnf) | (refine Both.lit_true ?_; conv => whnf) | (refine Both.lit_false ?_; conv => whnf) | (apply QStep.go; conv => whnf) | (refine Need.mk ?_ ?_; (focus (first | omega | exact ⟨by omega, by omega⟩ | rfl | exact ⟨rfl, rfl⟩ | exact ⟨rfl, by omega, by omega⟩ | exact ⟨by omega, by omega, by omega⟩ | exact ⟨rfl, Nat.le_of_ble_eq_true rfl⟩ | exact Nat.le_of_ble_eq_true rfl | (refine ⟨rfl, rfl, ?_⟩; simp [isFar, ofV0, CV.up, SV.renL, SV.ren] <;> fail) | (refine ⟨rfl, Nat.le_of_ble_eq_true rfl, ?_⟩; simp [isFar, ofV0, CV.up, SV.renL, SV.ren] <;> fail) | (simp only [List.length_append, List.length_drop, List.length_take, List.length_replicate, List.length_map]; omega) | (simp <;> fail))); conv => whnf) | (refine ⟨_, rfl, ?_⟩; conv => whnf)))
    exact ⟨_, _, WeakV.drop rfl, h⟩
  · have h := h k _ _ hk (if_neg hc).symm
    have c1 : (!decide (k < l.length ∧ kAt l k = t)) = true := by rw [decide_eq_false hc]; rfl
    (conv => whnf)
    (repeat (first | (refine Both.of_true c1 ?_; conv => whnf) | (exact Out.same; conv => whnf) | (exact Out1.same; conv => whnf) | (refine QAnd.mk ?_ ?_; conv => whnf) | (apply QStepH.go; conv => whnf) | (refine Both.lit_true ?_; conv => whnf) | (refine Both.lit_false ?_; conv => whnf) | (apply QStep.go; conv => whnf) | (refine Need.mk ?_ ?_; (focus (first | omega | exact ⟨by omega, by omega⟩ | rfl | exact ⟨rfl, rfl⟩ | exact ⟨rfl, by omega, by omega⟩ | exact ⟨by omega, by omega, by omega⟩ | exact ⟨rfl, Nat.le_of_ble_eq_true rfl⟩ | exact Nat.le_of_ble_eq_true rfl | (refine ⟨rfl, rfl, ?_⟩; simp [isFar, ofV0, CV.up, SV.renL, SV.ren] <;> fail) | (refine ⟨rfl, Nat.le_of_ble_eq_true rfl, ?_⟩; simp [isFar, ofV0, CV.up, SV.renL, SV.ren] <;> fail) | (simp only [List.length_append, List.length_drop, List.length_take, List.length_replicate, List.length_map]; omega) | (simp <;> fail))); conv => whnf) | (refine ⟨_, rfl, ?_⟩; conv => whnf)))
    exact ⟨_, _, (WeakV.drop rfl).trans (WeakV.val fun E w v => vr_nil2 5), h⟩
theorem mpres_k {y0 : CV} {cs0 : List CV} (hK : KAt y0 cs0) : Contract Tryd.prog [(0, y0 :: cs0)] 9 presS := ⟨⟨⟨_, rfl, rfl, rfl⟩⟩, mpres_c hK⟩
theorem place_ex {l : List Pr} (hs : sortB l) (t : Bs) : ∃ k, IsPlace l t k := by
  have key : ∀ n, n ≤ l.length → ∃ c, c ≤ n ∧ (∀ q, q < c → lessS (kAt l q) t = true) ∧ (c < n → lessS (kAt l c) t = false) := by
    intro n
    induction n with
    | zero => exact fun _ => ⟨0, Nat.le_refl _, fun q h => absurd h (by omega), fun h => absurd h (by omega)⟩
    | succ n ih =>
      intro hn
      obtain ⟨c, h1, h2, h3⟩ := ih (by omega)
      rcases Nat.lt_or_ge c n with q | q
      · exact ⟨c, by omega, h2, fun _ => h3 q⟩
      · cases hP : lessS (kAt l n) t with
        | true => exact ⟨n + 1, Nat.le_refl _, fun j hj => sort_down hs (by omega) (by omega) hP, fun u => absurd u (by omega)⟩
        | false => exact ⟨c, by omega, h2, fun _ => by rw [show c = n by omega]; exact hP⟩
  obtain ⟨c, h1, h2, h3⟩ := key l.length (Nat.le_refl _)
  exact ⟨c, h1, h2, fun j q1 q2 => by
    cases hq : lessS (kAt l j) t with
    | false => rfl
    | true =>
      have := h3 (by omega)
      rw [sort_down hs q1 q2 hq] at this
      cases this⟩
def absS : Spec := fun args H Q => match args, H with
  | [.sl 2 n cs f, .str t], [] => ∃ l : List Pr, n = l.length ∧ cs = flP l ∧ l.length < 60000 ∧ (∀ p ∈ l, okP p) ∧ sortB l ∧ ∀ k a L e, IsPlace l t k → (a, L, e) = absV l t k → Q (.tuple [prSV a L, .int .i64 e]) []
  | _, _ => False
theorem abs_bad {l : List Pr} {t : Bs} {k : Nat} (h : t.length < 1 ∨ 16 < t.length) : absV l t k = (false, [], 1) := if_pos h
theorem abs_found {l : List Pr} {t : Bs} {k : Nat} (h : ¬ (t.length < 1 ∨ 16 < t.length)) (h2 : k < l.length ∧ kAt l k = t) : absV l t k = (false, [], 4) := by unfold absV; rw [if_neg h, if_pos h2]
theorem abs_yes {l : List Pr} {t : Bs} {k : Nat} (h : ¬ (t.length < 1 ∨ 16 < t.length)) (h2 : ¬ (k < l.length ∧ kAt l k = t)) : absV l t k = (true, (if 0 < k then [madeL l (k - 1)] else []) ++ (if k < l.length then [madeL l k] else []), 0) := by unfold absV; rw [if_neg h, if_neg h2]
theorem mabs_c {y0 : CV} {cs0 : List CV} (hK : KAt y0 cs0) : Meets Tryd.prog [(0, y0 :: cs0)] 11 absS := by
  refine meets_of Γok Tryd.func11 rfl ?_
  intro args H Q h
  unfold absS at h
  split at h
  case h_2 => exact h.elim
  rename_i n cs f t
  obtain ⟨l, rfl, rfl, h60, hok, hsort, h⟩ := h
  obtain ⟨k0, hk0⟩ := place_ex hsort t
  (refine sx_sound Γok _ ?_; conv => whnf)
  (repeat (first | (exact Out.same; conv => whnf) | (exact Out1.same; conv => whnf) | (refine QAnd.mk ?_ ?_; conv => whnf) | (apply QStepH.go; conv => whnf) | (refine Both.lit_true ?_; conv => whnf) | (refine Both.lit_false ?_; conv => whnf) | (apply QStep.go; conv => whnf) | (refine Need.mk ?_ ?_; (focus (first | omega | exact ⟨by omega, by omega⟩ | rfl | exact ⟨rfl, rfl⟩ | exact ⟨rfl, by omega, by omega⟩ | exact ⟨by omega, by omega, by omega⟩ | exact ⟨rfl, Nat.le_of_ble_eq_true rfl⟩ | exact Nat.le_of_ble_eq_true rfl | (refine ⟨rfl, rfl, ?_⟩; simp [isFar, ofV0, CV.up, SV.renL, SV.ren] <;> fail) | (refine ⟨rfl, Nat.le_of_ble_eq_true rfl, ?_⟩; simp [isFar, ofV0, CV.up, SV.renL, SV.ren] <;> fail) | (simp only [List.length_append, List.length_drop, List.length_take, List.length_replicate, List.length_map]; omega) | (simp <;> fail))); conv => whnf) | (refine ⟨_, rfl, ?_⟩; conv => whnf)))
  refine Both.dec (fun h1 => ?_) (fun h1 => ?_)
  · have h := h k0 _ _ _ hk0 (abs_bad (.inl (by omega))).symm
    (conv => whnf)
    (repeat (first | (exact Out.same; conv => whnf) | (exact Out1.same; conv => whnf) | (refine QAnd.mk ?_ ?_; conv => whnf) | (apply QStepH.go; conv => whnf) | (refine Both.lit_true ?_; conv => whnf) | (refine Both.lit_false ?_; conv => whnf) | (apply QStep.go; conv => whnf) | (refine Need.mk ?_ ?_; (focus (first | omega | exact ⟨by omega, by omega⟩ | rfl | exact ⟨rfl, rfl⟩ | exact ⟨rfl, by omega, by omega⟩ | exact ⟨by omega, by omega, by omega⟩ | exact ⟨rfl, Nat.le_of_ble_eq_true rfl⟩ | exact Nat.le_of_ble_eq_true rfl | (refine ⟨rfl, rfl, ?_⟩; simp [isFar, ofV0, CV.up, SV.renL, SV.ren] <;> fail) | (refine ⟨rfl, Nat.le_of_ble_eq_true rfl, ?_⟩; simp [isFar, ofV0, CV.up, SV.renL, SV.ren] <;> fail) | (simp only [List.length_append, List.length_drop, List.length_take, List.length_replicate, List.length_map]; omega) | (simp <;> fail))); conv => whnf) | (refine ⟨_, rfl, ?_⟩; conv => whnf)))
    exact ⟨_, _, (WeakV.drop rfl).trans (WeakV.val fun E w v => vr_nil2 5), h⟩
  (conv => whnf)
  (repeat (first | (exact Out.same; conv => whnf) | (exact Out1.same; conv => whnf) | (refine QAnd.mk ?_ ?_; conv => whnf) | (apply QStepH.go; conv => whnf) | (refine Both.lit_true ?_; conv => whnf) | (refine Both.lit_false ?_; conv => whnf) | (apply QStep.go; conv => whnf) | (refine Need.mk ?_ ?_; (focus (first | omega | exact ⟨by omega, by omega⟩ | rfl | exact ⟨rfl, rfl⟩ | exact ⟨rfl, by omega, by omega⟩ | exact ⟨by omega, by omega, by omega⟩ | exact ⟨rfl, Nat.le_of_ble_eq_true rfl⟩ | exact Nat.le_of_ble_eq_true rfl | (refine ⟨rfl, rfl, ?_⟩; simp [isFar, ofV0, CV.up, SV.renL, SV.ren] <;> fail) | (refine ⟨rfl, Nat.le_of_ble_eq_true rfl, ?_⟩; simp [isFar, ofV0, CV.up, SV.renL, SV.ren] <;> fail) | (simp only [List.length_append, List.length_drop, List.length_take, List.length_replicate, List.length_map]; omega) | (simp <;> fail))); conv => whnf) | (refine ⟨_, rfl, ?_⟩; conv => whnf)))
  refine Both.dec (fun h2 => ?_) (fun h2 => ?_)
  · have h := h k0 _ _ _ hk0 (abs_bad (.inr (by omega))).symm
    (conv => whnf)
    (repeat (first | (exact Out.same; conv => whnf) | (exact Out1.same; conv => whnf) | (refine QAnd.mk ?_ ?_; conv => whnf) | (apply QStepH.go; conv => whnf) | (refine Both.lit_true ?_; conv => whnf) | (refine Both.lit_false ?_; conv => whnf) | (apply QStep.go; conv => whnf) | (refine Need.mk ?_ ?_; (focus (first | omega | exact ⟨by omega, by omega⟩ | rfl | exact ⟨rfl, rfl⟩ | exact ⟨rfl, by omega, by omega⟩ | exact ⟨by omega, by omega, by omega⟩ | exact ⟨rfl, Nat.le_of_ble_eq_true rfl⟩ | exact Nat.le_of_ble_eq_true rfl | (refine ⟨rfl, rfl, ?_⟩; simp [isFar, ofV0, CV.up, SV.renL, SV.ren] <;> fail) | (refine ⟨rfl, Nat.le_of_ble_eq_true rfl, ?_⟩; simp [isFar, ofV0, CV.up, SV.renL, SV.ren] <;> fail) | (simp only [List.length_append, List.length_drop, List.length_take, List.length_replicate, List.length_map]; omega) | (simp <;> fail))); conv => whnf) | (refine ⟨_, rfl, ?_⟩; conv => whnf)))
    exact ⟨_, _, (WeakV.drop rfl).trans (WeakV.val fun E w v => vr_nil2 5), h⟩
  have hnb : ¬ (t.length < 1 ∨ 16 < t.length) := by omega
  (conv => whnf)
  (repeat (first | (exact Out.same; conv => whnf) | (exact Out1.same; conv => whnf) | (refine QAnd.mk ?_ ?_; conv => whnf) | (apply QStepH.go; conv => whnf) | (refine Both.lit_true ?_; conv => whnf) | (refine Both.lit_false ?_; conv => whnf) | (apply QStep.go; conv => whnf) | (refine Need.mk ?_ ?_; (focus (first | omega | exact ⟨by omega, by omega⟩ | rfl | exact ⟨rfl, rfl⟩ | exact ⟨rfl, by omega, by omega⟩ | exact ⟨by omega, by omega, by omega⟩ | exact ⟨rfl, Nat.le_of_ble_eq_true rfl⟩ | exact Nat.le_of_ble_eq_true rfl | (refine ⟨rfl, rfl, ?_⟩; simp [isFar, ofV0, CV.up, SV.renL, SV.ren] <;> fail) | (refine ⟨rfl, Nat.le_of_ble_eq_true rfl, ?_⟩; simp [isFar, ofV0, CV.up, SV.renL, SV.ren] <;> fail) | (simp only [List.length_append, List.length_drop, List.length_take, List.length_replicate, List.length_map]; omega) | (simp <;> fail))); conv => whnf) | (refine ⟨_, rfl, ?_⟩; conv => whnf)))
  refine CallVC.auto find_k.gl ⟨l, rfl, rfl, by omega, hsort, fun k hk => ?_⟩
  have hkl := hk.le
  by_cases hc : k < l.length ∧ kAt l k = t
  · have h := h k _ _ _ hk (abs_found hnb hc).symm
    have c1 : decide (k < l.length ∧ kAt l k = t) = true := decide_eq_true hc
    (conv => whnf)
    (repeat (first | (refine Both.of_true c1 ?_; conv => whnf) | (exact Out.same; conv => whnf) | (exact Out1.same; conv => whnf) | (refine QAnd.mk ?_ ?_; conv => whnf) | (apply QStepH.go; conv => whnf) | (refine Both.lit_true ?_; conv => whnf) | (refine Both.lit_false ?_; conv => whnf) | (apply QStep.go; conv => whnf) | (refine Need.mk ?_ ?_; (focus (first | omega | exact ⟨by omega, by omega⟩ | rfl | exact ⟨rfl, rfl⟩ | exact ⟨rfl, by omega, by omega⟩ | exact ⟨by omega, by omega, by omega⟩ | exact ⟨rfl, Nat.le_of_ble_eq_true rfl⟩ | exact Nat.le_of_ble_eq_true rfl | (refine ⟨rfl, rfl, ?_⟩; simp [isFar, ofV0, CV.up, SV.renL, SV.ren] <;> fail) | (refine ⟨rfl, Nat.le_of_ble_eq_true rfl, ?_⟩; simp [isFar, ofV0, CV.up, SV.renL, SV.ren] <;> fail) | (simp only [List.length_append, List.length_drop, List.length_take, List.length_replicate, List.length_map]; omega) | (simp <;> fail))); conv => whnf) | (refine ⟨_, rfl, ?_⟩; conv => whnf)))
    exact ⟨_, _, (WeakV.drop rfl).trans (WeakV.val fun E w v => vr_nil2 5), h⟩
  have h := h k _ _ _ hk (abs_yes hnb hc).symm
  have c1 : decide (k < l.length ∧ kAt l k = t) = false := decide_eq_false hc
  have hw : IntKind.i64.wrap ((k : Int) - 1) = (k : Int) - 1 := wrap_i64 (by omega) (by omega)
  (conv => whnf)
  (repeat (first | (refine Both.of_false c1 ?_; conv => whnf) | (exact Out.same; conv => whnf) | (exact Out1.same; conv => whnf) | (refine QAnd.mk ?_ ?_; conv => whnf) | (apply QStepH.go; conv => whnf) | (refine Both.lit_true ?_; conv => whnf) | (refine Both.lit_false ?_; conv => whnf) | (apply QStep.go; conv => whnf) | (refine Need.mk ?_ ?_; (focus (first | omega | exact ⟨by omega, by omega⟩ | rfl | exact ⟨rfl, rfl⟩ | exact ⟨rfl, by omega, by omega⟩ | exact ⟨by omega, by omega, by omega⟩ | exact ⟨rfl, Nat.le_of_ble_eq_true rfl⟩ | exact Nat.le_of_ble_eq_true rfl | (refine ⟨rfl, rfl, ?_⟩; simp [isFar, ofV0, CV.up, SV.renL, SV.ren] <;> fail) | (refine ⟨rfl, Nat.le_of_ble_eq_true rfl, ?_⟩; simp [isFar, ofV0, CV.up, SV.renL, SV.ren] <;> fail) | (simp only [List.length_append, List.length_drop, List.length_take, List.length_replicate, List.length_map]; omega) | (simp <;> fail))); conv => whnf) | (refine ⟨_, rfl, ?_⟩; conv => whnf)))
  refine Both.dec (fun h3 => ?_) (fun h3 => ?_)
  · rw [if_neg (by omega), if_neg (by omega)] at h
    (conv => whnf)
    (repeat (first | (exact Out.same; conv => whnf) | (exact Out1.same; conv => whnf) | (refine QAnd.mk ?_ ?_; conv => whnf) | (apply QStepH.go; conv => whnf) | (refine Both.lit_true ?_; conv => whnf) | (refine Both.lit_false ?_; conv => whnf) | (apply QStep.go; conv => whnf) | (refine Need.mk ?_ ?_; (focus (first | omega | exact ⟨by omega, by omega⟩ | rfl | exact ⟨rfl, rfl⟩ | exact ⟨rfl, by omega, by omega⟩ | exact ⟨by omega, by omega, by omega⟩ | exact ⟨rfl, Nat.le_of_ble_eq_true rfl⟩ | exact Nat.le_of_ble_eq_true rfl | (refine ⟨rfl, rfl, ?_⟩; simp [isFar, ofV0, CV.up, SV.renL, SV.ren] <;> fail) | (refine ⟨rfl, Nat.le_of_ble_eq_true rfl, ?_⟩; simp [isFar, ofV0, CV.up, SV.renL, SV.ren] <;> fail) | (simp only [List.length_append, List.length_drop, List.length_take, List.length_replicate, List.length_map]; omega) | (simp <;> fail))); conv => whnf) | (refine ⟨_, rfl, ?_⟩; conv => whnf)))
    exact ⟨_, _, (WeakV.drop rfl).trans (WeakV.val fun E w v => vr_nil2 5), h⟩
  (conv => whnf)
  (repeat (first | (exact Out.same; conv => whnf) | (exact Out1.same; conv => whnf) | (refine QAnd.mk ?_ ?_; conv => whnf) | (apply QStepH.go; conv => whnf) | (refine Both.lit_true ?_; conv => whnf) | (refine Both.lit_false ?_; conv => whnf) | (apply QStep.go; conv => whnf) | (refine Need.mk ?_ ?_; (focus (first | omega | exact ⟨by omega, by omega⟩ | rfl | exact ⟨rfl, rfl⟩ | exact ⟨rfl, by omega, by omega⟩ | exact ⟨by omega, by omega, by omega⟩ | exact ⟨rfl, Nat.le_of_ble_eq_true rfl⟩ | exact Nat.le_of_ble_eq_true rfl | (refine ⟨rfl, rfl, ?_⟩; simp [isFar, ofV0, CV.up, SV.renL, SV.ren] <;> fail) | (refine ⟨rfl, Nat.le_of_ble_eq_true rfl, ?_⟩; simp [isFar, ofV0, CV.up, SV.renL, SV.ren] <;> fail) | (simp only [List.length_append, List.length_drop, List.length_take, List.length_replicate, List.length_map]; omega) | (simp <;> fail))); conv => whnf) | (refine ⟨_, rfl, ?_⟩; conv => whnf)))
  refine Both.dec (fun h4 => ?_) (fun h4 => ?_)
  · obtain rfl : k = 0 := by omega
    rw [if_neg (by omega), if_pos (by omega)] at h
    (conv => whnf)
    (repeat (first | (exact Out.same; conv => whnf) | (exact Out1.same; conv => whnf) | (refine QAnd.mk ?_ ?_; conv => whnf) | (apply QStepH.go; conv => whnf) | (refine Both.lit_true ?_; conv => whnf) | (refine Both.lit_false ?_; conv => whnf) | (apply QStep.go; conv => whnf) | (refine Need.mk ?_ ?_; (focus (first | omega | exact ⟨by omega, by omega⟩ | rfl | exact ⟨rfl, rfl⟩ | exact ⟨rfl, by omega, by omega⟩ | exact ⟨by omega, by omega, by omega⟩ | exact ⟨rfl, Nat.le_of_ble_eq_true rfl⟩ | exact Nat.le_of_ble_eq_true rfl | (refine ⟨rfl, rfl, ?_⟩; simp [isFar, ofV0, CV.up, SV.renL, SV.ren] <;> fail) | (refine ⟨rfl, Nat.le_of_ble_eq_true rfl, ?_⟩; simp [isFar, ofV0, CV.up, SV.renL, SV.ren] <;> fail) | (simp only [List.length_append, List.length_drop, List.length_take, List.length_replicate, List.length_map]; omega) | (simp <;> fail))); conv => whnf) | (refine ⟨_, rfl, ?_⟩; conv => whnf)))
    refine CallVC.auto (leaves_k hK) ⟨l, [0], rfl, rfl, h60, hok, rfl, rfl, Nat.le_of_ble_eq_true rfl, fun x hx => by rw [List.mem_singleton.1 hx]; omega, ?_⟩
    (conv => whnf)
    (repeat (first | (exact Out.same; conv => whnf) | (exact Out1.same; conv => whnf) | (refine QAnd.mk ?_ ?_; conv => whnf) | (apply QStepH.go; conv => whnf) | (refine Both.lit_true ?_; conv => whnf) | (refine Both.lit_false ?_; conv => whnf) | (apply QStep.go; conv => whnf) | (refine Need.mk ?_ ?_; (focus (first | omega | exact ⟨by omega, by omega⟩ | rfl | exact ⟨rfl, rfl⟩ | exact ⟨rfl, by omega, by omega⟩ | exact ⟨by omega, by omega, by omega⟩ | exact ⟨rfl, Nat.le_of_ble_eq_true rfl⟩ | exact Nat.le_of_ble_eq_true rfl | (refine ⟨rfl, rfl, ?_⟩; simp [isFar, ofV0, CV.up, SV.renL, SV.ren] <;> fail) | (refine ⟨rfl, Nat.le_of_ble_eq_true rfl, ?_⟩; simp [isFar, ofV0, CV.up, SV.renL, SV.ren] <;> fail) | (simp only [List.length_append, List.length_drop, List.length_take, List.length_replicate, List.length_map]; omega) | (simp <;> fail))); conv => whnf) | (refine ⟨_, rfl, ?_⟩; conv => whnf)))
    exact ⟨_, _, WeakV.drop rfl, h⟩
  (conv => whnf)
  (repeat (first | (exact Out.same; conv => whnf) | (exact Out1.same; conv => whnf) | (refine QAnd.mk ?_ ?_; conv => whnf) | (apply QStepH.go; conv => whnf) | (refine Both.lit_true ?_; conv => whnf) | (refine Both.lit_false ?_; conv => whnf) | (apply QStep.go; conv => whnf) | (refine Need.mk ?_ ?_; (focus (first | omega | exact ⟨by omega, by omega⟩ | rfl | exact ⟨rfl, rfl⟩ | exact ⟨rfl, by omega, by omega⟩ | exact ⟨by omega, by omega, by omega⟩ | exact ⟨rfl, Nat.le_of_ble_eq_true rfl⟩ | exact Nat.le_of_ble_eq_true rfl | (refine ⟨rfl, rfl, ?_⟩; simp [isFar, ofV0, CV.up, SV.renL, SV.ren] <;> fail) | (refine ⟨rfl, Nat.le_of_ble_eq_true rfl, ?_⟩; simp [isFar, ofV0, CV.up, SV.renL, SV.ren] <;> fail) | (simp only [List.length_append, List.length_drop, List.length_take, List.length_replicate, List.length_map]; omega) | (simp <;> fail))); conv => whnf) | (refine ⟨_, rfl, ?_⟩; conv => whnf)))
  refine Both.dec (fun h5 => ?_) (fun h5 => ?_)
  · rw [if_pos (by omega), if_neg (by omega)] at h
    have hks : [CV.int .i64 (IntKind.i64.wrap ((k : Int) - 1))] = kInts [k - 1] := by
      rw [hw, show (k : Int) - 1 = ((k - 1 : Nat) : Int) by omega]
      rfl
    (conv => whnf)
    (repeat (first | (exact Out.same; conv => whnf) | (exact Out1.same; conv => whnf) | (refine QAnd.mk ?_ ?_; conv => whnf) | (apply QStepH.go; conv => whnf) | (refine Both.lit_true ?_; conv => whnf) | (refine Both.lit_false ?_; conv => whnf) | (apply QStep.go; conv => whnf) | (refine Need.mk ?_ ?_; (focus (first | omega | exact ⟨by omega, by omega⟩ | rfl | exact ⟨rfl, rfl⟩ | exact ⟨rfl, by omega, by omega⟩ | exact ⟨by omega, by omega, by omega⟩ | exact ⟨rfl, Nat.le_of_ble_eq_true rfl⟩ | exact Nat.le_of_ble_eq_true rfl | (refine ⟨rfl, rfl, ?_⟩; simp [isFar, ofV0, CV.up, SV.renL, SV.ren] <;> fail) | (refine ⟨rfl, Nat.le_of_ble_eq_true rfl, ?_⟩; simp [isFar, ofV0, CV.up, SV.renL, SV.ren] <;> fail) | (simp only [List.length_append, List.length_drop, List.length_take, List.length_replicate, List.length_map]; omega) | (simp <;> fail))); conv => whnf) | (refine ⟨_, rfl, ?_⟩; conv => whnf)))
    refine CallVC.auto (leaves_k hK) ⟨l, [k - 1], rfl, rfl, h60, hok, hks, rfl, Nat.le_of_ble_eq_true rfl, fun x hx => by rw [List.mem_singleton.1 hx]; omega, ?_⟩
    (conv => whnf)
    (repeat (first | (exact Out.same; conv => whnf) | (exact Out1.same; conv => whnf) | (refine QAnd.mk ?_ ?_; conv => whnf) | (apply QStepH.go; conv => whnf) | (refine Both.lit_true ?_; conv => whnf) | (refine Both.lit_false ?_; conv => whnf) | (apply QStep.go; conv => whnf) | (refine Need.mk ?_ ?_; (focus (first | omega | exact ⟨by omega, by omega⟩ | rfl | exact ⟨rfl, rfl⟩ | exact ⟨rfl, by omega, by omega⟩ | exact ⟨by omega, by omega, by omega⟩ | exact ⟨rfl, Nat.le_of_ble_eq_true rfl⟩ | exact Nat.le_of_ble_eq_true rfl | (refine ⟨rfl, rfl, ?_⟩; simp [isFar, ofV0, CV.up, SV.renL, SV.ren] <;> fail) | (refine ⟨rfl, Nat.le_of_ble_eq_true rfl, ?_⟩; simp [isFar, ofV0, CV.up, SV.renL, SV.ren] <;> fail) | (simp only [List.length_append, List.length_drop, List.length_take, List.length_replicate, List.length_map]; omega) | (simp <;> fail))); conv => whnf) | (refine ⟨_, rfl, ?_⟩; conv => whnf)))
    exact ⟨_, _, WeakV.drop rfl, h⟩
  · rw [if_pos (by omega), if_pos (by omega)] at h
    have hks : [CV.int .i64 (IntKind.i64.wrap ((k : Int) - 1)), CV.int .i64 (k : Int)] = kInts [k - 1, k] := by
      rw [hw, show (k : Int) - 1 = ((k - 1 : Nat) : Int) by omega]
      rfl
    (conv => whnf)
    (repeat (first | (exact Out.same; conv => whnf) | (exact Out1.same; conv => whnf) | (refine QAnd.mk ?_ ?_; conv => whnf) | (apply QStepH.go; conv => whnf) | (refine Both.lit_true ?_; conv => whnf) | (refine Both.lit_false ?_; conv => whnf) | (apply QStep.go; conv => whnf) | (refine Need.mk ?_ ?_; (focus (first | omega | exact ⟨by omega, by omega⟩ | rfl | exact ⟨rfl, rfl⟩ | exact ⟨rfl, by omega, by omega⟩ | exact ⟨by omega, by omega, by omega⟩ | exact ⟨rfl, Nat.le_of_ble_eq_true rfl⟩ | exact Nat.le_of_ble_eq_true rfl | (refine ⟨rfl, rfl, ?_⟩; simp [isFar, ofV0, CV.up, SV.renL, SV.ren] <;> fail) | (refine ⟨rfl, Nat.le_of_ble_eq_true rfl, ?_⟩; simp [isFar, ofV0, CV.up, SV.renL, SV.ren] <;> fail) | (simp only [List.length_append, List.length_drop, List.length_take, List.length_replicate, List.length_map]; omega) | (simp <;> fail))); conv => whnf) | (refine ⟨_, rfl, ?_⟩; conv => whnf)))
    refine CallVC.auto (leaves_k hK) ⟨l, [k - 1, k], rfl, rfl, h60, hok, hks, rfl, Nat.le_of_ble_eq_true rfl, fun x hx => ?_, ?_⟩
    · rcases List.mem_cons.1 hx with rfl | hx
      · omega
      · rw [List.mem_singleton.1 hx]
        omega
    (conv => whnf)
    (repeat (first | (exact Out.same; conv => whnf) | (exact Out1.same; conv => whnf) | (refine QAnd.mk ?_ ?_; conv => whnf) | (apply QStepH.go; conv => whnf) | (refine Both.lit_true ?_; conv => whnf) | (refine Both.lit_false ?_; conv => whnf) | (apply QStep.go; conv => whnf) | (refine Need.mk ?_ ?_; (focus (first | omega | exact ⟨by omega, by omega⟩ | rfl | exact ⟨rfl, rfl⟩ | exact ⟨rfl, by omega, by omega⟩ | exact ⟨by omega, by omega, by omega⟩ | exact ⟨rfl, Nat.le_of_ble_eq_true rfl⟩ | exact Nat.le_of_ble_eq_true rfl | (refine ⟨rfl, rfl, ?_⟩; simp [isFar, ofV0, CV.up, SV.renL, SV.ren] <;> fail) | (refine ⟨rfl, Nat.le_of_ble_eq_true rfl, ?_⟩; simp [isFar, ofV0, CV.up, SV.renL, SV.ren] <;> fail) | (simp only [List.length_append, List.length_drop, List.length_take, List.length_replicate, List.length_map]; omega) | (simp <;> fail))); conv => whnf) | (refine ⟨_, rfl, ?_⟩; conv => whnf)))
    exact ⟨_, _, WeakV.drop rfl, h⟩
theorem mabs_k {y0 : CV} {cs0 : List CV} (hK : KAt y0 cs0) : Contract Tryd.prog [(0, y0 :: cs0)] 11 absS := ⟨⟨⟨_, rfl, rfl, rfl⟩⟩, mabs_c hK⟩
end Go.LX
end
section
set_option maxRecDepth 100000
set_option maxHeartbeats 2000000
set_option autoImplicit false
set_option linter.unusedVariables false
set_option linter.unusedSimpArgs false
namespace Go.LX
open Go.Proofs

/-! ## The document's proofs -/
def rpathPS : Spec := fun args H Q => match args with
  | [.ptr 0 0, .sl 2 n cs f, .int .i64 x] => inB H fun T => ∃ l : List Pr, n = l.length ∧ cs = flP l ∧ l.length < 60000 ∧ (∀ p ∈ l, okP p) ∧ Q (.sl 1 (pathO l x).length (strs (pathO l x)) false) (bkO (pathU l x T))
  | _ => False
theorem rpathP_k : Contract Tryd.prog [] 55 rpathPS := rpathO_k.post fun args H Q h => by
  unfold rpathPS at h
  split at h
  case h_2 => exact h.elim
  rename_i n cs f x
  obtain ⟨T, rfl, l, rfl, rfl, h60, hok, h⟩ := inB_out h
  refine inB_mk ⟨l, rfl, rfl, h60, hok, _, _, WeakV.of ((Weak.pubT (e := 9) (sz := 1) (n := (pathO l x).length) (xs := strs (pathO l x)) (wr := true) 2 rfl).trans (Weak.auto ?_)), h⟩
  (repeat' ((conv => whnf); first | exact True.intro | (refine And.intro ?_ ?_)))
  all_goals first | rfl | exact .eq rfl
def rleaf9S : Spec := fun args H Q => match args with
  | [.ptr 0 0, .sl 2 n cs f, .int .i64 x] => inB H fun T => ∃ (l : List Pr) (k : Nat), n = l.length ∧ cs = flP l ∧ l.length < 60000 ∧ (∀ p ∈ l, okP p) ∧ x = k ∧ k < l.length ∧ Q (lfSV (madeL l k)) (bkO (pathU l x T))
  | _ => False
theorem rleaf9_c : Meets Tryd.prog [] 26 rleaf9S := by
  refine meets_of Γok Tryd.func26 rfl ?_
  intro args H Q h
  unfold rleaf9S at h
  split at h
  case h_2 => exact h.elim
  rename_i n cs f x
  obtain ⟨T, rfl, l, k, rfl, rfl, h60, hok, rfl, hk, h⟩ := inB_out h
  have hpo : pathO l (k : Int) = pathP l k := by
    unfold pathO
    rw [if_neg (by omega), Int.toNat_natCast]
  have h : Q (.agg [.int .i64 (k : Int), .int .i64 ((l.length : Nat) : Int), .str (l.getD k ([], [])).1, .str (l.getD k ([], [])).2, .sl 1 (pathO l (k : Int)).length (strs (pathO l (k : Int))) false]) (bkO (pathU l (k : Int) T)) := by
    rw [hpo]
    exact h
  have hat2 := flP_at l hk
  have hix : ti38.size = 2 ∧ (0 : Int) ≤ (k : Int) ∧ (k : Int) < ((l.length : Nat) : Int) := ⟨rfl, by omega, by omega⟩
  (refine sx_sound Γok _ ?_; conv => whnf)
  (repeat (first | (exact Out.same; conv => whnf) | (exact Out1.same; conv => whnf) | (refine QAnd.mk ?_ ?_; conv => whnf) | (apply QStepH.go; conv => whnf) | (refine Both.lit_true ?_; conv => whnf) | (refine Both.lit_false ?_; conv => whnf) | (apply QStep.go; conv => whnf) | (refine Need.mk ?_ ?_; (focus (first | omega | exact ⟨by omega, by omega⟩ | rfl | exact ⟨rfl, rfl⟩ | exact ⟨rfl, by omega, by omega⟩ | exact ⟨by omega, by omega, by omega⟩ | exact ⟨rfl, Nat.le_of_ble_eq_true rfl⟩ | exact Nat.le_of_ble_eq_true rfl | (refine ⟨rfl, rfl, ?_⟩; simp [isFar, ofV0, CV.up, SV.renL, SV.ren] <;> fail) | (refine ⟨rfl, Nat.le_of_ble_eq_true rfl, ?_⟩; simp [isFar, ofV0, CV.up, SV.renL, SV.ren] <;> fail) | (simp only [List.length_append, List.length_drop, List.length_take, List.length_replicate, List.length_map]; omega) | (simp <;> fail))); conv => whnf) | (refine ⟨_, rfl, ?_⟩; conv => whnf)))
  (refine DrawVC.any Γok (by kernel_rfl) (by kernel_rfl) (by kernel_rfl) (by rfl) ?_; conv => whnf)
  (repeat (first | (refine Need.mk hix ?_; conv => whnf) | (refine ⟨_, hat2, ?_⟩; conv => whnf) | (refine CallVC.auto rpathP_k (inB_mk ⟨l, rfl, rfl, h60, hok, ?_⟩); conv => whnf) | (exact Out.same; conv => whnf) | (exact Out1.same; conv => whnf) | (refine QAnd.mk ?_ ?_; conv => whnf) | (apply QStepH.go; conv => whnf) | (refine Both.lit_true ?_; conv => whnf) | (refine Both.lit_false ?_; conv => whnf) | (apply QStep.go; conv => whnf) | (refine Need.mk ?_ ?_; (focus (first | omega | exact ⟨by omega, by omega⟩ | rfl | exact ⟨rfl, rfl⟩ | exact ⟨rfl, by omega, by omega⟩ | exact ⟨by omega, by omega, by omega⟩ | exact ⟨rfl, Nat.le_of_ble_eq_true rfl⟩ | exact Nat.le_of_ble_eq_true rfl | (refine ⟨rfl, rfl, ?_⟩; simp [isFar, ofV0, CV.up, SV.renL, SV.ren] <;> fail) | (refine ⟨rfl, Nat.le_of_ble_eq_true rfl, ?_⟩; simp [isFar, ofV0, CV.up, SV.renL, SV.ren] <;> fail) | (simp only [List.length_append, List.length_drop, List.length_take, List.length_replicate, List.length_map]; omega) | (simp <;> fail))); conv => whnf) | (refine ⟨_, rfl, ?_⟩; conv => whnf)))
  refine ⟨_, _, WeakV.auto ?_, h⟩
  (repeat' ((conv => whnf); first | exact True.intro | (refine And.intro ?_ ?_)))
  all_goals first | rfl | exact .eq rfl
theorem rleaf9_k : Contract Tryd.prog [] 26 rleaf9S := ⟨⟨⟨_, rfl, rfl, rfl⟩⟩, rleaf9_c⟩
theorem CR.flag {I : Nat → Prop} {w : World} {s n : Nat} {cs : List CV} {full : Bool} {v : Value} (h : CR I w (.sl s n cs full) v) : CR I w (.sl s n cs false) v := by
  cases h with
  | sl0 => exact .sl0 s false
  | sl a c vs hl hv hc hf hI hw h5 => exact .sl a c vs hl hv hc (fun e => by cases e) hI hw h5
theorem vr_flag2 {E : Env} {w : World} {a full : Bool} {s n : Nat} {cs : List CV} {x : SV} {v : Value} (h : VR E w (.tuple [.agg [.bool a, .sl s n cs full], x]) v) : VR E w (.tuple [.agg [.bool a, .sl s n cs false], x]) v := by
  cases h with
  | tuple vs hl h =>
    refine .tuple vs hl (fun j y v hx hv => ?_)
    match j with
    | 0 =>
      cases hx
      have h0 := h 0 _ v rfl hv
      cases h0 with
      | agg ws hw g =>
        refine .agg ws hw (fun i y u hy hu => ?_)
        match i with
        | 0 => cases hy; exact g 0 _ u rfl hu
        | 1 =>
          cases hy
          have g1 := g 1 _ u rfl hu
          cases g1 with
          | sl g2 => exact .sl g2.flag
        | i + 2 => simp at hy
    | 1 => cases hx; exact h 1 _ v rfl hv
    | j + 2 => simp at hx
def rpresS : Spec := fun args H Q => match args with
  | [.ptr 0 0, .sl 2 n cs f, .str t] => inB H fun T => ∃ l : List Pr, n = l.length ∧ cs = flP l ∧ l.length < 60000 ∧ (∀ p ∈ l, okP p) ∧ sortB l ∧ ∀ k L e T', IsPlace l t k → (L, e) = presV l t k → Q (.tuple [prSV false L, .int .i64 e]) (bkO T')
  | _ => False
theorem rpres_c : Meets Tryd.prog [] 10 rpresS := by
  refine meets_of Γok Tryd.func10 rfl ?_
  intro args H Q h
  unfold rpresS at h
  split at h
  case h_2 => exact h.elim
  rename_i n cs f t
  obtain ⟨T, rfl, l, rfl, rfl, h60, hok, hsort, h⟩ := inB_out h
  (refine sx_sound Γok _ ?_; conv => whnf)
  (repeat (first | (exact Out.same; conv => whnf) | (exact Out1.same; conv => whnf) | (refine QAnd.mk ?_ ?_; conv => whnf) | (apply QStepH.go; conv => whnf) | (refine Both.lit_true ?_; conv => whnf) | (refine Both.lit_false ?_; conv => whnf) | (apply QStep.go; conv => whnf) | (refine Need.mk ?_ ?_; (focus (first | omega | exact ⟨by omega, by omega⟩ | rfl | exact ⟨rfl, rfl⟩ | exact ⟨rfl, by omega, by omega⟩ | exact ⟨by omega, by omega, by omega⟩ | exact ⟨rfl, Nat.le_of_ble_eq_true rfl⟩ | exact Nat.le_of_ble_eq_true rfl | (refine ⟨rfl, rfl, ?_⟩; simp [isFar, ofV0, CV.up, SV.renL, SV.ren] <;> fail) | (refine ⟨rfl, Nat.le_of_ble_eq_true rfl, ?_⟩; simp [isFar, ofV0, CV.up, SV.renL, SV.ren] <;> fail) | (simp only [List.length_append, List.length_drop, List.length_take, List.length_replicate, List.length_map]; omega) | (simp <;> fail))); conv => whnf) | (refine ⟨_, rfl, ?_⟩; conv => whnf)))
  refine CallVC.auto place_k ⟨l, rfl, rfl, by omega, hsort, fun k hk => ?_⟩
  have hkl := hk.le
  by_cases hc : k < l.length ∧ kAt l k = t
  · have h := fun T' => h k _ _ T' hk (if_pos hc).symm
    have c1 : decide ((k : Int) = ((l.length : Nat) : Int)) = false := decide_eq_false (by omega)
    have c2 : (!decide ((l.getD k ([], [])).1 = t)) = false := by rw [decide_eq_true (show (l.getD k ([], [])).1 = t from hc.2)]; rfl
    have hat2 := flP_at l hc.1
    have hix : ti38.size = 2 ∧ (0 : Int) ≤ (k : Int) ∧ (k : Int) < ((l.length : Nat) : Int) := ⟨rfl, by omega, by omega⟩
    (conv => whnf)
    (repeat (first | (refine Both.of_false c1 ?_; conv => whnf) | (refine Need.mk hix ?_; conv => whnf) | (refine ⟨_, hat2, ?_⟩; conv => whnf) | (refine Both.of_false c2 ?_; conv => whnf) | (refine CallVC.auto rleaf9_k (inB_mk ⟨l, k, rfl, rfl, h60, hok, rfl, hc.1, ?_⟩); conv => whnf) | (exact Out.same; conv => whnf) | (exact Out1.same; conv => whnf) | (refine QAnd.mk ?_ ?_; conv => whnf) | (apply QStepH.go; conv => whnf) | (refine Both.lit_true ?_; conv => whnf) | (refine Both.lit_false ?_; conv => whnf) | (apply QStep.go; conv => whnf) | (refine Need.mk ?_ ?_; (focus (first | omega | exact ⟨by omega, by omega⟩ | rfl | exact ⟨rfl, rfl⟩ | exact ⟨rfl, by omega, by omega⟩ | exact ⟨by omega, by omega, by omega⟩ | exact ⟨rfl, Nat.le_of_ble_eq_true rfl⟩ | exact Nat.le_of_ble_eq_true rfl | (refine ⟨rfl, rfl, ?_⟩; simp [isFar, ofV0, CV.up, SV.renL, SV.ren] <;> fail) | (refine ⟨rfl, Nat.le_of_ble_eq_true rfl, ?_⟩; simp [isFar, ofV0, CV.up, SV.renL, SV.ren] <;> fail) | (simp only [List.length_append, List.length_drop, List.length_take, List.length_replicate, List.length_map]; omega) | (simp <;> fail))); conv => whnf) | (refine ⟨_, rfl, ?_⟩; conv => whnf)))
    refine ⟨_, _, (WeakV.val fun E w v => vr_flag2).trans (WeakV.auto ?_), h (pathU l (k : Int) T)⟩
    (repeat' ((conv => whnf); first | exact True.intro | (refine And.intro ?_ ?_)))
    all_goals first | rfl | exact .eq rfl
  · have h := h k _ _ T hk (if_neg hc).symm
    refine Both.dec (fun h1 => ?_) (fun h1 => ?_)
    · (conv => whnf)
      (repeat (first | (exact Out.same; conv => whnf) | (exact Out1.same; conv => whnf) | (refine QAnd.mk ?_ ?_; conv => whnf) | (apply QStepH.go; conv => whnf) | (refine Both.lit_true ?_; conv => whnf) | (refine Both.lit_false ?_; conv => whnf) | (apply QStep.go; conv => whnf) | (refine Need.mk ?_ ?_; (focus (first | omega | exact ⟨by omega, by omega⟩ | rfl | exact ⟨rfl, rfl⟩ | exact ⟨rfl, by omega, by omega⟩ | exact ⟨by omega, by omega, by omega⟩ | exact ⟨rfl, Nat.le_of_ble_eq_true rfl⟩ | exact Nat.le_of_ble_eq_true rfl | (refine ⟨rfl, rfl, ?_⟩; simp [isFar, ofV0, CV.up, SV.renL, SV.ren] <;> fail) | (refine ⟨rfl, Nat.le_of_ble_eq_true rfl, ?_⟩; simp [isFar, ofV0, CV.up, SV.renL, SV.ren] <;> fail) | (simp only [List.length_append, List.length_drop, List.length_take, List.length_replicate, List.length_map]; omega) | (simp <;> fail))); conv => whnf) | (refine ⟨_, rfl, ?_⟩; conv => whnf)))
      refine ⟨_, _, (WeakV.val fun E w v => vr_nil2 5).trans (WeakV.auto ?_), h⟩
      (repeat' ((conv => whnf); first | exact True.intro | (refine And.intro ?_ ?_)))
      all_goals first | rfl | exact .eq rfl
    · have hkl2 : k < l.length := by omega
      have c2 : (!decide ((l.getD k ([], [])).1 = t)) = true := by rw [decide_eq_false (show ¬ (l.getD k ([], [])).1 = t from fun q => hc ⟨hkl2, q⟩)]; rfl
      have hat2 := flP_at l hkl2
      have hix : ti38.size = 2 ∧ (0 : Int) ≤ (k : Int) ∧ (k : Int) < ((l.length : Nat) : Int) := ⟨rfl, by omega, by omega⟩
      (conv => whnf)
      (repeat (first | (refine Need.mk hix ?_; conv => whnf) | (refine ⟨_, hat2, ?_⟩; conv => whnf) | (refine Both.of_true c2 ?_; conv => whnf) | (exact Out.same; conv => whnf) | (exact Out1.same; conv => whnf) | (refine QAnd.mk ?_ ?_; conv => whnf) | (apply QStepH.go; conv => whnf) | (refine Both.lit_true ?_; conv => whnf) | (refine Both.lit_false ?_; conv => whnf) | (apply QStep.go; conv => whnf) | (refine Need.mk ?_ ?_; (focus (first | omega | exact ⟨by omega, by omega⟩ | rfl | exact ⟨rfl, rfl⟩ | exact ⟨rfl, by omega, by omega⟩ | exact ⟨by omega, by omega, by omega⟩ | exact ⟨rfl, Nat.le_of_ble_eq_true rfl⟩ | exact Nat.le_of_ble_eq_true rfl | (refine ⟨rfl, rfl, ?_⟩; simp [isFar, ofV0, CV.up, SV.renL, SV.ren] <;> fail) | (refine ⟨rfl, Nat.le_of_ble_eq_true rfl, ?_⟩; simp [isFar, ofV0, CV.up, SV.renL, SV.ren] <;> fail) | (simp only [List.length_append, List.length_drop, List.length_take, List.length_replicate, List.length_map]; omega) | (simp <;> fail))); conv => whnf) | (refine ⟨_, rfl, ?_⟩; conv => whnf)))
      refine ⟨_, _, (WeakV.val fun E w v => vr_nil2 5).trans (WeakV.auto ?_), h⟩
      (repeat' ((conv => whnf); first | exact True.intro | (refine And.intro ?_ ?_)))
      all_goals first | rfl | exact .eq rfl
theorem rpres_k : Contract Tryd.prog [] 10 rpresS := ⟨⟨⟨_, rfl, rfl, rfl⟩⟩, rpres_c⟩
theorem far2 {a f : Bool} {s n : Nat} {cs : List CV} : ∀ y ∈ [SV.bool a, SV.sl s n cs f], isFar y := by
  intro y hy
  rcases List.mem_cons.1 hy with rfl | hy
  · trivial
  · rw [List.mem_singleton.1 hy]
    trivial
def rabsS : Spec := fun args H Q => match args with
  | [.ptr 0 0, .sl 2 n cs f, .str t] => inB H fun T => ∃ l : List Pr, n = l.length ∧ cs = flP l ∧ l.length < 60000 ∧ (∀ p ∈ l, okP p) ∧ sortB l ∧ ∀ k a L e T', IsPlace l t k → (a, L, e) = absV l t k → Q (.tuple [prSV a L, .int .i64 e]) (bkO T')
  | _ => False
theorem rabs_c : Meets Tryd.prog [] 12 rabsS := by
  refine meets_of Γok Tryd.func12 rfl ?_
  intro args H Q h
  unfold rabsS at h
  split at h
  case h_2 => exact h.elim
  rename_i n cs f t
  obtain ⟨T, rfl, l, rfl, rfl, h60, hok, hsort, h⟩ := inB_out h
  obtain ⟨k0, hk0⟩ := place_ex hsort t
  (refine sx_sound Γok _ ?_; conv => whnf)
  (repeat (first | (exact Out.same; conv => whnf) | (exact Out1.same; conv => whnf) | (refine QAnd.mk ?_ ?_; conv => whnf) | (apply QStepH.go; conv => whnf) | (refine Both.lit_true ?_; conv => whnf) | (refine Both.lit_false ?_; conv => whnf) | (apply QStep.go; conv => whnf) | (refine Need.mk ?_ ?_; (focus (first | omega | exact ⟨by omega, by omega⟩ | rfl | exact ⟨rfl, rfl⟩ | exact ⟨rfl, by omega, by omega⟩ | exact ⟨by omega, by omega, by omega⟩ | exact ⟨rfl, Nat.le_of_ble_eq_true rfl⟩ | exact Nat.le_of_ble_eq_true rfl | (refine ⟨rfl, rfl, ?_⟩; simp [isFar, ofV0, CV.up, SV.renL, SV.ren] <;> fail) | (refine ⟨rfl, Nat.le_of_ble_eq_true rfl, ?_⟩; simp [isFar, ofV0, CV.up, SV.renL, SV.ren] <;> fail) | (simp only [List.length_append, List.length_drop, List.length_take, List.length_replicate, List.length_map]; omega) | (simp <;> fail))); conv => whnf) | (refine ⟨_, rfl, ?_⟩; conv => whnf)))
  refine Both.dec (fun h1 => ?_) (fun h1 => ?_)
  · have h := h k0 _ _ _ T hk0 (abs_bad (.inl (by omega))).symm
    (conv => whnf)
    (repeat (first | (exact Out.same; conv => whnf) | (exact Out1.same; conv => whnf) | (refine QAnd.mk ?_ ?_; conv => whnf) | (apply QStepH.go; conv => whnf) | (refine Both.lit_true ?_; conv => whnf) | (refine Both.lit_false ?_; conv => whnf) | (apply QStep.go; conv => whnf) | (refine Need.mk ?_ ?_; (focus (first | omega | exact ⟨by omega, by omega⟩ | rfl | exact ⟨rfl, rfl⟩ | exact ⟨rfl, by omega, by omega⟩ | exact ⟨by omega, by omega, by omega⟩ | exact ⟨rfl, Nat.le_of_ble_eq_true rfl⟩ | exact Nat.le_of_ble_eq_true rfl | (refine ⟨rfl, rfl, ?_⟩; simp [isFar, ofV0, CV.up, SV.renL, SV.ren] <;> fail) | (refine ⟨rfl, Nat.le_of_ble_eq_true rfl, ?_⟩; simp [isFar, ofV0, CV.up, SV.renL, SV.ren] <;> fail) | (simp only [List.length_append, List.length_drop, List.length_take, List.length_replicate, List.length_map]; omega) | (simp <;> fail))); conv => whnf) | (refine ⟨_, rfl, ?_⟩; conv => whnf)))
    refine ⟨_, _, (WeakV.val fun E w v => vr_nil2 5).trans (WeakV.auto ?_), h⟩
    (repeat' ((conv => whnf); first | exact True.intro | (refine And.intro ?_ ?_)))
    all_goals first | rfl | exact .eq rfl
  (conv => whnf)
  (repeat (first | (exact Out.same; conv => whnf) | (exact Out1.same; conv => whnf) | (refine QAnd.mk ?_ ?_; conv => whnf) | (apply QStepH.go; conv => whnf) | (refine Both.lit_true ?_; conv => whnf) | (refine Both.lit_false ?_; conv => whnf) | (apply QStep.go; conv => whnf) | (refine Need.mk ?_ ?_; (focus (first | omega | exact ⟨by omega, by omega⟩ | rfl | exact ⟨rfl, rfl⟩ | exact ⟨rfl, by omega, by omega⟩ | exact ⟨by omega, by omega, by omega⟩ | exact ⟨rfl, Nat.le_of_ble_eq_true rfl⟩ | exact Nat.le_of_ble_eq_true rfl | (refine ⟨rfl, rfl, ?_⟩; simp [isFar, ofV0, CV.up, SV.renL, SV.ren] <;> fail) | (refine ⟨rfl, Nat.le_of_ble_eq_true rfl, ?_⟩; simp [isFar, ofV0, CV.up, SV.renL, SV.ren] <;> fail) | (simp only [List.length_append, List.length_drop, List.length_take, List.length_replicate, List.length_map]; omega) | (simp <;> fail))); conv => whnf) | (refine ⟨_, rfl, ?_⟩; conv => whnf)))
  refine Both.dec (fun h2 => ?_) (fun h2 => ?_)
  · have h := h k0 _ _ _ T hk0 (abs_bad (.inr (by omega))).symm
    (conv => whnf)
    (repeat (first | (exact Out.same; conv => whnf) | (exact Out1.same; conv => whnf) | (refine QAnd.mk ?_ ?_; conv => whnf) | (apply QStepH.go; conv => whnf) | (refine Both.lit_true ?_; conv => whnf) | (refine Both.lit_false ?_; conv => whnf) | (apply QStep.go; conv => whnf) | (refine Need.mk ?_ ?_; (focus (first | omega | exact ⟨by omega, by omega⟩ | rfl | exact ⟨rfl, rfl⟩ | exact ⟨rfl, by omega, by omega⟩ | exact ⟨by omega, by omega, by omega⟩ | exact ⟨rfl, Nat.le_of_ble_eq_true rfl⟩ | exact Nat.le_of_ble_eq_true rfl | (refine ⟨rfl, rfl, ?_⟩; simp [isFar, ofV0, CV.up, SV.renL, SV.ren] <;> fail) | (refine ⟨rfl, Nat.le_of_ble_eq_true rfl, ?_⟩; simp [isFar, ofV0, CV.up, SV.renL, SV.ren] <;> fail) | (simp only [List.length_append, List.length_drop, List.length_take, List.length_replicate, List.length_map]; omega) | (simp <;> fail))); conv => whnf) | (refine ⟨_, rfl, ?_⟩; conv => whnf)))
    refine ⟨_, _, (WeakV.val fun E w v => vr_nil2 5).trans (WeakV.auto ?_), h⟩
    (repeat' ((conv => whnf); first | exact True.intro | (refine And.intro ?_ ?_)))
    all_goals first | rfl | exact .eq rfl
  have hnb : ¬ (t.length < 1 ∨ 16 < t.length) := by omega
  (conv => whnf)
  (repeat (first | (exact Out.same; conv => whnf) | (exact Out1.same; conv => whnf) | (refine QAnd.mk ?_ ?_; conv => whnf) | (apply QStepH.go; conv => whnf) | (refine Both.lit_true ?_; conv => whnf) | (refine Both.lit_false ?_; conv => whnf) | (apply QStep.go; conv => whnf) | (refine Need.mk ?_ ?_; (focus (first | omega | exact ⟨by omega, by omega⟩ | rfl | exact ⟨rfl, rfl⟩ | exact ⟨rfl, by omega, by omega⟩ | exact ⟨by omega, by omega, by omega⟩ | exact ⟨rfl, Nat.le_of_ble_eq_true rfl⟩ | exact Nat.le_of_ble_eq_true rfl | (refine ⟨rfl, rfl, ?_⟩; simp [isFar, ofV0, CV.up, SV.renL, SV.ren] <;> fail) | (refine ⟨rfl, Nat.le_of_ble_eq_true rfl, ?_⟩; simp [isFar, ofV0, CV.up, SV.renL, SV.ren] <;> fail) | (simp only [List.length_append, List.length_drop, List.length_take, List.length_replicate, List.length_map]; omega) | (simp <;> fail))); conv => whnf) | (refine ⟨_, rfl, ?_⟩; conv => whnf)))
  refine CallVC.auto place_k ⟨l, rfl, rfl, by omega, hsort, fun k hk => ?_⟩
  have hkl := hk.le
  by_cases hc : k < l.length ∧ kAt l k = t
  · have h := h k _ _ _ T hk (abs_found hnb hc).symm
    have c1 : decide ((k : Int) < ((l.length : Nat) : Int)) = true := decide_eq_true (by omega)
    have c2 : decide ((l.getD k ([], [])).1 = t) = true := decide_eq_true hc.2
    have hat2 := flP_at l hc.1
    have hix : ti38.size = 2 ∧ (0 : Int) ≤ (k : Int) ∧ (k : Int) < ((l.length : Nat) : Int) := ⟨rfl, by omega, by omega⟩
    (conv => whnf)
    (repeat (first | (refine Both.of_true c1 ?_; conv => whnf) | (refine Need.mk hix ?_; conv => whnf) | (refine ⟨_, hat2, ?_⟩; conv => whnf) | (refine Both.of_true c2 ?_; conv => whnf) | (exact Out.same; conv => whnf) | (exact Out1.same; conv => whnf) | (refine QAnd.mk ?_ ?_; conv => whnf) | (apply QStepH.go; conv => whnf) | (refine Both.lit_true ?_; conv => whnf) | (refine Both.lit_false ?_; conv => whnf) | (apply QStep.go; conv => whnf) | (refine Need.mk ?_ ?_; (focus (first | omega | exact ⟨by omega, by omega⟩ | rfl | exact ⟨rfl, rfl⟩ | exact ⟨rfl, by omega, by omega⟩ | exact ⟨by omega, by omega, by omega⟩ | exact ⟨rfl, Nat.le_of_ble_eq_true rfl⟩ | exact Nat.le_of_ble_eq_true rfl | (refine ⟨rfl, rfl, ?_⟩; simp [isFar, ofV0, CV.up, SV.renL, SV.ren] <;> fail) | (refine ⟨rfl, Nat.le_of_ble_eq_true rfl, ?_⟩; simp [isFar, ofV0, CV.up, SV.renL, SV.ren] <;> fail) | (simp only [List.length_append, List.length_drop, List.length_take, List.length_replicate, List.length_map]; omega) | (simp <;> fail))); conv => whnf) | (refine ⟨_, rfl, ?_⟩; conv => whnf)))
    refine ⟨_, _, (WeakV.val fun E w v => vr_nil2 5).trans (WeakV.auto ?_), h⟩
    (repeat' ((conv => whnf); first | exact True.intro | (refine And.intro ?_ ?_)))
    all_goals first | rfl | exact .eq rfl
  have h := fun T' => h k _ _ _ T' hk (abs_yes hnb hc).symm
  have hw : IntKind.i64.wrap ((k : Int) - 1) = (k : Int) - 1 := wrap_i64 (by omega) (by omega)
  have hw1 : 0 < k → IntKind.i64.wrap ((k : Int) - 1) = ((k - 1 : Nat) : Int) := fun q => by rw [hw]; omega
  by_cases h3 : k < l.length
  · have c1 : decide ((k : Int) < ((l.length : Nat) : Int)) = true := decide_eq_true (by omega)
    have c2 : decide ((l.getD k ([], [])).1 = t) = false := decide_eq_false (fun q => hc ⟨h3, q⟩)
    have hat2 := flP_at l h3
    have hix : ti38.size = 2 ∧ (0 : Int) ≤ (k : Int) ∧ (k : Int) < ((l.length : Nat) : Int) := ⟨rfl, by omega, by omega⟩
    by_cases h4 : 0 < k
    · have c3 : decide ((0 : Int) < (k : Int)) = true := decide_eq_true (by omega)
      have hkm : k - 1 < l.length := by omega
      have h := fun T' => h T'
      rw [if_pos h4, if_pos h3] at h
      (conv => whnf)
      (repeat (first | (refine Both.of_true c1 ?_; conv => whnf) | (refine Need.mk hix ?_; conv => whnf) | (refine ⟨_, hat2, ?_⟩; conv => whnf) | (refine Both.of_false c2 ?_; conv => whnf) | (refine Both.of_true c3 ?_; conv => whnf) | (exact Out.same; conv => whnf) | (exact Out1.same; conv => whnf) | (refine QAnd.mk ?_ ?_; conv => whnf) | (apply QStepH.go; conv => whnf) | (refine Both.lit_true ?_; conv => whnf) | (refine Both.lit_false ?_; conv => whnf) | (apply QStep.go; conv => whnf) | (refine Need.mk ?_ ?_; (focus (first | omega | exact ⟨by omega, by omega⟩ | rfl | exact ⟨rfl, rfl⟩ | exact ⟨rfl, by omega, by omega⟩ | exact ⟨by omega, by omega, by omega⟩ | exact ⟨rfl, Nat.le_of_ble_eq_true rfl⟩ | exact Nat.le_of_ble_eq_true rfl | (refine ⟨rfl, rfl, ?_⟩; simp [isFar, ofV0, CV.up, SV.renL, SV.ren] <;> fail) | (refine ⟨rfl, Nat.le_of_ble_eq_true rfl, ?_⟩; simp [isFar, ofV0, CV.up, SV.renL, SV.ren] <;> fail) | (simp only [List.length_append, List.length_drop, List.length_take, List.length_replicate, List.length_map]; omega) | (simp <;> fail))); conv => whnf) | (refine ⟨_, rfl, ?_⟩; conv => whnf)))
      (refine DrawVC.any Γok (by kernel_rfl) (by kernel_rfl) (by kernel_rfl) (by rfl) ?_; conv => whnf)
      (repeat (first | (refine CallVC.auto rleaf9_k (inB_mk ⟨l, k - 1, rfl, rfl, h60, hok, hw1 h4, hkm, ?_⟩); conv => whnf) | (refine Both.of_true c1 ?_; conv => whnf) | (exact Out.same; conv => whnf) | (exact Out1.same; conv => whnf) | (refine QAnd.mk ?_ ?_; conv => whnf) | (apply QStepH.go; conv => whnf) | (refine Both.lit_true ?_; conv => whnf) | (refine Both.lit_false ?_; conv => whnf) | (apply QStep.go; conv => whnf) | (refine Need.mk ?_ ?_; (focus (first | omega | exact ⟨by omega, by omega⟩ | rfl | exact ⟨rfl, rfl⟩ | exact ⟨rfl, by omega, by omega⟩ | exact ⟨by omega, by omega, by omega⟩ | exact ⟨rfl, Nat.le_of_ble_eq_true rfl⟩ | exact Nat.le_of_ble_eq_true rfl | (refine ⟨rfl, rfl, ?_⟩; simp [isFar, ofV0, CV.up, SV.renL, SV.ren] <;> fail) | (refine ⟨rfl, Nat.le_of_ble_eq_true rfl, ?_⟩; simp [isFar, ofV0, CV.up, SV.renL, SV.ren] <;> fail) | (simp only [List.length_append, List.length_drop, List.length_take, List.length_replicate, List.length_map]; omega) | (simp <;> fail))); conv => whnf) | (refine ⟨_, rfl, ?_⟩; conv => whnf)))
      refine DrawVC.postWeak ?_
      (refine DrawVC.any Γok (by kernel_rfl) (by kernel_rfl) (by kernel_rfl) (by rfl) ?_; conv => whnf)
      (repeat (first | (refine CallVC.auto rleaf9_k (inB_mk ⟨l, k, rfl, rfl, h60, hok, rfl, h3, ?_⟩); conv => whnf) | (exact Out.same; conv => whnf) | (exact Out1.same; conv => whnf) | (refine QAnd.mk ?_ ?_; conv => whnf) | (apply QStepH.go; conv => whnf) | (refine Both.lit_true ?_; conv => whnf) | (refine Both.lit_false ?_; conv => whnf) | (apply QStep.go; conv => whnf) | (refine Need.mk ?_ ?_; (focus (first | omega | exact ⟨by omega, by omega⟩ | rfl | exact ⟨rfl, rfl⟩ | exact ⟨rfl, by omega, by omega⟩ | exact ⟨by omega, by omega, by omega⟩ | exact ⟨rfl, Nat.le_of_ble_eq_true rfl⟩ | exact Nat.le_of_ble_eq_true rfl | (refine ⟨rfl, rfl, ?_⟩; simp [isFar, ofV0, CV.up, SV.renL, SV.ren] <;> fail) | (refine ⟨rfl, Nat.le_of_ble_eq_true rfl, ?_⟩; simp [isFar, ofV0, CV.up, SV.renL, SV.ren] <;> fail) | (simp only [List.length_append, List.length_drop, List.length_take, List.length_replicate, List.length_map]; omega) | (simp <;> fail))); conv => whnf) | (refine ⟨_, rfl, ?_⟩; conv => whnf)))
      refine ⟨_, Weak.pub 5 3 rfl rfl, ?_⟩
      (conv => whnf)
      (repeat (first | (refine Need.mk ⟨rfl, rfl, far2⟩ ?_; conv => whnf) | (exact Out.same; conv => whnf) | (exact Out1.same; conv => whnf) | (refine QAnd.mk ?_ ?_; conv => whnf) | (apply QStepH.go; conv => whnf) | (refine Both.lit_true ?_; conv => whnf) | (refine Both.lit_false ?_; conv => whnf) | (apply QStep.go; conv => whnf) | (refine Need.mk ?_ ?_; (focus (first | omega | exact ⟨by omega, by omega⟩ | rfl | exact ⟨rfl, rfl⟩ | exact ⟨rfl, by omega, by omega⟩ | exact ⟨by omega, by omega, by omega⟩ | exact ⟨rfl, Nat.le_of_ble_eq_true rfl⟩ | exact Nat.le_of_ble_eq_true rfl | (refine ⟨rfl, rfl, ?_⟩; simp [isFar, ofV0, CV.up, SV.renL, SV.ren] <;> fail) | (refine ⟨rfl, Nat.le_of_ble_eq_true rfl, ?_⟩; simp [isFar, ofV0, CV.up, SV.renL, SV.ren] <;> fail) | (simp only [List.length_append, List.length_drop, List.length_take, List.length_replicate, List.length_map]; omega) | (simp <;> fail))); conv => whnf) | (refine ⟨_, rfl, ?_⟩; conv => whnf)))
      refine ⟨_, _, WeakV.auto ?_, h (pathU l (k : Int) (pathU l (IntKind.i64.wrap ((k : Int) - 1)) T))⟩
      (repeat' ((conv => whnf); first | exact True.intro | (refine And.intro ?_ ?_)))
      all_goals first | rfl | exact .eq rfl
    · have c3 : decide ((0 : Int) < (k : Int)) = false := decide_eq_false (by omega)
      rw [if_neg h4, if_pos h3] at h
      (conv => whnf)
      (repeat (first | (refine Both.of_true c1 ?_; conv => whnf) | (refine Need.mk hix ?_; conv => whnf) | (refine ⟨_, hat2, ?_⟩; conv => whnf) | (refine Both.of_false c2 ?_; conv => whnf) | (refine Both.of_false c3 ?_; conv => whnf) | (exact Out.same; conv => whnf) | (exact Out1.same; conv => whnf) | (refine QAnd.mk ?_ ?_; conv => whnf) | (apply QStepH.go; conv => whnf) | (refine Both.lit_true ?_; conv => whnf) | (refine Both.lit_false ?_; conv => whnf) | (apply QStep.go; conv => whnf) | (refine Need.mk ?_ ?_; (focus (first | omega | exact ⟨by omega, by omega⟩ | rfl | exact ⟨rfl, rfl⟩ | exact ⟨rfl, by omega, by omega⟩ | exact ⟨by omega, by omega, by omega⟩ | exact ⟨rfl, Nat.le_of_ble_eq_true rfl⟩ | exact Nat.le_of_ble_eq_true rfl | (refine ⟨rfl, rfl, ?_⟩; simp [isFar, ofV0, CV.up, SV.renL, SV.ren] <;> fail) | (refine ⟨rfl, Nat.le_of_ble_eq_true rfl, ?_⟩; simp [isFar, ofV0, CV.up, SV.renL, SV.ren] <;> fail) | (simp only [List.length_append, List.length_drop, List.length_take, List.length_replicate, List.length_map]; omega) | (simp <;> fail))); conv => whnf) | (refine ⟨_, rfl, ?_⟩; conv => whnf)))
      refine DrawVC.postWeak ?_
      (refine DrawVC.any Γok (by kernel_rfl) (by kernel_rfl) (by kernel_rfl) (by rfl) ?_; conv => whnf)
      (repeat (first | (refine CallVC.auto rleaf9_k (inB_mk ⟨l, k, rfl, rfl, h60, hok, rfl, h3, ?_⟩); conv => whnf) | (exact Out.same; conv => whnf) | (exact Out1.same; conv => whnf) | (refine QAnd.mk ?_ ?_; conv => whnf) | (apply QStepH.go; conv => whnf) | (refine Both.lit_true ?_; conv => whnf) | (refine Both.lit_false ?_; conv => whnf) | (apply QStep.go; conv => whnf) | (refine Need.mk ?_ ?_; (focus (first | omega | exact ⟨by omega, by omega⟩ | rfl | exact ⟨rfl, rfl⟩ | exact ⟨rfl, by omega, by omega⟩ | exact ⟨by omega, by omega, by omega⟩ | exact ⟨rfl, Nat.le_of_ble_eq_true rfl⟩ | exact Nat.le_of_ble_eq_true rfl | (refine ⟨rfl, rfl, ?_⟩; simp [isFar, ofV0, CV.up, SV.renL, SV.ren] <;> fail) | (refine ⟨rfl, Nat.le_of_ble_eq_true rfl, ?_⟩; simp [isFar, ofV0, CV.up, SV.renL, SV.ren] <;> fail) | (simp only [List.length_append, List.length_drop, List.length_take, List.length_replicate, List.length_map]; omega) | (simp <;> fail))); conv => whnf) | (refine ⟨_, rfl, ?_⟩; conv => whnf)))
      refine ⟨_, Weak.pub 4 3 rfl rfl, ?_⟩
      (conv => whnf)
      (repeat (first | (refine Need.mk ⟨rfl, rfl, far2⟩ ?_; conv => whnf) | (exact Out.same; conv => whnf) | (exact Out1.same; conv => whnf) | (refine QAnd.mk ?_ ?_; conv => whnf) | (apply QStepH.go; conv => whnf) | (refine Both.lit_true ?_; conv => whnf) | (refine Both.lit_false ?_; conv => whnf) | (apply QStep.go; conv => whnf) | (refine Need.mk ?_ ?_; (focus (first | omega | exact ⟨by omega, by omega⟩ | rfl | exact ⟨rfl, rfl⟩ | exact ⟨rfl, by omega, by omega⟩ | exact ⟨by omega, by omega, by omega⟩ | exact ⟨rfl, Nat.le_of_ble_eq_true rfl⟩ | exact Nat.le_of_ble_eq_true rfl | (refine ⟨rfl, rfl, ?_⟩; simp [isFar, ofV0, CV.up, SV.renL, SV.ren] <;> fail) | (refine ⟨rfl, Nat.le_of_ble_eq_true rfl, ?_⟩; simp [isFar, ofV0, CV.up, SV.renL, SV.ren] <;> fail) | (simp only [List.length_append, List.length_drop, List.length_take, List.length_replicate, List.length_map]; omega) | (simp <;> fail))); conv => whnf) | (refine ⟨_, rfl, ?_⟩; conv => whnf)))
      refine ⟨_, _, WeakV.auto ?_, h (pathU l (k : Int) T)⟩
      (repeat' ((conv => whnf); first | exact True.intro | (refine And.intro ?_ ?_)))
      all_goals first | rfl | exact .eq rfl
  · have c1 : decide ((k : Int) < ((l.length : Nat) : Int)) = false := decide_eq_false (by omega)
    by_cases h4 : 0 < k
    · have c3 : decide ((0 : Int) < (k : Int)) = true := decide_eq_true (by omega)
      have hkm : k - 1 < l.length := by omega
      rw [if_pos h4, if_neg h3] at h
      (conv => whnf)
      (repeat (first | (refine Both.of_false c1 ?_; conv => whnf) | (refine Both.of_true c3 ?_; conv => whnf) | (exact Out.same; conv => whnf) | (exact Out1.same; conv => whnf) | (refine QAnd.mk ?_ ?_; conv => whnf) | (apply QStepH.go; conv => whnf) | (refine Both.lit_true ?_; conv => whnf) | (refine Both.lit_false ?_; conv => whnf) | (apply QStep.go; conv => whnf) | (refine Need.mk ?_ ?_; (focus (first | omega | exact ⟨by omega, by omega⟩ | rfl | exact ⟨rfl, rfl⟩ | exact ⟨rfl, by omega, by omega⟩ | exact ⟨by omega, by omega, by omega⟩ | exact ⟨rfl, Nat.le_of_ble_eq_true rfl⟩ | exact Nat.le_of_ble_eq_true rfl | (refine ⟨rfl, rfl, ?_⟩; simp [isFar, ofV0, CV.up, SV.renL, SV.ren] <;> fail) | (refine ⟨rfl, Nat.le_of_ble_eq_true rfl, ?_⟩; simp [isFar, ofV0, CV.up, SV.renL, SV.ren] <;> fail) | (simp only [List.length_append, List.length_drop, List.length_take, List.length_replicate, List.length_map]; omega) | (simp <;> fail))); conv => whnf) | (refine ⟨_, rfl, ?_⟩; conv => whnf)))
      refine DrawVC.postWeak ?_
      (refine DrawVC.any Γok (by kernel_rfl) (by kernel_rfl) (by kernel_rfl) (by rfl) ?_; conv => whnf)
      (repeat (first | (refine CallVC.auto rleaf9_k (inB_mk ⟨l, k - 1, rfl, rfl, h60, hok, hw1 h4, hkm, ?_⟩); conv => whnf) | (exact Out.same; conv => whnf) | (exact Out1.same; conv => whnf) | (refine QAnd.mk ?_ ?_; conv => whnf) | (apply QStepH.go; conv => whnf) | (refine Both.lit_true ?_; conv => whnf) | (refine Both.lit_false ?_; conv => whnf) | (apply QStep.go; conv => whnf) | (refine Need.mk ?_ ?_; (focus (first | omega | exact ⟨by omega, by omega⟩ | rfl | exact ⟨rfl, rfl⟩ | exact ⟨rfl, by omega, by omega⟩ | exact ⟨by omega, by omega, by omega⟩ | exact ⟨rfl, Nat.le_of_ble_eq_true rfl⟩ | exact Nat.le_of_ble_eq_true rfl | (refine ⟨rfl, rfl, ?_⟩; simp [isFar, ofV0, CV.up, SV.renL, SV.ren] <;> fail) | (refine ⟨rfl, Nat.le_of_ble_eq_true rfl, ?_⟩; simp [isFar, ofV0, CV.up, SV.renL, SV.ren] <;> fail) | (simp only [List.length_append, List.length_drop, List.length_take, List.length_replicate, List.length_map]; omega) | (simp <;> fail))); conv => whnf) | (refine ⟨_, rfl, ?_⟩; conv => whnf)))
      refine ⟨_, Weak.pub 4 3 rfl rfl, ?_⟩
      (conv => whnf)
      (repeat (first | (refine Both.of_false c1 ?_; conv => whnf) | (refine Need.mk ⟨rfl, rfl, far2⟩ ?_; conv => whnf) | (exact Out.same; conv => whnf) | (exact Out1.same; conv => whnf) | (refine QAnd.mk ?_ ?_; conv => whnf) | (apply QStepH.go; conv => whnf) | (refine Both.lit_true ?_; conv => whnf) | (refine Both.lit_false ?_; conv => whnf) | (apply QStep.go; conv => whnf) | (refine Need.mk ?_ ?_; (focus (first | omega | exact ⟨by omega, by omega⟩ | rfl | exact ⟨rfl, rfl⟩ | exact ⟨rfl, by omega, by omega⟩ | exact ⟨by omega, by omega, by omega⟩ | exact ⟨rfl, Nat.le_of_ble_eq_true rfl⟩ | exact Nat.le_of_ble_eq_true rfl | (refine ⟨rfl, rfl, ?_⟩; simp [isFar, ofV0, CV.up, SV.renL, SV.ren] <;> fail) | (refine ⟨rfl, Nat.le_of_ble_eq_true rfl, ?_⟩; simp [isFar, ofV0, CV.up, SV.renL, SV.ren] <;> fail) | (simp only [List.length_append, List.length_drop, List.length_take, List.length_replicate, List.length_map]; omega) | (simp <;> fail))); conv => whnf) | (refine ⟨_, rfl, ?_⟩; conv => whnf)))
      refine ⟨_, _, WeakV.auto ?_, h (pathU l (IntKind.i64.wrap ((k : Int) - 1)) T)⟩
      (repeat' ((conv => whnf); first | exact True.intro | (refine And.intro ?_ ?_)))
      all_goals first | rfl | exact .eq rfl
    · have c3 : decide ((0 : Int) < (k : Int)) = false := decide_eq_false (by omega)
      rw [if_neg h4, if_neg h3] at h
      (conv => whnf)
      (repeat (first | (refine Both.of_false c1 ?_; conv => whnf) | (refine Both.of_false c3 ?_; conv => whnf) | (exact Out.same; conv => whnf) | (exact Out1.same; conv => whnf) | (refine QAnd.mk ?_ ?_; conv => whnf) | (apply QStepH.go; conv => whnf) | (refine Both.lit_true ?_; conv => whnf) | (refine Both.lit_false ?_; conv => whnf) | (apply QStep.go; conv => whnf) | (refine Need.mk ?_ ?_; (focus (first | omega | exact ⟨by omega, by omega⟩ | rfl | exact ⟨rfl, rfl⟩ | exact ⟨rfl, by omega, by omega⟩ | exact ⟨by omega, by omega, by omega⟩ | exact ⟨rfl, Nat.le_of_ble_eq_true rfl⟩ | exact Nat.le_of_ble_eq_true rfl | (refine ⟨rfl, rfl, ?_⟩; simp [isFar, ofV0, CV.up, SV.renL, SV.ren] <;> fail) | (refine ⟨rfl, Nat.le_of_ble_eq_true rfl, ?_⟩; simp [isFar, ofV0, CV.up, SV.renL, SV.ren] <;> fail) | (simp only [List.length_append, List.length_drop, List.length_take, List.length_replicate, List.length_map]; omega) | (simp <;> fail))); conv => whnf) | (refine ⟨_, rfl, ?_⟩; conv => whnf)))
      refine ⟨_, _, (WeakV.val fun E w v => vr_nil2 5).trans (WeakV.auto ?_), h T⟩
      (repeat' ((conv => whnf); first | exact True.intro | (refine And.intro ?_ ?_)))
      all_goals first | rfl | exact .eq rfl
theorem rabs_k : Contract Tryd.prog [] 12 rabsS := ⟨⟨⟨_, rfl, rfl, rfl⟩⟩, rabs_c⟩
end Go.LX
end
section
set_option maxRecDepth 100000
set_option maxHeartbeats 2000000
set_option autoImplicit false
set_option linter.unusedVariables false
set_option linter.unusedSimpArgs false
namespace Go.LX
open Go.Proofs

theorem chk_short {l : List Pr} (h : chkV l = 0) : l.length ≤ 4096 ∧ ∀ p ∈ l, p.1.length ≤ 16 ∧ p.2.length ≤ 64 := by
  unfold chkV at h
  split at h
  · cases h
  · rename_i h1
    split at h
    · cases h
    · rename_i h2
      refine ⟨by omega, fun p hp => ?_⟩
      have h3 : l.any badB = false := by
        cases hb : l.any badB with
        | false => rfl
        | true => exact absurd hb h2
      have h4 := List.any_eq_false.1 h3 p hp
      constructor
      · rcases Nat.lt_or_ge 16 p.1.length with h9 | h9
        · exact absurd (bad_2 h9) h4
        · exact h9
      · rcases Nat.lt_or_ge 64 p.2.length with h9 | h9
        · exact absurd (bad_3 h9) h4
        · exact h9
theorem pair_eq (p q : Pr) : (decide (p.1 = q.1) && (decide (p.2 = q.2) && true)) = decide (p = q) := by
  obtain ⟨a, b⟩ := p
  obtain ⟨c, d⟩ := q
  by_cases h1 : a = c <;> by_cases h2 : b = d <;> simp [h1, h2]
theorem list_ext {l m : List Pr} (hl : l.length = m.length) (h : ∀ j, j < l.length → l.getD j ([], []) = m.getD j ([], [])) : l = m := by
  apply List.ext_getElem hl
  intro j h1 h2
  have := h j h1
  rw [List.getD_eq_getElem?_getD, List.getElem?_eq_getElem h1, List.getD_eq_getElem?_getD, List.getElem?_eq_getElem h2] at this
  exact this
/-! ## MerkleApart -/
def lawTwoS : Spec := fun args H Q => match args, H with
  | [.sl 2 n cs f, .sl 2 n' cs' f'], [] => ∃ l m : List Pr, n = l.length ∧ cs = flP l ∧ n' = m.length ∧ cs' = flP m ∧ Q (.bool true) []
  | _, _ => False
/-- What the loop over two maps knows. -/
def likeI (l m : List Pr) (k : Nat) (b : Bool) : Prop := k ≤ l.length ∧ (b = true → l.length = m.length ∧ ∀ j, j < k → l.getD j ([], []) = m.getD j ([], [])) ∧ (b = false → l ≠ m)
end Go.LX
end
