import Derived.Test.YtgglchlppomkcaaDg
set_option maxRecDepth 100000
set_option maxHeartbeats 1000000
set_option autoImplicit false
set_option linter.unusedVariables false
set_option linter.unusedSimpArgs false
namespace Go.LX
open Go.Proofs

theorem cfold_ok' {D : Dsk} (ho : D.Ok) (L : List (Bool × Int)) (k : Nat) : ({ D with st := (cfold D L k).2 } : Dsk).Ok :=
  ⟨ho.sz, ho.sc, (cfold_ok ho L k).len, (cfold_ok ho L k).each, ho.buf, ho.few, ho.ar⟩
def rcrashS : Spec := fun args H Q => match args with
  | [.ptr 0 0, .sl 2 n cs f] => ∃ L : List (Bool × Int), n = L.length ∧ cs = L.flatMap crEn ∧ L.length ≤ 1000000 ∧ rIn H fun D => Q (.tuple []) (rA (D.cr L))
  | _ => False
theorem rcrash_c : Meets Try.prog [] 34 rcrashS := by
  refine meets_of Γok Try.func34 rfl ?_
  intro args H Q h
  unfold rcrashS at h
  split at h
  case h_2 => exact h.elim
  rename_i n cs f
  obtain ⟨L, rfl, rfl, hL, h⟩ := h
  obtain ⟨D, rfl, ho, h⟩ := rIn_out h
  have hfew := ho.few
  (refine sx_sound Γok _ ?_; conv => whnf)
  (repeat (first | (exact Out.same; conv => whnf) | (exact Out1.same; conv => whnf) | (refine QAnd.mk ?_ ?_; conv => whnf) | (apply QStepH.go; conv => whnf) | (refine Both.lit_true ?_; conv => whnf) | (refine Both.lit_false ?_; conv => whnf) | (apply QStep.go; conv => whnf) | (refine Need.mk ?_ ?_; (focus (first | omega | exact ⟨by omega, by omega⟩ | rfl | exact ⟨rfl, rfl⟩ | exact ⟨rfl, by omega, by omega⟩ | exact ⟨by omega, by omega, by omega⟩ | exact ⟨rfl, Nat.le_of_ble_eq_true rfl⟩ | exact Nat.le_of_ble_eq_true rfl | (refine ⟨rfl, rfl, ?_⟩; simp [isFar, ofV0, CV.up, SV.renL, SV.ren] <;> fail) | (refine ⟨rfl, Nat.le_of_ble_eq_true rfl, ?_⟩; simp [isFar, ofV0, CV.up, SV.renL, SV.ren] <;> fail) | (simp only [List.length_append, List.length_drop, List.length_take, List.length_replicate, List.length_map]; omega) | (simp <;> fail))); conv => whnf) | (refine ⟨_, rfl, ?_⟩; conv => whnf)))
  refine loop_rule (fun k : Nat => ⟨[.ptr 0 0, .sl 2 L.length (L.flatMap crEn) f, .any, .any, .bool (cfold D L k).1, .int .i64 (k : Int), .any, .any, .any, .any, .any, .any, .any, .any, .any, .any, .any, .any, .any, .any, .any, .any, .any, .any, .any, .any, .any, .any, .any, .any, .any, .any, .any, .any, .any, .any, .any, .any, .any, .any, .any, .any, .any, .any, .any, .any, .any, .any, .any, .any, .any, .any, .any, .any, .any, .any, .any, .any, .any, .any, .any, .any, .any, .any, .any, .any, .any, .any, .any, .any, .any, .any, .any, .any, .any, .any, .any, .any, .any, .any, .any, .any], rB { D with st := (cfold D L k).2 }⟩) (fun k => k ≤ min L.length D.buf.length) (fun k => min L.length D.buf.length - k) 0 (by omega) (Weak.auto ?_) ?_
  · (repeat' ((conv => whnf); first | exact True.intro | (refine And.intro ?_ ?_)))
    all_goals first | rfl | exact .eq rfl
  intro k hk
  have hreg := cfold_ok ho L k
  have hok := cfold_ok' ho L k
  have fin : cfold D L k = (D.buf.zip L).foldl (cstep D.sz) (false, D.st) → Q (.tuple []) (rA { D with st := (cfold D L k).2, buf := [], ar := 0 }) := fun he => by rw [he]; exact h
  have hend : ¬ (k < D.buf.length ∧ k < L.length) → cfold D L k = (D.buf.zip L).foldl (cstep D.sz) (false, D.st) := fun hn => by
    rw [cfold, List.take_of_length_le (by rw [List.length_zip]; omega)]
  (refine sx_sound Γok _ ?_; conv => whnf)
  (repeat (first | (exact Out.same; conv => whnf) | (exact Out1.same; conv => whnf) | (refine QAnd.mk ?_ ?_; conv => whnf) | (apply QStepH.go; conv => whnf) | (refine Both.lit_true ?_; conv => whnf) | (refine Both.lit_false ?_; conv => whnf) | (apply QStep.go; conv => whnf) | (refine Need.mk ?_ ?_; (focus (first | omega | exact ⟨by omega, by omega⟩ | rfl | exact ⟨rfl, rfl⟩ | exact ⟨rfl, by omega, by omega⟩ | exact ⟨by omega, by omega, by omega⟩ | exact ⟨rfl, Nat.le_of_ble_eq_true rfl⟩ | exact Nat.le_of_ble_eq_true rfl | (refine ⟨rfl, rfl, ?_⟩; simp [isFar, ofV0, CV.up, SV.renL, SV.ren] <;> fail) | (refine ⟨rfl, Nat.le_of_ble_eq_true rfl, ?_⟩; simp [isFar, ofV0, CV.up, SV.renL, SV.ren] <;> fail) | (simp only [List.length_append, List.length_drop, List.length_take, List.length_replicate, List.length_map]; omega) | (simp <;> fail))); conv => whnf) | (refine ⟨_, rfl, ?_⟩; conv => whnf)))
  refine Both.dec (fun hlt => ?_) (fun hge => ?_)
  rotate_left
  · have hge : ¬ (k : Int) < ((D.buf.length : Nat) : Int) := hge
    have fin := fin (hend (by omega))
    (conv => whnf)
    (repeat (first | (exact Out.same; conv => whnf) | (exact Out1.same; conv => whnf) | (refine QAnd.mk ?_ ?_; conv => whnf) | (apply QStepH.go; conv => whnf) | (refine Both.lit_true ?_; conv => whnf) | (refine Both.lit_false ?_; conv => whnf) | (apply QStep.go; conv => whnf) | (refine Need.mk ?_ ?_; (focus (first | omega | exact ⟨by omega, by omega⟩ | rfl | exact ⟨rfl, rfl⟩ | exact ⟨rfl, by omega, by omega⟩ | exact ⟨by omega, by omega, by omega⟩ | exact ⟨rfl, Nat.le_of_ble_eq_true rfl⟩ | exact Nat.le_of_ble_eq_true rfl | (refine ⟨rfl, rfl, ?_⟩; simp [isFar, ofV0, CV.up, SV.renL, SV.ren] <;> fail) | (refine ⟨rfl, Nat.le_of_ble_eq_true rfl, ?_⟩; simp [isFar, ofV0, CV.up, SV.renL, SV.ren] <;> fail) | (simp only [List.length_append, List.length_drop, List.length_take, List.length_replicate, List.length_map]; omega) | (simp <;> fail))); conv => whnf) | (refine ⟨_, rfl, ?_⟩; conv => whnf) | (refine Both.of_false ?_ ?_; (focus (first | rfl | (simp <;> fail))); conv => whnf) | (refine Both.of_true ?_ ?_; (focus (first | rfl | (simp <;> fail))); conv => whnf)))
    refine ⟨_, _, WeakV.trans (WeakV.of (Weak.ownNil 0 3 72 2 rfl rfl)) (WeakV.auto ?_), fin⟩
    (repeat' ((conv => whnf); first | exact True.intro | (refine And.intro ?_ ?_)))
    all_goals first | rfl | exact .eq rfl
  have hlt : (k : Int) < ((D.buf.length : Nat) : Int) := hlt
  (conv => whnf)
  (repeat (first | (exact Out.same; conv => whnf) | (exact Out1.same; conv => whnf) | (refine QAnd.mk ?_ ?_; conv => whnf) | (apply QStepH.go; conv => whnf) | (refine Both.lit_true ?_; conv => whnf) | (refine Both.lit_false ?_; conv => whnf) | (apply QStep.go; conv => whnf) | (refine Need.mk ?_ ?_; (focus (first | omega | exact ⟨by omega, by omega⟩ | rfl | exact ⟨rfl, rfl⟩ | exact ⟨rfl, by omega, by omega⟩ | exact ⟨by omega, by omega, by omega⟩ | exact ⟨rfl, Nat.le_of_ble_eq_true rfl⟩ | exact Nat.le_of_ble_eq_true rfl | (refine ⟨rfl, rfl, ?_⟩; simp [isFar, ofV0, CV.up, SV.renL, SV.ren] <;> fail) | (refine ⟨rfl, Nat.le_of_ble_eq_true rfl, ?_⟩; simp [isFar, ofV0, CV.up, SV.renL, SV.ren] <;> fail) | (simp only [List.length_append, List.length_drop, List.length_take, List.length_replicate, List.length_map]; omega) | (simp <;> fail))); conv => whnf) | (refine ⟨_, rfl, ?_⟩; conv => whnf)))
  refine Both.dec (fun hlt2 => ?_) (fun hge => ?_)
  rotate_left
  · have fin := fin (hend (by omega))
    (conv => whnf)
    (repeat (first | (exact Out.same; conv => whnf) | (exact Out1.same; conv => whnf) | (refine QAnd.mk ?_ ?_; conv => whnf) | (apply QStepH.go; conv => whnf) | (refine Both.lit_true ?_; conv => whnf) | (refine Both.lit_false ?_; conv => whnf) | (apply QStep.go; conv => whnf) | (refine Need.mk ?_ ?_; (focus (first | omega | exact ⟨by omega, by omega⟩ | rfl | exact ⟨rfl, rfl⟩ | exact ⟨rfl, by omega, by omega⟩ | exact ⟨by omega, by omega, by omega⟩ | exact ⟨rfl, Nat.le_of_ble_eq_true rfl⟩ | exact Nat.le_of_ble_eq_true rfl | (refine ⟨rfl, rfl, ?_⟩; simp [isFar, ofV0, CV.up, SV.renL, SV.ren] <;> fail) | (refine ⟨rfl, Nat.le_of_ble_eq_true rfl, ?_⟩; simp [isFar, ofV0, CV.up, SV.renL, SV.ren] <;> fail) | (simp only [List.length_append, List.length_drop, List.length_take, List.length_replicate, List.length_map]; omega) | (simp <;> fail))); conv => whnf) | (refine ⟨_, rfl, ?_⟩; conv => whnf) | (refine Both.of_false ?_ ?_; (focus (first | rfl | (simp <;> fail))); conv => whnf) | (refine Both.of_true ?_ ?_; (focus (first | rfl | (simp <;> fail))); conv => whnf)))
    refine ⟨_, _, WeakV.trans (WeakV.of (Weak.ownNil 0 3 72 2 rfl rfl)) (WeakV.auto ?_), fin⟩
    (repeat' ((conv => whnf); first | exact True.intro | (refine And.intro ?_ ?_)))
    all_goals first | rfl | exact .eq rfl
  clear fin hend
  have hk1 : k < D.buf.length := by omega
  have hk2 : k < L.length := by omega
  have hr0 : (D.buf.flatMap wrEn)[((k : Int)).toNat * 2 + 0]? = some (.int .i64 D.buf[k].1) := rows_cell (en := wrEn) (z := 2) (fun _ => rfl) D.buf k 0 hk1 (by omega)
  have hr1 : (D.buf.flatMap wrEn)[((k : Int)).toNat * 2 + 1]? = some (.str D.buf[k].2) := rows_cell (en := wrEn) (z := 2) (fun _ => rfl) D.buf k 1 hk1 (by omega)
  have hc : ((L.flatMap crEn).drop (((k : Int)).toNat * 2)).take 2 = [CV.bool L[k].1, .int .i64 L[k].2] := rows_at (en := crEn) (z := 2) (fun _ => rfl) L k hk2
  have hcs := cfold_succ D L hk1 hk2
  have hb := buf_at ho hk1
  revert hr0 hr1 hc hcs hb hreg hok
  generalize D.buf[k] = w
  generalize L[k] = c
  generalize cfold D L k = x
  obtain ⟨wn, ws⟩ := w
  obtain ⟨la, tn⟩ := c
  obtain ⟨tb, s0⟩ := x
  intro hreg hok hr0 hr1 hc hcs hb
  dsimp only at hr0 hr1 hc hb
  have hxl := hreg.at hb.1 hb.2.1
  have hwl := hb.2.2
  dsimp only at hxl hreg hok
  have hsz := ho.sz
  have hwr : IntKind.i64.wrap ((k : Int) + 1) = ((k + 1 : Nat) : Int) := by rw [wrap_i64 (by omega) (by omega)]; rfl
  have hsw : IntKind.i64.wrap ((D.sz : Int) - 1) = (D.sz : Int) - 1 := wrap_i64 (by omega) (by omega)
  have plain : ¬ (0 < tn ∧ tn < D.sz ∧ tb = false) → la = true → cfold D L (k + 1) = (tb, s0.set wn.toNat (ws ++ (s0.getD wn.toNat []).drop ws.length)) := fun hn hl => by
    rw [hcs, cstep, if_pos hl, if_neg hn]
    rw [List.drop_of_length_le (by omega), List.append_nil]
  (conv => whnf)
  (repeat (first | (refine ⟨_, hr0, ?_⟩; conv => whnf) | (refine ⟨_, hr1, ?_⟩; conv => whnf) | (refine ⟨_, hc, ?_⟩; conv => whnf) | (exact Out.same; conv => whnf) | (exact Out1.same; conv => whnf) | (refine QAnd.mk ?_ ?_; conv => whnf) | (apply QStepH.go; conv => whnf) | (refine Both.lit_true ?_; conv => whnf) | (refine Both.lit_false ?_; conv => whnf) | (apply QStep.go; conv => whnf) | (refine Need.mk ?_ ?_; (focus (first | omega | exact ⟨by omega, by omega⟩ | rfl | exact ⟨rfl, rfl⟩ | exact ⟨rfl, by omega, by omega⟩ | exact ⟨by omega, by omega, by omega⟩ | exact ⟨rfl, Nat.le_of_ble_eq_true rfl⟩ | exact Nat.le_of_ble_eq_true rfl | (refine ⟨rfl, rfl, ?_⟩; simp [isFar, ofV0, CV.up, SV.renL, SV.ren] <;> fail) | (refine ⟨rfl, Nat.le_of_ble_eq_true rfl, ?_⟩; simp [isFar, ofV0, CV.up, SV.renL, SV.ren] <;> fail) | (simp only [List.length_append, List.length_drop, List.length_take, List.length_replicate, List.length_map]; omega) | (simp <;> fail))); conv => whnf) | (refine ⟨_, rfl, ?_⟩; conv => whnf)))
  have fin : ∀ (tb' : Bool) (s' : Bs), cfold D L (k + 1) = (tb', s0.set wn.toNat (s' ++ (s0.getD wn.toNat []).drop s'.length)) →
      [SV.int .i64 (D.sz : Int), .int .i64 (D.sc : Int), .str (s0.set wn.toNat (s' ++ (s0.getD wn.toNat []).drop s'.length)).flatten, .own 1, .int .i64 (D.ar : Int)] = [SV.int .i64 (D.sz : Int), .int .i64 (D.sc : Int), .str (cfold D L (k + 1)).2.flatten, .own 1, .int .i64 (D.ar : Int)] ∧ SV.bool tb' = SV.bool (cfold D L (k + 1)).1 := by
    intro tb' s' e
    rw [e]
    exact ⟨rfl, rfl⟩
  cases la
  · have g3 : cfold D L (k + 1) = (tb, s0) := by rw [hcs]; rfl
    (repeat (first | (exact Out.same; conv => whnf) | (exact Out1.same; conv => whnf) | (refine QAnd.mk ?_ ?_; conv => whnf) | (apply QStepH.go; conv => whnf) | (refine Both.lit_true ?_; conv => whnf) | (refine Both.lit_false ?_; conv => whnf) | (apply QStep.go; conv => whnf) | (refine Need.mk ?_ ?_; (focus (first | omega | exact ⟨by omega, by omega⟩ | rfl | exact ⟨rfl, rfl⟩ | exact ⟨rfl, by omega, by omega⟩ | exact ⟨by omega, by omega, by omega⟩ | exact ⟨rfl, Nat.le_of_ble_eq_true rfl⟩ | exact Nat.le_of_ble_eq_true rfl | (refine ⟨rfl, rfl, ?_⟩; simp [isFar, ofV0, CV.up, SV.renL, SV.ren] <;> fail) | (refine ⟨rfl, Nat.le_of_ble_eq_true rfl, ?_⟩; simp [isFar, ofV0, CV.up, SV.renL, SV.ren] <;> fail) | (simp only [List.length_append, List.length_drop, List.length_take, List.length_replicate, List.length_map]; omega) | (simp <;> fail))); conv => whnf) | (refine ⟨_, rfl, ?_⟩; conv => whnf) | (refine Both.of_false ?_ ?_; (focus (first | rfl | (simp <;> fail))); conv => whnf) | (refine Both.of_true ?_ ?_; (focus (first | rfl | (simp <;> fail))); conv => whnf)))
    refine ⟨k + 1, by omega, by omega, Weak.auto ?_⟩
    (repeat' ((conv => whnf); first | exact True.intro | (refine And.intro ?_ ?_)))
    all_goals first | rfl | exact .eq rfl | exact congrArg (SV.int .i64) hwr | exact congrArg (fun x : Bool × List Bs => SV.bool x.1) g3.symm | exact .eq (congrArg (fun x : Bool × List Bs => [SV.int .i64 (D.sz : Int), .int .i64 (D.sc : Int), .str x.2.flatten, .own 1, .int .i64 (D.ar : Int)]) g3.symm)
  have hput : 0 ≤ wn ∧ wn < D.sc ∧ ws.length ≤ D.sz := ⟨hb.1, hb.2.1, Nat.le_of_eq hwl⟩
  (repeat (first | (exact Out.same; conv => whnf) | (exact Out1.same; conv => whnf) | (refine QAnd.mk ?_ ?_; conv => whnf) | (apply QStepH.go; conv => whnf) | (refine Both.lit_true ?_; conv => whnf) | (refine Both.lit_false ?_; conv => whnf) | (apply QStep.go; conv => whnf) | (refine Need.mk ?_ ?_; (focus (first | omega | exact ⟨by omega, by omega⟩ | rfl | exact ⟨rfl, rfl⟩ | exact ⟨rfl, by omega, by omega⟩ | exact ⟨by omega, by omega, by omega⟩ | exact ⟨rfl, Nat.le_of_ble_eq_true rfl⟩ | exact Nat.le_of_ble_eq_true rfl | (refine ⟨rfl, rfl, ?_⟩; simp [isFar, ofV0, CV.up, SV.renL, SV.ren] <;> fail) | (refine ⟨rfl, Nat.le_of_ble_eq_true rfl, ?_⟩; simp [isFar, ofV0, CV.up, SV.renL, SV.ren] <;> fail) | (simp only [List.length_append, List.length_drop, List.length_take, List.length_replicate, List.length_map]; omega) | (simp <;> fail))); conv => whnf) | (refine ⟨_, rfl, ?_⟩; conv => whnf) | (refine Both.of_false ?_ ?_; (focus (first | rfl | (simp <;> fail))); conv => whnf) | (refine Both.of_true ?_ ?_; (focus (first | rfl | (simp <;> fail))); conv => whnf)))
  cases tb
  · rcases Decidable.em (1 ≤ tn) with h1 | h1
    · rcases Decidable.em (tn ≤ (D.sz : Int) - 1) with h2 | h2
      · have hlen : (List.drop (Int.toNat 0) (ws.take tn.toNat)).length = tn.toNat := by
          show (ws.take tn.toNat).length = _
          rw [List.length_take]
          omega
        have g3 : cfold D L (k + 1) = (true, s0.set wn.toNat (List.drop (Int.toNat 0) (ws.take tn.toNat) ++ (s0.getD wn.toNat []).drop (List.drop (Int.toNat 0) (ws.take tn.toNat)).length)) := by
          rw [hlen, hcs, cstep, if_pos rfl, if_pos ⟨show 0 < tn by omega, show tn < (D.sz : Int) by omega, rfl⟩]
          rfl
        obtain ⟨g4, g5⟩ := fin _ _ g3
        have hput2 : 0 ≤ wn ∧ wn < D.sc ∧ (List.drop (Int.toNat 0) (ws.take tn.toNat)).length ≤ D.sz := ⟨hb.1, hb.2.1, by omega⟩
        (refine DrawVC.all Γok (by kernel_rfl) (by kernel_rfl) ?_; conv => whnf)
        (repeat (first | (exact ⟨congrArg (SV.int .i64) hsw, rfl⟩; conv => whnf) | (refine ⟨_, hc, ?_⟩; conv => whnf) | (exact Out.same; conv => whnf) | (exact Out1.same; conv => whnf) | (refine QAnd.mk ?_ ?_; conv => whnf) | (apply QStepH.go; conv => whnf) | (refine Both.lit_true ?_; conv => whnf) | (refine Both.lit_false ?_; conv => whnf) | (apply QStep.go; conv => whnf) | (refine Need.mk ?_ ?_; (focus (first | omega | exact ⟨by omega, by omega⟩ | rfl | exact ⟨rfl, rfl⟩ | exact ⟨rfl, by omega, by omega⟩ | exact ⟨by omega, by omega, by omega⟩ | exact ⟨rfl, Nat.le_of_ble_eq_true rfl⟩ | exact Nat.le_of_ble_eq_true rfl | (refine ⟨rfl, rfl, ?_⟩; simp [isFar, ofV0, CV.up, SV.renL, SV.ren] <;> fail) | (refine ⟨rfl, Nat.le_of_ble_eq_true rfl, ?_⟩; simp [isFar, ofV0, CV.up, SV.renL, SV.ren] <;> fail) | (simp only [List.length_append, List.length_drop, List.length_take, List.length_replicate, List.length_map]; omega) | (simp <;> fail))); conv => whnf) | (refine ⟨_, rfl, ?_⟩; conv => whnf) | (refine Both.of_false ?_ ?_; (focus (first | rfl | (simp [h1, h2] <;> fail))); conv => whnf) | (refine Both.of_true ?_ ?_; (focus (first | rfl | (simp [h1, h2] <;> fail))); conv => whnf)))
        (repeat (first | (refine ⟨_, hc, ?_⟩; conv => whnf) | (refine ⟨_, hr0, ?_⟩; conv => whnf) | (refine CallVC.auto rput_k ⟨_, rfl, rfl, rfl, rfl, rfl, rfl, hok, hput2, ?_⟩; conv => whnf) | (exact Out.same; conv => whnf) | (exact Out1.same; conv => whnf) | (refine QAnd.mk ?_ ?_; conv => whnf) | (apply QStepH.go; conv => whnf) | (refine Both.lit_true ?_; conv => whnf) | (refine Both.lit_false ?_; conv => whnf) | (apply QStep.go; conv => whnf) | (refine Need.mk ?_ ?_; (focus (first | omega | exact ⟨by omega, by omega⟩ | rfl | exact ⟨rfl, rfl⟩ | exact ⟨rfl, by omega, by omega⟩ | exact ⟨by omega, by omega, by omega⟩ | exact ⟨rfl, Nat.le_of_ble_eq_true rfl⟩ | exact Nat.le_of_ble_eq_true rfl | (refine ⟨rfl, rfl, ?_⟩; simp [isFar, ofV0, CV.up, SV.renL, SV.ren] <;> fail) | (refine ⟨rfl, Nat.le_of_ble_eq_true rfl, ?_⟩; simp [isFar, ofV0, CV.up, SV.renL, SV.ren] <;> fail) | (simp only [List.length_append, List.length_drop, List.length_take, List.length_replicate, List.length_map]; omega) | (simp <;> fail))); conv => whnf) | (refine ⟨_, rfl, ?_⟩; conv => whnf)))
        refine ⟨k + 1, by omega, by omega, Weak.auto ?_⟩
        (repeat' ((conv => whnf); first | exact True.intro | (refine And.intro ?_ ?_)))
        all_goals first | rfl | exact .eq rfl | exact congrArg (SV.int .i64) hwr | exact .eq g4 | exact g5
      · obtain ⟨g4, g5⟩ := fin _ _ (plain (fun h0 => h2 (by omega)) rfl)
        (refine DrawVC.all Γok (by kernel_rfl) (by kernel_rfl) ?_; conv => whnf)
        (repeat (first | (exact ⟨congrArg (SV.int .i64) hsw, rfl⟩; conv => whnf) | (refine ⟨_, hc, ?_⟩; conv => whnf) | (exact Out.same; conv => whnf) | (exact Out1.same; conv => whnf) | (refine QAnd.mk ?_ ?_; conv => whnf) | (apply QStepH.go; conv => whnf) | (refine Both.lit_true ?_; conv => whnf) | (refine Both.lit_false ?_; conv => whnf) | (apply QStep.go; conv => whnf) | (refine Need.mk ?_ ?_; (focus (first | omega | exact ⟨by omega, by omega⟩ | rfl | exact ⟨rfl, rfl⟩ | exact ⟨rfl, by omega, by omega⟩ | exact ⟨by omega, by omega, by omega⟩ | exact ⟨rfl, Nat.le_of_ble_eq_true rfl⟩ | exact Nat.le_of_ble_eq_true rfl | (refine ⟨rfl, rfl, ?_⟩; simp [isFar, ofV0, CV.up, SV.renL, SV.ren] <;> fail) | (refine ⟨rfl, Nat.le_of_ble_eq_true rfl, ?_⟩; simp [isFar, ofV0, CV.up, SV.renL, SV.ren] <;> fail) | (simp only [List.length_append, List.length_drop, List.length_take, List.length_replicate, List.length_map]; omega) | (simp <;> fail))); conv => whnf) | (refine ⟨_, rfl, ?_⟩; conv => whnf) | (refine Both.of_false ?_ ?_; (focus (first | rfl | (simp [h1, h2] <;> fail))); conv => whnf) | (refine Both.of_true ?_ ?_; (focus (first | rfl | (simp [h1, h2] <;> fail))); conv => whnf)))
        (repeat (first | (refine ⟨_, hr0, ?_⟩; conv => whnf) | (refine CallVC.auto rput_k ⟨_, rfl, rfl, rfl, rfl, rfl, rfl, hok, hput, ?_⟩; conv => whnf) | (exact Out.same; conv => whnf) | (exact Out1.same; conv => whnf) | (refine QAnd.mk ?_ ?_; conv => whnf) | (apply QStepH.go; conv => whnf) | (refine Both.lit_true ?_; conv => whnf) | (refine Both.lit_false ?_; conv => whnf) | (apply QStep.go; conv => whnf) | (refine Need.mk ?_ ?_; (focus (first | omega | exact ⟨by omega, by omega⟩ | rfl | exact ⟨rfl, rfl⟩ | exact ⟨rfl, by omega, by omega⟩ | exact ⟨by omega, by omega, by omega⟩ | exact ⟨rfl, Nat.le_of_ble_eq_true rfl⟩ | exact Nat.le_of_ble_eq_true rfl | (refine ⟨rfl, rfl, ?_⟩; simp [isFar, ofV0, CV.up, SV.renL, SV.ren] <;> fail) | (refine ⟨rfl, Nat.le_of_ble_eq_true rfl, ?_⟩; simp [isFar, ofV0, CV.up, SV.renL, SV.ren] <;> fail) | (simp only [List.length_append, List.length_drop, List.length_take, List.length_replicate, List.length_map]; omega) | (simp <;> fail))); conv => whnf) | (refine ⟨_, rfl, ?_⟩; conv => whnf)))
        refine ⟨k + 1, by omega, by omega, Weak.auto ?_⟩
        (repeat' ((conv => whnf); first | exact True.intro | (refine And.intro ?_ ?_)))
        all_goals first | rfl | exact .eq rfl | exact congrArg (SV.int .i64) hwr | exact .eq g4 | exact g5
    · obtain ⟨g4, g5⟩ := fin _ _ (plain (fun h0 => h1 (by omega)) rfl)
      (refine DrawVC.all Γok (by kernel_rfl) (by kernel_rfl) ?_; conv => whnf)
      (repeat (first | (exact ⟨congrArg (SV.int .i64) hsw, rfl⟩; conv => whnf) | (refine ⟨_, hc, ?_⟩; conv => whnf) | (exact Out.same; conv => whnf) | (exact Out1.same; conv => whnf) | (refine QAnd.mk ?_ ?_; conv => whnf) | (apply QStepH.go; conv => whnf) | (refine Both.lit_true ?_; conv => whnf) | (refine Both.lit_false ?_; conv => whnf) | (apply QStep.go; conv => whnf) | (refine Need.mk ?_ ?_; (focus (first | omega | exact ⟨by omega, by omega⟩ | rfl | exact ⟨rfl, rfl⟩ | exact ⟨rfl, by omega, by omega⟩ | exact ⟨by omega, by omega, by omega⟩ | exact ⟨rfl, Nat.le_of_ble_eq_true rfl⟩ | exact Nat.le_of_ble_eq_true rfl | (refine ⟨rfl, rfl, ?_⟩; simp [isFar, ofV0, CV.up, SV.renL, SV.ren] <;> fail) | (refine ⟨rfl, Nat.le_of_ble_eq_true rfl, ?_⟩; simp [isFar, ofV0, CV.up, SV.renL, SV.ren] <;> fail) | (simp only [List.length_append, List.length_drop, List.length_take, List.length_replicate, List.length_map]; omega) | (simp <;> fail))); conv => whnf) | (refine ⟨_, rfl, ?_⟩; conv => whnf) | (refine Both.of_false ?_ ?_; (focus (first | rfl | (simp [h1] <;> fail))); conv => whnf) | (refine Both.of_true ?_ ?_; (focus (first | rfl | (simp [h1] <;> fail))); conv => whnf)))
      (repeat (first | (refine ⟨_, hr0, ?_⟩; conv => whnf) | (refine CallVC.auto rput_k ⟨_, rfl, rfl, rfl, rfl, rfl, rfl, hok, hput, ?_⟩; conv => whnf) | (exact Out.same; conv => whnf) | (exact Out1.same; conv => whnf) | (refine QAnd.mk ?_ ?_; conv => whnf) | (apply QStepH.go; conv => whnf) | (refine Both.lit_true ?_; conv => whnf) | (refine Both.lit_false ?_; conv => whnf) | (apply QStep.go; conv => whnf) | (refine Need.mk ?_ ?_; (focus (first | omega | exact ⟨by omega, by omega⟩ | rfl | exact ⟨rfl, rfl⟩ | exact ⟨rfl, by omega, by omega⟩ | exact ⟨by omega, by omega, by omega⟩ | exact ⟨rfl, Nat.le_of_ble_eq_true rfl⟩ | exact Nat.le_of_ble_eq_true rfl | (refine ⟨rfl, rfl, ?_⟩; simp [isFar, ofV0, CV.up, SV.renL, SV.ren] <;> fail) | (refine ⟨rfl, Nat.le_of_ble_eq_true rfl, ?_⟩; simp [isFar, ofV0, CV.up, SV.renL, SV.ren] <;> fail) | (simp only [List.length_append, List.length_drop, List.length_take, List.length_replicate, List.length_map]; omega) | (simp <;> fail))); conv => whnf) | (refine ⟨_, rfl, ?_⟩; conv => whnf)))
      refine ⟨k + 1, by omega, by omega, Weak.auto ?_⟩
      (repeat' ((conv => whnf); first | exact True.intro | (refine And.intro ?_ ?_)))
      all_goals first | rfl | exact .eq rfl | exact congrArg (SV.int .i64) hwr | exact .eq g4 | exact g5
  · obtain ⟨g4, g5⟩ := fin _ _ (plain (fun h0 => by cases h0.2.2) rfl)
    (refine DrawVC.all Γok (by kernel_rfl) (by kernel_rfl) ?_; conv => whnf)
    (repeat (first | (exact ⟨congrArg (SV.int .i64) hsw, rfl⟩; conv => whnf) | (refine ⟨_, hc, ?_⟩; conv => whnf) | (exact Out.same; conv => whnf) | (exact Out1.same; conv => whnf) | (refine QAnd.mk ?_ ?_; conv => whnf) | (apply QStepH.go; conv => whnf) | (refine Both.lit_true ?_; conv => whnf) | (refine Both.lit_false ?_; conv => whnf) | (apply QStep.go; conv => whnf) | (refine Need.mk ?_ ?_; (focus (first | omega | exact ⟨by omega, by omega⟩ | rfl | exact ⟨rfl, rfl⟩ | exact ⟨rfl, by omega, by omega⟩ | exact ⟨by omega, by omega, by omega⟩ | exact ⟨rfl, Nat.le_of_ble_eq_true rfl⟩ | exact Nat.le_of_ble_eq_true rfl | (refine ⟨rfl, rfl, ?_⟩; simp [isFar, ofV0, CV.up, SV.renL, SV.ren] <;> fail) | (refine ⟨rfl, Nat.le_of_ble_eq_true rfl, ?_⟩; simp [isFar, ofV0, CV.up, SV.renL, SV.ren] <;> fail) | (simp only [List.length_append, List.length_drop, List.length_take, List.length_replicate, List.length_map]; omega) | (simp <;> fail))); conv => whnf) | (refine ⟨_, rfl, ?_⟩; conv => whnf) | (refine Both.of_false ?_ ?_; (focus (first | rfl | (simp <;> fail))); conv => whnf) | (refine Both.of_true ?_ ?_; (focus (first | rfl | (simp <;> fail))); conv => whnf)))
    (repeat (first | (refine ⟨_, hr0, ?_⟩; conv => whnf) | (refine CallVC.auto rput_k ⟨_, rfl, rfl, rfl, rfl, rfl, rfl, hok, hput, ?_⟩; conv => whnf) | (exact Out.same; conv => whnf) | (exact Out1.same; conv => whnf) | (refine QAnd.mk ?_ ?_; conv => whnf) | (apply QStepH.go; conv => whnf) | (refine Both.lit_true ?_; conv => whnf) | (refine Both.lit_false ?_; conv => whnf) | (apply QStep.go; conv => whnf) | (refine Need.mk ?_ ?_; (focus (first | omega | exact ⟨by omega, by omega⟩ | rfl | exact ⟨rfl, rfl⟩ | exact ⟨rfl, by omega, by omega⟩ | exact ⟨by omega, by omega, by omega⟩ | exact ⟨rfl, Nat.le_of_ble_eq_true rfl⟩ | exact Nat.le_of_ble_eq_true rfl | (refine ⟨rfl, rfl, ?_⟩; simp [isFar, ofV0, CV.up, SV.renL, SV.ren] <;> fail) | (refine ⟨rfl, Nat.le_of_ble_eq_true rfl, ?_⟩; simp [isFar, ofV0, CV.up, SV.renL, SV.ren] <;> fail) | (simp only [List.length_append, List.length_drop, List.length_take, List.length_replicate, List.length_map]; omega) | (simp <;> fail))); conv => whnf) | (refine ⟨_, rfl, ?_⟩; conv => whnf)))
    refine ⟨k + 1, by omega, by omega, Weak.auto ?_⟩
    (repeat' ((conv => whnf); first | exact True.intro | (refine And.intro ?_ ?_)))
    all_goals first | rfl | exact .eq rfl | exact congrArg (SV.int .i64) hwr | exact .eq g4 | exact g5
theorem rcrash_k : Contract Try.prog [] 34 rcrashS := ⟨⟨⟨_, rfl, rfl, rfl⟩⟩, rcrash_c⟩
end Go.LX
