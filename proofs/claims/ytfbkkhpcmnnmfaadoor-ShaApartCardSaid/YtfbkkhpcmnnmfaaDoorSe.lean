import Derived.Test.YtfbkkhpcmnnmfaaDoorSd
set_option maxRecDepth 100000
set_option maxHeartbeats 1000000
set_option autoImplicit false
set_option linter.unusedVariables false
set_option linter.unusedSimpArgs false
namespace Go.LX
open Go.Proofs

/-! ## The digest as it is -/
def byt (x : W32) (k : Nat) : UInt8 := ⟨(x >>> k).setWidth 8⟩
def be4b (x : W32) : List UInt8 := [byt x 24, byt x 16, byt x 8, byt x 0]
def St.ws (v : St) : List W32 := [v.a, v.b, v.c, v.d, v.e, v.f, v.g, v.h]
def St.dig (v : St) : List UInt8 := v.ws.flatMap be4b
theorem byt_go (x : W32) (k : Nat) (h : k ≤ 32) : IntKind.u8.wrap (shrI .u32 (u32 x) (k : Int)) = ((byt x k).toNat : Int) := by
  rw [shr_u32 _ _ h, u8_of_u32]
  rfl
theorem be4b_take (x : W32) {j : Nat} (h : j < 4) : (be4b x).take (j + 1) = (be4b x).take j ++ [byt x (24 - 8 * j)] := by
  match j, h with
  | 0, _ => rfl
  | 1, _ => rfl
  | 2, _ => rfl
  | 3, _ => rfl
theorem ws_at (v : St) {m : Nat} (h : m < 8) : [SV.int .u32 (u32 v.a), .int .u32 (u32 v.b), .int .u32 (u32 v.c), .int .u32 (u32 v.d), .int .u32 (u32 v.e), .int .u32 (u32 v.f), .int .u32 (u32 v.g), .int .u32 (u32 v.h)][((m : Nat) : Int).toNat]? = some (.int .u32 (u32 (v.ws.getD m 0))) := by
  match m, h with
  | 0, _ => rfl
  | 1, _ => rfl
  | 2, _ => rfl
  | 3, _ => rfl
  | 4, _ => rfl
  | 5, _ => rfl
  | 6, _ => rfl
  | 7, _ => rfl
theorem dig_take (v : St) {m : Nat} (h : m < 8) : (v.ws.take (m + 1)).flatMap be4b = (v.ws.take m).flatMap be4b ++ be4b (v.ws.getD m 0) := by
  match m, h with
  | 0, _ => simp [St.ws]
  | 1, _ => simp [St.ws]
  | 2, _ => simp [St.ws]
  | 3, _ => simp [St.ws]
  | 4, _ => simp [St.ws]
  | 5, _ => simp [St.ws]
  | 6, _ => simp [St.ws]
  | 7, _ => simp [St.ws]
def digS : Spec := fun args H Q => match args, H with
  | [.ptr 0 0], [.cells [.int .u32 x0, .int .u32 x1, .int .u32 x2, .int .u32 x3, .int .u32 x4, .int .u32 x5, .int .u32 x6, .int .u32 x7, .str r, .int .i64 n] 57] => ∃ v : St, (x0 = u32 v.a ∧ x1 = u32 v.b ∧ x2 = u32 v.c ∧ x3 = u32 v.d ∧ x4 = u32 v.e ∧ x5 = u32 v.f ∧ x6 = u32 v.g ∧ x7 = u32 v.h) ∧ Q (.str v.dig) [hsh v r n]
  | _, _ => False
theorem dig_c : Meets Tryd.prog [] 28 digS := by
  refine meets_of Γok Tryd.func28 rfl ?_
  intro args H Q h
  unfold digS at h
  split at h
  case h_2 => exact h.elim
  rename_i x0 x1 x2 x3 x4 x5 x6 x7 r n
  obtain ⟨v, ⟨rfl, rfl, rfl, rfl, rfl, rfl, rfl, rfl⟩, h⟩ := h
  (refine sx_sound Γok _ ?_; conv => whnf)
  (repeat (first | (exact Out.same; conv => whnf) | (exact Out1.same; conv => whnf) | (refine QAnd.mk ?_ ?_; conv => whnf) | (apply QStepH.go; conv => whnf) | (refine Both.lit_true ?_; conv => whnf) | (refine Both.lit_false ?_; conv => whnf) | (apply QStep.go; conv => whnf) | (refine Need.mk ?_ ?_; (focus (first | omega | exact ⟨by omega, by omega⟩ | rfl | exact ⟨rfl, rfl⟩ | exact ⟨rfl, by omega, by omega⟩ | exact ⟨by omega, by omega, by omega⟩ | exact ⟨rfl, Nat.le_of_ble_eq_true rfl⟩ | exact Nat.le_of_ble_eq_true rfl | (refine ⟨rfl, rfl, ?_⟩; simp [isFar, ofV0, CV.up, SV.renL, SV.ren] <;> fail) | (refine ⟨rfl, Nat.le_of_ble_eq_true rfl, ?_⟩; simp [isFar, ofV0, CV.up, SV.renL, SV.ren] <;> fail) | (simp only [List.length_append, List.length_drop, List.length_take, List.length_replicate, List.length_map]; omega) | (simp <;> fail))); conv => whnf) | (refine ⟨_, rfl, ?_⟩; conv => whnf)))
  refine loop_rule (fun m : Nat => ⟨[.ptr 0 0, .any, .any, .ptr 1 0, .any, .any, .any, .any, .any, .any, .agg [.int .u32 (u32 v.a), .int .u32 (u32 v.b), .int .u32 (u32 v.c), .int .u32 (u32 v.d), .int .u32 (u32 v.e), .int .u32 (u32 v.f), .int .u32 (u32 v.g), .int .u32 (u32 v.h)], .int .i64 (m : Int), .any, .any, .any, .any, .any, .any, .any, .any, .any, .any, .any, .any, .any], [hsh v r n, .cells [.opt 1 0, .own 2] 48, .own 5 1 ((v.ws.take m).flatMap be4b).length (bys ((v.ws.take m).flatMap be4b)) true]⟩) (fun m => m ≤ 8) (fun m => 8 - m) 0 (by omega) ((Weak.bld 1 5 rfl).trans (Weak.auto ?_)) ?_
  · (repeat' ((conv => whnf); first | exact True.intro | (refine And.intro ?_ ?_)))
    all_goals first | rfl | exact .eq rfl
  intro m hm
  (refine sx_sound Γok _ ?_; conv => whnf)
  (repeat (first | (exact Out.same; conv => whnf) | (exact Out1.same; conv => whnf) | (refine QAnd.mk ?_ ?_; conv => whnf) | (apply QStepH.go; conv => whnf) | (refine Both.lit_true ?_; conv => whnf) | (refine Both.lit_false ?_; conv => whnf) | (apply QStep.go; conv => whnf) | (refine Need.mk ?_ ?_; (focus (first | omega | exact ⟨by omega, by omega⟩ | rfl | exact ⟨rfl, rfl⟩ | exact ⟨rfl, by omega, by omega⟩ | exact ⟨by omega, by omega, by omega⟩ | exact ⟨rfl, Nat.le_of_ble_eq_true rfl⟩ | exact Nat.le_of_ble_eq_true rfl | (refine ⟨rfl, rfl, ?_⟩; simp [isFar, ofV0, CV.up, SV.renL, SV.ren] <;> fail) | (refine ⟨rfl, Nat.le_of_ble_eq_true rfl, ?_⟩; simp [isFar, ofV0, CV.up, SV.renL, SV.ren] <;> fail) | (simp only [List.length_append, List.length_drop, List.length_take, List.length_replicate, List.length_map]; omega) | (simp <;> fail))); conv => whnf) | (refine ⟨_, rfl, ?_⟩; conv => whnf)))
  refine Both.dec (fun hlt => ?_) (fun hge => ?_)
  · have hm8 : m < 8 := by omega
    have hat := ws_at v hm8
    have hdt := dig_take v hm8
    have hwr : IntKind.i64.wrap ((m : Int) + 1) = ((m + 1 : Nat) : Int) := by rw [wrap_i64 (by omega) (by omega)]; rfl
    have hll : ((v.ws.take m).flatMap be4b).length ≤ 1000 := by
      have : ∀ l : List W32, (l.flatMap be4b).length = 4 * l.length := fun l => by
        induction l with
        | nil => rfl
        | cons a l ih => rw [List.flatMap_cons, List.length_append, ih]; simp [be4b]; omega
      rw [this, List.length_take]
      omega
    revert hat hdt hll
    generalize v.ws.getD m 0 = x
    generalize (v.ws.take m).flatMap be4b = l
    intro hat hdt hll
    (conv => whnf)
    (repeat (first | (refine ⟨_, hat, ?_⟩; conv => whnf) | (exact Out.same; conv => whnf) | (exact Out1.same; conv => whnf) | (refine QAnd.mk ?_ ?_; conv => whnf) | (apply QStepH.go; conv => whnf) | (refine Both.lit_true ?_; conv => whnf) | (refine Both.lit_false ?_; conv => whnf) | (apply QStep.go; conv => whnf) | (refine Need.mk ?_ ?_; (focus (first | omega | exact ⟨by omega, by omega⟩ | rfl | exact ⟨rfl, rfl⟩ | exact ⟨rfl, by omega, by omega⟩ | exact ⟨by omega, by omega, by omega⟩ | exact ⟨rfl, Nat.le_of_ble_eq_true rfl⟩ | exact Nat.le_of_ble_eq_true rfl | (refine ⟨rfl, rfl, ?_⟩; simp [isFar, ofV0, CV.up, SV.renL, SV.ren] <;> fail) | (refine ⟨rfl, Nat.le_of_ble_eq_true rfl, ?_⟩; simp [isFar, ofV0, CV.up, SV.renL, SV.ren] <;> fail) | (simp only [List.length_append, List.length_drop, List.length_take, List.length_replicate, List.length_map]; omega) | (simp <;> fail))); conv => whnf) | (refine ⟨_, rfl, ?_⟩; conv => whnf)))
    have hen : LObj.own 5 1 l.length (bys l) true = LObj.own 5 1 (l ++ (be4b x).take 0).length (bys (l ++ (be4b x).take 0)) true := by
      rw [List.take_zero, List.append_nil]
    refine loop_rule (fun j : Nat => ⟨[.ptr 0 0, .any, .any, .ptr 1 0, .any, .int .u32 (u32 x), .int .i64 (24 - 8 * (j : Int)), .any, .any, .any, .agg [.int .u32 (u32 v.a), .int .u32 (u32 v.b), .int .u32 (u32 v.c), .int .u32 (u32 v.d), .int .u32 (u32 v.e), .int .u32 (u32 v.f), .int .u32 (u32 v.g), .int .u32 (u32 v.h)], .int .i64 (m : Int), .any, .any, .any, .any, .any, .any, .any, .any, .any, .any, .any, .any, .any], [hsh v r n, .cells [.opt 1 0, .own 2] 48, .own 5 1 (l ++ (be4b x).take j).length (bys (l ++ (be4b x).take j)) true]⟩) (fun j => j ≤ 4) (fun j => 4 - j) 0 (by omega) (Weak.auto ?_) ?_
    · (repeat' ((conv => whnf); first | exact True.intro | (refine And.intro ?_ ?_)))
      all_goals first | exact hen | rfl | exact .eq rfl
    intro j hj
    (refine sx_sound Γok _ ?_; conv => whnf)
    (repeat (first | (exact Out.same; conv => whnf) | (exact Out1.same; conv => whnf) | (refine QAnd.mk ?_ ?_; conv => whnf) | (apply QStepH.go; conv => whnf) | (refine Both.lit_true ?_; conv => whnf) | (refine Both.lit_false ?_; conv => whnf) | (apply QStep.go; conv => whnf) | (refine Need.mk ?_ ?_; (focus (first | omega | exact ⟨by omega, by omega⟩ | rfl | exact ⟨rfl, rfl⟩ | exact ⟨rfl, by omega, by omega⟩ | exact ⟨by omega, by omega, by omega⟩ | exact ⟨rfl, Nat.le_of_ble_eq_true rfl⟩ | exact Nat.le_of_ble_eq_true rfl | (refine ⟨rfl, rfl, ?_⟩; simp [isFar, ofV0, CV.up, SV.renL, SV.ren] <;> fail) | (refine ⟨rfl, Nat.le_of_ble_eq_true rfl, ?_⟩; simp [isFar, ofV0, CV.up, SV.renL, SV.ren] <;> fail) | (simp only [List.length_append, List.length_drop, List.length_take, List.length_replicate, List.length_map]; omega) | (simp <;> fail))); conv => whnf) | (refine ⟨_, rfl, ?_⟩; conv => whnf)))
    refine Both.dec (fun hlt2 => ?_) (fun hge2 => ?_)
    · have hj4 : j < 4 := by omega
      have hn : (24 - 8 * (j : Int)) = ((24 - 8 * j : Nat) : Int) := by omega
      have hb : IntKind.u8.wrap (shrI .u32 (u32 x) (24 - 8 * (j : Int))) = ((byt x (24 - 8 * j)).toNat : Int) := by rw [hn]; exact byt_go x _ (by omega)
      have hw6 : IntKind.i64.wrap (24 - 8 * (j : Int) - 8) = 24 - 8 * ((j + 1 : Nat) : Int) := by rw [wrap_i64 (by omega) (by omega)]; omega
      have hbl : (l ++ (be4b x).take j).length < 1000000000 := by rw [List.length_append, List.length_take]; omega
      have hown : (l ++ (be4b x).take j) ++ [byt x (24 - 8 * j)] = l ++ (be4b x).take (j + 1) := by rw [be4b_take x hj4, List.append_assoc]
      have hobj : LObj.own 5 1 ((l ++ (be4b x).take j).length + 1) (bys ((l ++ (be4b x).take j) ++ [byt x (24 - 8 * j)])) true = LObj.own 5 1 (l ++ (be4b x).take (j + 1)).length (bys (l ++ (be4b x).take (j + 1))) true := by
        rw [← hown, List.length_append (bs := [byt x (24 - 8 * j)])]
        rfl
      (conv => whnf)
      (repeat (first | (exact Out.same; conv => whnf) | (exact Out1.same; conv => whnf) | (refine QAnd.mk ?_ ?_; conv => whnf) | (apply QStepH.go; conv => whnf) | (refine Both.lit_true ?_; conv => whnf) | (refine Both.lit_false ?_; conv => whnf) | (apply QStep.go; conv => whnf) | (refine Need.mk ?_ ?_; (focus (first | omega | exact ⟨by omega, by omega⟩ | rfl | exact ⟨rfl, rfl⟩ | exact ⟨rfl, by omega, by omega⟩ | exact ⟨by omega, by omega, by omega⟩ | exact ⟨rfl, Nat.le_of_ble_eq_true rfl⟩ | exact Nat.le_of_ble_eq_true rfl | (refine ⟨rfl, rfl, ?_⟩; simp [isFar, ofV0, CV.up, SV.renL, SV.ren] <;> fail) | (refine ⟨rfl, Nat.le_of_ble_eq_true rfl, ?_⟩; simp [isFar, ofV0, CV.up, SV.renL, SV.ren] <;> fail) | (simp only [List.length_append, List.length_drop, List.length_take, List.length_replicate, List.length_map]; omega) | (simp <;> fail))); conv => whnf) | (refine ⟨_, rfl, ?_⟩; conv => whnf)))
      refine CallVC.auto wb_k ⟨_, _, hb, rfl, rfl, hbl, ?_⟩
      (conv => whnf)
      (repeat (first | (exact Out.same; conv => whnf) | (exact Out1.same; conv => whnf) | (refine QAnd.mk ?_ ?_; conv => whnf) | (apply QStepH.go; conv => whnf) | (refine Both.lit_true ?_; conv => whnf) | (refine Both.lit_false ?_; conv => whnf) | (apply QStep.go; conv => whnf) | (refine Need.mk ?_ ?_; (focus (first | omega | exact ⟨by omega, by omega⟩ | rfl | exact ⟨rfl, rfl⟩ | exact ⟨rfl, by omega, by omega⟩ | exact ⟨by omega, by omega, by omega⟩ | exact ⟨rfl, Nat.le_of_ble_eq_true rfl⟩ | exact Nat.le_of_ble_eq_true rfl | (refine ⟨rfl, rfl, ?_⟩; simp [isFar, ofV0, CV.up, SV.renL, SV.ren] <;> fail) | (refine ⟨rfl, Nat.le_of_ble_eq_true rfl, ?_⟩; simp [isFar, ofV0, CV.up, SV.renL, SV.ren] <;> fail) | (simp only [List.length_append, List.length_drop, List.length_take, List.length_replicate, List.length_map]; omega) | (simp <;> fail))); conv => whnf) | (refine ⟨_, rfl, ?_⟩; conv => whnf)))
      refine ⟨j + 1, by omega, by omega, Weak.auto ?_⟩
      (repeat' ((conv => whnf); first | exact True.intro | (refine And.intro ?_ ?_)))
      all_goals first | exact hobj | rfl | exact .eq rfl | exact congrArg (SV.int .i64) hw6
    · have hj4 : j = 4 := by omega
      have hobj : LObj.own 5 1 (l ++ (be4b x).take j).length (bys (l ++ (be4b x).take j)) true = LObj.own 5 1 ((v.ws.take (m + 1)).flatMap be4b).length (bys ((v.ws.take (m + 1)).flatMap be4b)) true := by
        rw [hdt, hj4]
        rfl
      (conv => whnf)
      (repeat (first | (exact Out.same; conv => whnf) | (exact Out1.same; conv => whnf) | (refine QAnd.mk ?_ ?_; conv => whnf) | (apply QStepH.go; conv => whnf) | (refine Both.lit_true ?_; conv => whnf) | (refine Both.lit_false ?_; conv => whnf) | (apply QStep.go; conv => whnf) | (refine Need.mk ?_ ?_; (focus (first | omega | exact ⟨by omega, by omega⟩ | rfl | exact ⟨rfl, rfl⟩ | exact ⟨rfl, by omega, by omega⟩ | exact ⟨by omega, by omega, by omega⟩ | exact ⟨rfl, Nat.le_of_ble_eq_true rfl⟩ | exact Nat.le_of_ble_eq_true rfl | (refine ⟨rfl, rfl, ?_⟩; simp [isFar, ofV0, CV.up, SV.renL, SV.ren] <;> fail) | (refine ⟨rfl, Nat.le_of_ble_eq_true rfl, ?_⟩; simp [isFar, ofV0, CV.up, SV.renL, SV.ren] <;> fail) | (simp only [List.length_append, List.length_drop, List.length_take, List.length_replicate, List.length_map]; omega) | (simp <;> fail))); conv => whnf) | (refine ⟨_, rfl, ?_⟩; conv => whnf)))
      refine ⟨m + 1, by omega, by omega, Weak.auto ?_⟩
      (repeat' ((conv => whnf); first | exact True.intro | (refine And.intro ?_ ?_)))
      all_goals first | exact hobj | rfl | exact .eq rfl | exact congrArg (SV.int .i64) hwr
  · have hm8 : m = 8 := by omega
    have hd : (v.ws.take m).flatMap be4b = v.dig := by rw [hm8]; rfl
    have hl : v.dig.length < 1000000000000 := by
      show (be4b v.a ++ (be4b v.b ++ (be4b v.c ++ (be4b v.d ++ (be4b v.e ++ (be4b v.f ++ (be4b v.g ++ (be4b v.h ++ [])))))))).length < _
      simp [be4b]
    rw [hd]
    (conv => whnf)
    (repeat (first | (exact Out.same; conv => whnf) | (exact Out1.same; conv => whnf) | (refine QAnd.mk ?_ ?_; conv => whnf) | (apply QStepH.go; conv => whnf) | (refine Both.lit_true ?_; conv => whnf) | (refine Both.lit_false ?_; conv => whnf) | (apply QStep.go; conv => whnf) | (refine Need.mk ?_ ?_; (focus (first | omega | exact ⟨by omega, by omega⟩ | rfl | exact ⟨rfl, rfl⟩ | exact ⟨rfl, by omega, by omega⟩ | exact ⟨by omega, by omega, by omega⟩ | exact ⟨rfl, Nat.le_of_ble_eq_true rfl⟩ | exact Nat.le_of_ble_eq_true rfl | (refine ⟨rfl, rfl, ?_⟩; simp [isFar, ofV0, CV.up, SV.renL, SV.ren] <;> fail) | (refine ⟨rfl, Nat.le_of_ble_eq_true rfl, ?_⟩; simp [isFar, ofV0, CV.up, SV.renL, SV.ren] <;> fail) | (simp only [List.length_append, List.length_drop, List.length_take, List.length_replicate, List.length_map]; omega) | (simp <;> fail))); conv => whnf) | (refine ⟨_, rfl, ?_⟩; conv => whnf)))
    refine CallVC.auto str_k ⟨_, rfl, rfl, hl, ?_⟩
    (conv => whnf)
    (repeat (first | (exact Out.same; conv => whnf) | (exact Out1.same; conv => whnf) | (refine QAnd.mk ?_ ?_; conv => whnf) | (apply QStepH.go; conv => whnf) | (refine Both.lit_true ?_; conv => whnf) | (refine Both.lit_false ?_; conv => whnf) | (apply QStep.go; conv => whnf) | (refine Need.mk ?_ ?_; (focus (first | omega | exact ⟨by omega, by omega⟩ | rfl | exact ⟨rfl, rfl⟩ | exact ⟨rfl, by omega, by omega⟩ | exact ⟨by omega, by omega, by omega⟩ | exact ⟨rfl, Nat.le_of_ble_eq_true rfl⟩ | exact Nat.le_of_ble_eq_true rfl | (refine ⟨rfl, rfl, ?_⟩; simp [isFar, ofV0, CV.up, SV.renL, SV.ren] <;> fail) | (refine ⟨rfl, Nat.le_of_ble_eq_true rfl, ?_⟩; simp [isFar, ofV0, CV.up, SV.renL, SV.ren] <;> fail) | (simp only [List.length_append, List.length_drop, List.length_take, List.length_replicate, List.length_map]; omega) | (simp <;> fail))); conv => whnf) | (refine ⟨_, rfl, ?_⟩; conv => whnf)))
    refine ⟨_, _, WeakV.auto ?_, h⟩
    (repeat' ((conv => whnf); first | exact True.intro | (refine And.intro ?_ ?_)))
    all_goals first | rfl | exact .eq rfl
theorem dig_k : Contract Tryd.prog [] 28 digS := ⟨⟨⟨_, rfl, rfl, rfl⟩⟩, dig_c⟩
end Go.LX
