import Derived.Test.YtfbkkhpcmnnmfaaDoorSn
set_option maxRecDepth 100000
set_option maxHeartbeats 1000000
set_option autoImplicit false
set_option linter.unusedVariables false
set_option linter.unusedSimpArgs false
namespace Go.LX
open Go.Proofs

/-! ## Roots, in plain words -/
def sprL (l : List Nat) : Nat → List Nat
  | 0 => List.replicate (l.length + 1) 0
  | k + 1 => addL (l.length + 1 - k) (sprL l k) k (l.getD k 0)
def mulR (p : List Nat) (lo hi : Nat) : Nat → List Nat
  | 0 => List.replicate (p.length + 3) 0
  | k + 1 => addL (p.length + 3 - (k + 1)) (addL (p.length + 3 - k) (mulR p lo hi k) k (n64 (p.getD k 0 * lo))) (k + 1) (n64 (p.getD k 0 * hi))
def mulL (l : List Nat) (x : Nat) : List Nat := mulR (sprL l l.length) (x % 4294967296) (x / 4294967296) (sprL l l.length).length
def abL (a b : List Nat) : Nat → Bool
  | 0 => false
  | k + 1 => if a.getD k 0 = b.getD k 0 then abL a b k else decide (b.getD k 0 < a.getD k 0)
def mulsL (x : Nat) : Nat → List Nat
  | 0 => [x]
  | k + 1 => mulL (mulsL x k) x
def leastL (x n t : Nat) : Bool := !abL (mulsL x t) (List.replicate (t + 1) 0 ++ [n]) ((mulsL x t).length + (t + 2) + 1)
def bis (n t : Nat) : Nat → Nat → Nat → Nat
  | 0, lo, hi => lo
  | f + 1, lo, hi => if 1 < hi - lo then (if leastL ((lo + hi) / 2) n t then bis n t f ((lo + hi) / 2) hi else bis n t f lo ((lo + hi) / 2)) else lo
def rootL (n t : Nat) : Nat := bis n t 36 0 68719476736 % 4294967296
theorem addL_bd : ∀ (f : Nat) (l : List Nat) (a x : Nat), (∀ d ∈ l, d < 18446744073709551616) → ∀ d ∈ addL f l a x, d < 18446744073709551616
  | 0, l, a, x, h => h
  | f + 1, l, a, x, h => by
    rw [addL]
    split
    · refine addL_bd f _ _ _ fun d hd => ?_
      rcases List.mem_or_eq_of_mem_set hd with h1 | h1
      · exact h d h1
      · rw [h1]
        exact Nat.lt_trans (Nat.mod_lt _ (by decide)) (by decide)
    · exact h
theorem sprL_len (l : List Nat) : ∀ k, (sprL l k).length = l.length + 1
  | 0 => List.length_replicate
  | k + 1 => by rw [sprL, addL_len, sprL_len l k]
theorem sprL_bd (l : List Nat) : ∀ k, ∀ d ∈ sprL l k, d < 18446744073709551616
  | 0, d, hd => by rw [List.eq_of_mem_replicate hd]; decide
  | k + 1, d, hd => addL_bd _ _ _ _ (sprL_bd l k) d hd
theorem mulR_len (p : List Nat) (lo hi : Nat) : ∀ k, (mulR p lo hi k).length = p.length + 3
  | 0 => List.length_replicate
  | k + 1 => by rw [mulR, addL_len, addL_len, mulR_len p lo hi k]
theorem mulR_bd (p : List Nat) (lo hi : Nat) : ∀ k, ∀ d ∈ mulR p lo hi k, d < 18446744073709551616
  | 0, d, hd => by rw [List.eq_of_mem_replicate hd]; decide
  | k + 1, d, hd => addL_bd _ _ _ _ (addL_bd _ _ _ _ (mulR_bd p lo hi k)) d hd
theorem mulL_len (l : List Nat) (x : Nat) : (mulL l x).length = l.length + 4 := by rw [mulL, mulR_len, sprL_len]
theorem mulL_bd (l : List Nat) (x : Nat) : ∀ d ∈ mulL l x, d < 18446744073709551616 := mulR_bd _ _ _ _
theorem getD_bd {l : List Nat} (h : ∀ d ∈ l, d < 18446744073709551616) (k : Nat) : l.getD k 0 < 18446744073709551616 := by
  rw [List.getD_eq_getElem?_getD]
  cases hk : l[k]? with
  | none => decide
  | some d => exact h d (List.mem_of_getElem? hk)
theorem zer_us (n : Nat) : zerosOf 1 n [CV.int .u64 0] = us (List.replicate n 0) := by
  unfold zerosOf us
  rw [List.map_replicate]
  rfl
/-! ## spread -/
def sprS : Spec := fun args H Q => match args, H with
  | [.sl 1 n cs f], [] => ∃ l : List Nat, cs = us l ∧ n = l.length ∧ l.length < 900 ∧ (∀ d ∈ l, d < 18446744073709551616) ∧
      Q (.own 0) [.own 58 1 (l.length + 1) (us (sprL l l.length)) true]
  | _, _ => False
theorem spr_c : Meets Tryd.prog [] 51 sprS := by
  refine meets_of Γok Tryd.func51 rfl ?_
  intro args H Q h
  unfold sprS at h
  split at h
  case h_2 => exact h.elim
  rename_i n cs f
  obtain ⟨l, rfl, rfl, hl, hb, h⟩ := h
  have hw1 : IntKind.i64.wrap ((l.length : Int) + 1) = ((l.length + 1 : Nat) : Int) := by rw [wrap_i64 (by omega) (by omega)]; rfl
  have hmk : ((l.length + 1 : Nat) : Int) = ((l.length + 1 : Nat) : Int) ∧ 0 ≤ ((l.length + 1 : Nat) : Int) ∧ (ti58.bytes : Int) * ((l.length + 1 : Nat) : Int) ≤ 140737488355328 ∧ ((l.length + 1 : Nat) : Int) ≤ 140737488355328 := by
    have : (ti58.bytes : Int) = 8 := rfl
    rw [this]
    omega
  have hobj0 : LObj.own 58 ti58.size (((l.length + 1 : Nat) : Int)).toNat (zerosOf ti58.size (((l.length + 1 : Nat) : Int)).toNat [CV.int .u64 0]) true = LObj.own 58 1 (l.length + 1) (us (sprL l 0)) true := by
    rw [show ti58.size = 1 from rfl, zer_us]
    rfl
  (refine sx_sound Γok _ ?_; conv => whnf)
  (repeat (first | (exact Out.same; conv => whnf) | (exact Out1.same; conv => whnf) | (refine QAnd.mk ?_ ?_; conv => whnf) | (apply QStepH.go; conv => whnf) | (refine Both.lit_true ?_; conv => whnf) | (refine Both.lit_false ?_; conv => whnf) | (apply QStep.go; conv => whnf) | (refine Need.mk ?_ ?_; (focus (first | omega | exact ⟨by omega, by omega⟩ | rfl | exact ⟨rfl, rfl⟩ | exact ⟨rfl, by omega, by omega⟩ | exact ⟨by omega, by omega, by omega⟩ | exact ⟨rfl, Nat.le_of_ble_eq_true rfl⟩ | exact Nat.le_of_ble_eq_true rfl | (refine ⟨rfl, rfl, ?_⟩; simp [isFar, ofV0, CV.up, SV.renL, SV.ren] <;> fail) | (refine ⟨rfl, Nat.le_of_ble_eq_true rfl, ?_⟩; simp [isFar, ofV0, CV.up, SV.renL, SV.ren] <;> fail) | (simp only [List.length_append, List.length_drop, List.length_take, List.length_replicate, List.length_map]; omega) | (simp <;> fail))); conv => whnf) | (refine ⟨_, rfl, ?_⟩; conv => whnf)))
  rw [hw1]
  (repeat (first | (refine Need.mk hmk ?_; conv => whnf) | (exact Out.same; conv => whnf) | (exact Out1.same; conv => whnf) | (refine QAnd.mk ?_ ?_; conv => whnf) | (apply QStepH.go; conv => whnf) | (refine Both.lit_true ?_; conv => whnf) | (refine Both.lit_false ?_; conv => whnf) | (apply QStep.go; conv => whnf) | (refine Need.mk ?_ ?_; (focus (first | omega | exact ⟨by omega, by omega⟩ | rfl | exact ⟨rfl, rfl⟩ | exact ⟨rfl, by omega, by omega⟩ | exact ⟨by omega, by omega, by omega⟩ | exact ⟨rfl, Nat.le_of_ble_eq_true rfl⟩ | exact Nat.le_of_ble_eq_true rfl | (refine ⟨rfl, rfl, ?_⟩; simp [isFar, ofV0, CV.up, SV.renL, SV.ren] <;> fail) | (refine ⟨rfl, Nat.le_of_ble_eq_true rfl, ?_⟩; simp [isFar, ofV0, CV.up, SV.renL, SV.ren] <;> fail) | (simp only [List.length_append, List.length_drop, List.length_take, List.length_replicate, List.length_map]; omega) | (simp <;> fail))); conv => whnf) | (refine ⟨_, rfl, ?_⟩; conv => whnf)))
  refine loop_rule (fun k : Nat => ⟨[.sl 1 l.length (us l) f, .any, .any, .own 0, .int .i64 (k : Int), .any, .any, .any, .any, .any, .any, .any, .any, .any, .any, .any, .any, .any, .any, .any, .any, .any, .any], [.own 58 1 (l.length + 1) (us (sprL l k)) true]⟩) (fun k => k ≤ l.length) (fun k => l.length - k) 0 (Nat.zero_le _) (Weak.auto ?_) ?_
  · (repeat' ((conv => whnf); first | exact True.intro | (refine And.intro ?_ ?_)))
    all_goals first | exact hobj0 | rfl | exact .eq rfl
  clear hobj0 hmk hw1
  intro k hk
  (refine sx_sound Γok _ ?_; conv => whnf)
  (repeat (first | (exact Out.same; conv => whnf) | (exact Out1.same; conv => whnf) | (refine QAnd.mk ?_ ?_; conv => whnf) | (apply QStepH.go; conv => whnf) | (refine Both.lit_true ?_; conv => whnf) | (refine Both.lit_false ?_; conv => whnf) | (apply QStep.go; conv => whnf) | (refine Need.mk ?_ ?_; (focus (first | omega | exact ⟨by omega, by omega⟩ | rfl | exact ⟨rfl, rfl⟩ | exact ⟨rfl, by omega, by omega⟩ | exact ⟨by omega, by omega, by omega⟩ | exact ⟨rfl, Nat.le_of_ble_eq_true rfl⟩ | exact Nat.le_of_ble_eq_true rfl | (refine ⟨rfl, rfl, ?_⟩; simp [isFar, ofV0, CV.up, SV.renL, SV.ren] <;> fail) | (refine ⟨rfl, Nat.le_of_ble_eq_true rfl, ?_⟩; simp [isFar, ofV0, CV.up, SV.renL, SV.ren] <;> fail) | (simp only [List.length_append, List.length_drop, List.length_take, List.length_replicate, List.length_map]; omega) | (simp <;> fail))); conv => whnf) | (refine ⟨_, rfl, ?_⟩; conv => whnf)))
  refine Both.dec (fun hlt => ?_) (fun hge => ?_)
  · have hkl : k < l.length := by omega
    have hat := us_at hkl
    have hbd := getD_bd hb k
    have hsl := sprL_len l k
    have hwr : IntKind.i64.wrap ((k : Int) + 1) = ((k + 1 : Nat) : Int) := by rw [wrap_i64 (by omega) (by omega)]; rfl
    have hobj : LObj.own 58 1 (sprL l k).length (us (addL ((sprL l k).length - k) (sprL l k) k (l.getD k 0))) true = LObj.own 58 1 (l.length + 1) (us (sprL l (k + 1))) true := by
      rw [hsl]
      rfl
    (conv => whnf)
    (repeat (first | (refine ⟨_, hat, ?_⟩; conv => whnf) | (exact Out.same; conv => whnf) | (exact Out1.same; conv => whnf) | (refine QAnd.mk ?_ ?_; conv => whnf) | (apply QStepH.go; conv => whnf) | (refine Both.lit_true ?_; conv => whnf) | (refine Both.lit_false ?_; conv => whnf) | (apply QStep.go; conv => whnf) | (refine Need.mk ?_ ?_; (focus (first | omega | exact ⟨by omega, by omega⟩ | rfl | exact ⟨rfl, rfl⟩ | exact ⟨rfl, by omega, by omega⟩ | exact ⟨by omega, by omega, by omega⟩ | exact ⟨rfl, Nat.le_of_ble_eq_true rfl⟩ | exact Nat.le_of_ble_eq_true rfl | (refine ⟨rfl, rfl, ?_⟩; simp [isFar, ofV0, CV.up, SV.renL, SV.ren] <;> fail) | (refine ⟨rfl, Nat.le_of_ble_eq_true rfl, ?_⟩; simp [isFar, ofV0, CV.up, SV.renL, SV.ren] <;> fail) | (simp only [List.length_append, List.length_drop, List.length_take, List.length_replicate, List.length_map]; omega) | (simp <;> fail))); conv => whnf) | (refine ⟨_, rfl, ?_⟩; conv => whnf)))
    refine CallVC.auto add_k ⟨sprL l k, k, l.getD k 0, rfl, hsl.symm, by omega, rfl, by omega, rfl, hbd, ?_⟩
    (conv => whnf)
    (repeat (first | (exact Out.same; conv => whnf) | (exact Out1.same; conv => whnf) | (refine QAnd.mk ?_ ?_; conv => whnf) | (apply QStepH.go; conv => whnf) | (refine Both.lit_true ?_; conv => whnf) | (refine Both.lit_false ?_; conv => whnf) | (apply QStep.go; conv => whnf) | (refine Need.mk ?_ ?_; (focus (first | omega | exact ⟨by omega, by omega⟩ | rfl | exact ⟨rfl, rfl⟩ | exact ⟨rfl, by omega, by omega⟩ | exact ⟨by omega, by omega, by omega⟩ | exact ⟨rfl, Nat.le_of_ble_eq_true rfl⟩ | exact Nat.le_of_ble_eq_true rfl | (refine ⟨rfl, rfl, ?_⟩; simp [isFar, ofV0, CV.up, SV.renL, SV.ren] <;> fail) | (refine ⟨rfl, Nat.le_of_ble_eq_true rfl, ?_⟩; simp [isFar, ofV0, CV.up, SV.renL, SV.ren] <;> fail) | (simp only [List.length_append, List.length_drop, List.length_take, List.length_replicate, List.length_map]; omega) | (simp <;> fail))); conv => whnf) | (refine ⟨_, rfl, ?_⟩; conv => whnf)))
    refine ⟨k + 1, by omega, by omega, Weak.auto ?_⟩
    (repeat' ((conv => whnf); first | exact True.intro | (refine And.intro ?_ ?_)))
    all_goals first | rfl | exact .eq rfl | exact hobj | exact congrArg (SV.int .i64) hwr
  have hke : k = l.length := by omega
  subst hke
  (conv => whnf)
  (repeat (first | (exact Out.same; conv => whnf) | (exact Out1.same; conv => whnf) | (refine QAnd.mk ?_ ?_; conv => whnf) | (apply QStepH.go; conv => whnf) | (refine Both.lit_true ?_; conv => whnf) | (refine Both.lit_false ?_; conv => whnf) | (apply QStep.go; conv => whnf) | (refine Need.mk ?_ ?_; (focus (first | omega | exact ⟨by omega, by omega⟩ | rfl | exact ⟨rfl, rfl⟩ | exact ⟨rfl, by omega, by omega⟩ | exact ⟨by omega, by omega, by omega⟩ | exact ⟨rfl, Nat.le_of_ble_eq_true rfl⟩ | exact Nat.le_of_ble_eq_true rfl | (refine ⟨rfl, rfl, ?_⟩; simp [isFar, ofV0, CV.up, SV.renL, SV.ren] <;> fail) | (refine ⟨rfl, Nat.le_of_ble_eq_true rfl, ?_⟩; simp [isFar, ofV0, CV.up, SV.renL, SV.ren] <;> fail) | (simp only [List.length_append, List.length_drop, List.length_take, List.length_replicate, List.length_map]; omega) | (simp <;> fail))); conv => whnf) | (refine ⟨_, rfl, ?_⟩; conv => whnf)))
  refine ⟨_, _, WeakV.auto ?_, h⟩
  (repeat' ((conv => whnf); first | exact True.intro | (refine And.intro ?_ ?_)))
  all_goals first | rfl | exact .eq rfl
theorem spr_k : Contract Tryd.prog [] 51 sprS := ⟨⟨⟨_, rfl, rfl, rfl⟩⟩, spr_c⟩
/-! ## multiply -/
def mulS : Spec := fun args H Q => match args, H with
  | [.sl 1 n cs f, .int .u64 y], [] => ∃ (l : List Nat) (x : Nat), cs = us l ∧ n = l.length ∧ l.length < 800 ∧ (∀ d ∈ l, d < 18446744073709551616) ∧ y = x ∧ x < 18446744073709551616 ∧
      Q (.own 0) [.own 58 1 (l.length + 4) (us (mulL l x)) true]
  | _, _ => False
theorem mul_c : Meets Tryd.prog [] 48 mulS := by
  refine meets_of Γok Tryd.func48 rfl ?_
  intro args H Q h
  unfold mulS at h
  split at h
  case h_2 => exact h.elim
  rename_i n cs f y
  obtain ⟨l, x, rfl, rfl, hl, hb, rfl, hx, h⟩ := h
  have hpl : (sprL l l.length).length = l.length + 1 := sprL_len l _
  have hpb := sprL_bd l l.length
  unfold mulL at h
  (refine sx_sound Γok _ ?_; conv => whnf)
  (repeat (first | (exact Out.same; conv => whnf) | (exact Out1.same; conv => whnf) | (refine QAnd.mk ?_ ?_; conv => whnf) | (apply QStepH.go; conv => whnf) | (refine Both.lit_true ?_; conv => whnf) | (refine Both.lit_false ?_; conv => whnf) | (apply QStep.go; conv => whnf) | (refine Need.mk ?_ ?_; (focus (first | omega | exact ⟨by omega, by omega⟩ | rfl | exact ⟨rfl, rfl⟩ | exact ⟨rfl, by omega, by omega⟩ | exact ⟨by omega, by omega, by omega⟩ | exact ⟨rfl, Nat.le_of_ble_eq_true rfl⟩ | exact Nat.le_of_ble_eq_true rfl | (refine ⟨rfl, rfl, ?_⟩; simp [isFar, ofV0, CV.up, SV.renL, SV.ren] <;> fail) | (refine ⟨rfl, Nat.le_of_ble_eq_true rfl, ?_⟩; simp [isFar, ofV0, CV.up, SV.renL, SV.ren] <;> fail) | (simp only [List.length_append, List.length_drop, List.length_take, List.length_replicate, List.length_map]; omega) | (simp <;> fail))); conv => whnf) | (refine ⟨_, rfl, ?_⟩; conv => whnf)))
  refine CallVC.auto spr_k ⟨l, rfl, rfl, by omega, hb, ?_⟩
  revert h hpl hpb
  generalize sprL l l.length = p
  intro h hpl hpb
  rw [← hpl]
  have e1 : (x : Int).tmod 4294967296 = ((x % 4294967296 : Nat) : Int) := rfl
  have e2 : IntKind.u64.wrap ((x : Int).tdiv 4294967296) = ((x / 4294967296 : Nat) : Int) := by
    rw [show (x : Int).tdiv 4294967296 = ((x / 4294967296 : Nat) : Int) from rfl, wrap64, n64_of (by omega)]
  have hlo : x % 4294967296 < 4294967296 := Nat.mod_lt _ (by decide)
  have hhi : x / 4294967296 < 4294967296 := by omega
  revert h e1 e2 hlo hhi
  generalize x % 4294967296 = lo
  generalize x / 4294967296 = hi
  intro h e1 e2 hlo hhi
  have hw1 : IntKind.i64.wrap ((p.length : Int) + 3) = ((p.length + 3 : Nat) : Int) := by rw [wrap_i64 (by omega) (by omega)]; rfl
  have hmk : ((p.length + 3 : Nat) : Int) = ((p.length + 3 : Nat) : Int) ∧ 0 ≤ ((p.length + 3 : Nat) : Int) ∧ (ti58.bytes : Int) * ((p.length + 3 : Nat) : Int) ≤ 140737488355328 ∧ ((p.length + 3 : Nat) : Int) ≤ 140737488355328 := by
    have : (ti58.bytes : Int) = 8 := rfl
    rw [this]
    omega
  have hobj0 : LObj.own 58 ti58.size (((p.length + 3 : Nat) : Int)).toNat (zerosOf ti58.size (((p.length + 3 : Nat) : Int)).toNat [CV.int .u64 0]) true = LObj.own 58 1 (p.length + 3) (us (mulR p lo hi 0)) true := by
    rw [show ti58.size = 1 from rfl, zer_us]
    rfl
  (conv => whnf)
  (repeat (first | (exact Out.same; conv => whnf) | (exact Out1.same; conv => whnf) | (refine QAnd.mk ?_ ?_; conv => whnf) | (apply QStepH.go; conv => whnf) | (refine Both.lit_true ?_; conv => whnf) | (refine Both.lit_false ?_; conv => whnf) | (apply QStep.go; conv => whnf) | (refine Need.mk ?_ ?_; (focus (first | omega | exact ⟨by omega, by omega⟩ | rfl | exact ⟨rfl, rfl⟩ | exact ⟨rfl, by omega, by omega⟩ | exact ⟨by omega, by omega, by omega⟩ | exact ⟨rfl, Nat.le_of_ble_eq_true rfl⟩ | exact Nat.le_of_ble_eq_true rfl | (refine ⟨rfl, rfl, ?_⟩; simp [isFar, ofV0, CV.up, SV.renL, SV.ren] <;> fail) | (refine ⟨rfl, Nat.le_of_ble_eq_true rfl, ?_⟩; simp [isFar, ofV0, CV.up, SV.renL, SV.ren] <;> fail) | (simp only [List.length_append, List.length_drop, List.length_take, List.length_replicate, List.length_map]; omega) | (simp <;> fail))); conv => whnf) | (refine ⟨_, rfl, ?_⟩; conv => whnf)))
  rw [e1, e2, hw1]
  (repeat (first | (refine Need.mk hmk ?_; conv => whnf) | (exact Out.same; conv => whnf) | (exact Out1.same; conv => whnf) | (refine QAnd.mk ?_ ?_; conv => whnf) | (apply QStepH.go; conv => whnf) | (refine Both.lit_true ?_; conv => whnf) | (refine Both.lit_false ?_; conv => whnf) | (apply QStep.go; conv => whnf) | (refine Need.mk ?_ ?_; (focus (first | omega | exact ⟨by omega, by omega⟩ | rfl | exact ⟨rfl, rfl⟩ | exact ⟨rfl, by omega, by omega⟩ | exact ⟨by omega, by omega, by omega⟩ | exact ⟨rfl, Nat.le_of_ble_eq_true rfl⟩ | exact Nat.le_of_ble_eq_true rfl | (refine ⟨rfl, rfl, ?_⟩; simp [isFar, ofV0, CV.up, SV.renL, SV.ren] <;> fail) | (refine ⟨rfl, Nat.le_of_ble_eq_true rfl, ?_⟩; simp [isFar, ofV0, CV.up, SV.renL, SV.ren] <;> fail) | (simp only [List.length_append, List.length_drop, List.length_take, List.length_replicate, List.length_map]; omega) | (simp <;> fail))); conv => whnf) | (refine ⟨_, rfl, ?_⟩; conv => whnf)))
  refine loop_rule (fun k : Nat => ⟨[.own 0, .any, .any, .any, .any, .int .u64 (lo : Int), .int .u64 (hi : Int), .own 1, .int .i64 (k : Int), .any, .any, .any, .any, .any, .any, .any, .any, .any, .any, .any, .any, .any, .any, .any, .any, .any, .any, .any, .any, .any, .any, .any, .any, .any, .any, .any, .any, .any, .any, .any, .any, .any, .any, .any, .any], [.own 58 1 p.length (us p) true, .own 58 1 (p.length + 3) (us (mulR p lo hi k)) true]⟩) (fun k => k ≤ p.length) (fun k => p.length - k) 0 (Nat.zero_le _) (Weak.auto ?_) ?_
  · (repeat' ((conv => whnf); first | exact True.intro | (refine And.intro ?_ ?_)))
    all_goals first | exact hobj0 | rfl | exact .eq rfl
  clear hobj0 hmk hw1 e1 e2
  intro k hk
  (refine sx_sound Γok _ ?_; conv => whnf)
  (repeat (first | (exact Out.same; conv => whnf) | (exact Out1.same; conv => whnf) | (refine QAnd.mk ?_ ?_; conv => whnf) | (apply QStepH.go; conv => whnf) | (refine Both.lit_true ?_; conv => whnf) | (refine Both.lit_false ?_; conv => whnf) | (apply QStep.go; conv => whnf) | (refine Need.mk ?_ ?_; (focus (first | omega | exact ⟨by omega, by omega⟩ | rfl | exact ⟨rfl, rfl⟩ | exact ⟨rfl, by omega, by omega⟩ | exact ⟨by omega, by omega, by omega⟩ | exact ⟨rfl, Nat.le_of_ble_eq_true rfl⟩ | exact Nat.le_of_ble_eq_true rfl | (refine ⟨rfl, rfl, ?_⟩; simp [isFar, ofV0, CV.up, SV.renL, SV.ren] <;> fail) | (refine ⟨rfl, Nat.le_of_ble_eq_true rfl, ?_⟩; simp [isFar, ofV0, CV.up, SV.renL, SV.ren] <;> fail) | (simp only [List.length_append, List.length_drop, List.length_take, List.length_replicate, List.length_map]; omega) | (simp <;> fail))); conv => whnf) | (refine ⟨_, rfl, ?_⟩; conv => whnf)))
  refine Both.dec (fun hlt => ?_) (fun hge => ?_)
  · have hkl : k < p.length := by omega
    have hat := us_at hkl
    have hsl := mulR_len p lo hi k
    have hwr : IntKind.i64.wrap ((k : Int) + 1) = ((k + 1 : Nat) : Int) := by rw [wrap_i64 (by omega) (by omega)]; rfl
    have hm1 := wrap64_mul (p.getD k 0) lo
    have hm2 := wrap64_mul (p.getD k 0) hi
    obtain ⟨q, hq⟩ : ∃ q, addL ((mulR p lo hi k).length - k) (mulR p lo hi k) k (n64 (p.getD k 0 * lo)) = q := ⟨_, rfl⟩
    have hql : q.length = p.length + 3 := by rw [← hq, addL_len, hsl]
    have hobj : LObj.own 58 1 q.length (us (addL (q.length - (k + 1)) q (k + 1) (n64 (p.getD k 0 * hi)))) true = LObj.own 58 1 (p.length + 3) (us (mulR p lo hi (k + 1))) true := by
      rw [hql, ← hq, hsl]
      rfl
    (conv => whnf)
    (repeat (first | (refine ⟨_, hat, ?_⟩; conv => whnf) | (exact Out.same; conv => whnf) | (exact Out1.same; conv => whnf) | (refine QAnd.mk ?_ ?_; conv => whnf) | (apply QStepH.go; conv => whnf) | (refine Both.lit_true ?_; conv => whnf) | (refine Both.lit_false ?_; conv => whnf) | (apply QStep.go; conv => whnf) | (refine Need.mk ?_ ?_; (focus (first | omega | exact ⟨by omega, by omega⟩ | rfl | exact ⟨rfl, rfl⟩ | exact ⟨rfl, by omega, by omega⟩ | exact ⟨by omega, by omega, by omega⟩ | exact ⟨rfl, Nat.le_of_ble_eq_true rfl⟩ | exact Nat.le_of_ble_eq_true rfl | (refine ⟨rfl, rfl, ?_⟩; simp [isFar, ofV0, CV.up, SV.renL, SV.ren] <;> fail) | (refine ⟨rfl, Nat.le_of_ble_eq_true rfl, ?_⟩; simp [isFar, ofV0, CV.up, SV.renL, SV.ren] <;> fail) | (simp only [List.length_append, List.length_drop, List.length_take, List.length_replicate, List.length_map]; omega) | (simp <;> fail))); conv => whnf) | (refine ⟨_, rfl, ?_⟩; conv => whnf)))
    refine CallVC.auto add_k ⟨mulR p lo hi k, k, n64 (p.getD k 0 * lo), rfl, hsl.symm, by omega, rfl, by omega, hm1, n64_lt _, ?_⟩
    rw [hq, hsl]
    (conv => whnf)
    (repeat (first | (refine ⟨_, hat, ?_⟩; conv => whnf) | (exact Out.same; conv => whnf) | (exact Out1.same; conv => whnf) | (refine QAnd.mk ?_ ?_; conv => whnf) | (apply QStepH.go; conv => whnf) | (refine Both.lit_true ?_; conv => whnf) | (refine Both.lit_false ?_; conv => whnf) | (apply QStep.go; conv => whnf) | (refine Need.mk ?_ ?_; (focus (first | omega | exact ⟨by omega, by omega⟩ | rfl | exact ⟨rfl, rfl⟩ | exact ⟨rfl, by omega, by omega⟩ | exact ⟨by omega, by omega, by omega⟩ | exact ⟨rfl, Nat.le_of_ble_eq_true rfl⟩ | exact Nat.le_of_ble_eq_true rfl | (refine ⟨rfl, rfl, ?_⟩; simp [isFar, ofV0, CV.up, SV.renL, SV.ren] <;> fail) | (refine ⟨rfl, Nat.le_of_ble_eq_true rfl, ?_⟩; simp [isFar, ofV0, CV.up, SV.renL, SV.ren] <;> fail) | (simp only [List.length_append, List.length_drop, List.length_take, List.length_replicate, List.length_map]; omega) | (simp <;> fail))); conv => whnf) | (refine ⟨_, rfl, ?_⟩; conv => whnf)))
    refine CallVC.auto add_k ⟨q, k + 1, n64 (p.getD k 0 * hi), rfl, hql.symm, by omega, hwr, by omega, hm2, n64_lt _, ?_⟩
    (conv => whnf)
    (repeat (first | (exact Out.same; conv => whnf) | (exact Out1.same; conv => whnf) | (refine QAnd.mk ?_ ?_; conv => whnf) | (apply QStepH.go; conv => whnf) | (refine Both.lit_true ?_; conv => whnf) | (refine Both.lit_false ?_; conv => whnf) | (apply QStep.go; conv => whnf) | (refine Need.mk ?_ ?_; (focus (first | omega | exact ⟨by omega, by omega⟩ | rfl | exact ⟨rfl, rfl⟩ | exact ⟨rfl, by omega, by omega⟩ | exact ⟨by omega, by omega, by omega⟩ | exact ⟨rfl, Nat.le_of_ble_eq_true rfl⟩ | exact Nat.le_of_ble_eq_true rfl | (refine ⟨rfl, rfl, ?_⟩; simp [isFar, ofV0, CV.up, SV.renL, SV.ren] <;> fail) | (refine ⟨rfl, Nat.le_of_ble_eq_true rfl, ?_⟩; simp [isFar, ofV0, CV.up, SV.renL, SV.ren] <;> fail) | (simp only [List.length_append, List.length_drop, List.length_take, List.length_replicate, List.length_map]; omega) | (simp <;> fail))); conv => whnf) | (refine ⟨_, rfl, ?_⟩; conv => whnf)))
    refine ⟨k + 1, by omega, by omega, Weak.auto ?_⟩
    (repeat' ((conv => whnf); first | exact True.intro | (refine And.intro ?_ ?_)))
    all_goals first | rfl | exact .eq rfl | exact hobj | exact congrArg (SV.int .i64) hwr
  have hke : k = p.length := by omega
  subst hke
  rw [hpl] at h
  (conv => whnf)
  (repeat (first | (exact Out.same; conv => whnf) | (exact Out1.same; conv => whnf) | (refine QAnd.mk ?_ ?_; conv => whnf) | (apply QStepH.go; conv => whnf) | (refine Both.lit_true ?_; conv => whnf) | (refine Both.lit_false ?_; conv => whnf) | (apply QStep.go; conv => whnf) | (refine Need.mk ?_ ?_; (focus (first | omega | exact ⟨by omega, by omega⟩ | rfl | exact ⟨rfl, rfl⟩ | exact ⟨rfl, by omega, by omega⟩ | exact ⟨by omega, by omega, by omega⟩ | exact ⟨rfl, Nat.le_of_ble_eq_true rfl⟩ | exact Nat.le_of_ble_eq_true rfl | (refine ⟨rfl, rfl, ?_⟩; simp [isFar, ofV0, CV.up, SV.renL, SV.ren] <;> fail) | (refine ⟨rfl, Nat.le_of_ble_eq_true rfl, ?_⟩; simp [isFar, ofV0, CV.up, SV.renL, SV.ren] <;> fail) | (simp only [List.length_append, List.length_drop, List.length_take, List.length_replicate, List.length_map]; omega) | (simp <;> fail))); conv => whnf) | (refine ⟨_, rfl, ?_⟩; conv => whnf)))
  rw [hpl]
  refine ⟨_, _, WeakV.auto ?_, h⟩
  (repeat' ((conv => whnf); first | exact True.intro | (refine And.intro ?_ ?_)))
  all_goals first | rfl | exact .eq rfl
theorem mul_k : Contract Tryd.prog [] 48 mulS := ⟨⟨⟨_, rfl, rfl, rfl⟩⟩, mul_c⟩
/-! ## digit, above -/
def digitS : Spec := fun args H Q => match args, H with
  | [.sl 1 n cs f, .int .i64 y], [] => ∃ (l : List Nat) (k : Nat), cs = us l ∧ n = l.length ∧ y = k ∧ Q (.int .u64 ((l.getD k 0 : Nat) : Int)) []
  | _, _ => False
theorem digit_c : Meets Tryd.prog [] 53 digitS := by
  refine meets_of Γok Tryd.func53 rfl ?_
  intro args H Q h
  unfold digitS at h
  split at h
  case h_2 => exact h.elim
  rename_i n cs f y
  obtain ⟨l, k, rfl, rfl, rfl, h⟩ := h
  (refine sx_sound Γok _ ?_; conv => whnf)
  (repeat (first | (exact Out.same; conv => whnf) | (exact Out1.same; conv => whnf) | (refine QAnd.mk ?_ ?_; conv => whnf) | (apply QStepH.go; conv => whnf) | (refine Both.lit_true ?_; conv => whnf) | (refine Both.lit_false ?_; conv => whnf) | (apply QStep.go; conv => whnf) | (refine Need.mk ?_ ?_; (focus (first | omega | exact ⟨by omega, by omega⟩ | rfl | exact ⟨rfl, rfl⟩ | exact ⟨rfl, by omega, by omega⟩ | exact ⟨by omega, by omega, by omega⟩ | exact ⟨rfl, Nat.le_of_ble_eq_true rfl⟩ | exact Nat.le_of_ble_eq_true rfl | (refine ⟨rfl, rfl, ?_⟩; simp [isFar, ofV0, CV.up, SV.renL, SV.ren] <;> fail) | (refine ⟨rfl, Nat.le_of_ble_eq_true rfl, ?_⟩; simp [isFar, ofV0, CV.up, SV.renL, SV.ren] <;> fail) | (simp only [List.length_append, List.length_drop, List.length_take, List.length_replicate, List.length_map]; omega) | (simp <;> fail))); conv => whnf) | (refine ⟨_, rfl, ?_⟩; conv => whnf)))
  refine Both.dec (fun hlt => ?_) (fun hge => ?_)
  · have hkl : k < l.length := by omega
    have hat := us_at hkl
    (conv => whnf)
    (repeat (first | (refine ⟨_, hat, ?_⟩; conv => whnf) | (exact Out.same; conv => whnf) | (exact Out1.same; conv => whnf) | (refine QAnd.mk ?_ ?_; conv => whnf) | (apply QStepH.go; conv => whnf) | (refine Both.lit_true ?_; conv => whnf) | (refine Both.lit_false ?_; conv => whnf) | (apply QStep.go; conv => whnf) | (refine Need.mk ?_ ?_; (focus (first | omega | exact ⟨by omega, by omega⟩ | rfl | exact ⟨rfl, rfl⟩ | exact ⟨rfl, by omega, by omega⟩ | exact ⟨by omega, by omega, by omega⟩ | exact ⟨rfl, Nat.le_of_ble_eq_true rfl⟩ | exact Nat.le_of_ble_eq_true rfl | (refine ⟨rfl, rfl, ?_⟩; simp [isFar, ofV0, CV.up, SV.renL, SV.ren] <;> fail) | (refine ⟨rfl, Nat.le_of_ble_eq_true rfl, ?_⟩; simp [isFar, ofV0, CV.up, SV.renL, SV.ren] <;> fail) | (simp only [List.length_append, List.length_drop, List.length_take, List.length_replicate, List.length_map]; omega) | (simp <;> fail))); conv => whnf) | (refine ⟨_, rfl, ?_⟩; conv => whnf)))
    exact ⟨_, _, WeakV.drop rfl, h⟩
  · have hz : l.getD k 0 = 0 := by
      rw [List.getD_eq_getElem?_getD, List.getElem?_eq_none (by omega)]
      rfl
    rw [hz] at h
    (conv => whnf)
    (repeat (first | (exact Out.same; conv => whnf) | (exact Out1.same; conv => whnf) | (refine QAnd.mk ?_ ?_; conv => whnf) | (apply QStepH.go; conv => whnf) | (refine Both.lit_true ?_; conv => whnf) | (refine Both.lit_false ?_; conv => whnf) | (apply QStep.go; conv => whnf) | (refine Need.mk ?_ ?_; (focus (first | omega | exact ⟨by omega, by omega⟩ | rfl | exact ⟨rfl, rfl⟩ | exact ⟨rfl, by omega, by omega⟩ | exact ⟨by omega, by omega, by omega⟩ | exact ⟨rfl, Nat.le_of_ble_eq_true rfl⟩ | exact Nat.le_of_ble_eq_true rfl | (refine ⟨rfl, rfl, ?_⟩; simp [isFar, ofV0, CV.up, SV.renL, SV.ren] <;> fail) | (refine ⟨rfl, Nat.le_of_ble_eq_true rfl, ?_⟩; simp [isFar, ofV0, CV.up, SV.renL, SV.ren] <;> fail) | (simp only [List.length_append, List.length_drop, List.length_take, List.length_replicate, List.length_map]; omega) | (simp <;> fail))); conv => whnf) | (refine ⟨_, rfl, ?_⟩; conv => whnf)))
    exact ⟨_, _, WeakV.drop rfl, h⟩
theorem digit_k : Contract Tryd.prog [] 53 digitS := ⟨⟨⟨_, rfl, rfl, rfl⟩⟩, digit_c⟩
def aboveS : Spec := fun args H Q => match args, H with
  | [.sl 1 n cs f, .sl 1 n' cs' f'], [] => ∃ a b : List Nat, cs = us a ∧ n = a.length ∧ cs' = us b ∧ n' = b.length ∧ a.length < 1000 ∧ b.length < 1000 ∧ Q (.bool (abL a b (a.length + b.length + 1))) []
  | _, _ => False
theorem above_c : Meets Tryd.prog [] 49 aboveS := by
  refine meets_of Γok Tryd.func49 rfl ?_
  intro args H Q h
  unfold aboveS at h
  split at h
  case h_2 => exact h.elim
  rename_i n cs f n' cs' f'
  obtain ⟨a, b, rfl, rfl, rfl, rfl, ha, hb, h⟩ := h
  have hw0 : IntKind.i64.wrap ((a.length : Int) + (b.length : Int)) = ((a.length + b.length + 1 : Nat) : Int) - 1 := by rw [wrap_i64 (by omega) (by omega)]; omega
  obtain ⟨R, hR⟩ : ∃ R, abL a b (a.length + b.length + 1) = R := ⟨_, rfl⟩
  rw [hR] at h
  (refine sx_sound Γok _ ?_; conv => whnf)
  (repeat (first | (exact Out.same; conv => whnf) | (exact Out1.same; conv => whnf) | (refine QAnd.mk ?_ ?_; conv => whnf) | (apply QStepH.go; conv => whnf) | (refine Both.lit_true ?_; conv => whnf) | (refine Both.lit_false ?_; conv => whnf) | (apply QStep.go; conv => whnf) | (refine Need.mk ?_ ?_; (focus (first | omega | exact ⟨by omega, by omega⟩ | rfl | exact ⟨rfl, rfl⟩ | exact ⟨rfl, by omega, by omega⟩ | exact ⟨by omega, by omega, by omega⟩ | exact ⟨rfl, Nat.le_of_ble_eq_true rfl⟩ | exact Nat.le_of_ble_eq_true rfl | (refine ⟨rfl, rfl, ?_⟩; simp [isFar, ofV0, CV.up, SV.renL, SV.ren] <;> fail) | (refine ⟨rfl, Nat.le_of_ble_eq_true rfl, ?_⟩; simp [isFar, ofV0, CV.up, SV.renL, SV.ren] <;> fail) | (simp only [List.length_append, List.length_drop, List.length_take, List.length_replicate, List.length_map]; omega) | (simp <;> fail))); conv => whnf) | (refine ⟨_, rfl, ?_⟩; conv => whnf)))
  refine loop_rule (fun k : Nat => ⟨[.sl 1 a.length (us a) f, .sl 1 b.length (us b) f', .any, .any, .any, .int .i64 ((k : Int) - 1), .any, .any, .any, .any, .any, .any, .any, .any, .any, .any, .any, .any, .any, .any, .any, .any, .any, .any, .any, .any, .any, .any, .any], []⟩) (fun k => k ≤ a.length + b.length + 1 ∧ abL a b k = R) (fun k => k) (a.length + b.length + 1) ⟨Nat.le_refl _, hR⟩ (Weak.auto ?_) ?_
  · (repeat' ((conv => whnf); first | exact True.intro | (refine And.intro ?_ ?_)))
    all_goals first | rfl | exact .eq rfl | exact congrArg (SV.int .i64) hw0
  clear hR
  rintro k ⟨hk, hR⟩
  (refine sx_sound Γok _ ?_; conv => whnf)
  (repeat (first | (exact Out.same; conv => whnf) | (exact Out1.same; conv => whnf) | (refine QAnd.mk ?_ ?_; conv => whnf) | (apply QStepH.go; conv => whnf) | (refine Both.lit_true ?_; conv => whnf) | (refine Both.lit_false ?_; conv => whnf) | (apply QStep.go; conv => whnf) | (refine Need.mk ?_ ?_; (focus (first | omega | exact ⟨by omega, by omega⟩ | rfl | exact ⟨rfl, rfl⟩ | exact ⟨rfl, by omega, by omega⟩ | exact ⟨by omega, by omega, by omega⟩ | exact ⟨rfl, Nat.le_of_ble_eq_true rfl⟩ | exact Nat.le_of_ble_eq_true rfl | (refine ⟨rfl, rfl, ?_⟩; simp [isFar, ofV0, CV.up, SV.renL, SV.ren] <;> fail) | (refine ⟨rfl, Nat.le_of_ble_eq_true rfl, ?_⟩; simp [isFar, ofV0, CV.up, SV.renL, SV.ren] <;> fail) | (simp only [List.length_append, List.length_drop, List.length_take, List.length_replicate, List.length_map]; omega) | (simp <;> fail))); conv => whnf) | (refine ⟨_, rfl, ?_⟩; conv => whnf)))
  refine Both.dec (fun hlt => ?_) (fun hge => ?_)
  · obtain ⟨j, rfl⟩ : ∃ j, k = j + 1 := ⟨k - 1, by omega⟩
    have hj : ((j + 1 : Nat) : Int) - 1 = ((j : Nat) : Int) := by omega
    have hwr : IntKind.i64.wrap ((((j + 1 : Nat) : Int) - 1) - 1) = ((j : Nat) : Int) - 1 := by rw [wrap_i64 (by omega) (by omega)]; omega
    rw [abL] at hR
    (conv => whnf)
    (repeat (first | (refine CallVC.auto digit_k ⟨a, j, rfl, rfl, hj, ?_⟩; conv => whnf) | (refine CallVC.auto digit_k ⟨b, j, rfl, rfl, hj, ?_⟩; conv => whnf) | (exact Out.same; conv => whnf) | (exact Out1.same; conv => whnf) | (refine QAnd.mk ?_ ?_; conv => whnf) | (apply QStepH.go; conv => whnf) | (refine Both.lit_true ?_; conv => whnf) | (refine Both.lit_false ?_; conv => whnf) | (apply QStep.go; conv => whnf) | (refine Need.mk ?_ ?_; (focus (first | omega | exact ⟨by omega, by omega⟩ | rfl | exact ⟨rfl, rfl⟩ | exact ⟨rfl, by omega, by omega⟩ | exact ⟨by omega, by omega, by omega⟩ | exact ⟨rfl, Nat.le_of_ble_eq_true rfl⟩ | exact Nat.le_of_ble_eq_true rfl | (refine ⟨rfl, rfl, ?_⟩; simp [isFar, ofV0, CV.up, SV.renL, SV.ren] <;> fail) | (refine ⟨rfl, Nat.le_of_ble_eq_true rfl, ?_⟩; simp [isFar, ofV0, CV.up, SV.renL, SV.ren] <;> fail) | (simp only [List.length_append, List.length_drop, List.length_take, List.length_replicate, List.length_map]; omega) | (simp <;> fail))); conv => whnf) | (refine ⟨_, rfl, ?_⟩; conv => whnf)))
    refine Both.dec_not (fun hne => ?_) (fun heq => ?_)
    · have hne2 : ¬ a.getD j 0 = b.getD j 0 := by omega
      rw [if_neg hne2] at hR
      have hres : decide (((b.getD j 0 : Nat) : Int) < ((a.getD j 0 : Nat) : Int)) = R := by
        rw [← hR]
        by_cases h9 : b.getD j 0 < a.getD j 0
        · rw [decide_eq_true h9, decide_eq_true (by omega)]
        · rw [decide_eq_false h9, decide_eq_false (by omega)]
      (conv => whnf)
      (repeat (first | (exact Out.same; conv => whnf) | (exact Out1.same; conv => whnf) | (refine QAnd.mk ?_ ?_; conv => whnf) | (apply QStepH.go; conv => whnf) | (refine Both.lit_true ?_; conv => whnf) | (refine Both.lit_false ?_; conv => whnf) | (apply QStep.go; conv => whnf) | (refine Need.mk ?_ ?_; (focus (first | omega | exact ⟨by omega, by omega⟩ | rfl | exact ⟨rfl, rfl⟩ | exact ⟨rfl, by omega, by omega⟩ | exact ⟨by omega, by omega, by omega⟩ | exact ⟨rfl, Nat.le_of_ble_eq_true rfl⟩ | exact Nat.le_of_ble_eq_true rfl | (refine ⟨rfl, rfl, ?_⟩; simp [isFar, ofV0, CV.up, SV.renL, SV.ren] <;> fail) | (refine ⟨rfl, Nat.le_of_ble_eq_true rfl, ?_⟩; simp [isFar, ofV0, CV.up, SV.renL, SV.ren] <;> fail) | (simp only [List.length_append, List.length_drop, List.length_take, List.length_replicate, List.length_map]; omega) | (simp <;> fail))); conv => whnf) | (refine ⟨_, rfl, ?_⟩; conv => whnf)))
      exact ⟨_, _, WeakV.drop (congrArg SV.bool hres), h⟩
    · have heq2 : a.getD j 0 = b.getD j 0 := by omega
      rw [if_pos heq2] at hR
      (conv => whnf)
      (repeat (first | (exact Out.same; conv => whnf) | (exact Out1.same; conv => whnf) | (refine QAnd.mk ?_ ?_; conv => whnf) | (apply QStepH.go; conv => whnf) | (refine Both.lit_true ?_; conv => whnf) | (refine Both.lit_false ?_; conv => whnf) | (apply QStep.go; conv => whnf) | (refine Need.mk ?_ ?_; (focus (first | omega | exact ⟨by omega, by omega⟩ | rfl | exact ⟨rfl, rfl⟩ | exact ⟨rfl, by omega, by omega⟩ | exact ⟨by omega, by omega, by omega⟩ | exact ⟨rfl, Nat.le_of_ble_eq_true rfl⟩ | exact Nat.le_of_ble_eq_true rfl | (refine ⟨rfl, rfl, ?_⟩; simp [isFar, ofV0, CV.up, SV.renL, SV.ren] <;> fail) | (refine ⟨rfl, Nat.le_of_ble_eq_true rfl, ?_⟩; simp [isFar, ofV0, CV.up, SV.renL, SV.ren] <;> fail) | (simp only [List.length_append, List.length_drop, List.length_take, List.length_replicate, List.length_map]; omega) | (simp <;> fail))); conv => whnf) | (refine ⟨_, rfl, ?_⟩; conv => whnf)))
      refine ⟨j, ⟨by omega, hR⟩, by omega, Weak.auto ?_⟩
      (repeat' ((conv => whnf); first | exact True.intro | (refine And.intro ?_ ?_)))
      all_goals first | rfl | exact .eq rfl | exact congrArg (SV.int .i64) hwr
  have hk0 : k = 0 := by omega
  rw [hk0] at hR
  have hR : false = R := hR
  rw [← hR] at h
  (conv => whnf)
  (repeat (first | (exact Out.same; conv => whnf) | (exact Out1.same; conv => whnf) | (refine QAnd.mk ?_ ?_; conv => whnf) | (apply QStepH.go; conv => whnf) | (refine Both.lit_true ?_; conv => whnf) | (refine Both.lit_false ?_; conv => whnf) | (apply QStep.go; conv => whnf) | (refine Need.mk ?_ ?_; (focus (first | omega | exact ⟨by omega, by omega⟩ | rfl | exact ⟨rfl, rfl⟩ | exact ⟨rfl, by omega, by omega⟩ | exact ⟨by omega, by omega, by omega⟩ | exact ⟨rfl, Nat.le_of_ble_eq_true rfl⟩ | exact Nat.le_of_ble_eq_true rfl | (refine ⟨rfl, rfl, ?_⟩; simp [isFar, ofV0, CV.up, SV.renL, SV.ren] <;> fail) | (refine ⟨rfl, Nat.le_of_ble_eq_true rfl, ?_⟩; simp [isFar, ofV0, CV.up, SV.renL, SV.ren] <;> fail) | (simp only [List.length_append, List.length_drop, List.length_take, List.length_replicate, List.length_map]; omega) | (simp <;> fail))); conv => whnf) | (refine ⟨_, rfl, ?_⟩; conv => whnf)))
  exact ⟨_, _, WeakV.drop rfl, h⟩
theorem above_k : Contract Tryd.prog [] 49 aboveS := ⟨⟨⟨_, rfl, rfl, rfl⟩⟩, above_c⟩
end Go.LX
