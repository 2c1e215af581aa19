/- Own texts of this claim, in build order: Sn, So, R1, R2, Sq, Sr, Su, Sv, Sw, Sx, Sy, Bm. -/
import Derived.Test.YtfnpemikicofaaaDoorZ3
section
set_option maxRecDepth 100000
set_option maxHeartbeats 1000000
set_option autoImplicit false
set_option linter.unusedVariables false
set_option linter.unusedSimpArgs false
namespace Go.LX
open Go.Proofs

/-! ## The document's constants: digits of 32 bits -/
def addY (l : List Nat) (a x : Nat) : Nat := n64 (n64 (x % 4294967296 + l.getD a 0) + n64 (x / 4294967296 * 4294967296))
def addL : Nat → List Nat → Nat → Nat → List Nat
  | 0, l, _, _ => l
  | f + 1, l, a, x => if 0 < x then addL f (l.set a (addY l a x % 4294967296)) (a + 1) (addY l a x / 4294967296) else l
theorem addL_len : ∀ (f : Nat) (l : List Nat) (a x : Nat), (addL f l a x).length = l.length
  | 0, _, _, _ => rfl
  | f + 1, l, a, x => by
    rw [addL]
    split
    · rw [addL_len f, List.length_set]
    · rfl
def addS : Spec := fun args H Q => match args, H with
  | [.own 0, .int .i64 k, .int .u64 y], [.own 78 1 n xs true] => ∃ (l : List Nat) (a x : Nat), xs = us l ∧ n = l.length ∧ l.length < 1000 ∧ k = a ∧ a ≤ l.length ∧ y = x ∧ x < 18446744073709551616 ∧
      Q (.tuple []) [.own 78 1 l.length (us (addL (l.length - a) l a x)) true]
  | _, _ => False
theorem add_c : Meets Tryd.prog [] 105 addS := by
  refine meets_of Γok Tryd.func105 rfl ?_
  intro args H Q h
  unfold addS at h
  split at h
  case h_2 => exact h.elim
  obtain ⟨l, a, x, rfl, rfl, hl, rfl, ha, rfl, hx, h⟩ := h
  obtain ⟨R, hR⟩ : ∃ R, addL (l.length - a) l a x = R := ⟨_, rfl⟩
  obtain ⟨L, hL⟩ : ∃ L, l.length = L := ⟨_, rfl⟩
  rw [hR] at h
  rw [hL] at h hR ha hl
  rw [hL]
  (refine sx_sound Γok _ ?_; conv => whnf)
  (repeat (first | (exact Out.same; conv => whnf) | (exact Out1.same; conv => whnf) | (refine QAnd.mk ?_ ?_; conv => whnf) | (apply QStepH.go; conv => whnf) | (refine Both.lit_true ?_; conv => whnf) | (refine Both.lit_false ?_; conv => whnf) | (apply QStep.go; conv => whnf) | (refine Need.mk ?_ ?_; (focus (first | omega | exact ⟨by omega, by omega⟩ | rfl | exact ⟨rfl, rfl⟩ | exact ⟨rfl, by omega, by omega⟩ | exact ⟨by omega, by omega, by omega⟩ | exact ⟨rfl, Nat.le_of_ble_eq_true rfl⟩ | exact Nat.le_of_ble_eq_true rfl | (refine ⟨rfl, rfl, ?_⟩; simp [isFar, ofV0, CV.up, SV.renL, SV.ren] <;> fail) | (refine ⟨rfl, Nat.le_of_ble_eq_true rfl, ?_⟩; simp [isFar, ofV0, CV.up, SV.renL, SV.ren] <;> fail) | (simp only [List.length_append, List.length_drop, List.length_take, List.length_replicate, List.length_map]; omega) | (simp <;> fail))); conv => whnf) | (refine ⟨_, rfl, ?_⟩; conv => whnf)))
  refine loop_rule (fun s : List Nat × Nat × Nat => match s with | (l, a, x) => ⟨[.own 0, .int .i64 (a : Int), .int .u64 (x : Int), .any, .any, .any, .any, .any, .any, .any, .any, .any, .any, .any, .any, .any, .any, .any, .any, .any, .any, .any, .any, .any, .any, .any, .any, .any, .any, .any, .any, .any, .any, .any], [.own 78 1 L (us l) true]⟩) (fun s => s.1.length = L ∧ s.2.1 ≤ L ∧ s.2.2 < 18446744073709551616 ∧ addL (L - s.2.1) s.1 s.2.1 s.2.2 = R) (fun s => L - s.2.1) (l, a, x) ⟨hL, ha, hx, hR⟩ (Weak.auto ?_) ?_
  · (repeat' ((conv => whnf); first | exact True.intro | (refine And.intro ?_ ?_)))
    all_goals first | rfl | exact .eq rfl
  clear hR hx ha
  rintro ⟨l, a, x⟩ ⟨hl1, ha, hx, hR⟩
  dsimp only at hl1 ha hx hR
  (refine sx_sound Γok _ ?_; conv => whnf)
  (repeat (first | (exact Out.same; conv => whnf) | (exact Out1.same; conv => whnf) | (refine QAnd.mk ?_ ?_; conv => whnf) | (apply QStepH.go; conv => whnf) | (refine Both.lit_true ?_; conv => whnf) | (refine Both.lit_false ?_; conv => whnf) | (apply QStep.go; conv => whnf) | (refine Need.mk ?_ ?_; (focus (first | omega | exact ⟨by omega, by omega⟩ | rfl | exact ⟨rfl, rfl⟩ | exact ⟨rfl, by omega, by omega⟩ | exact ⟨by omega, by omega, by omega⟩ | exact ⟨rfl, Nat.le_of_ble_eq_true rfl⟩ | exact Nat.le_of_ble_eq_true rfl | (refine ⟨rfl, rfl, ?_⟩; simp [isFar, ofV0, CV.up, SV.renL, SV.ren] <;> fail) | (refine ⟨rfl, Nat.le_of_ble_eq_true rfl, ?_⟩; simp [isFar, ofV0, CV.up, SV.renL, SV.ren] <;> fail) | (simp only [List.length_append, List.length_drop, List.length_take, List.length_replicate, List.length_map]; omega) | (simp <;> fail))); conv => whnf) | (refine ⟨_, rfl, ?_⟩; conv => whnf)))
  refine Both.dec (fun hlt => ?_) (fun hge => ?_)
  · (conv => whnf)
    (repeat (first | (exact Out.same; conv => whnf) | (exact Out1.same; conv => whnf) | (refine QAnd.mk ?_ ?_; conv => whnf) | (apply QStepH.go; conv => whnf) | (refine Both.lit_true ?_; conv => whnf) | (refine Both.lit_false ?_; conv => whnf) | (apply QStep.go; conv => whnf) | (refine Need.mk ?_ ?_; (focus (first | omega | exact ⟨by omega, by omega⟩ | rfl | exact ⟨rfl, rfl⟩ | exact ⟨rfl, by omega, by omega⟩ | exact ⟨by omega, by omega, by omega⟩ | exact ⟨rfl, Nat.le_of_ble_eq_true rfl⟩ | exact Nat.le_of_ble_eq_true rfl | (refine ⟨rfl, rfl, ?_⟩; simp [isFar, ofV0, CV.up, SV.renL, SV.ren] <;> fail) | (refine ⟨rfl, Nat.le_of_ble_eq_true rfl, ?_⟩; simp [isFar, ofV0, CV.up, SV.renL, SV.ren] <;> fail) | (simp only [List.length_append, List.length_drop, List.length_take, List.length_replicate, List.length_map]; omega) | (simp <;> fail))); conv => whnf) | (refine ⟨_, rfl, ?_⟩; conv => whnf)))
    refine Both.dec (fun hlt2 => ?_) (fun hge2 => ?_)
    · have haL : a < l.length := by omega
      have hat := us_at haL
      obtain ⟨y, hy⟩ : ∃ y, addY l a x = y := ⟨_, rfl⟩
      have hyv : IntKind.u64.wrap (IntKind.u64.wrap ((x : Int).tmod 4294967296 + ((l.getD a 0 : Nat) : Int)) + IntKind.u64.wrap (IntKind.u64.wrap ((x : Int).tdiv 4294967296) * 4294967296)) = (y : Int) := by
        have e1 : (x : Int).tmod 4294967296 = ((x % 4294967296 : Nat) : Int) := rfl
        have e2 : (x : Int).tdiv 4294967296 = ((x / 4294967296 : Nat) : Int) := rfl
        have e3 : (4294967296 : Int) = ((4294967296 : Nat) : Int) := rfl
        rw [e1, e2, wrap64 (x / 4294967296), n64_of (by omega), wrap64_add, e3, wrap64_mul, wrap64_add, ← hy]
        rfl
      have hy64 : y < 18446744073709551616 := by rw [← hy]; exact n64_lt _
      have hdv : IntKind.u64.wrap ((y : Int).tdiv 4294967296) = ((y / 4294967296 : Nat) : Int) := by
        rw [show (y : Int).tdiv 4294967296 = ((y / 4294967296 : Nat) : Int) from rfl, wrap64, n64_of (by omega)]
      have hset : (us l).set ((a : Int)).toNat (CV.int .u64 ((y : Int).tmod 4294967296)) = us (l.set a (y % 4294967296)) := us_set l a (y % 4294967296)
      have hwr : IntKind.i64.wrap ((a : Int) + 1) = ((a + 1 : Nat) : Int) := by rw [wrap_i64 (by omega) (by omega)]; rfl
      have hst : ti78.size = 1 ∧ ((a : Int)).toNat < (us l).length := ⟨rfl, by rw [us_len, Int.toNat_natCast]; exact haL⟩
      have hobj : LObj.own 78 1 L ((us l).set ((a : Int)).toNat (CV.int .u64 ((y : Int).tmod 4294967296))) true = LObj.own 78 1 L (us (l.set a (y % 4294967296))) true := by rw [hset]
      have hR2 : addL (L - (a + 1)) (l.set a (y % 4294967296)) (a + 1) (y / 4294967296) = R := by
        rw [← hR, show L - a = (L - (a + 1)) + 1 by omega, addL, if_pos (by omega), hy]
      (conv => whnf)
      (repeat (first | (refine ⟨_, hat, ?_⟩; conv => whnf) | (exact Out.same; conv => whnf) | (exact Out1.same; conv => whnf) | (refine QAnd.mk ?_ ?_; conv => whnf) | (apply QStepH.go; conv => whnf) | (refine Both.lit_true ?_; conv => whnf) | (refine Both.lit_false ?_; conv => whnf) | (apply QStep.go; conv => whnf) | (refine Need.mk ?_ ?_; (focus (first | omega | exact ⟨by omega, by omega⟩ | rfl | exact ⟨rfl, rfl⟩ | exact ⟨rfl, by omega, by omega⟩ | exact ⟨by omega, by omega, by omega⟩ | exact ⟨rfl, Nat.le_of_ble_eq_true rfl⟩ | exact Nat.le_of_ble_eq_true rfl | (refine ⟨rfl, rfl, ?_⟩; simp [isFar, ofV0, CV.up, SV.renL, SV.ren] <;> fail) | (refine ⟨rfl, Nat.le_of_ble_eq_true rfl, ?_⟩; simp [isFar, ofV0, CV.up, SV.renL, SV.ren] <;> fail) | (simp only [List.length_append, List.length_drop, List.length_take, List.length_replicate, List.length_map]; omega) | (simp <;> fail))); conv => whnf) | (refine ⟨_, rfl, ?_⟩; conv => whnf)))
      rw [hyv]
      (repeat (first | (refine Need.mk hst ?_; conv => whnf) | (exact Out.same; conv => whnf) | (exact Out1.same; conv => whnf) | (refine QAnd.mk ?_ ?_; conv => whnf) | (apply QStepH.go; conv => whnf) | (refine Both.lit_true ?_; conv => whnf) | (refine Both.lit_false ?_; conv => whnf) | (apply QStep.go; conv => whnf) | (refine Need.mk ?_ ?_; (focus (first | omega | exact ⟨by omega, by omega⟩ | rfl | exact ⟨rfl, rfl⟩ | exact ⟨rfl, by omega, by omega⟩ | exact ⟨by omega, by omega, by omega⟩ | exact ⟨rfl, Nat.le_of_ble_eq_true rfl⟩ | exact Nat.le_of_ble_eq_true rfl | (refine ⟨rfl, rfl, ?_⟩; simp [isFar, ofV0, CV.up, SV.renL, SV.ren] <;> fail) | (refine ⟨rfl, Nat.le_of_ble_eq_true rfl, ?_⟩; simp [isFar, ofV0, CV.up, SV.renL, SV.ren] <;> fail) | (simp only [List.length_append, List.length_drop, List.length_take, List.length_replicate, List.length_map]; omega) | (simp <;> fail))); conv => whnf) | (refine ⟨_, rfl, ?_⟩; conv => whnf)))
      refine ⟨(l.set a (y % 4294967296), a + 1, y / 4294967296), ⟨by rw [List.length_set]; exact hl1, by show a + 1 ≤ L; omega, by show y / 4294967296 < _; omega, hR2⟩, by show L - (a + 1) < L - a; omega, Weak.auto ?_⟩
      (repeat' ((conv => whnf); first | exact True.intro | (refine And.intro ?_ ?_)))
      all_goals first | rfl | exact .eq rfl | exact hobj | exact congrArg (SV.int .i64) hwr | exact congrArg (SV.int .u64) hdv
    · have h0 : L - a = 0 := by omega
      rw [h0] at hR
      have hR : l = R := hR
      (conv => whnf)
      (repeat (first | (exact Out.same; conv => whnf) | (exact Out1.same; conv => whnf) | (refine QAnd.mk ?_ ?_; conv => whnf) | (apply QStepH.go; conv => whnf) | (refine Both.lit_true ?_; conv => whnf) | (refine Both.lit_false ?_; conv => whnf) | (apply QStep.go; conv => whnf) | (refine Need.mk ?_ ?_; (focus (first | omega | exact ⟨by omega, by omega⟩ | rfl | exact ⟨rfl, rfl⟩ | exact ⟨rfl, by omega, by omega⟩ | exact ⟨by omega, by omega, by omega⟩ | exact ⟨rfl, Nat.le_of_ble_eq_true rfl⟩ | exact Nat.le_of_ble_eq_true rfl | (refine ⟨rfl, rfl, ?_⟩; simp [isFar, ofV0, CV.up, SV.renL, SV.ren] <;> fail) | (refine ⟨rfl, Nat.le_of_ble_eq_true rfl, ?_⟩; simp [isFar, ofV0, CV.up, SV.renL, SV.ren] <;> fail) | (simp only [List.length_append, List.length_drop, List.length_take, List.length_replicate, List.length_map]; omega) | (simp <;> fail))); conv => whnf) | (refine ⟨_, rfl, ?_⟩; conv => whnf) | (refine Both.of_false ?_ ?_; (focus (first | rfl | (simp <;> fail))); conv => whnf) | (refine Both.of_true ?_ ?_; (focus (first | rfl | (simp <;> fail))); conv => whnf)))
      rw [hR]
      refine ⟨_, _, WeakV.auto ?_, h⟩
      (repeat' ((conv => whnf); first | exact True.intro | (refine And.intro ?_ ?_)))
      all_goals first | rfl | exact .eq rfl
  · have hx0 : x = 0 := by omega
    have hR : l = R := by
      rw [hx0] at hR
      rw [← hR]
      cases L - a with
      | zero => rfl
      | succ f => rw [addL, if_neg (by omega)]
    (conv => whnf)
    (repeat (first | (exact Out.same; conv => whnf) | (exact Out1.same; conv => whnf) | (refine QAnd.mk ?_ ?_; conv => whnf) | (apply QStepH.go; conv => whnf) | (refine Both.lit_true ?_; conv => whnf) | (refine Both.lit_false ?_; conv => whnf) | (apply QStep.go; conv => whnf) | (refine Need.mk ?_ ?_; (focus (first | omega | exact ⟨by omega, by omega⟩ | rfl | exact ⟨rfl, rfl⟩ | exact ⟨rfl, by omega, by omega⟩ | exact ⟨by omega, by omega, by omega⟩ | exact ⟨rfl, Nat.le_of_ble_eq_true rfl⟩ | exact Nat.le_of_ble_eq_true rfl | (refine ⟨rfl, rfl, ?_⟩; simp [isFar, ofV0, CV.up, SV.renL, SV.ren] <;> fail) | (refine ⟨rfl, Nat.le_of_ble_eq_true rfl, ?_⟩; simp [isFar, ofV0, CV.up, SV.renL, SV.ren] <;> fail) | (simp only [List.length_append, List.length_drop, List.length_take, List.length_replicate, List.length_map]; omega) | (simp <;> fail))); conv => whnf) | (refine ⟨_, rfl, ?_⟩; conv => whnf) | (refine Both.of_false ?_ ?_; (focus (first | rfl | (simp <;> fail))); conv => whnf) | (refine Both.of_true ?_ ?_; (focus (first | rfl | (simp <;> fail))); conv => whnf)))
    rw [hR]
    refine ⟨_, _, WeakV.auto ?_, h⟩
    (repeat' ((conv => whnf); first | exact True.intro | (refine And.intro ?_ ?_)))
    all_goals first | rfl | exact .eq rfl
theorem add_k : Contract Tryd.prog [] 105 addS := ⟨⟨⟨_, rfl, rfl, rfl⟩⟩, add_c⟩
end Go.LX
end
section
set_option maxRecDepth 100000
set_option maxHeartbeats 1000000
set_option autoImplicit false
set_option linter.unusedVariables false
set_option linter.unusedSimpArgs false
namespace Go.LX
open Go.Proofs

/-! ## Roots, in plain words -/
def sprL (l : List Nat) : Nat → List Nat
  | 0 => List.replicate (l.length + 1) 0
  | k + 1 => addL (l.length + 1 - k) (sprL l k) k (l.getD k 0)
def mulR (p : List Nat) (lo hi : Nat) : Nat → List Nat
  | 0 => List.replicate (p.length + 3) 0
  | k + 1 => addL (p.length + 3 - (k + 1)) (addL (p.length + 3 - k) (mulR p lo hi k) k (n64 (p.getD k 0 * lo))) (k + 1) (n64 (p.getD k 0 * hi))
def mulL (l : List Nat) (x : Nat) : List Nat := mulR (sprL l l.length) (x % 4294967296) (x / 4294967296) (sprL l l.length).length
def abL (a b : List Nat) : Nat → Bool
  | 0 => false
  | k + 1 => if a.getD k 0 = b.getD k 0 then abL a b k else decide (b.getD k 0 < a.getD k 0)
def mulsL (x : Nat) : Nat → List Nat
  | 0 => [x]
  | k + 1 => mulL (mulsL x k) x
def leastL (x n t : Nat) : Bool := !abL (mulsL x t) (List.replicate (t + 1) 0 ++ [n]) ((mulsL x t).length + (t + 2) + 1)
def bis (n t : Nat) : Nat → Nat → Nat → Nat
  | 0, lo, hi => lo
  | f + 1, lo, hi => if 1 < hi - lo then (if leastL ((lo + hi) / 2) n t then bis n t f ((lo + hi) / 2) hi else bis n t f lo ((lo + hi) / 2)) else lo
def rootL (n t : Nat) : Nat := bis n t 36 0 68719476736 % 4294967296
theorem addL_bd : ∀ (f : Nat) (l : List Nat) (a x : Nat), (∀ d ∈ l, d < 18446744073709551616) → ∀ d ∈ addL f l a x, d < 18446744073709551616
  | 0, l, a, x, h => h
  | f + 1, l, a, x, h => by
    rw [addL]
    split
    · refine addL_bd f _ _ _ fun d hd => ?_
      rcases List.mem_or_eq_of_mem_set hd with h1 | h1
      · exact h d h1
      · rw [h1]
        exact Nat.lt_trans (Nat.mod_lt _ (by decide)) (by decide)
    · exact h
theorem sprL_len (l : List Nat) : ∀ k, (sprL l k).length = l.length + 1
  | 0 => List.length_replicate
  | k + 1 => by rw [sprL, addL_len, sprL_len l k]
theorem sprL_bd (l : List Nat) : ∀ k, ∀ d ∈ sprL l k, d < 18446744073709551616
  | 0, d, hd => by rw [List.eq_of_mem_replicate hd]; decide
  | k + 1, d, hd => addL_bd _ _ _ _ (sprL_bd l k) d hd
theorem mulR_len (p : List Nat) (lo hi : Nat) : ∀ k, (mulR p lo hi k).length = p.length + 3
  | 0 => List.length_replicate
  | k + 1 => by rw [mulR, addL_len, addL_len, mulR_len p lo hi k]
theorem mulR_bd (p : List Nat) (lo hi : Nat) : ∀ k, ∀ d ∈ mulR p lo hi k, d < 18446744073709551616
  | 0, d, hd => by rw [List.eq_of_mem_replicate hd]; decide
  | k + 1, d, hd => addL_bd _ _ _ _ (addL_bd _ _ _ _ (mulR_bd p lo hi k)) d hd
theorem mulL_len (l : List Nat) (x : Nat) : (mulL l x).length = l.length + 4 := by rw [mulL, mulR_len, sprL_len]
theorem mulL_bd (l : List Nat) (x : Nat) : ∀ d ∈ mulL l x, d < 18446744073709551616 := mulR_bd _ _ _ _
theorem getD_bd {l : List Nat} (h : ∀ d ∈ l, d < 18446744073709551616) (k : Nat) : l.getD k 0 < 18446744073709551616 := by
  rw [List.getD_eq_getElem?_getD]
  cases hk : l[k]? with
  | none => decide
  | some d => exact h d (List.mem_of_getElem? hk)
theorem zer_us (n : Nat) : zerosOf 1 n [CV.int .u64 0] = us (List.replicate n 0) := by
  unfold zerosOf us
  rw [List.map_replicate]
  rfl
/-! ## spread -/
def sprS : Spec := fun args H Q => match args, H with
  | [.sl 1 n cs f], [] => ∃ l : List Nat, cs = us l ∧ n = l.length ∧ l.length < 900 ∧ (∀ d ∈ l, d < 18446744073709551616) ∧
      Q (.own 0) [.own 78 1 (l.length + 1) (us (sprL l l.length)) true]
  | _, _ => False
theorem spr_c : Meets Tryd.prog [] 104 sprS := by
  refine meets_of Γok Tryd.func104 rfl ?_
  intro args H Q h
  unfold sprS at h
  split at h
  case h_2 => exact h.elim
  rename_i n cs f
  obtain ⟨l, rfl, rfl, hl, hb, h⟩ := h
  have hw1 : IntKind.i64.wrap ((l.length : Int) + 1) = ((l.length + 1 : Nat) : Int) := by rw [wrap_i64 (by omega) (by omega)]; rfl
  have hmk : ((l.length + 1 : Nat) : Int) = ((l.length + 1 : Nat) : Int) ∧ 0 ≤ ((l.length + 1 : Nat) : Int) ∧ (ti78.bytes : Int) * ((l.length + 1 : Nat) : Int) ≤ 140737488355328 ∧ ((l.length + 1 : Nat) : Int) ≤ 140737488355328 := by
    have : (ti78.bytes : Int) = 8 := rfl
    rw [this]
    omega
  have hobj0 : LObj.own 78 ti78.size (((l.length + 1 : Nat) : Int)).toNat (zerosOf ti78.size (((l.length + 1 : Nat) : Int)).toNat [CV.int .u64 0]) true = LObj.own 78 1 (l.length + 1) (us (sprL l 0)) true := by
    rw [show ti78.size = 1 from rfl, zer_us]
    rfl
  (refine sx_sound Γok _ ?_; conv => whnf)
  (repeat (first | (exact Out.same; conv => whnf) | (exact Out1.same; conv => whnf) | (refine QAnd.mk ?_ ?_; conv => whnf) | (apply QStepH.go; conv => whnf) | (refine Both.lit_true ?_; conv => whnf) | (refine Both.lit_false ?_; conv => whnf) | (apply QStep.go; conv => whnf) | (refine Need.mk ?_ ?_; (focus (first | omega | exact ⟨by omega, by omega⟩ | rfl | exact ⟨rfl, rfl⟩ | exact ⟨rfl, by omega, by omega⟩ | exact ⟨by omega, by omega, by omega⟩ | exact ⟨rfl, Nat.le_of_ble_eq_true rfl⟩ | exact Nat.le_of_ble_eq_true rfl | (refine ⟨rfl, rfl, ?_⟩; simp [isFar, ofV0, CV.up, SV.renL, SV.ren] <;> fail) | (refine ⟨rfl, Nat.le_of_ble_eq_true rfl, ?_⟩; simp [isFar, ofV0, CV.up, SV.renL, SV.ren] <;> fail) | (simp only [List.length_append, List.length_drop, List.length_take, List.length_replicate, List.length_map]; omega) | (simp <;> fail))); conv => whnf) | (refine ⟨_, rfl, ?_⟩; conv => whnf)))
  rw [hw1]
  (repeat (first | (refine Need.mk hmk ?_; conv => whnf) | (exact Out.same; conv => whnf) | (exact Out1.same; conv => whnf) | (refine QAnd.mk ?_ ?_; conv => whnf) | (apply QStepH.go; conv => whnf) | (refine Both.lit_true ?_; conv => whnf) | (refine Both.lit_false ?_; conv => whnf) | (apply QStep.go; conv => whnf) | (refine Need.mk ?_ ?_; (focus (first | omega | exact ⟨by omega, by omega⟩ | rfl | exact ⟨rfl, rfl⟩ | exact ⟨rfl, by omega, by omega⟩ | exact ⟨by omega, by omega, by omega⟩ | exact ⟨rfl, Nat.le_of_ble_eq_true rfl⟩ | exact Nat.le_of_ble_eq_true rfl | (refine ⟨rfl, rfl, ?_⟩; simp [isFar, ofV0, CV.up, SV.renL, SV.ren] <;> fail) | (refine ⟨rfl, Nat.le_of_ble_eq_true rfl, ?_⟩; simp [isFar, ofV0, CV.up, SV.renL, SV.ren] <;> fail) | (simp only [List.length_append, List.length_drop, List.length_take, List.length_replicate, List.length_map]; omega) | (simp <;> fail))); conv => whnf) | (refine ⟨_, rfl, ?_⟩; conv => whnf)))
  refine loop_rule (fun k : Nat => ⟨[.sl 1 l.length (us l) f, .any, .any, .own 0, .int .i64 (k : Int), .any, .any, .any, .any, .any, .any, .any, .any, .any, .any, .any, .any, .any, .any, .any, .any, .any, .any], [.own 78 1 (l.length + 1) (us (sprL l k)) true]⟩) (fun k => k ≤ l.length) (fun k => l.length - k) 0 (Nat.zero_le _) (Weak.auto ?_) ?_
  · (repeat' ((conv => whnf); first | exact True.intro | (refine And.intro ?_ ?_)))
    all_goals first | exact hobj0 | rfl | exact .eq rfl
  clear hobj0 hmk hw1
  intro k hk
  (refine sx_sound Γok _ ?_; conv => whnf)
  (repeat (first | (exact Out.same; conv => whnf) | (exact Out1.same; conv => whnf) | (refine QAnd.mk ?_ ?_; conv => whnf) | (apply QStepH.go; conv => whnf) | (refine Both.lit_true ?_; conv => whnf) | (refine Both.lit_false ?_; conv => whnf) | (apply QStep.go; conv => whnf) | (refine Need.mk ?_ ?_; (focus (first | omega | exact ⟨by omega, by omega⟩ | rfl | exact ⟨rfl, rfl⟩ | exact ⟨rfl, by omega, by omega⟩ | exact ⟨by omega, by omega, by omega⟩ | exact ⟨rfl, Nat.le_of_ble_eq_true rfl⟩ | exact Nat.le_of_ble_eq_true rfl | (refine ⟨rfl, rfl, ?_⟩; simp [isFar, ofV0, CV.up, SV.renL, SV.ren] <;> fail) | (refine ⟨rfl, Nat.le_of_ble_eq_true rfl, ?_⟩; simp [isFar, ofV0, CV.up, SV.renL, SV.ren] <;> fail) | (simp only [List.length_append, List.length_drop, List.length_take, List.length_replicate, List.length_map]; omega) | (simp <;> fail))); conv => whnf) | (refine ⟨_, rfl, ?_⟩; conv => whnf)))
  refine Both.dec (fun hlt => ?_) (fun hge => ?_)
  · have hkl : k < l.length := by omega
    have hat := us_at hkl
    have hbd := getD_bd hb k
    have hsl := sprL_len l k
    have hwr : IntKind.i64.wrap ((k : Int) + 1) = ((k + 1 : Nat) : Int) := by rw [wrap_i64 (by omega) (by omega)]; rfl
    have hobj : LObj.own 78 1 (sprL l k).length (us (addL ((sprL l k).length - k) (sprL l k) k (l.getD k 0))) true = LObj.own 78 1 (l.length + 1) (us (sprL l (k + 1))) true := by
      rw [hsl]
      rfl
    (conv => whnf)
    (repeat (first | (refine ⟨_, hat, ?_⟩; conv => whnf) | (exact Out.same; conv => whnf) | (exact Out1.same; conv => whnf) | (refine QAnd.mk ?_ ?_; conv => whnf) | (apply QStepH.go; conv => whnf) | (refine Both.lit_true ?_; conv => whnf) | (refine Both.lit_false ?_; conv => whnf) | (apply QStep.go; conv => whnf) | (refine Need.mk ?_ ?_; (focus (first | omega | exact ⟨by omega, by omega⟩ | rfl | exact ⟨rfl, rfl⟩ | exact ⟨rfl, by omega, by omega⟩ | exact ⟨by omega, by omega, by omega⟩ | exact ⟨rfl, Nat.le_of_ble_eq_true rfl⟩ | exact Nat.le_of_ble_eq_true rfl | (refine ⟨rfl, rfl, ?_⟩; simp [isFar, ofV0, CV.up, SV.renL, SV.ren] <;> fail) | (refine ⟨rfl, Nat.le_of_ble_eq_true rfl, ?_⟩; simp [isFar, ofV0, CV.up, SV.renL, SV.ren] <;> fail) | (simp only [List.length_append, List.length_drop, List.length_take, List.length_replicate, List.length_map]; omega) | (simp <;> fail))); conv => whnf) | (refine ⟨_, rfl, ?_⟩; conv => whnf)))
    refine CallVC.auto add_k ⟨sprL l k, k, l.getD k 0, rfl, hsl.symm, by omega, rfl, by omega, rfl, hbd, ?_⟩
    (conv => whnf)
    (repeat (first | (exact Out.same; conv => whnf) | (exact Out1.same; conv => whnf) | (refine QAnd.mk ?_ ?_; conv => whnf) | (apply QStepH.go; conv => whnf) | (refine Both.lit_true ?_; conv => whnf) | (refine Both.lit_false ?_; conv => whnf) | (apply QStep.go; conv => whnf) | (refine Need.mk ?_ ?_; (focus (first | omega | exact ⟨by omega, by omega⟩ | rfl | exact ⟨rfl, rfl⟩ | exact ⟨rfl, by omega, by omega⟩ | exact ⟨by omega, by omega, by omega⟩ | exact ⟨rfl, Nat.le_of_ble_eq_true rfl⟩ | exact Nat.le_of_ble_eq_true rfl | (refine ⟨rfl, rfl, ?_⟩; simp [isFar, ofV0, CV.up, SV.renL, SV.ren] <;> fail) | (refine ⟨rfl, Nat.le_of_ble_eq_true rfl, ?_⟩; simp [isFar, ofV0, CV.up, SV.renL, SV.ren] <;> fail) | (simp only [List.length_append, List.length_drop, List.length_take, List.length_replicate, List.length_map]; omega) | (simp <;> fail))); conv => whnf) | (refine ⟨_, rfl, ?_⟩; conv => whnf)))
    refine ⟨k + 1, by omega, by omega, Weak.auto ?_⟩
    (repeat' ((conv => whnf); first | exact True.intro | (refine And.intro ?_ ?_)))
    all_goals first | rfl | exact .eq rfl | exact hobj | exact congrArg (SV.int .i64) hwr
  have hke : k = l.length := by omega
  subst hke
  (conv => whnf)
  (repeat (first | (exact Out.same; conv => whnf) | (exact Out1.same; conv => whnf) | (refine QAnd.mk ?_ ?_; conv => whnf) | (apply QStepH.go; conv => whnf) | (refine Both.lit_true ?_; conv => whnf) | (refine Both.lit_false ?_; conv => whnf) | (apply QStep.go; conv => whnf) | (refine Need.mk ?_ ?_; (focus (first | omega | exact ⟨by omega, by omega⟩ | rfl | exact ⟨rfl, rfl⟩ | exact ⟨rfl, by omega, by omega⟩ | exact ⟨by omega, by omega, by omega⟩ | exact ⟨rfl, Nat.le_of_ble_eq_true rfl⟩ | exact Nat.le_of_ble_eq_true rfl | (refine ⟨rfl, rfl, ?_⟩; simp [isFar, ofV0, CV.up, SV.renL, SV.ren] <;> fail) | (refine ⟨rfl, Nat.le_of_ble_eq_true rfl, ?_⟩; simp [isFar, ofV0, CV.up, SV.renL, SV.ren] <;> fail) | (simp only [List.length_append, List.length_drop, List.length_take, List.length_replicate, List.length_map]; omega) | (simp <;> fail))); conv => whnf) | (refine ⟨_, rfl, ?_⟩; conv => whnf)))
  refine ⟨_, _, WeakV.auto ?_, h⟩
  (repeat' ((conv => whnf); first | exact True.intro | (refine And.intro ?_ ?_)))
  all_goals first | rfl | exact .eq rfl
theorem spr_k : Contract Tryd.prog [] 104 sprS := ⟨⟨⟨_, rfl, rfl, rfl⟩⟩, spr_c⟩
/-! ## multiply -/
def mulS : Spec := fun args H Q => match args, H with
  | [.sl 1 n cs f, .int .u64 y], [] => ∃ (l : List Nat) (x : Nat), cs = us l ∧ n = l.length ∧ l.length < 800 ∧ (∀ d ∈ l, d < 18446744073709551616) ∧ y = x ∧ x < 18446744073709551616 ∧
      Q (.own 0) [.own 78 1 (l.length + 4) (us (mulL l x)) true]
  | _, _ => False
theorem mul_c : Meets Tryd.prog [] 92 mulS := by
  refine meets_of Γok Tryd.func92 rfl ?_
  intro args H Q h
  unfold mulS at h
  split at h
  case h_2 => exact h.elim
  rename_i n cs f y
  obtain ⟨l, x, rfl, rfl, hl, hb, rfl, hx, h⟩ := h
  have hpl : (sprL l l.length).length = l.length + 1 := sprL_len l _
  have hpb := sprL_bd l l.length
  unfold mulL at h
  (refine sx_sound Γok _ ?_; conv => whnf)
  (repeat (first | (exact Out.same; conv => whnf) | (exact Out1.same; conv => whnf) | (refine QAnd.mk ?_ ?_; conv => whnf) | (apply QStepH.go; conv => whnf) | (refine Both.lit_true ?_; conv => whnf) | (refine Both.lit_false ?_; conv => whnf) | (apply QStep.go; conv => whnf) | (refine Need.mk ?_ ?_; (focus (first | omega | exact ⟨by omega, by omega⟩ | rfl | exact ⟨rfl, rfl⟩ | exact ⟨rfl, by omega, by omega⟩ | exact ⟨by omega, by omega, by omega⟩ | exact ⟨rfl, Nat.le_of_ble_eq_true rfl⟩ | exact Nat.le_of_ble_eq_true rfl | (refine ⟨rfl, rfl, ?_⟩; simp [isFar, ofV0, CV.up, SV.renL, SV.ren] <;> fail) | (refine ⟨rfl, Nat.le_of_ble_eq_true rfl, ?_⟩; simp [isFar, ofV0, CV.up, SV.renL, SV.ren] <;> fail) | (simp only [List.length_append, List.length_drop, List.length_take, List.length_replicate, List.length_map]; omega) | (simp <;> fail))); conv => whnf) | (refine ⟨_, rfl, ?_⟩; conv => whnf)))
  refine CallVC.auto spr_k ⟨l, rfl, rfl, by omega, hb, ?_⟩
  revert h hpl hpb
  generalize sprL l l.length = p
  intro h hpl hpb
  rw [← hpl]
  have e1 : (x : Int).tmod 4294967296 = ((x % 4294967296 : Nat) : Int) := rfl
  have e2 : IntKind.u64.wrap ((x : Int).tdiv 4294967296) = ((x / 4294967296 : Nat) : Int) := by
    rw [show (x : Int).tdiv 4294967296 = ((x / 4294967296 : Nat) : Int) from rfl, wrap64, n64_of (by omega)]
  have hlo : x % 4294967296 < 4294967296 := Nat.mod_lt _ (by decide)
  have hhi : x / 4294967296 < 4294967296 := by omega
  revert h e1 e2 hlo hhi
  generalize x % 4294967296 = lo
  generalize x / 4294967296 = hi
  intro h e1 e2 hlo hhi
  have hw1 : IntKind.i64.wrap ((p.length : Int) + 3) = ((p.length + 3 : Nat) : Int) := by rw [wrap_i64 (by omega) (by omega)]; rfl
  have hmk : ((p.length + 3 : Nat) : Int) = ((p.length + 3 : Nat) : Int) ∧ 0 ≤ ((p.length + 3 : Nat) : Int) ∧ (ti78.bytes : Int) * ((p.length + 3 : Nat) : Int) ≤ 140737488355328 ∧ ((p.length + 3 : Nat) : Int) ≤ 140737488355328 := by
    have : (ti78.bytes : Int) = 8 := rfl
    rw [this]
    omega
  have hobj0 : LObj.own 78 ti78.size (((p.length + 3 : Nat) : Int)).toNat (zerosOf ti78.size (((p.length + 3 : Nat) : Int)).toNat [CV.int .u64 0]) true = LObj.own 78 1 (p.length + 3) (us (mulR p lo hi 0)) true := by
    rw [show ti78.size = 1 from rfl, zer_us]
    rfl
  (conv => whnf)
  (repeat (first | (exact Out.same; conv => whnf) | (exact Out1.same; conv => whnf) | (refine QAnd.mk ?_ ?_; conv => whnf) | (apply QStepH.go; conv => whnf) | (refine Both.lit_true ?_; conv => whnf) | (refine Both.lit_false ?_; conv => whnf) | (apply QStep.go; conv => whnf) | (refine Need.mk ?_ ?_; (focus (first | omega | exact ⟨by omega, by omega⟩ | rfl | exact ⟨rfl, rfl⟩ | exact ⟨rfl, by omega, by omega⟩ | exact ⟨by omega, by omega, by omega⟩ | exact ⟨rfl, Nat.le_of_ble_eq_true rfl⟩ | exact Nat.le_of_ble_eq_true rfl | (refine ⟨rfl, rfl, ?_⟩; simp [isFar, ofV0, CV.up, SV.renL, SV.ren] <;> fail) | (refine ⟨rfl, Nat.le_of_ble_eq_true rfl, ?_⟩; simp [isFar, ofV0, CV.up, SV.renL, SV.ren] <;> fail) | (simp only [List.length_append, List.length_drop, List.length_take, List.length_replicate, List.length_map]; omega) | (simp <;> fail))); conv => whnf) | (refine ⟨_, rfl, ?_⟩; conv => whnf)))
  rw [e1, e2, hw1]
  (repeat (first | (refine Need.mk hmk ?_; conv => whnf) | (exact Out.same; conv => whnf) | (exact Out1.same; conv => whnf) | (refine QAnd.mk ?_ ?_; conv => whnf) | (apply QStepH.go; conv => whnf) | (refine Both.lit_true ?_; conv => whnf) | (refine Both.lit_false ?_; conv => whnf) | (apply QStep.go; conv => whnf) | (refine Need.mk ?_ ?_; (focus (first | omega | exact ⟨by omega, by omega⟩ | rfl | exact ⟨rfl, rfl⟩ | exact ⟨rfl, by omega, by omega⟩ | exact ⟨by omega, by omega, by omega⟩ | exact ⟨rfl, Nat.le_of_ble_eq_true rfl⟩ | exact Nat.le_of_ble_eq_true rfl | (refine ⟨rfl, rfl, ?_⟩; simp [isFar, ofV0, CV.up, SV.renL, SV.ren] <;> fail) | (refine ⟨rfl, Nat.le_of_ble_eq_true rfl, ?_⟩; simp [isFar, ofV0, CV.up, SV.renL, SV.ren] <;> fail) | (simp only [List.length_append, List.length_drop, List.length_take, List.length_replicate, List.length_map]; omega) | (simp <;> fail))); conv => whnf) | (refine ⟨_, rfl, ?_⟩; conv => whnf)))
  refine loop_rule (fun k : Nat => ⟨[.own 0, .any, .any, .any, .any, .int .u64 (lo : Int), .int .u64 (hi : Int), .own 1, .int .i64 (k : Int), .any, .any, .any, .any, .any, .any, .any, .any, .any, .any, .any, .any, .any, .any, .any, .any, .any, .any, .any, .any, .any, .any, .any, .any, .any, .any, .any, .any, .any, .any, .any, .any, .any, .any, .any, .any], [.own 78 1 p.length (us p) true, .own 78 1 (p.length + 3) (us (mulR p lo hi k)) true]⟩) (fun k => k ≤ p.length) (fun k => p.length - k) 0 (Nat.zero_le _) (Weak.auto ?_) ?_
  · (repeat' ((conv => whnf); first | exact True.intro | (refine And.intro ?_ ?_)))
    all_goals first | exact hobj0 | rfl | exact .eq rfl
  clear hobj0 hmk hw1 e1 e2
  intro k hk
  (refine sx_sound Γok _ ?_; conv => whnf)
  (repeat (first | (exact Out.same; conv => whnf) | (exact Out1.same; conv => whnf) | (refine QAnd.mk ?_ ?_; conv => whnf) | (apply QStepH.go; conv => whnf) | (refine Both.lit_true ?_; conv => whnf) | (refine Both.lit_false ?_; conv => whnf) | (apply QStep.go; conv => whnf) | (refine Need.mk ?_ ?_; (focus (first | omega | exact ⟨by omega, by omega⟩ | rfl | exact ⟨rfl, rfl⟩ | exact ⟨rfl, by omega, by omega⟩ | exact ⟨by omega, by omega, by omega⟩ | exact ⟨rfl, Nat.le_of_ble_eq_true rfl⟩ | exact Nat.le_of_ble_eq_true rfl | (refine ⟨rfl, rfl, ?_⟩; simp [isFar, ofV0, CV.up, SV.renL, SV.ren] <;> fail) | (refine ⟨rfl, Nat.le_of_ble_eq_true rfl, ?_⟩; simp [isFar, ofV0, CV.up, SV.renL, SV.ren] <;> fail) | (simp only [List.length_append, List.length_drop, List.length_take, List.length_replicate, List.length_map]; omega) | (simp <;> fail))); conv => whnf) | (refine ⟨_, rfl, ?_⟩; conv => whnf)))
  refine Both.dec (fun hlt => ?_) (fun hge => ?_)
  · have hkl : k < p.length := by omega
    have hat := us_at hkl
    have hsl := mulR_len p lo hi k
    have hwr : IntKind.i64.wrap ((k : Int) + 1) = ((k + 1 : Nat) : Int) := by rw [wrap_i64 (by omega) (by omega)]; rfl
    have hm1 := wrap64_mul (p.getD k 0) lo
    have hm2 := wrap64_mul (p.getD k 0) hi
    obtain ⟨q, hq⟩ : ∃ q, addL ((mulR p lo hi k).length - k) (mulR p lo hi k) k (n64 (p.getD k 0 * lo)) = q := ⟨_, rfl⟩
    have hql : q.length = p.length + 3 := by rw [← hq, addL_len, hsl]
    have hobj : LObj.own 78 1 q.length (us (addL (q.length - (k + 1)) q (k + 1) (n64 (p.getD k 0 * hi)))) true = LObj.own 78 1 (p.length + 3) (us (mulR p lo hi (k + 1))) true := by
      rw [hql, ← hq, hsl]
      rfl
    (conv => whnf)
    (repeat (first | (refine ⟨_, hat, ?_⟩; conv => whnf) | (exact Out.same; conv => whnf) | (exact Out1.same; conv => whnf) | (refine QAnd.mk ?_ ?_; conv => whnf) | (apply QStepH.go; conv => whnf) | (refine Both.lit_true ?_; conv => whnf) | (refine Both.lit_false ?_; conv => whnf) | (apply QStep.go; conv => whnf) | (refine Need.mk ?_ ?_; (focus (first | omega | exact ⟨by omega, by omega⟩ | rfl | exact ⟨rfl, rfl⟩ | exact ⟨rfl, by omega, by omega⟩ | exact ⟨by omega, by omega, by omega⟩ | exact ⟨rfl, Nat.le_of_ble_eq_true rfl⟩ | exact Nat.le_of_ble_eq_true rfl | (refine ⟨rfl, rfl, ?_⟩; simp [isFar, ofV0, CV.up, SV.renL, SV.ren] <;> fail) | (refine ⟨rfl, Nat.le_of_ble_eq_true rfl, ?_⟩; simp [isFar, ofV0, CV.up, SV.renL, SV.ren] <;> fail) | (simp only [List.length_append, List.length_drop, List.length_take, List.length_replicate, List.length_map]; omega) | (simp <;> fail))); conv => whnf) | (refine ⟨_, rfl, ?_⟩; conv => whnf)))
    refine CallVC.auto add_k ⟨mulR p lo hi k, k, n64 (p.getD k 0 * lo), rfl, hsl.symm, by omega, rfl, by omega, hm1, n64_lt _, ?_⟩
    rw [hq, hsl]
    (conv => whnf)
    (repeat (first | (refine ⟨_, hat, ?_⟩; conv => whnf) | (exact Out.same; conv => whnf) | (exact Out1.same; conv => whnf) | (refine QAnd.mk ?_ ?_; conv => whnf) | (apply QStepH.go; conv => whnf) | (refine Both.lit_true ?_; conv => whnf) | (refine Both.lit_false ?_; conv => whnf) | (apply QStep.go; conv => whnf) | (refine Need.mk ?_ ?_; (focus (first | omega | exact ⟨by omega, by omega⟩ | rfl | exact ⟨rfl, rfl⟩ | exact ⟨rfl, by omega, by omega⟩ | exact ⟨by omega, by omega, by omega⟩ | exact ⟨rfl, Nat.le_of_ble_eq_true rfl⟩ | exact Nat.le_of_ble_eq_true rfl | (refine ⟨rfl, rfl, ?_⟩; simp [isFar, ofV0, CV.up, SV.renL, SV.ren] <;> fail) | (refine ⟨rfl, Nat.le_of_ble_eq_true rfl, ?_⟩; simp [isFar, ofV0, CV.up, SV.renL, SV.ren] <;> fail) | (simp only [List.length_append, List.length_drop, List.length_take, List.length_replicate, List.length_map]; omega) | (simp <;> fail))); conv => whnf) | (refine ⟨_, rfl, ?_⟩; conv => whnf)))
    refine CallVC.auto add_k ⟨q, k + 1, n64 (p.getD k 0 * hi), rfl, hql.symm, by omega, hwr, by omega, hm2, n64_lt _, ?_⟩
    (conv => whnf)
    (repeat (first | (exact Out.same; conv => whnf) | (exact Out1.same; conv => whnf) | (refine QAnd.mk ?_ ?_; conv => whnf) | (apply QStepH.go; conv => whnf) | (refine Both.lit_true ?_; conv => whnf) | (refine Both.lit_false ?_; conv => whnf) | (apply QStep.go; conv => whnf) | (refine Need.mk ?_ ?_; (focus (first | omega | exact ⟨by omega, by omega⟩ | rfl | exact ⟨rfl, rfl⟩ | exact ⟨rfl, by omega, by omega⟩ | exact ⟨by omega, by omega, by omega⟩ | exact ⟨rfl, Nat.le_of_ble_eq_true rfl⟩ | exact Nat.le_of_ble_eq_true rfl | (refine ⟨rfl, rfl, ?_⟩; simp [isFar, ofV0, CV.up, SV.renL, SV.ren] <;> fail) | (refine ⟨rfl, Nat.le_of_ble_eq_true rfl, ?_⟩; simp [isFar, ofV0, CV.up, SV.renL, SV.ren] <;> fail) | (simp only [List.length_append, List.length_drop, List.length_take, List.length_replicate, List.length_map]; omega) | (simp <;> fail))); conv => whnf) | (refine ⟨_, rfl, ?_⟩; conv => whnf)))
    refine ⟨k + 1, by omega, by omega, Weak.auto ?_⟩
    (repeat' ((conv => whnf); first | exact True.intro | (refine And.intro ?_ ?_)))
    all_goals first | rfl | exact .eq rfl | exact hobj | exact congrArg (SV.int .i64) hwr
  have hke : k = p.length := by omega
  subst hke
  rw [hpl] at h
  (conv => whnf)
  (repeat (first | (exact Out.same; conv => whnf) | (exact Out1.same; conv => whnf) | (refine QAnd.mk ?_ ?_; conv => whnf) | (apply QStepH.go; conv => whnf) | (refine Both.lit_true ?_; conv => whnf) | (refine Both.lit_false ?_; conv => whnf) | (apply QStep.go; conv => whnf) | (refine Need.mk ?_ ?_; (focus (first | omega | exact ⟨by omega, by omega⟩ | rfl | exact ⟨rfl, rfl⟩ | exact ⟨rfl, by omega, by omega⟩ | exact ⟨by omega, by omega, by omega⟩ | exact ⟨rfl, Nat.le_of_ble_eq_true rfl⟩ | exact Nat.le_of_ble_eq_true rfl | (refine ⟨rfl, rfl, ?_⟩; simp [isFar, ofV0, CV.up, SV.renL, SV.ren] <;> fail) | (refine ⟨rfl, Nat.le_of_ble_eq_true rfl, ?_⟩; simp [isFar, ofV0, CV.up, SV.renL, SV.ren] <;> fail) | (simp only [List.length_append, List.length_drop, List.length_take, List.length_replicate, List.length_map]; omega) | (simp <;> fail))); conv => whnf) | (refine ⟨_, rfl, ?_⟩; conv => whnf)))
  rw [hpl]
  refine ⟨_, _, WeakV.auto ?_, h⟩
  (repeat' ((conv => whnf); first | exact True.intro | (refine And.intro ?_ ?_)))
  all_goals first | rfl | exact .eq rfl
theorem mul_k : Contract Tryd.prog [] 92 mulS := ⟨⟨⟨_, rfl, rfl, rfl⟩⟩, mul_c⟩
/-! ## digit, above -/
def digitS : Spec := fun args H Q => match args, H with
  | [.sl 1 n cs f, .int .i64 y], [] => ∃ (l : List Nat) (k : Nat), cs = us l ∧ n = l.length ∧ y = k ∧ Q (.int .u64 ((l.getD k 0 : Nat) : Int)) []
  | _, _ => False
theorem digit_c : Meets Tryd.prog [] 106 digitS := by
  refine meets_of Γok Tryd.func106 rfl ?_
  intro args H Q h
  unfold digitS at h
  split at h
  case h_2 => exact h.elim
  rename_i n cs f y
  obtain ⟨l, k, rfl, rfl, rfl, h⟩ := h
  (refine sx_sound Γok _ ?_; conv => whnf)
  (repeat (first | (exact Out.same; conv => whnf) | (exact Out1.same; conv => whnf) | (refine QAnd.mk ?_ ?_; conv => whnf) | (apply QStepH.go; conv => whnf) | (refine Both.lit_true ?_; conv => whnf) | (refine Both.lit_false ?_; conv => whnf) | (apply QStep.go; conv => whnf) | (refine Need.mk ?_ ?_; (focus (first | omega | exact ⟨by omega, by omega⟩ | rfl | exact ⟨rfl, rfl⟩ | exact ⟨rfl, by omega, by omega⟩ | exact ⟨by omega, by omega, by omega⟩ | exact ⟨rfl, Nat.le_of_ble_eq_true rfl⟩ | exact Nat.le_of_ble_eq_true rfl | (refine ⟨rfl, rfl, ?_⟩; simp [isFar, ofV0, CV.up, SV.renL, SV.ren] <;> fail) | (refine ⟨rfl, Nat.le_of_ble_eq_true rfl, ?_⟩; simp [isFar, ofV0, CV.up, SV.renL, SV.ren] <;> fail) | (simp only [List.length_append, List.length_drop, List.length_take, List.length_replicate, List.length_map]; omega) | (simp <;> fail))); conv => whnf) | (refine ⟨_, rfl, ?_⟩; conv => whnf)))
  refine Both.dec (fun hlt => ?_) (fun hge => ?_)
  · have hkl : k < l.length := by omega
    have hat := us_at hkl
    (conv => whnf)
    (repeat (first | (refine ⟨_, hat, ?_⟩; conv => whnf) | (exact Out.same; conv => whnf) | (exact Out1.same; conv => whnf) | (refine QAnd.mk ?_ ?_; conv => whnf) | (apply QStepH.go; conv => whnf) | (refine Both.lit_true ?_; conv => whnf) | (refine Both.lit_false ?_; conv => whnf) | (apply QStep.go; conv => whnf) | (refine Need.mk ?_ ?_; (focus (first | omega | exact ⟨by omega, by omega⟩ | rfl | exact ⟨rfl, rfl⟩ | exact ⟨rfl, by omega, by omega⟩ | exact ⟨by omega, by omega, by omega⟩ | exact ⟨rfl, Nat.le_of_ble_eq_true rfl⟩ | exact Nat.le_of_ble_eq_true rfl | (refine ⟨rfl, rfl, ?_⟩; simp [isFar, ofV0, CV.up, SV.renL, SV.ren] <;> fail) | (refine ⟨rfl, Nat.le_of_ble_eq_true rfl, ?_⟩; simp [isFar, ofV0, CV.up, SV.renL, SV.ren] <;> fail) | (simp only [List.length_append, List.length_drop, List.length_take, List.length_replicate, List.length_map]; omega) | (simp <;> fail))); conv => whnf) | (refine ⟨_, rfl, ?_⟩; conv => whnf)))
    exact ⟨_, _, WeakV.drop rfl, h⟩
  · have hz : l.getD k 0 = 0 := by
      rw [List.getD_eq_getElem?_getD, List.getElem?_eq_none (by omega)]
      rfl
    rw [hz] at h
    (conv => whnf)
    (repeat (first | (exact Out.same; conv => whnf) | (exact Out1.same; conv => whnf) | (refine QAnd.mk ?_ ?_; conv => whnf) | (apply QStepH.go; conv => whnf) | (refine Both.lit_true ?_; conv => whnf) | (refine Both.lit_false ?_; conv => whnf) | (apply QStep.go; conv => whnf) | (refine Need.mk ?_ ?_; (focus (first | omega | exact ⟨by omega, by omega⟩ | rfl | exact ⟨rfl, rfl⟩ | exact ⟨rfl, by omega, by omega⟩ | exact ⟨by omega, by omega, by omega⟩ | exact ⟨rfl, Nat.le_of_ble_eq_true rfl⟩ | exact Nat.le_of_ble_eq_true rfl | (refine ⟨rfl, rfl, ?_⟩; simp [isFar, ofV0, CV.up, SV.renL, SV.ren] <;> fail) | (refine ⟨rfl, Nat.le_of_ble_eq_true rfl, ?_⟩; simp [isFar, ofV0, CV.up, SV.renL, SV.ren] <;> fail) | (simp only [List.length_append, List.length_drop, List.length_take, List.length_replicate, List.length_map]; omega) | (simp <;> fail))); conv => whnf) | (refine ⟨_, rfl, ?_⟩; conv => whnf)))
    exact ⟨_, _, WeakV.drop rfl, h⟩
theorem digit_k : Contract Tryd.prog [] 106 digitS := ⟨⟨⟨_, rfl, rfl, rfl⟩⟩, digit_c⟩
def aboveS : Spec := fun args H Q => match args, H with
  | [.sl 1 n cs f, .sl 1 n' cs' f'], [] => ∃ a b : List Nat, cs = us a ∧ n = a.length ∧ cs' = us b ∧ n' = b.length ∧ a.length < 1000 ∧ b.length < 1000 ∧ Q (.bool (abL a b (a.length + b.length + 1))) []
  | _, _ => False
theorem above_c : Meets Tryd.prog [] 93 aboveS := by
  refine meets_of Γok Tryd.func93 rfl ?_
  intro args H Q h
  unfold aboveS at h
  split at h
  case h_2 => exact h.elim
  rename_i n cs f n' cs' f'
  obtain ⟨a, b, rfl, rfl, rfl, rfl, ha, hb, h⟩ := h
  have hw0 : IntKind.i64.wrap ((a.length : Int) + (b.length : Int)) = ((a.length + b.length + 1 : Nat) : Int) - 1 := by rw [wrap_i64 (by omega) (by omega)]; omega
  obtain ⟨R, hR⟩ : ∃ R, abL a b (a.length + b.length + 1) = R := ⟨_, rfl⟩
  rw [hR] at h
  (refine sx_sound Γok _ ?_; conv => whnf)
  (repeat (first | (exact Out.same; conv => whnf) | (exact Out1.same; conv => whnf) | (refine QAnd.mk ?_ ?_; conv => whnf) | (apply QStepH.go; conv => whnf) | (refine Both.lit_true ?_; conv => whnf) | (refine Both.lit_false ?_; conv => whnf) | (apply QStep.go; conv => whnf) | (refine Need.mk ?_ ?_; (focus (first | omega | exact ⟨by omega, by omega⟩ | rfl | exact ⟨rfl, rfl⟩ | exact ⟨rfl, by omega, by omega⟩ | exact ⟨by omega, by omega, by omega⟩ | exact ⟨rfl, Nat.le_of_ble_eq_true rfl⟩ | exact Nat.le_of_ble_eq_true rfl | (refine ⟨rfl, rfl, ?_⟩; simp [isFar, ofV0, CV.up, SV.renL, SV.ren] <;> fail) | (refine ⟨rfl, Nat.le_of_ble_eq_true rfl, ?_⟩; simp [isFar, ofV0, CV.up, SV.renL, SV.ren] <;> fail) | (simp only [List.length_append, List.length_drop, List.length_take, List.length_replicate, List.length_map]; omega) | (simp <;> fail))); conv => whnf) | (refine ⟨_, rfl, ?_⟩; conv => whnf)))
  refine loop_rule (fun k : Nat => ⟨[.sl 1 a.length (us a) f, .sl 1 b.length (us b) f', .any, .any, .any, .int .i64 ((k : Int) - 1), .any, .any, .any, .any, .any, .any, .any, .any, .any, .any, .any, .any, .any, .any, .any, .any, .any, .any, .any, .any, .any, .any, .any], []⟩) (fun k => k ≤ a.length + b.length + 1 ∧ abL a b k = R) (fun k => k) (a.length + b.length + 1) ⟨Nat.le_refl _, hR⟩ (Weak.auto ?_) ?_
  · (repeat' ((conv => whnf); first | exact True.intro | (refine And.intro ?_ ?_)))
    all_goals first | rfl | exact .eq rfl | exact congrArg (SV.int .i64) hw0
  clear hR
  rintro k ⟨hk, hR⟩
  (refine sx_sound Γok _ ?_; conv => whnf)
  (repeat (first | (exact Out.same; conv => whnf) | (exact Out1.same; conv => whnf) | (refine QAnd.mk ?_ ?_; conv => whnf) | (apply QStepH.go; conv => whnf) | (refine Both.lit_true ?_; conv => whnf) | (refine Both.lit_false ?_; conv => whnf) | (apply QStep.go; conv => whnf) | (refine Need.mk ?_ ?_; (focus (first | omega | exact ⟨by omega, by omega⟩ | rfl | exact ⟨rfl, rfl⟩ | exact ⟨rfl, by omega, by omega⟩ | exact ⟨by omega, by omega, by omega⟩ | exact ⟨rfl, Nat.le_of_ble_eq_true rfl⟩ | exact Nat.le_of_ble_eq_true rfl | (refine ⟨rfl, rfl, ?_⟩; simp [isFar, ofV0, CV.up, SV.renL, SV.ren] <;> fail) | (refine ⟨rfl, Nat.le_of_ble_eq_true rfl, ?_⟩; simp [isFar, ofV0, CV.up, SV.renL, SV.ren] <;> fail) | (simp only [List.length_append, List.length_drop, List.length_take, List.length_replicate, List.length_map]; omega) | (simp <;> fail))); conv => whnf) | (refine ⟨_, rfl, ?_⟩; conv => whnf)))
  refine Both.dec (fun hlt => ?_) (fun hge => ?_)
  · obtain ⟨j, rfl⟩ : ∃ j, k = j + 1 := ⟨k - 1, by omega⟩
    have hj : ((j + 1 : Nat) : Int) - 1 = ((j : Nat) : Int) := by omega
    have hwr : IntKind.i64.wrap ((((j + 1 : Nat) : Int) - 1) - 1) = ((j : Nat) : Int) - 1 := by rw [wrap_i64 (by omega) (by omega)]; omega
    rw [abL] at hR
    (conv => whnf)
    (repeat (first | (refine CallVC.auto digit_k ⟨a, j, rfl, rfl, hj, ?_⟩; conv => whnf) | (refine CallVC.auto digit_k ⟨b, j, rfl, rfl, hj, ?_⟩; conv => whnf) | (exact Out.same; conv => whnf) | (exact Out1.same; conv => whnf) | (refine QAnd.mk ?_ ?_; conv => whnf) | (apply QStepH.go; conv => whnf) | (refine Both.lit_true ?_; conv => whnf) | (refine Both.lit_false ?_; conv => whnf) | (apply QStep.go; conv => whnf) | (refine Need.mk ?_ ?_; (focus (first | omega | exact ⟨by omega, by omega⟩ | rfl | exact ⟨rfl, rfl⟩ | exact ⟨rfl, by omega, by omega⟩ | exact ⟨by omega, by omega, by omega⟩ | exact ⟨rfl, Nat.le_of_ble_eq_true rfl⟩ | exact Nat.le_of_ble_eq_true rfl | (refine ⟨rfl, rfl, ?_⟩; simp [isFar, ofV0, CV.up, SV.renL, SV.ren] <;> fail) | (refine ⟨rfl, Nat.le_of_ble_eq_true rfl, ?_⟩; simp [isFar, ofV0, CV.up, SV.renL, SV.ren] <;> fail) | (simp only [List.length_append, List.length_drop, List.length_take, List.length_replicate, List.length_map]; omega) | (simp <;> fail))); conv => whnf) | (refine ⟨_, rfl, ?_⟩; conv => whnf)))
    refine Both.dec_not (fun hne => ?_) (fun heq => ?_)
    · have hne2 : ¬ a.getD j 0 = b.getD j 0 := by omega
      rw [if_neg hne2] at hR
      have hres : decide (((b.getD j 0 : Nat) : Int) < ((a.getD j 0 : Nat) : Int)) = R := by
        rw [← hR]
        by_cases h9 : b.getD j 0 < a.getD j 0
        · rw [decide_eq_true h9, decide_eq_true (by omega)]
        · rw [decide_eq_false h9, decide_eq_false (by omega)]
      (conv => whnf)
      (repeat (first | (exact Out.same; conv => whnf) | (exact Out1.same; conv => whnf) | (refine QAnd.mk ?_ ?_; conv => whnf) | (apply QStepH.go; conv => whnf) | (refine Both.lit_true ?_; conv => whnf) | (refine Both.lit_false ?_; conv => whnf) | (apply QStep.go; conv => whnf) | (refine Need.mk ?_ ?_; (focus (first | omega | exact ⟨by omega, by omega⟩ | rfl | exact ⟨rfl, rfl⟩ | exact ⟨rfl, by omega, by omega⟩ | exact ⟨by omega, by omega, by omega⟩ | exact ⟨rfl, Nat.le_of_ble_eq_true rfl⟩ | exact Nat.le_of_ble_eq_true rfl | (refine ⟨rfl, rfl, ?_⟩; simp [isFar, ofV0, CV.up, SV.renL, SV.ren] <;> fail) | (refine ⟨rfl, Nat.le_of_ble_eq_true rfl, ?_⟩; simp [isFar, ofV0, CV.up, SV.renL, SV.ren] <;> fail) | (simp only [List.length_append, List.length_drop, List.length_take, List.length_replicate, List.length_map]; omega) | (simp <;> fail))); conv => whnf) | (refine ⟨_, rfl, ?_⟩; conv => whnf)))
      exact ⟨_, _, WeakV.drop (congrArg SV.bool hres), h⟩
    · have heq2 : a.getD j 0 = b.getD j 0 := by omega
      rw [if_pos heq2] at hR
      (conv => whnf)
      (repeat (first | (exact Out.same; conv => whnf) | (exact Out1.same; conv => whnf) | (refine QAnd.mk ?_ ?_; conv => whnf) | (apply QStepH.go; conv => whnf) | (refine Both.lit_true ?_; conv => whnf) | (refine Both.lit_false ?_; conv => whnf) | (apply QStep.go; conv => whnf) | (refine Need.mk ?_ ?_; (focus (first | omega | exact ⟨by omega, by omega⟩ | rfl | exact ⟨rfl, rfl⟩ | exact ⟨rfl, by omega, by omega⟩ | exact ⟨by omega, by omega, by omega⟩ | exact ⟨rfl, Nat.le_of_ble_eq_true rfl⟩ | exact Nat.le_of_ble_eq_true rfl | (refine ⟨rfl, rfl, ?_⟩; simp [isFar, ofV0, CV.up, SV.renL, SV.ren] <;> fail) | (refine ⟨rfl, Nat.le_of_ble_eq_true rfl, ?_⟩; simp [isFar, ofV0, CV.up, SV.renL, SV.ren] <;> fail) | (simp only [List.length_append, List.length_drop, List.length_take, List.length_replicate, List.length_map]; omega) | (simp <;> fail))); conv => whnf) | (refine ⟨_, rfl, ?_⟩; conv => whnf)))
      refine ⟨j, ⟨by omega, hR⟩, by omega, Weak.auto ?_⟩
      (repeat' ((conv => whnf); first | exact True.intro | (refine And.intro ?_ ?_)))
      all_goals first | rfl | exact .eq rfl | exact congrArg (SV.int .i64) hwr
  have hk0 : k = 0 := by omega
  rw [hk0] at hR
  have hR : false = R := hR
  rw [← hR] at h
  (conv => whnf)
  (repeat (first | (exact Out.same; conv => whnf) | (exact Out1.same; conv => whnf) | (refine QAnd.mk ?_ ?_; conv => whnf) | (apply QStepH.go; conv => whnf) | (refine Both.lit_true ?_; conv => whnf) | (refine Both.lit_false ?_; conv => whnf) | (apply QStep.go; conv => whnf) | (refine Need.mk ?_ ?_; (focus (first | omega | exact ⟨by omega, by omega⟩ | rfl | exact ⟨rfl, rfl⟩ | exact ⟨rfl, by omega, by omega⟩ | exact ⟨by omega, by omega, by omega⟩ | exact ⟨rfl, Nat.le_of_ble_eq_true rfl⟩ | exact Nat.le_of_ble_eq_true rfl | (refine ⟨rfl, rfl, ?_⟩; simp [isFar, ofV0, CV.up, SV.renL, SV.ren] <;> fail) | (refine ⟨rfl, Nat.le_of_ble_eq_true rfl, ?_⟩; simp [isFar, ofV0, CV.up, SV.renL, SV.ren] <;> fail) | (simp only [List.length_append, List.length_drop, List.length_take, List.length_replicate, List.length_map]; omega) | (simp <;> fail))); conv => whnf) | (refine ⟨_, rfl, ?_⟩; conv => whnf)))
  exact ⟨_, _, WeakV.drop rfl, h⟩
theorem above_k : Contract Tryd.prog [] 93 aboveS := ⟨⟨⟨_, rfl, rfl, rfl⟩⟩, above_c⟩
end Go.LX
end
section
set_option maxRecDepth 100000
set_option maxHeartbeats 1000000
set_option autoImplicit false
set_option linter.unusedVariables false
set_option linter.unusedSimpArgs false
namespace Go.LX
open Go.Proofs

/-! ## The roots, worked out -/
def pr64 : List Nat := [2, 3, 5, 7, 11, 13, 17, 19, 23, 29, 31, 37, 41, 43, 47, 53, 59, 61, 67, 71, 73, 79, 83, 89, 97, 101, 103, 107, 109, 113, 127, 131, 137, 139, 149, 151, 157, 163, 167, 173, 179, 181, 191, 193, 197, 199, 211, 223, 227, 229, 233, 239, 241, 251, 257, 263, 269, 271, 277, 281, 283, 293, 307, 311]
def hT : List W32 := St.init.ws
theorem rk0 : ∀ i : Fin 8, rootL (pr64.getD (0 + i.val) 0) 2 = (kT.getD (0 + i.val) 0).toNat := by decide +kernel
theorem rk1 : ∀ i : Fin 8, rootL (pr64.getD (8 + i.val) 0) 2 = (kT.getD (8 + i.val) 0).toNat := by decide +kernel
theorem rk2 : ∀ i : Fin 8, rootL (pr64.getD (16 + i.val) 0) 2 = (kT.getD (16 + i.val) 0).toNat := by decide +kernel
theorem rk3 : ∀ i : Fin 8, rootL (pr64.getD (24 + i.val) 0) 2 = (kT.getD (24 + i.val) 0).toNat := by decide +kernel
theorem rh0 : ∀ i : Fin 8, rootL (pr64.getD i.val 0) 1 = (hT.getD i.val 0).toNat := by decide +kernel
end Go.LX
end
section
set_option maxRecDepth 100000
set_option maxHeartbeats 1000000
set_option autoImplicit false
set_option linter.unusedVariables false
set_option linter.unusedSimpArgs false
namespace Go.LX
open Go.Proofs

theorem rk4 : ∀ i : Fin 8, rootL (pr64.getD (32 + i.val) 0) 2 = (kT.getD (32 + i.val) 0).toNat := by decide +kernel
theorem rk5 : ∀ i : Fin 8, rootL (pr64.getD (40 + i.val) 0) 2 = (kT.getD (40 + i.val) 0).toNat := by decide +kernel
theorem rk6 : ∀ i : Fin 8, rootL (pr64.getD (48 + i.val) 0) 2 = (kT.getD (48 + i.val) 0).toNat := by decide +kernel
theorem rk7 : ∀ i : Fin 8, rootL (pr64.getD (56 + i.val) 0) 2 = (kT.getD (56 + i.val) 0).toNat := by decide +kernel
theorem roots_ok (i : Nat) (h : i < 64) : rootL (pr64.getD i 0) 2 = (kT.getD i 0).toNat := by
  have e : i = 8 * (i / 8) + i % 8 := by omega
  have hm : i % 8 < 8 := Nat.mod_lt _ (by decide)
  have hd : i / 8 < 8 := by omega
  rw [e]
  generalize i / 8 = q at hd ⊢
  generalize i % 8 = r at hm ⊢
  match q, hd with
  | 0, _ => exact rk0 ⟨r, hm⟩
  | 1, _ => exact rk1 ⟨r, hm⟩
  | 2, _ => exact rk2 ⟨r, hm⟩
  | 3, _ => exact rk3 ⟨r, hm⟩
  | 4, _ => exact rk4 ⟨r, hm⟩
  | 5, _ => exact rk5 ⟨r, hm⟩
  | 6, _ => exact rk6 ⟨r, hm⟩
  | 7, _ => exact rk7 ⟨r, hm⟩
theorem roots_h (i : Nat) (h : i < 8) : rootL (pr64.getD i 0) 1 = (hT.getD i 0).toNat := rh0 ⟨i, h⟩
end Go.LX
end
section
set_option maxRecDepth 100000
set_option maxHeartbeats 1000000
set_option autoImplicit false
set_option linter.unusedVariables false
set_option linter.unusedSimpArgs false
namespace Go.LX
open Go.Proofs

/-! ## least, root -/
theorem mulsL_len (x : Nat) : ∀ k, (mulsL x k).length = 1 + 4 * k
  | 0 => rfl
  | k + 1 => by rw [mulsL, mulL_len, mulsL_len x k]; omega
theorem mulsL_bd {x : Nat} (h : x < 18446744073709551616) : ∀ k, ∀ d ∈ mulsL x k, d < 18446744073709551616
  | 0, d, hd => by rw [List.mem_singleton.1 hd]; exact h
  | k + 1, d, hd => mulL_bd _ _ d hd
def thr (b : Bool) : Nat := if b then 2 else 1
def leastS : Spec := fun args H Q => match args, H with
  | [.int .u64 y, .int .u64 m, .bool b], [] => ∃ (x n : Nat), y = x ∧ m = n ∧ x < 18446744073709551616 ∧ n < 18446744073709551616 ∧ Q (.bool (leastL x n (thr b))) []
  | _, _ => False
theorem least_c : Meets Tryd.prog [] 78 leastS := by
  refine meets_of Γok Tryd.func78 rfl ?_
  intro args H Q h
  unfold leastS at h
  split at h
  case h_2 => exact h.elim
  rename_i y m b
  obtain ⟨x, n, rfl, rfl, hx, hn, h⟩ := h
  cases b with
  | false =>
    have hmk : (((1 : Nat) + 2 : Nat) : Int) = (((1 : Nat) + 2 : Nat) : Int) ∧ 0 ≤ (((1 : Nat) + 2 : Nat) : Int) ∧ (ti78.bytes : Int) * (((1 : Nat) + 2 : Nat) : Int) ≤ 140737488355328 ∧ (((1 : Nat) + 2 : Nat) : Int) ≤ 140737488355328 := by decide
    have hobj0 : ((zerosOf 1 3 [CV.int .u64 0]).set 2 (CV.int .u64 (n : Int))) = us (List.replicate (1 + 1) 0 ++ [n]) := rfl
    (refine sx_sound Γok _ ?_; conv => whnf)
    (repeat (first | (exact Out.same; conv => whnf) | (exact Out1.same; conv => whnf) | (refine QAnd.mk ?_ ?_; conv => whnf) | (apply QStepH.go; conv => whnf) | (refine Both.lit_true ?_; conv => whnf) | (refine Both.lit_false ?_; conv => whnf) | (apply QStep.go; conv => whnf) | (refine Need.mk ?_ ?_; (focus (first | omega | exact ⟨by omega, by omega⟩ | rfl | exact ⟨rfl, rfl⟩ | exact ⟨rfl, by omega, by omega⟩ | exact ⟨by omega, by omega, by omega⟩ | exact ⟨rfl, Nat.le_of_ble_eq_true rfl⟩ | exact Nat.le_of_ble_eq_true rfl | (refine ⟨rfl, rfl, ?_⟩; simp [isFar, ofV0, CV.up, SV.renL, SV.ren] <;> fail) | (refine ⟨rfl, Nat.le_of_ble_eq_true rfl, ?_⟩; simp [isFar, ofV0, CV.up, SV.renL, SV.ren] <;> fail) | (simp only [List.length_append, List.length_drop, List.length_take, List.length_replicate, List.length_map]; omega) | (simp <;> fail))); conv => whnf) | (refine ⟨_, rfl, ?_⟩; conv => whnf)))
    refine loop_rule (fun k : Nat => ⟨[.int .u64 (x : Int), .int .u64 (n : Int), .any, .any, .any, .any, .any, .sl 1 (mulsL x k).length (us (mulsL x k)) (Nat.beq k 0), .int .i64 1, .int .i64 (k : Int), .any, .any, .any, .any, .any, .any, .any, .any, .any, .any, .any, .any, .any, .any, .any, .any, .any, .any, .any, .any, .any, .any, .any, .any], []⟩) (fun k => k ≤ 1) (fun k => 1 - k) 0 (Nat.zero_le _) (Weak.auto ?_) ?_
    · (repeat' ((conv => whnf); first | exact True.intro | (refine And.intro ?_ ?_)))
      all_goals first | rfl | exact .eq rfl
    intro k hk
    (refine sx_sound Γok _ ?_; conv => whnf)
    (repeat (first | (exact Out.same; conv => whnf) | (exact Out1.same; conv => whnf) | (refine QAnd.mk ?_ ?_; conv => whnf) | (apply QStepH.go; conv => whnf) | (refine Both.lit_true ?_; conv => whnf) | (refine Both.lit_false ?_; conv => whnf) | (apply QStep.go; conv => whnf) | (refine Need.mk ?_ ?_; (focus (first | omega | exact ⟨by omega, by omega⟩ | rfl | exact ⟨rfl, rfl⟩ | exact ⟨rfl, by omega, by omega⟩ | exact ⟨by omega, by omega, by omega⟩ | exact ⟨rfl, Nat.le_of_ble_eq_true rfl⟩ | exact Nat.le_of_ble_eq_true rfl | (refine ⟨rfl, rfl, ?_⟩; simp [isFar, ofV0, CV.up, SV.renL, SV.ren] <;> fail) | (refine ⟨rfl, Nat.le_of_ble_eq_true rfl, ?_⟩; simp [isFar, ofV0, CV.up, SV.renL, SV.ren] <;> fail) | (simp only [List.length_append, List.length_drop, List.length_take, List.length_replicate, List.length_map]; omega) | (simp <;> fail))); conv => whnf) | (refine ⟨_, rfl, ?_⟩; conv => whnf)))
    refine Both.dec (fun hlt => ?_) (fun hge => ?_)
    · have hl : (mulsL x k).length + 4 = (mulsL x (k + 1)).length := by rw [mulsL_len, mulsL_len]; omega
      have hm : mulL (mulsL x k) x = mulsL x (k + 1) := rfl
      have hwr : IntKind.i64.wrap ((k : Int) + 1) = ((k + 1 : Nat) : Int) := by rw [wrap_i64 (by omega) (by omega)]; rfl
      have hkl : (mulsL x k).length < 800 := by rw [mulsL_len]; omega
      (conv => whnf)
      (repeat (first | (exact Out.same; conv => whnf) | (exact Out1.same; conv => whnf) | (refine QAnd.mk ?_ ?_; conv => whnf) | (apply QStepH.go; conv => whnf) | (refine Both.lit_true ?_; conv => whnf) | (refine Both.lit_false ?_; conv => whnf) | (apply QStep.go; conv => whnf) | (refine Need.mk ?_ ?_; (focus (first | omega | exact ⟨by omega, by omega⟩ | rfl | exact ⟨rfl, rfl⟩ | exact ⟨rfl, by omega, by omega⟩ | exact ⟨by omega, by omega, by omega⟩ | exact ⟨rfl, Nat.le_of_ble_eq_true rfl⟩ | exact Nat.le_of_ble_eq_true rfl | (refine ⟨rfl, rfl, ?_⟩; simp [isFar, ofV0, CV.up, SV.renL, SV.ren] <;> fail) | (refine ⟨rfl, Nat.le_of_ble_eq_true rfl, ?_⟩; simp [isFar, ofV0, CV.up, SV.renL, SV.ren] <;> fail) | (simp only [List.length_append, List.length_drop, List.length_take, List.length_replicate, List.length_map]; omega) | (simp <;> fail))); conv => whnf) | (refine ⟨_, rfl, ?_⟩; conv => whnf)))
      refine CallVC.auto mul_k ⟨mulsL x k, x, rfl, rfl, hkl, mulsL_bd hx k, rfl, hx, ?_⟩
      rw [hm, hl]
      (conv => whnf)
      (repeat (first | (exact Out.same; conv => whnf) | (exact Out1.same; conv => whnf) | (refine QAnd.mk ?_ ?_; conv => whnf) | (apply QStepH.go; conv => whnf) | (refine Both.lit_true ?_; conv => whnf) | (refine Both.lit_false ?_; conv => whnf) | (apply QStep.go; conv => whnf) | (refine Need.mk ?_ ?_; (focus (first | omega | exact ⟨by omega, by omega⟩ | rfl | exact ⟨rfl, rfl⟩ | exact ⟨rfl, by omega, by omega⟩ | exact ⟨by omega, by omega, by omega⟩ | exact ⟨rfl, Nat.le_of_ble_eq_true rfl⟩ | exact Nat.le_of_ble_eq_true rfl | (refine ⟨rfl, rfl, ?_⟩; simp [isFar, ofV0, CV.up, SV.renL, SV.ren] <;> fail) | (refine ⟨rfl, Nat.le_of_ble_eq_true rfl, ?_⟩; simp [isFar, ofV0, CV.up, SV.renL, SV.ren] <;> fail) | (simp only [List.length_append, List.length_drop, List.length_take, List.length_replicate, List.length_map]; omega) | (simp <;> fail))); conv => whnf) | (refine ⟨_, rfl, ?_⟩; conv => whnf)))
      refine ⟨k + 1, by omega, by omega, (Weak.pubT 0 rfl).trans (Weak.auto ?_)⟩
      (repeat' ((conv => whnf); first | exact True.intro | (refine And.intro ?_ ?_)))
      all_goals first | rfl | exact .eq rfl | exact congrArg (SV.int .i64) hwr
    have hk1 : k = 1 := by omega
    subst hk1
    have hl5 : (mulsL x 1).length = 1 + 4 * 1 := mulsL_len x 1
    unfold leastL thr at h
    simp only [if_true, Bool.false_eq_true, if_false] at h
    revert hl5 h
    generalize mulsL x 1 = p
    intro hl5 h
    have hix : ti78.size = ti78.size ∧ 0 ≤ IntKind.i64.wrap (1 + 1) ∧ IntKind.i64.wrap (1 + 1) < ((IntKind.i64.wrap (1 + 2)).toNat : Int) := ⟨rfl, by decide, by decide⟩
    have hst : ti78.size = 1 ∧ 2 < (zerosOf 1 3 [CV.int .u64 0]).length := ⟨rfl, by decide⟩
    (conv => whnf)
    (repeat (first | (refine Need.mk hmk ?_; conv => whnf) | (refine Need.mk hix ?_; conv => whnf) | (refine Need.mk hst ?_; conv => whnf) | (exact Out.same; conv => whnf) | (exact Out1.same; conv => whnf) | (refine QAnd.mk ?_ ?_; conv => whnf) | (apply QStepH.go; conv => whnf) | (refine Both.lit_true ?_; conv => whnf) | (refine Both.lit_false ?_; conv => whnf) | (apply QStep.go; conv => whnf) | (refine Need.mk ?_ ?_; (focus (first | omega | exact ⟨by omega, by omega⟩ | rfl | exact ⟨rfl, rfl⟩ | exact ⟨rfl, by omega, by omega⟩ | exact ⟨by omega, by omega, by omega⟩ | exact ⟨rfl, Nat.le_of_ble_eq_true rfl⟩ | exact Nat.le_of_ble_eq_true rfl | (refine ⟨rfl, rfl, ?_⟩; simp [isFar, ofV0, CV.up, SV.renL, SV.ren] <;> fail) | (refine ⟨rfl, Nat.le_of_ble_eq_true rfl, ?_⟩; simp [isFar, ofV0, CV.up, SV.renL, SV.ren] <;> fail) | (simp only [List.length_append, List.length_drop, List.length_take, List.length_replicate, List.length_map]; omega) | (simp <;> fail))); conv => whnf) | (refine ⟨_, rfl, ?_⟩; conv => whnf)))
    refine CallVC.autoW _ (Weak.pubT 0 rfl) above_k ⟨p, List.replicate (1 + 1) 0 ++ [n], rfl, rfl, hobj0, rfl, by omega, (by rw [List.length_append, List.length_replicate]; exact (by decide : 1 + 1 + 1 < 1000)), ?_⟩
    (conv => whnf)
    (repeat (first | (exact Out.same; conv => whnf) | (exact Out1.same; conv => whnf) | (refine QAnd.mk ?_ ?_; conv => whnf) | (apply QStepH.go; conv => whnf) | (refine Both.lit_true ?_; conv => whnf) | (refine Both.lit_false ?_; conv => whnf) | (apply QStep.go; conv => whnf) | (refine Need.mk ?_ ?_; (focus (first | omega | exact ⟨by omega, by omega⟩ | rfl | exact ⟨rfl, rfl⟩ | exact ⟨rfl, by omega, by omega⟩ | exact ⟨by omega, by omega, by omega⟩ | exact ⟨rfl, Nat.le_of_ble_eq_true rfl⟩ | exact Nat.le_of_ble_eq_true rfl | (refine ⟨rfl, rfl, ?_⟩; simp [isFar, ofV0, CV.up, SV.renL, SV.ren] <;> fail) | (refine ⟨rfl, Nat.le_of_ble_eq_true rfl, ?_⟩; simp [isFar, ofV0, CV.up, SV.renL, SV.ren] <;> fail) | (simp only [List.length_append, List.length_drop, List.length_take, List.length_replicate, List.length_map]; omega) | (simp <;> fail))); conv => whnf) | (refine ⟨_, rfl, ?_⟩; conv => whnf)))
    exact ⟨_, _, WeakV.drop rfl, h⟩
  | true =>
    have hmk : (((2 : Nat) + 2 : Nat) : Int) = (((2 : Nat) + 2 : Nat) : Int) ∧ 0 ≤ (((2 : Nat) + 2 : Nat) : Int) ∧ (ti78.bytes : Int) * (((2 : Nat) + 2 : Nat) : Int) ≤ 140737488355328 ∧ (((2 : Nat) + 2 : Nat) : Int) ≤ 140737488355328 := by decide
    have hobj0 : ((zerosOf 1 4 [CV.int .u64 0]).set 3 (CV.int .u64 (n : Int))) = us (List.replicate (2 + 1) 0 ++ [n]) := rfl
    (refine sx_sound Γok _ ?_; conv => whnf)
    (repeat (first | (exact Out.same; conv => whnf) | (exact Out1.same; conv => whnf) | (refine QAnd.mk ?_ ?_; conv => whnf) | (apply QStepH.go; conv => whnf) | (refine Both.lit_true ?_; conv => whnf) | (refine Both.lit_false ?_; conv => whnf) | (apply QStep.go; conv => whnf) | (refine Need.mk ?_ ?_; (focus (first | omega | exact ⟨by omega, by omega⟩ | rfl | exact ⟨rfl, rfl⟩ | exact ⟨rfl, by omega, by omega⟩ | exact ⟨by omega, by omega, by omega⟩ | exact ⟨rfl, Nat.le_of_ble_eq_true rfl⟩ | exact Nat.le_of_ble_eq_true rfl | (refine ⟨rfl, rfl, ?_⟩; simp [isFar, ofV0, CV.up, SV.renL, SV.ren] <;> fail) | (refine ⟨rfl, Nat.le_of_ble_eq_true rfl, ?_⟩; simp [isFar, ofV0, CV.up, SV.renL, SV.ren] <;> fail) | (simp only [List.length_append, List.length_drop, List.length_take, List.length_replicate, List.length_map]; omega) | (simp <;> fail))); conv => whnf) | (refine ⟨_, rfl, ?_⟩; conv => whnf)))
    refine loop_rule (fun k : Nat => ⟨[.int .u64 (x : Int), .int .u64 (n : Int), .any, .any, .any, .any, .any, .sl 1 (mulsL x k).length (us (mulsL x k)) (Nat.beq k 0), .int .i64 2, .int .i64 (k : Int), .any, .any, .any, .any, .any, .any, .any, .any, .any, .any, .any, .any, .any, .any, .any, .any, .any, .any, .any, .any, .any, .any, .any, .any], []⟩) (fun k => k ≤ 2) (fun k => 2 - k) 0 (Nat.zero_le _) (Weak.auto ?_) ?_
    · (repeat' ((conv => whnf); first | exact True.intro | (refine And.intro ?_ ?_)))
      all_goals first | rfl | exact .eq rfl
    intro k hk
    (refine sx_sound Γok _ ?_; conv => whnf)
    (repeat (first | (exact Out.same; conv => whnf) | (exact Out1.same; conv => whnf) | (refine QAnd.mk ?_ ?_; conv => whnf) | (apply QStepH.go; conv => whnf) | (refine Both.lit_true ?_; conv => whnf) | (refine Both.lit_false ?_; conv => whnf) | (apply QStep.go; conv => whnf) | (refine Need.mk ?_ ?_; (focus (first | omega | exact ⟨by omega, by omega⟩ | rfl | exact ⟨rfl, rfl⟩ | exact ⟨rfl, by omega, by omega⟩ | exact ⟨by omega, by omega, by omega⟩ | exact ⟨rfl, Nat.le_of_ble_eq_true rfl⟩ | exact Nat.le_of_ble_eq_true rfl | (refine ⟨rfl, rfl, ?_⟩; simp [isFar, ofV0, CV.up, SV.renL, SV.ren] <;> fail) | (refine ⟨rfl, Nat.le_of_ble_eq_true rfl, ?_⟩; simp [isFar, ofV0, CV.up, SV.renL, SV.ren] <;> fail) | (simp only [List.length_append, List.length_drop, List.length_take, List.length_replicate, List.length_map]; omega) | (simp <;> fail))); conv => whnf) | (refine ⟨_, rfl, ?_⟩; conv => whnf)))
    refine Both.dec (fun hlt => ?_) (fun hge => ?_)
    · have hl : (mulsL x k).length + 4 = (mulsL x (k + 1)).length := by rw [mulsL_len, mulsL_len]; omega
      have hm : mulL (mulsL x k) x = mulsL x (k + 1) := rfl
      have hwr : IntKind.i64.wrap ((k : Int) + 1) = ((k + 1 : Nat) : Int) := by rw [wrap_i64 (by omega) (by omega)]; rfl
      have hkl : (mulsL x k).length < 800 := by rw [mulsL_len]; omega
      (conv => whnf)
      (repeat (first | (exact Out.same; conv => whnf) | (exact Out1.same; conv => whnf) | (refine QAnd.mk ?_ ?_; conv => whnf) | (apply QStepH.go; conv => whnf) | (refine Both.lit_true ?_; conv => whnf) | (refine Both.lit_false ?_; conv => whnf) | (apply QStep.go; conv => whnf) | (refine Need.mk ?_ ?_; (focus (first | omega | exact ⟨by omega, by omega⟩ | rfl | exact ⟨rfl, rfl⟩ | exact ⟨rfl, by omega, by omega⟩ | exact ⟨by omega, by omega, by omega⟩ | exact ⟨rfl, Nat.le_of_ble_eq_true rfl⟩ | exact Nat.le_of_ble_eq_true rfl | (refine ⟨rfl, rfl, ?_⟩; simp [isFar, ofV0, CV.up, SV.renL, SV.ren] <;> fail) | (refine ⟨rfl, Nat.le_of_ble_eq_true rfl, ?_⟩; simp [isFar, ofV0, CV.up, SV.renL, SV.ren] <;> fail) | (simp only [List.length_append, List.length_drop, List.length_take, List.length_replicate, List.length_map]; omega) | (simp <;> fail))); conv => whnf) | (refine ⟨_, rfl, ?_⟩; conv => whnf)))
      refine CallVC.auto mul_k ⟨mulsL x k, x, rfl, rfl, hkl, mulsL_bd hx k, rfl, hx, ?_⟩
      rw [hm, hl]
      (conv => whnf)
      (repeat (first | (exact Out.same; conv => whnf) | (exact Out1.same; conv => whnf) | (refine QAnd.mk ?_ ?_; conv => whnf) | (apply QStepH.go; conv => whnf) | (refine Both.lit_true ?_; conv => whnf) | (refine Both.lit_false ?_; conv => whnf) | (apply QStep.go; conv => whnf) | (refine Need.mk ?_ ?_; (focus (first | omega | exact ⟨by omega, by omega⟩ | rfl | exact ⟨rfl, rfl⟩ | exact ⟨rfl, by omega, by omega⟩ | exact ⟨by omega, by omega, by omega⟩ | exact ⟨rfl, Nat.le_of_ble_eq_true rfl⟩ | exact Nat.le_of_ble_eq_true rfl | (refine ⟨rfl, rfl, ?_⟩; simp [isFar, ofV0, CV.up, SV.renL, SV.ren] <;> fail) | (refine ⟨rfl, Nat.le_of_ble_eq_true rfl, ?_⟩; simp [isFar, ofV0, CV.up, SV.renL, SV.ren] <;> fail) | (simp only [List.length_append, List.length_drop, List.length_take, List.length_replicate, List.length_map]; omega) | (simp <;> fail))); conv => whnf) | (refine ⟨_, rfl, ?_⟩; conv => whnf)))
      refine ⟨k + 1, by omega, by omega, (Weak.pubT 0 rfl).trans (Weak.auto ?_)⟩
      (repeat' ((conv => whnf); first | exact True.intro | (refine And.intro ?_ ?_)))
      all_goals first | rfl | exact .eq rfl | exact congrArg (SV.int .i64) hwr
    have hk1 : k = 2 := by omega
    subst hk1
    have hl5 : (mulsL x 2).length = 1 + 4 * 2 := mulsL_len x 2
    unfold leastL thr at h
    simp only [if_true, Bool.false_eq_true, if_false] at h
    revert hl5 h
    generalize mulsL x 2 = p
    intro hl5 h
    have hix : ti78.size = ti78.size ∧ 0 ≤ IntKind.i64.wrap (2 + 1) ∧ IntKind.i64.wrap (2 + 1) < ((IntKind.i64.wrap (2 + 2)).toNat : Int) := ⟨rfl, by decide, by decide⟩
    have hst : ti78.size = 1 ∧ 3 < (zerosOf 1 4 [CV.int .u64 0]).length := ⟨rfl, by decide⟩
    (conv => whnf)
    (repeat (first | (refine Need.mk hmk ?_; conv => whnf) | (refine Need.mk hix ?_; conv => whnf) | (refine Need.mk hst ?_; conv => whnf) | (exact Out.same; conv => whnf) | (exact Out1.same; conv => whnf) | (refine QAnd.mk ?_ ?_; conv => whnf) | (apply QStepH.go; conv => whnf) | (refine Both.lit_true ?_; conv => whnf) | (refine Both.lit_false ?_; conv => whnf) | (apply QStep.go; conv => whnf) | (refine Need.mk ?_ ?_; (focus (first | omega | exact ⟨by omega, by omega⟩ | rfl | exact ⟨rfl, rfl⟩ | exact ⟨rfl, by omega, by omega⟩ | exact ⟨by omega, by omega, by omega⟩ | exact ⟨rfl, Nat.le_of_ble_eq_true rfl⟩ | exact Nat.le_of_ble_eq_true rfl | (refine ⟨rfl, rfl, ?_⟩; simp [isFar, ofV0, CV.up, SV.renL, SV.ren] <;> fail) | (refine ⟨rfl, Nat.le_of_ble_eq_true rfl, ?_⟩; simp [isFar, ofV0, CV.up, SV.renL, SV.ren] <;> fail) | (simp only [List.length_append, List.length_drop, List.length_take, List.length_replicate, List.length_map]; omega) | (simp <;> fail))); conv => whnf) | (refine ⟨_, rfl, ?_⟩; conv => whnf)))
    refine CallVC.autoW _ (Weak.pubT 0 rfl) above_k ⟨p, List.replicate (2 + 1) 0 ++ [n], rfl, rfl, hobj0, rfl, by omega, (by rw [List.length_append, List.length_replicate]; exact (by decide : 2 + 1 + 1 < 1000)), ?_⟩
    (conv => whnf)
    (repeat (first | (exact Out.same; conv => whnf) | (exact Out1.same; conv => whnf) | (refine QAnd.mk ?_ ?_; conv => whnf) | (apply QStepH.go; conv => whnf) | (refine Both.lit_true ?_; conv => whnf) | (refine Both.lit_false ?_; conv => whnf) | (apply QStep.go; conv => whnf) | (refine Need.mk ?_ ?_; (focus (first | omega | exact ⟨by omega, by omega⟩ | rfl | exact ⟨rfl, rfl⟩ | exact ⟨rfl, by omega, by omega⟩ | exact ⟨by omega, by omega, by omega⟩ | exact ⟨rfl, Nat.le_of_ble_eq_true rfl⟩ | exact Nat.le_of_ble_eq_true rfl | (refine ⟨rfl, rfl, ?_⟩; simp [isFar, ofV0, CV.up, SV.renL, SV.ren] <;> fail) | (refine ⟨rfl, Nat.le_of_ble_eq_true rfl, ?_⟩; simp [isFar, ofV0, CV.up, SV.renL, SV.ren] <;> fail) | (simp only [List.length_append, List.length_drop, List.length_take, List.length_replicate, List.length_map]; omega) | (simp <;> fail))); conv => whnf) | (refine ⟨_, rfl, ?_⟩; conv => whnf)))
    exact ⟨_, _, WeakV.drop rfl, h⟩
theorem least_k : Contract Tryd.prog [] 78 leastS := ⟨⟨⟨_, rfl, rfl, rfl⟩⟩, least_c⟩
def rootS : Spec := fun args H Q => match args, H with
  | [.int .u64 m, .bool b], [] => ∃ n : Nat, m = n ∧ n < 18446744073709551616 ∧ Q (.int .u32 ((rootL n (thr b) : Nat) : Int)) []
  | _, _ => False
theorem root_c : Meets Tryd.prog [] 50 rootS := by
  refine meets_of Γok Tryd.func50 rfl ?_
  intro args H Q h
  unfold rootS at h
  split at h
  case h_2 => exact h.elim
  rename_i m b
  obtain ⟨n, rfl, hn, h⟩ := h
  obtain ⟨R, hR⟩ : ∃ R, bis n (thr b) 36 0 68719476736 = R := ⟨_, rfl⟩
  unfold rootL at h
  rw [hR] at h
  (refine sx_sound Γok _ ?_; conv => whnf)
  (repeat (first | (exact Out.same; conv => whnf) | (exact Out1.same; conv => whnf) | (refine QAnd.mk ?_ ?_; conv => whnf) | (apply QStepH.go; conv => whnf) | (refine Both.lit_true ?_; conv => whnf) | (refine Both.lit_false ?_; conv => whnf) | (apply QStep.go; conv => whnf) | (refine Need.mk ?_ ?_; (focus (first | omega | exact ⟨by omega, by omega⟩ | rfl | exact ⟨rfl, rfl⟩ | exact ⟨rfl, by omega, by omega⟩ | exact ⟨by omega, by omega, by omega⟩ | exact ⟨rfl, Nat.le_of_ble_eq_true rfl⟩ | exact Nat.le_of_ble_eq_true rfl | (refine ⟨rfl, rfl, ?_⟩; simp [isFar, ofV0, CV.up, SV.renL, SV.ren] <;> fail) | (refine ⟨rfl, Nat.le_of_ble_eq_true rfl, ?_⟩; simp [isFar, ofV0, CV.up, SV.renL, SV.ren] <;> fail) | (simp only [List.length_append, List.length_drop, List.length_take, List.length_replicate, List.length_map]; omega) | (simp <;> fail))); conv => whnf) | (refine ⟨_, rfl, ?_⟩; conv => whnf)))
  refine loop_rule (fun s : Nat × Nat => match s with | (lo, hi) => ⟨[.int .u64 (n : Int), .bool b, .any, .any, .any, .int .u64 (lo : Int), .int .u64 (hi : Int), .any, .any, .any, .any, .any, .any, .any, .any, .any, .any, .any, .any, .any, .any, .any, .any, .any], []⟩) (fun s => s.1 < s.2 ∧ s.2 ≤ 68719476736 ∧ ∃ f, s.2 - s.1 ≤ 2 ^ f ∧ bis n (thr b) f s.1 s.2 = R) (fun s => s.2 - s.1) (0, 68719476736) ⟨by decide, by decide, 36, by decide, hR⟩ (Weak.auto ?_) ?_
  · (repeat' ((conv => whnf); first | exact True.intro | (refine And.intro ?_ ?_)))
    all_goals first | rfl | exact .eq rfl
  clear hR
  rintro ⟨lo, hi⟩ ⟨h1, h2, f, h3, hR⟩
  dsimp only at h1 h2 h3 hR
  have hwd : IntKind.u64.wrap ((hi : Int) - (lo : Int)) = ((hi - lo : Nat) : Int) := by rw [wrap_u64 (by omega) (by omega)]; omega
  (refine sx_sound Γok _ ?_; conv => whnf)
  (repeat (first | (exact Out.same; conv => whnf) | (exact Out1.same; conv => whnf) | (refine QAnd.mk ?_ ?_; conv => whnf) | (apply QStepH.go; conv => whnf) | (refine Both.lit_true ?_; conv => whnf) | (refine Both.lit_false ?_; conv => whnf) | (apply QStep.go; conv => whnf) | (refine Need.mk ?_ ?_; (focus (first | omega | exact ⟨by omega, by omega⟩ | rfl | exact ⟨rfl, rfl⟩ | exact ⟨rfl, by omega, by omega⟩ | exact ⟨by omega, by omega, by omega⟩ | exact ⟨rfl, Nat.le_of_ble_eq_true rfl⟩ | exact Nat.le_of_ble_eq_true rfl | (refine ⟨rfl, rfl, ?_⟩; simp [isFar, ofV0, CV.up, SV.renL, SV.ren] <;> fail) | (refine ⟨rfl, Nat.le_of_ble_eq_true rfl, ?_⟩; simp [isFar, ofV0, CV.up, SV.renL, SV.ren] <;> fail) | (simp only [List.length_append, List.length_drop, List.length_take, List.length_replicate, List.length_map]; omega) | (simp <;> fail))); conv => whnf) | (refine ⟨_, rfl, ?_⟩; conv => whnf)))
  refine Both.dec (fun hlt => ?_) (fun hge => ?_)
  · rw [hwd] at hlt
    obtain ⟨g, rfl⟩ : ∃ g, f = g + 1 := by
      cases f with
      | zero => simp at h3; omega
      | succ g => exact ⟨g, rfl⟩
    rw [bis, if_pos (by omega)] at hR
    have hwa : IntKind.u64.wrap ((lo : Int) + (hi : Int)) = ((lo + hi : Nat) : Int) := by rw [wrap64_add, n64_of (by omega)]
    have hwm : IntKind.u64.wrap ((((lo + hi : Nat) : Int)).tdiv 2) = (((lo + hi) / 2 : Nat) : Int) := by
      rw [show (((lo + hi : Nat) : Int)).tdiv 2 = (((lo + hi) / 2 : Nat) : Int) from rfl, wrap64, n64_of (by omega)]
    have hp : (2 : Nat) ^ (g + 1) = 2 * 2 ^ g := by rw [Nat.pow_succ]; omega
    (conv => whnf)
    (repeat (first | (exact Out.same; conv => whnf) | (exact Out1.same; conv => whnf) | (refine QAnd.mk ?_ ?_; conv => whnf) | (apply QStepH.go; conv => whnf) | (refine Both.lit_true ?_; conv => whnf) | (refine Both.lit_false ?_; conv => whnf) | (apply QStep.go; conv => whnf) | (refine Need.mk ?_ ?_; (focus (first | omega | exact ⟨by omega, by omega⟩ | rfl | exact ⟨rfl, rfl⟩ | exact ⟨rfl, by omega, by omega⟩ | exact ⟨by omega, by omega, by omega⟩ | exact ⟨rfl, Nat.le_of_ble_eq_true rfl⟩ | exact Nat.le_of_ble_eq_true rfl | (refine ⟨rfl, rfl, ?_⟩; simp [isFar, ofV0, CV.up, SV.renL, SV.ren] <;> fail) | (refine ⟨rfl, Nat.le_of_ble_eq_true rfl, ?_⟩; simp [isFar, ofV0, CV.up, SV.renL, SV.ren] <;> fail) | (simp only [List.length_append, List.length_drop, List.length_take, List.length_replicate, List.length_map]; omega) | (simp <;> fail))); conv => whnf) | (refine ⟨_, rfl, ?_⟩; conv => whnf)))
    rw [hwa]
    (repeat (first | (exact Out.same; conv => whnf) | (exact Out1.same; conv => whnf) | (refine QAnd.mk ?_ ?_; conv => whnf) | (apply QStepH.go; conv => whnf) | (refine Both.lit_true ?_; conv => whnf) | (refine Both.lit_false ?_; conv => whnf) | (apply QStep.go; conv => whnf) | (refine Need.mk ?_ ?_; (focus (first | omega | exact ⟨by omega, by omega⟩ | rfl | exact ⟨rfl, rfl⟩ | exact ⟨rfl, by omega, by omega⟩ | exact ⟨by omega, by omega, by omega⟩ | exact ⟨rfl, Nat.le_of_ble_eq_true rfl⟩ | exact Nat.le_of_ble_eq_true rfl | (refine ⟨rfl, rfl, ?_⟩; simp [isFar, ofV0, CV.up, SV.renL, SV.ren] <;> fail) | (refine ⟨rfl, Nat.le_of_ble_eq_true rfl, ?_⟩; simp [isFar, ofV0, CV.up, SV.renL, SV.ren] <;> fail) | (simp only [List.length_append, List.length_drop, List.length_take, List.length_replicate, List.length_map]; omega) | (simp <;> fail))); conv => whnf) | (refine ⟨_, rfl, ?_⟩; conv => whnf)))
    rw [hwm]
    refine CallVC.auto least_k ⟨(lo + hi) / 2, n, rfl, rfl, by omega, hn, ?_⟩
    (conv => whnf)
    refine Both.cases (fun hy => ?_) (fun hno => ?_)
    · rw [if_pos hy] at hR
      (conv => whnf)
      (repeat (first | (exact Out.same; conv => whnf) | (exact Out1.same; conv => whnf) | (refine QAnd.mk ?_ ?_; conv => whnf) | (apply QStepH.go; conv => whnf) | (refine Both.lit_true ?_; conv => whnf) | (refine Both.lit_false ?_; conv => whnf) | (apply QStep.go; conv => whnf) | (refine Need.mk ?_ ?_; (focus (first | omega | exact ⟨by omega, by omega⟩ | rfl | exact ⟨rfl, rfl⟩ | exact ⟨rfl, by omega, by omega⟩ | exact ⟨by omega, by omega, by omega⟩ | exact ⟨rfl, Nat.le_of_ble_eq_true rfl⟩ | exact Nat.le_of_ble_eq_true rfl | (refine ⟨rfl, rfl, ?_⟩; simp [isFar, ofV0, CV.up, SV.renL, SV.ren] <;> fail) | (refine ⟨rfl, Nat.le_of_ble_eq_true rfl, ?_⟩; simp [isFar, ofV0, CV.up, SV.renL, SV.ren] <;> fail) | (simp only [List.length_append, List.length_drop, List.length_take, List.length_replicate, List.length_map]; omega) | (simp <;> fail))); conv => whnf) | (refine ⟨_, rfl, ?_⟩; conv => whnf)))
      refine ⟨((lo + hi) / 2, hi), ⟨by show (lo + hi) / 2 < hi; omega, h2, g, by show hi - (lo + hi) / 2 ≤ _; omega, hR⟩, by show hi - (lo + hi) / 2 < hi - lo; omega, Weak.auto ?_⟩
      (repeat' ((conv => whnf); first | exact True.intro | (refine And.intro ?_ ?_)))
      all_goals first | rfl | exact .eq rfl
    · rw [if_neg (by rw [hno]; decide)] at hR
      (conv => whnf)
      (repeat (first | (exact Out.same; conv => whnf) | (exact Out1.same; conv => whnf) | (refine QAnd.mk ?_ ?_; conv => whnf) | (apply QStepH.go; conv => whnf) | (refine Both.lit_true ?_; conv => whnf) | (refine Both.lit_false ?_; conv => whnf) | (apply QStep.go; conv => whnf) | (refine Need.mk ?_ ?_; (focus (first | omega | exact ⟨by omega, by omega⟩ | rfl | exact ⟨rfl, rfl⟩ | exact ⟨rfl, by omega, by omega⟩ | exact ⟨by omega, by omega, by omega⟩ | exact ⟨rfl, Nat.le_of_ble_eq_true rfl⟩ | exact Nat.le_of_ble_eq_true rfl | (refine ⟨rfl, rfl, ?_⟩; simp [isFar, ofV0, CV.up, SV.renL, SV.ren] <;> fail) | (refine ⟨rfl, Nat.le_of_ble_eq_true rfl, ?_⟩; simp [isFar, ofV0, CV.up, SV.renL, SV.ren] <;> fail) | (simp only [List.length_append, List.length_drop, List.length_take, List.length_replicate, List.length_map]; omega) | (simp <;> fail))); conv => whnf) | (refine ⟨_, rfl, ?_⟩; conv => whnf)))
      refine ⟨(lo, (lo + hi) / 2), ⟨by show lo < (lo + hi) / 2; omega, by show (lo + hi) / 2 ≤ _; omega, g, by show (lo + hi) / 2 - lo ≤ _; omega, hR⟩, by show (lo + hi) / 2 - lo < hi - lo; omega, Weak.auto ?_⟩
      (repeat' ((conv => whnf); first | exact True.intro | (refine And.intro ?_ ?_)))
      all_goals first | rfl | exact .eq rfl
  · rw [hwd] at hge
    have hl : lo = R := by
      rw [← hR]
      cases f with
      | zero => rfl
      | succ g => rw [bis, if_neg (by omega)]
    have hw32 : IntKind.u32.wrap (lo : Int) = ((R % 4294967296 : Nat) : Int) := by rw [wrap_u32_mod, hl]; rfl
    (conv => whnf)
    (repeat (first | (exact Out.same; conv => whnf) | (exact Out1.same; conv => whnf) | (refine QAnd.mk ?_ ?_; conv => whnf) | (apply QStepH.go; conv => whnf) | (refine Both.lit_true ?_; conv => whnf) | (refine Both.lit_false ?_; conv => whnf) | (apply QStep.go; conv => whnf) | (refine Need.mk ?_ ?_; (focus (first | omega | exact ⟨by omega, by omega⟩ | rfl | exact ⟨rfl, rfl⟩ | exact ⟨rfl, by omega, by omega⟩ | exact ⟨by omega, by omega, by omega⟩ | exact ⟨rfl, Nat.le_of_ble_eq_true rfl⟩ | exact Nat.le_of_ble_eq_true rfl | (refine ⟨rfl, rfl, ?_⟩; simp [isFar, ofV0, CV.up, SV.renL, SV.ren] <;> fail) | (refine ⟨rfl, Nat.le_of_ble_eq_true rfl, ?_⟩; simp [isFar, ofV0, CV.up, SV.renL, SV.ren] <;> fail) | (simp only [List.length_append, List.length_drop, List.length_take, List.length_replicate, List.length_map]; omega) | (simp <;> fail))); conv => whnf) | (refine ⟨_, rfl, ?_⟩; conv => whnf)))
    exact ⟨_, _, WeakV.drop (congrArg (SV.int .u32) hw32), h⟩
theorem root_k : Contract Tryd.prog [] 50 rootS := ⟨⟨⟨_, rfl, rfl, rfl⟩⟩, root_c⟩
end Go.LX
end
section
set_option maxRecDepth 100000
set_option maxHeartbeats 1000000
set_option autoImplicit false
set_option linter.unusedVariables false
set_option linter.unusedSimpArgs false
namespace Go.LX
open Go.Proofs

/-! ## primes -/
def npr (x : Nat) (d : Nat) : Bool := !decide (x % d = 0)
def prs : Nat → List Nat
  | 0 => []
  | x + 1 => if 2 ≤ x ∧ (prs x).all (npr x) = true then prs x ++ [x] else prs x
theorem prs_end : prs 312 = pr64 := by decide +kernel
theorem prs_few : ∀ x : Fin 312, (prs x.val).length < 64 := by decide +kernel
theorem prs_pos : ∀ (x : Nat), ∀ d ∈ prs x, 2 ≤ d
  | 0, d, h => by cases h
  | x + 1, d, h => by
    rw [prs] at h
    split at h
    · rename_i h2
      rcases List.mem_append.1 h with h1 | h1
      · exact prs_pos x d h1
      · rw [List.mem_singleton.1 h1]
        exact h2.1
    · exact prs_pos x d h
theorem all_take (p : Nat → Bool) (l : List Nat) {k : Nat} (h : k < l.length) : (l.take (k + 1)).all p = ((l.take k).all p && p (l.getD k 0)) := by
  rw [List.take_add_one, List.getD_eq_getElem?_getD, List.getElem?_eq_getElem h, List.all_append]
  simp
def primesS : Spec := fun args H Q => match args, H with
  | [.int .i64 64], [] => Q (.own 0) [.own 78 1 64 (us pr64) true]
  | _, _ => False
theorem primes_c : Meets Tryd.prog [] 49 primesS := by
  refine meets_of Γok Tryd.func49 rfl ?_
  intro args H Q h
  unfold primesS at h
  split at h
  case h_2 => exact h.elim
  (refine sx_sound Γok _ ?_; conv => whnf)
  (repeat (first | (exact Out.same; conv => whnf) | (exact Out1.same; conv => whnf) | (refine QAnd.mk ?_ ?_; conv => whnf) | (apply QStepH.go; conv => whnf) | (refine Both.lit_true ?_; conv => whnf) | (refine Both.lit_false ?_; conv => whnf) | (apply QStep.go; conv => whnf) | (refine Need.mk ?_ ?_; (focus (first | omega | exact ⟨by omega, by omega⟩ | rfl | exact ⟨rfl, rfl⟩ | exact ⟨rfl, by omega, by omega⟩ | exact ⟨by omega, by omega, by omega⟩ | exact ⟨rfl, Nat.le_of_ble_eq_true rfl⟩ | exact Nat.le_of_ble_eq_true rfl | (refine ⟨rfl, rfl, ?_⟩; simp [isFar, ofV0, CV.up, SV.renL, SV.ren] <;> fail) | (refine ⟨rfl, Nat.le_of_ble_eq_true rfl, ?_⟩; simp [isFar, ofV0, CV.up, SV.renL, SV.ren] <;> fail) | (simp only [List.length_append, List.length_drop, List.length_take, List.length_replicate, List.length_map]; omega) | (simp <;> fail))); conv => whnf) | (refine ⟨_, rfl, ?_⟩; conv => whnf)))
  refine loop_rule (fun x : Nat => ⟨[.int .i64 64, .any, .any, .own 0, .int .u64 (x : Int), .any, .any, .any, .any, .any, .any, .any, .any, .any, .any, .any, .any, .any, .any, .any, .any, .any, .any, .any, .any, .any, .any, .any, .any, .any, .any, .any], [.own 78 1 (prs x).length (us (prs x)) true]⟩) (fun x => 2 ≤ x ∧ x ≤ 312) (fun x => 312 - x) 2 ⟨by decide, by decide⟩ ((Weak.ownNilT 3 78 1 rfl).trans (Weak.auto ?_)) ?_
  · (repeat' ((conv => whnf); first | exact True.intro | (refine And.intro ?_ ?_)))
    all_goals first | rfl | exact .eq rfl
  rintro x ⟨hx2, hx⟩
  have hpos := prs_pos x
  have hfew : x < 312 → (prs x).length < 64 := fun h => prs_few ⟨x, h⟩
  have hend : x = 312 → prs x = pr64 := fun h => by rw [h]; exact prs_end
  have hstep : prs (x + 1) = if 2 ≤ x ∧ (prs x).all (npr x) = true then prs x ++ [x] else prs x := rfl
  revert hpos hfew hend hstep
  generalize hnx : prs (x + 1) = nx
  generalize prs x = l
  intro hpos hfew hend hstep
  (refine sx_sound Γok _ ?_; conv => whnf)
  (repeat (first | (exact Out.same; conv => whnf) | (exact Out1.same; conv => whnf) | (refine QAnd.mk ?_ ?_; conv => whnf) | (apply QStepH.go; conv => whnf) | (refine Both.lit_true ?_; conv => whnf) | (refine Both.lit_false ?_; conv => whnf) | (apply QStep.go; conv => whnf) | (refine Need.mk ?_ ?_; (focus (first | omega | exact ⟨by omega, by omega⟩ | rfl | exact ⟨rfl, rfl⟩ | exact ⟨rfl, by omega, by omega⟩ | exact ⟨by omega, by omega, by omega⟩ | exact ⟨rfl, Nat.le_of_ble_eq_true rfl⟩ | exact Nat.le_of_ble_eq_true rfl | (refine ⟨rfl, rfl, ?_⟩; simp [isFar, ofV0, CV.up, SV.renL, SV.ren] <;> fail) | (refine ⟨rfl, Nat.le_of_ble_eq_true rfl, ?_⟩; simp [isFar, ofV0, CV.up, SV.renL, SV.ren] <;> fail) | (simp only [List.length_append, List.length_drop, List.length_take, List.length_replicate, List.length_map]; omega) | (simp <;> fail))); conv => whnf) | (refine ⟨_, rfl, ?_⟩; conv => whnf)))
  refine Both.dec (fun hlt => ?_) (fun hge => ?_)
  · have hx3 : x < 312 := by
      rcases Nat.lt_or_ge x 312 with h1 | h1
      · exact h1
      · have := hend (by omega)
        rw [this] at hlt
        exact absurd hlt (by decide)
    have hl64 : l.length < 64 := hfew hx3
    have hwx : IntKind.u64.wrap ((x : Int) + 1) = ((x + 1 : Nat) : Int) := by
      rw [wrap_u64 (by omega) (by omega)]
      rfl
    (conv => whnf)
    (repeat (first | (exact Out.same; conv => whnf) | (exact Out1.same; conv => whnf) | (refine QAnd.mk ?_ ?_; conv => whnf) | (apply QStepH.go; conv => whnf) | (refine Both.lit_true ?_; conv => whnf) | (refine Both.lit_false ?_; conv => whnf) | (apply QStep.go; conv => whnf) | (refine Need.mk ?_ ?_; (focus (first | omega | exact ⟨by omega, by omega⟩ | rfl | exact ⟨rfl, rfl⟩ | exact ⟨rfl, by omega, by omega⟩ | exact ⟨by omega, by omega, by omega⟩ | exact ⟨rfl, Nat.le_of_ble_eq_true rfl⟩ | exact Nat.le_of_ble_eq_true rfl | (refine ⟨rfl, rfl, ?_⟩; simp [isFar, ofV0, CV.up, SV.renL, SV.ren] <;> fail) | (refine ⟨rfl, Nat.le_of_ble_eq_true rfl, ?_⟩; simp [isFar, ofV0, CV.up, SV.renL, SV.ren] <;> fail) | (simp only [List.length_append, List.length_drop, List.length_take, List.length_replicate, List.length_map]; omega) | (simp <;> fail))); conv => whnf) | (refine ⟨_, rfl, ?_⟩; conv => whnf)))
    refine loop_rule (fun k : Nat => ⟨[.int .i64 64, .any, .any, .own 0, .int .u64 (x : Int), .bool ((l.take k).all (npr x)), .int .i64 (k : Int), .any, .any, .any, .any, .any, .any, .any, .any, .any, .any, .any, .any, .any, .any, .any, .any, .any, .any, .any, .any, .any, .any, .any, .any, .any], [.own 78 1 l.length (us l) true]⟩) (fun k => k ≤ l.length) (fun k => l.length - k) 0 (Nat.zero_le _) (Weak.auto ?_) ?_
    · (repeat' ((conv => whnf); first | exact True.intro | (refine And.intro ?_ ?_)))
      all_goals first | rfl | exact .eq rfl
    intro k hk
    (refine sx_sound Γok _ ?_; conv => whnf)
    (repeat (first | (exact Out.same; conv => whnf) | (exact Out1.same; conv => whnf) | (refine QAnd.mk ?_ ?_; conv => whnf) | (apply QStepH.go; conv => whnf) | (refine Both.lit_true ?_; conv => whnf) | (refine Both.lit_false ?_; conv => whnf) | (apply QStep.go; conv => whnf) | (refine Need.mk ?_ ?_; (focus (first | omega | exact ⟨by omega, by omega⟩ | rfl | exact ⟨rfl, rfl⟩ | exact ⟨rfl, by omega, by omega⟩ | exact ⟨by omega, by omega, by omega⟩ | exact ⟨rfl, Nat.le_of_ble_eq_true rfl⟩ | exact Nat.le_of_ble_eq_true rfl | (refine ⟨rfl, rfl, ?_⟩; simp [isFar, ofV0, CV.up, SV.renL, SV.ren] <;> fail) | (refine ⟨rfl, Nat.le_of_ble_eq_true rfl, ?_⟩; simp [isFar, ofV0, CV.up, SV.renL, SV.ren] <;> fail) | (simp only [List.length_append, List.length_drop, List.length_take, List.length_replicate, List.length_map]; omega) | (simp <;> fail))); conv => whnf) | (refine ⟨_, rfl, ?_⟩; conv => whnf)))
    refine Both.dec (fun hlt2 => ?_) (fun hge2 => ?_)
    · have hkl : k < l.length := by omega
      have hat := us_at hkl
      have hall := all_take (npr x) l hkl
      have hd2 : 2 ≤ l.getD k 0 := by
        rw [List.getD_eq_getElem?_getD, List.getElem?_eq_getElem hkl]
        exact hpos _ (List.getElem_mem hkl)
      have hwr : IntKind.i64.wrap ((k : Int) + 1) = ((k + 1 : Nat) : Int) := by rw [wrap_i64 (by omega) (by omega)]; rfl
      revert hat hall hd2
      generalize l.getD k 0 = d
      intro hat hall hd2
      have hd0 : (d : Int) ≠ 0 := by omega
      have hmd : (x : Int).tmod (d : Int) = ((x % d : Nat) : Int) := rfl
      (conv => whnf)
      (repeat (first | (refine ⟨_, hat, ?_⟩; conv => whnf) | (refine Need.mk hd0 ?_; conv => whnf) | (exact Out.same; conv => whnf) | (exact Out1.same; conv => whnf) | (refine QAnd.mk ?_ ?_; conv => whnf) | (apply QStepH.go; conv => whnf) | (refine Both.lit_true ?_; conv => whnf) | (refine Both.lit_false ?_; conv => whnf) | (apply QStep.go; conv => whnf) | (refine Need.mk ?_ ?_; (focus (first | omega | exact ⟨by omega, by omega⟩ | rfl | exact ⟨rfl, rfl⟩ | exact ⟨rfl, by omega, by omega⟩ | exact ⟨by omega, by omega, by omega⟩ | exact ⟨rfl, Nat.le_of_ble_eq_true rfl⟩ | exact Nat.le_of_ble_eq_true rfl | (refine ⟨rfl, rfl, ?_⟩; simp [isFar, ofV0, CV.up, SV.renL, SV.ren] <;> fail) | (refine ⟨rfl, Nat.le_of_ble_eq_true rfl, ?_⟩; simp [isFar, ofV0, CV.up, SV.renL, SV.ren] <;> fail) | (simp only [List.length_append, List.length_drop, List.length_take, List.length_replicate, List.length_map]; omega) | (simp <;> fail))); conv => whnf) | (refine ⟨_, rfl, ?_⟩; conv => whnf)))
      rw [hmd]
      refine Both.dec (fun hz => ?_) (fun hnz => ?_)
      · have hb : SV.bool false = SV.bool ((l.take (k + 1)).all (npr x)) := by
          rw [hall, npr, decide_eq_true (show x % d = 0 by omega)]
          simp
        (conv => whnf)
        (repeat (first | (exact Out.same; conv => whnf) | (exact Out1.same; conv => whnf) | (refine QAnd.mk ?_ ?_; conv => whnf) | (apply QStepH.go; conv => whnf) | (refine Both.lit_true ?_; conv => whnf) | (refine Both.lit_false ?_; conv => whnf) | (apply QStep.go; conv => whnf) | (refine Need.mk ?_ ?_; (focus (first | omega | exact ⟨by omega, by omega⟩ | rfl | exact ⟨rfl, rfl⟩ | exact ⟨rfl, by omega, by omega⟩ | exact ⟨by omega, by omega, by omega⟩ | exact ⟨rfl, Nat.le_of_ble_eq_true rfl⟩ | exact Nat.le_of_ble_eq_true rfl | (refine ⟨rfl, rfl, ?_⟩; simp [isFar, ofV0, CV.up, SV.renL, SV.ren] <;> fail) | (refine ⟨rfl, Nat.le_of_ble_eq_true rfl, ?_⟩; simp [isFar, ofV0, CV.up, SV.renL, SV.ren] <;> fail) | (simp only [List.length_append, List.length_drop, List.length_take, List.length_replicate, List.length_map]; omega) | (simp <;> fail))); conv => whnf) | (refine ⟨_, rfl, ?_⟩; conv => whnf)))
        refine ⟨k + 1, by omega, by omega, Weak.auto ?_⟩
        (repeat' ((conv => whnf); first | exact True.intro | (refine And.intro ?_ ?_)))
        all_goals first | rfl | exact .eq rfl | exact congrArg (SV.int .i64) hwr | exact hb
      · have hb : SV.bool ((l.take k).all (npr x)) = SV.bool ((l.take (k + 1)).all (npr x)) := by
          rw [hall, npr, decide_eq_false (show ¬ x % d = 0 by omega)]
          simp
        (conv => whnf)
        (repeat (first | (exact Out.same; conv => whnf) | (exact Out1.same; conv => whnf) | (refine QAnd.mk ?_ ?_; conv => whnf) | (apply QStepH.go; conv => whnf) | (refine Both.lit_true ?_; conv => whnf) | (refine Both.lit_false ?_; conv => whnf) | (apply QStep.go; conv => whnf) | (refine Need.mk ?_ ?_; (focus (first | omega | exact ⟨by omega, by omega⟩ | rfl | exact ⟨rfl, rfl⟩ | exact ⟨rfl, by omega, by omega⟩ | exact ⟨by omega, by omega, by omega⟩ | exact ⟨rfl, Nat.le_of_ble_eq_true rfl⟩ | exact Nat.le_of_ble_eq_true rfl | (refine ⟨rfl, rfl, ?_⟩; simp [isFar, ofV0, CV.up, SV.renL, SV.ren] <;> fail) | (refine ⟨rfl, Nat.le_of_ble_eq_true rfl, ?_⟩; simp [isFar, ofV0, CV.up, SV.renL, SV.ren] <;> fail) | (simp only [List.length_append, List.length_drop, List.length_take, List.length_replicate, List.length_map]; omega) | (simp <;> fail))); conv => whnf) | (refine ⟨_, rfl, ?_⟩; conv => whnf)))
        refine ⟨k + 1, by omega, by omega, Weak.auto ?_⟩
        (repeat' ((conv => whnf); first | exact True.intro | (refine And.intro ?_ ?_)))
        all_goals first | rfl | exact .eq rfl | exact congrArg (SV.int .i64) hwr | exact hb
    have hke : k = l.length := by omega
    subst hke
    rw [List.take_length]
    (conv => whnf)
    (repeat (first | (exact Out.same; conv => whnf) | (exact Out1.same; conv => whnf) | (refine QAnd.mk ?_ ?_; conv => whnf) | (apply QStepH.go; conv => whnf) | (refine Both.lit_true ?_; conv => whnf) | (refine Both.lit_false ?_; conv => whnf) | (apply QStep.go; conv => whnf) | (refine Need.mk ?_ ?_; (focus (first | omega | exact ⟨by omega, by omega⟩ | rfl | exact ⟨rfl, rfl⟩ | exact ⟨rfl, by omega, by omega⟩ | exact ⟨by omega, by omega, by omega⟩ | exact ⟨rfl, Nat.le_of_ble_eq_true rfl⟩ | exact Nat.le_of_ble_eq_true rfl | (refine ⟨rfl, rfl, ?_⟩; simp [isFar, ofV0, CV.up, SV.renL, SV.ren] <;> fail) | (refine ⟨rfl, Nat.le_of_ble_eq_true rfl, ?_⟩; simp [isFar, ofV0, CV.up, SV.renL, SV.ren] <;> fail) | (simp only [List.length_append, List.length_drop, List.length_take, List.length_replicate, List.length_map]; omega) | (simp <;> fail))); conv => whnf) | (refine ⟨_, rfl, ?_⟩; conv => whnf)))
    refine Both.cases (fun hy => ?_) (fun hno => ?_)
    · have hnl : l ++ [x] = nx := by rw [hstep, if_pos ⟨hx2, hy⟩]
      have hobj : LObj.own 78 1 (l.length + 1) (us l ++ [CV.int .u64 (x : Int)]) true = LObj.own 78 1 (prs (x + 1)).length (us (prs (x + 1))) true := by
        rw [hnx, ← hnl, ← us_app, List.length_append]
        rfl
      have hap : (l.length + 1) * ti78.bytes ≤ 140737488355328 := by
        have : ti78.bytes = 8 := rfl
        rw [this]
        omega
      (conv => whnf)
      (repeat (first | (refine Need.mk hap ?_; conv => whnf) | (exact Out.same; conv => whnf) | (exact Out1.same; conv => whnf) | (refine QAnd.mk ?_ ?_; conv => whnf) | (apply QStepH.go; conv => whnf) | (refine Both.lit_true ?_; conv => whnf) | (refine Both.lit_false ?_; conv => whnf) | (apply QStep.go; conv => whnf) | (refine Need.mk ?_ ?_; (focus (first | omega | exact ⟨by omega, by omega⟩ | rfl | exact ⟨rfl, rfl⟩ | exact ⟨rfl, by omega, by omega⟩ | exact ⟨by omega, by omega, by omega⟩ | exact ⟨rfl, Nat.le_of_ble_eq_true rfl⟩ | exact Nat.le_of_ble_eq_true rfl | (refine ⟨rfl, rfl, ?_⟩; simp [isFar, ofV0, CV.up, SV.renL, SV.ren] <;> fail) | (refine ⟨rfl, Nat.le_of_ble_eq_true rfl, ?_⟩; simp [isFar, ofV0, CV.up, SV.renL, SV.ren] <;> fail) | (simp only [List.length_append, List.length_drop, List.length_take, List.length_replicate, List.length_map]; omega) | (simp <;> fail))); conv => whnf) | (refine ⟨_, rfl, ?_⟩; conv => whnf)))
      refine ⟨x + 1, ⟨by omega, by omega⟩, by omega, Weak.auto ?_⟩
      (repeat' ((conv => whnf); first | exact True.intro | (refine And.intro ?_ ?_)))
      all_goals first | rfl | exact .eq rfl | exact congrArg (SV.int .u64) hwx | exact hobj
    · have hnl : l = nx := by rw [hstep, if_neg (by rw [hno]; simp)]
      have hobj : LObj.own 78 1 l.length (us l) true = LObj.own 78 1 (prs (x + 1)).length (us (prs (x + 1))) true := by
        rw [hnx, ← hnl]
      (conv => whnf)
      (repeat (first | (exact Out.same; conv => whnf) | (exact Out1.same; conv => whnf) | (refine QAnd.mk ?_ ?_; conv => whnf) | (apply QStepH.go; conv => whnf) | (refine Both.lit_true ?_; conv => whnf) | (refine Both.lit_false ?_; conv => whnf) | (apply QStep.go; conv => whnf) | (refine Need.mk ?_ ?_; (focus (first | omega | exact ⟨by omega, by omega⟩ | rfl | exact ⟨rfl, rfl⟩ | exact ⟨rfl, by omega, by omega⟩ | exact ⟨by omega, by omega, by omega⟩ | exact ⟨rfl, Nat.le_of_ble_eq_true rfl⟩ | exact Nat.le_of_ble_eq_true rfl | (refine ⟨rfl, rfl, ?_⟩; simp [isFar, ofV0, CV.up, SV.renL, SV.ren] <;> fail) | (refine ⟨rfl, Nat.le_of_ble_eq_true rfl, ?_⟩; simp [isFar, ofV0, CV.up, SV.renL, SV.ren] <;> fail) | (simp only [List.length_append, List.length_drop, List.length_take, List.length_replicate, List.length_map]; omega) | (simp <;> fail))); conv => whnf) | (refine ⟨_, rfl, ?_⟩; conv => whnf)))
      refine ⟨x + 1, ⟨by omega, by omega⟩, by omega, Weak.auto ?_⟩
      (repeat' ((conv => whnf); first | exact True.intro | (refine And.intro ?_ ?_)))
      all_goals first | rfl | exact .eq rfl | exact congrArg (SV.int .u64) hwx | exact hobj
  have hx3 : x = 312 := by
    rcases Nat.lt_or_ge x 312 with h1 | h1
    · have := hfew h1
      omega
    · omega
  have hl : l = pr64 := hend hx3
  clear hstep hpos hfew hend hnx
  subst hl
  (conv => whnf)
  (repeat (first | (exact Out.same; conv => whnf) | (exact Out1.same; conv => whnf) | (refine QAnd.mk ?_ ?_; conv => whnf) | (apply QStepH.go; conv => whnf) | (refine Both.lit_true ?_; conv => whnf) | (refine Both.lit_false ?_; conv => whnf) | (apply QStep.go; conv => whnf) | (refine Need.mk ?_ ?_; (focus (first | omega | exact ⟨by omega, by omega⟩ | rfl | exact ⟨rfl, rfl⟩ | exact ⟨rfl, by omega, by omega⟩ | exact ⟨by omega, by omega, by omega⟩ | exact ⟨rfl, Nat.le_of_ble_eq_true rfl⟩ | exact Nat.le_of_ble_eq_true rfl | (refine ⟨rfl, rfl, ?_⟩; simp [isFar, ofV0, CV.up, SV.renL, SV.ren] <;> fail) | (refine ⟨rfl, Nat.le_of_ble_eq_true rfl, ?_⟩; simp [isFar, ofV0, CV.up, SV.renL, SV.ren] <;> fail) | (simp only [List.length_append, List.length_drop, List.length_take, List.length_replicate, List.length_map]; omega) | (simp <;> fail))); conv => whnf) | (refine ⟨_, rfl, ?_⟩; conv => whnf)))
  refine ⟨_, _, WeakV.auto ?_, h⟩
  (repeat' ((conv => whnf); first | exact True.intro | (refine And.intro ?_ ?_)))
  all_goals first | rfl | exact .eq rfl
theorem primes_k : Contract Tryd.prog [] 49 primesS := ⟨⟨⟨_, rfl, rfl, rfl⟩⟩, primes_c⟩
end Go.LX
end
section
set_option maxRecDepth 100000
set_option maxHeartbeats 1000000
set_option autoImplicit false
set_option linter.unusedVariables false
set_option linter.unusedSimpArgs false
namespace Go.LX
open Go.Proofs

/-! ## The constants; a new book -/
def ks (l : List W32) : List CV := l.map fun x => CV.int .u32 (u32 x)
theorem ks_len (l : List W32) : (ks l).length = l.length := List.length_map _
theorem ks_at {l : List W32} {k : Nat} (h : k < l.length) : (ks l)[((k : Nat) : Int).toNat]? = some (CV.int .u32 (u32 (l.getD k 0))) := by
  rw [Int.toNat_natCast, ks, List.getElem?_map, List.getD_eq_getElem?_getD, List.getElem?_eq_getElem h]
  rfl
theorem ks_app (l m : List W32) : ks l ++ ks m = ks (l ++ m) := by rw [ks, ks, ks, List.map_append]
theorem take_one {α : Type} (l : List α) (z : α) {k : Nat} (h : k < l.length) : l.take (k + 1) = l.take k ++ [l.getD k z] := by
  rw [List.take_add_one, List.getD_eq_getElem?_getD, List.getElem?_eq_getElem h]
  rfl
def constS : Spec := fun args H Q => match args, H with
  | [], [] => Q (.tuple [.own 0, .own 1]) [.own 101 1 64 (ks kT) true, .own 101 1 8 (ks hT) true]
  | _, _ => False
theorem const_c : Meets Tryd.prog [] 22 constS := by
  refine meets_of Γok Tryd.func22 rfl ?_
  intro args H Q h
  unfold constS at h
  split at h
  case h_2 => exact h.elim
  have hkl : kT.length = 64 := rfl
  have hhl : hT.length = 8 := rfl
  have hpl : pr64.length = 64 := rfl
  have hpb : ∀ d ∈ pr64, d < 18446744073709551616 := by decide
  have hrk := roots_ok
  have hrh := roots_h
  revert hkl hhl hpl hpb hrk hrh
  generalize hK : kT = K
  generalize hH : hT = Hh
  generalize hP : pr64 = P
  intro hkl hhl hpl hpb hrk hrh
  rw [hK, hH] at h
  (refine sx_sound Γok _ ?_; conv => whnf)
  (repeat (first | (exact Out.same; conv => whnf) | (exact Out1.same; conv => whnf) | (refine QAnd.mk ?_ ?_; conv => whnf) | (apply QStepH.go; conv => whnf) | (refine Both.lit_true ?_; conv => whnf) | (refine Both.lit_false ?_; conv => whnf) | (apply QStep.go; conv => whnf) | (refine Need.mk ?_ ?_; (focus (first | omega | exact ⟨by omega, by omega⟩ | rfl | exact ⟨rfl, rfl⟩ | exact ⟨rfl, by omega, by omega⟩ | exact ⟨by omega, by omega, by omega⟩ | exact ⟨rfl, Nat.le_of_ble_eq_true rfl⟩ | exact Nat.le_of_ble_eq_true rfl | (refine ⟨rfl, rfl, ?_⟩; simp [isFar, ofV0, CV.up, SV.renL, SV.ren] <;> fail) | (refine ⟨rfl, Nat.le_of_ble_eq_true rfl, ?_⟩; simp [isFar, ofV0, CV.up, SV.renL, SV.ren] <;> fail) | (simp only [List.length_append, List.length_drop, List.length_take, List.length_replicate, List.length_map]; omega) | (simp <;> fail))); conv => whnf) | (refine ⟨_, rfl, ?_⟩; conv => whnf)))
  refine CallVC.auto primes_k ?_
  (conv => whnf)
  rw [hP]
  (repeat (first | (exact Out.same; conv => whnf) | (exact Out1.same; conv => whnf) | (refine QAnd.mk ?_ ?_; conv => whnf) | (apply QStepH.go; conv => whnf) | (refine Both.lit_true ?_; conv => whnf) | (refine Both.lit_false ?_; conv => whnf) | (apply QStep.go; conv => whnf) | (refine Need.mk ?_ ?_; (focus (first | omega | exact ⟨by omega, by omega⟩ | rfl | exact ⟨rfl, rfl⟩ | exact ⟨rfl, by omega, by omega⟩ | exact ⟨by omega, by omega, by omega⟩ | exact ⟨rfl, Nat.le_of_ble_eq_true rfl⟩ | exact Nat.le_of_ble_eq_true rfl | (refine ⟨rfl, rfl, ?_⟩; simp [isFar, ofV0, CV.up, SV.renL, SV.ren] <;> fail) | (refine ⟨rfl, Nat.le_of_ble_eq_true rfl, ?_⟩; simp [isFar, ofV0, CV.up, SV.renL, SV.ren] <;> fail) | (simp only [List.length_append, List.length_drop, List.length_take, List.length_replicate, List.length_map]; omega) | (simp <;> fail))); conv => whnf) | (refine ⟨_, rfl, ?_⟩; conv => whnf)))
  refine loop_rule (fun i : Nat => ⟨[.any, .any, .own 0, .own 1, .own 2, .int .i64 (i : Int), .any, .any, .any, .any, .any, .any, .any, .any, .any, .any, .any, .any, .any, .any, .any, .any, .any, .any, .any, .any, .any, .any, .any, .any, .any], [.own 101 1 i (ks (K.take i)) true, .own 101 1 (min i 8) (ks (Hh.take i)) true, .own 78 1 64 (us P) true]⟩) (fun i => i ≤ 64) (fun i => 64 - i) 0 (Nat.zero_le _) ((Weak.ownNilT 2 101 1 rfl).trans ((Weak.ownNilT 3 101 1 rfl).trans (Weak.auto ?_))) ?_
  · (repeat' ((conv => whnf); first | exact True.intro | (refine And.intro ?_ ?_)))
    all_goals first | rfl | exact .eq rfl
  intro i hi
  (refine sx_sound Γok _ ?_; conv => whnf)
  (repeat (first | (exact Out.same; conv => whnf) | (exact Out1.same; conv => whnf) | (refine QAnd.mk ?_ ?_; conv => whnf) | (apply QStepH.go; conv => whnf) | (refine Both.lit_true ?_; conv => whnf) | (refine Both.lit_false ?_; conv => whnf) | (apply QStep.go; conv => whnf) | (refine Need.mk ?_ ?_; (focus (first | omega | exact ⟨by omega, by omega⟩ | rfl | exact ⟨rfl, rfl⟩ | exact ⟨rfl, by omega, by omega⟩ | exact ⟨by omega, by omega, by omega⟩ | exact ⟨rfl, Nat.le_of_ble_eq_true rfl⟩ | exact Nat.le_of_ble_eq_true rfl | (refine ⟨rfl, rfl, ?_⟩; simp [isFar, ofV0, CV.up, SV.renL, SV.ren] <;> fail) | (refine ⟨rfl, Nat.le_of_ble_eq_true rfl, ?_⟩; simp [isFar, ofV0, CV.up, SV.renL, SV.ren] <;> fail) | (simp only [List.length_append, List.length_drop, List.length_take, List.length_replicate, List.length_map]; omega) | (simp <;> fail))); conv => whnf) | (refine ⟨_, rfl, ?_⟩; conv => whnf)))
  refine Both.dec (fun hlt => ?_) (fun hge => ?_)
  · have hi64 : i < 64 := by omega
    have hat := us_at (l := P) (k := i) (by omega)
    have hbd := getD_bd hpb i
    have hk1 : ((rootL (P.getD i 0) (thr true) : Nat) : Int) = u32 (K.getD i 0) := congrArg Nat.cast (hrk i hi64)
    have hwr : IntKind.i64.wrap ((i : Int) + 1) = ((i + 1 : Nat) : Int) := by rw [wrap_i64 (by omega) (by omega)]; rfl
    have htk := take_one K 0 (k := i) (by omega)
    have hobj : LObj.own 101 1 (i + 1) (ks (K.take i) ++ [CV.int .u32 (u32 (K.getD i 0))]) true = LObj.own 101 1 (i + 1) (ks (K.take (i + 1))) true := by
      rw [htk, ← ks_app]
      rfl
    have hap : (i + 1) * ti101.bytes ≤ 140737488355328 := by
      have : ti101.bytes = 4 := rfl
      rw [this]
      omega
    have hh1 : i < 8 → ((rootL (P.getD i 0) (thr false) : Nat) : Int) = u32 (Hh.getD i 0) := fun h => congrArg Nat.cast (hrh i h)
    revert hat hbd hk1 hobj hh1
    generalize P.getD i 0 = p
    generalize K.getD i 0 = kk
    intro hat hbd hk1 hobj hh1
    clear htk hrk hrh
    (conv => whnf)
    (repeat (first | (refine ⟨_, hat, ?_⟩; conv => whnf) | (exact Out.same; conv => whnf) | (exact Out1.same; conv => whnf) | (refine QAnd.mk ?_ ?_; conv => whnf) | (apply QStepH.go; conv => whnf) | (refine Both.lit_true ?_; conv => whnf) | (refine Both.lit_false ?_; conv => whnf) | (apply QStep.go; conv => whnf) | (refine Need.mk ?_ ?_; (focus (first | omega | exact ⟨by omega, by omega⟩ | rfl | exact ⟨rfl, rfl⟩ | exact ⟨rfl, by omega, by omega⟩ | exact ⟨by omega, by omega, by omega⟩ | exact ⟨rfl, Nat.le_of_ble_eq_true rfl⟩ | exact Nat.le_of_ble_eq_true rfl | (refine ⟨rfl, rfl, ?_⟩; simp [isFar, ofV0, CV.up, SV.renL, SV.ren] <;> fail) | (refine ⟨rfl, Nat.le_of_ble_eq_true rfl, ?_⟩; simp [isFar, ofV0, CV.up, SV.renL, SV.ren] <;> fail) | (simp only [List.length_append, List.length_drop, List.length_take, List.length_replicate, List.length_map]; omega) | (simp <;> fail))); conv => whnf) | (refine ⟨_, rfl, ?_⟩; conv => whnf)))
    refine CallVC.auto root_k ⟨p, rfl, hbd, ?_⟩
    rw [hk1]
    (conv => whnf)
    (repeat (first | (refine Need.mk hap ?_; conv => whnf) | (exact Out.same; conv => whnf) | (exact Out1.same; conv => whnf) | (refine QAnd.mk ?_ ?_; conv => whnf) | (apply QStepH.go; conv => whnf) | (refine Both.lit_true ?_; conv => whnf) | (refine Both.lit_false ?_; conv => whnf) | (apply QStep.go; conv => whnf) | (refine Need.mk ?_ ?_; (focus (first | omega | exact ⟨by omega, by omega⟩ | rfl | exact ⟨rfl, rfl⟩ | exact ⟨rfl, by omega, by omega⟩ | exact ⟨by omega, by omega, by omega⟩ | exact ⟨rfl, Nat.le_of_ble_eq_true rfl⟩ | exact Nat.le_of_ble_eq_true rfl | (refine ⟨rfl, rfl, ?_⟩; simp [isFar, ofV0, CV.up, SV.renL, SV.ren] <;> fail) | (refine ⟨rfl, Nat.le_of_ble_eq_true rfl, ?_⟩; simp [isFar, ofV0, CV.up, SV.renL, SV.ren] <;> fail) | (simp only [List.length_append, List.length_drop, List.length_take, List.length_replicate, List.length_map]; omega) | (simp <;> fail))); conv => whnf) | (refine ⟨_, rfl, ?_⟩; conv => whnf)))
    refine Both.dec (fun h8 => ?_) (fun h8 => ?_)
    · have hi8 : i < 8 := by omega
      have hh2 := hh1 hi8
      have hmin : min i 8 = i := by omega
      have hth := take_one Hh 0 (k := i) (by omega)
      have hobj2 : LObj.own 101 1 (min i 8 + 1) (ks (Hh.take i) ++ [CV.int .u32 (u32 (Hh.getD i 0))]) true = LObj.own 101 1 (min (i + 1) 8) (ks (Hh.take (i + 1))) true := by
        rw [hth, ← ks_app, hmin, show min (i + 1) 8 = i + 1 by omega]
        rfl
      have hap2 : (min i 8 + 1) * ti101.bytes ≤ 140737488355328 := by
        have : ti101.bytes = 4 := rfl
        rw [this]
        omega
      revert hh2 hobj2
      generalize Hh.getD i 0 = hh
      intro hh2 hobj2
      clear hth hh1 hmin
      (conv => whnf)
      (repeat (first | (refine ⟨_, hat, ?_⟩; conv => whnf) | (exact Out.same; conv => whnf) | (exact Out1.same; conv => whnf) | (refine QAnd.mk ?_ ?_; conv => whnf) | (apply QStepH.go; conv => whnf) | (refine Both.lit_true ?_; conv => whnf) | (refine Both.lit_false ?_; conv => whnf) | (apply QStep.go; conv => whnf) | (refine Need.mk ?_ ?_; (focus (first | omega | exact ⟨by omega, by omega⟩ | rfl | exact ⟨rfl, rfl⟩ | exact ⟨rfl, by omega, by omega⟩ | exact ⟨by omega, by omega, by omega⟩ | exact ⟨rfl, Nat.le_of_ble_eq_true rfl⟩ | exact Nat.le_of_ble_eq_true rfl | (refine ⟨rfl, rfl, ?_⟩; simp [isFar, ofV0, CV.up, SV.renL, SV.ren] <;> fail) | (refine ⟨rfl, Nat.le_of_ble_eq_true rfl, ?_⟩; simp [isFar, ofV0, CV.up, SV.renL, SV.ren] <;> fail) | (simp only [List.length_append, List.length_drop, List.length_take, List.length_replicate, List.length_map]; omega) | (simp <;> fail))); conv => whnf) | (refine ⟨_, rfl, ?_⟩; conv => whnf)))
      refine CallVC.auto root_k ⟨p, rfl, hbd, ?_⟩
      rw [hh2]
      (conv => whnf)
      (repeat (first | (refine Need.mk hap2 ?_; conv => whnf) | (exact Out.same; conv => whnf) | (exact Out1.same; conv => whnf) | (refine QAnd.mk ?_ ?_; conv => whnf) | (apply QStepH.go; conv => whnf) | (refine Both.lit_true ?_; conv => whnf) | (refine Both.lit_false ?_; conv => whnf) | (apply QStep.go; conv => whnf) | (refine Need.mk ?_ ?_; (focus (first | omega | exact ⟨by omega, by omega⟩ | rfl | exact ⟨rfl, rfl⟩ | exact ⟨rfl, by omega, by omega⟩ | exact ⟨by omega, by omega, by omega⟩ | exact ⟨rfl, Nat.le_of_ble_eq_true rfl⟩ | exact Nat.le_of_ble_eq_true rfl | (refine ⟨rfl, rfl, ?_⟩; simp [isFar, ofV0, CV.up, SV.renL, SV.ren] <;> fail) | (refine ⟨rfl, Nat.le_of_ble_eq_true rfl, ?_⟩; simp [isFar, ofV0, CV.up, SV.renL, SV.ren] <;> fail) | (simp only [List.length_append, List.length_drop, List.length_take, List.length_replicate, List.length_map]; omega) | (simp <;> fail))); conv => whnf) | (refine ⟨_, rfl, ?_⟩; conv => whnf)))
      refine ⟨i + 1, by omega, by omega, Weak.auto ?_⟩
      (repeat' ((conv => whnf); first | exact True.intro | (refine And.intro ?_ ?_)))
      all_goals first | exact hobj | exact hobj2 | rfl | exact .eq rfl | exact congrArg (SV.int .i64) hwr
    · have hobj2 : LObj.own 101 1 (min i 8) (ks (Hh.take i)) true = LObj.own 101 1 (min (i + 1) 8) (ks (Hh.take (i + 1))) true := by
        rw [List.take_of_length_le (by omega), List.take_of_length_le (by omega), show min i 8 = 8 by omega, show min (i + 1) 8 = 8 by omega]
      (conv => whnf)
      (repeat (first | (exact Out.same; conv => whnf) | (exact Out1.same; conv => whnf) | (refine QAnd.mk ?_ ?_; conv => whnf) | (apply QStepH.go; conv => whnf) | (refine Both.lit_true ?_; conv => whnf) | (refine Both.lit_false ?_; conv => whnf) | (apply QStep.go; conv => whnf) | (refine Need.mk ?_ ?_; (focus (first | omega | exact ⟨by omega, by omega⟩ | rfl | exact ⟨rfl, rfl⟩ | exact ⟨rfl, by omega, by omega⟩ | exact ⟨by omega, by omega, by omega⟩ | exact ⟨rfl, Nat.le_of_ble_eq_true rfl⟩ | exact Nat.le_of_ble_eq_true rfl | (refine ⟨rfl, rfl, ?_⟩; simp [isFar, ofV0, CV.up, SV.renL, SV.ren] <;> fail) | (refine ⟨rfl, Nat.le_of_ble_eq_true rfl, ?_⟩; simp [isFar, ofV0, CV.up, SV.renL, SV.ren] <;> fail) | (simp only [List.length_append, List.length_drop, List.length_take, List.length_replicate, List.length_map]; omega) | (simp <;> fail))); conv => whnf) | (refine ⟨_, rfl, ?_⟩; conv => whnf)))
      refine ⟨i + 1, by omega, by omega, Weak.auto ?_⟩
      (repeat' ((conv => whnf); first | exact True.intro | (refine And.intro ?_ ?_)))
      all_goals first | exact hobj | exact hobj2 | rfl | exact .eq rfl | exact congrArg (SV.int .i64) hwr
  have hie : i = 64 := by omega
  subst hie
  rw [List.take_of_length_le (by omega), List.take_of_length_le (by omega)]
  clear hrk hrh
  (conv => whnf)
  (repeat (first | (exact Out.same; conv => whnf) | (exact Out1.same; conv => whnf) | (refine QAnd.mk ?_ ?_; conv => whnf) | (apply QStepH.go; conv => whnf) | (refine Both.lit_true ?_; conv => whnf) | (refine Both.lit_false ?_; conv => whnf) | (apply QStep.go; conv => whnf) | (refine Need.mk ?_ ?_; (focus (first | omega | exact ⟨by omega, by omega⟩ | rfl | exact ⟨rfl, rfl⟩ | exact ⟨rfl, by omega, by omega⟩ | exact ⟨by omega, by omega, by omega⟩ | exact ⟨rfl, Nat.le_of_ble_eq_true rfl⟩ | exact Nat.le_of_ble_eq_true rfl | (refine ⟨rfl, rfl, ?_⟩; simp [isFar, ofV0, CV.up, SV.renL, SV.ren] <;> fail) | (refine ⟨rfl, Nat.le_of_ble_eq_true rfl, ?_⟩; simp [isFar, ofV0, CV.up, SV.renL, SV.ren] <;> fail) | (simp only [List.length_append, List.length_drop, List.length_take, List.length_replicate, List.length_map]; omega) | (simp <;> fail))); conv => whnf) | (refine ⟨_, rfl, ?_⟩; conv => whnf)))
  refine ⟨_, _, WeakV.auto ?_, h⟩
  (repeat' ((conv => whnf); first | exact True.intro | (refine And.intro ?_ ?_)))
  all_goals first | rfl | exact .eq rfl
theorem const_k : Contract Tryd.prog [] 22 constS := ⟨⟨⟨_, rfl, rfl, rfl⟩⟩, const_c⟩
/-- A book. -/
def bkc (K Hh : List W32) (cl : Bool) (i : Nat) : List SV := [.sl 1 64 (ks K) false, .sl 1 8 (ks Hh) false, .mp i, .bool cl]
def newbS : Spec := fun args H Q => match args, H with
  | [], [] => Q (.ptr 0 0) [.cells (bkc kT hT false 1) 59, .map 2 []]
  | _, _ => False
theorem newb_c : Meets Tryd.prog [] 8 newbS := by
  refine meets_of Γok Tryd.func8 rfl ?_
  intro args H Q h
  unfold newbS at h
  split at h
  case h_2 => exact h.elim
  have hkl : kT.length = 64 := rfl
  have hhl : hT.length = 8 := rfl
  revert hkl hhl
  generalize hK : kT = K
  generalize hH : hT = Hh
  intro hkl hhl
  rw [hK, hH] at h
  (refine sx_sound Γok _ ?_; conv => whnf)
  (repeat (first | (exact Out.same; conv => whnf) | (exact Out1.same; conv => whnf) | (refine QAnd.mk ?_ ?_; conv => whnf) | (apply QStepH.go; conv => whnf) | (refine Both.lit_true ?_; conv => whnf) | (refine Both.lit_false ?_; conv => whnf) | (apply QStep.go; conv => whnf) | (refine Need.mk ?_ ?_; (focus (first | omega | exact ⟨by omega, by omega⟩ | rfl | exact ⟨rfl, rfl⟩ | exact ⟨rfl, by omega, by omega⟩ | exact ⟨by omega, by omega, by omega⟩ | exact ⟨rfl, Nat.le_of_ble_eq_true rfl⟩ | exact Nat.le_of_ble_eq_true rfl | (refine ⟨rfl, rfl, ?_⟩; simp [isFar, ofV0, CV.up, SV.renL, SV.ren] <;> fail) | (refine ⟨rfl, Nat.le_of_ble_eq_true rfl, ?_⟩; simp [isFar, ofV0, CV.up, SV.renL, SV.ren] <;> fail) | (simp only [List.length_append, List.length_drop, List.length_take, List.length_replicate, List.length_map]; omega) | (simp <;> fail))); conv => whnf) | (refine ⟨_, rfl, ?_⟩; conv => whnf)))
  refine CallVC.auto const_k ?_
  (conv => whnf)
  rw [hK, hH]
  (repeat (first | (exact Out.same; conv => whnf) | (exact Out1.same; conv => whnf) | (refine QAnd.mk ?_ ?_; conv => whnf) | (apply QStepH.go; conv => whnf) | (refine Both.lit_true ?_; conv => whnf) | (refine Both.lit_false ?_; conv => whnf) | (apply QStep.go; conv => whnf) | (refine Need.mk ?_ ?_; (focus (first | omega | exact ⟨by omega, by omega⟩ | rfl | exact ⟨rfl, rfl⟩ | exact ⟨rfl, by omega, by omega⟩ | exact ⟨by omega, by omega, by omega⟩ | exact ⟨rfl, Nat.le_of_ble_eq_true rfl⟩ | exact Nat.le_of_ble_eq_true rfl | (refine ⟨rfl, rfl, ?_⟩; simp [isFar, ofV0, CV.up, SV.renL, SV.ren] <;> fail) | (refine ⟨rfl, Nat.le_of_ble_eq_true rfl, ?_⟩; simp [isFar, ofV0, CV.up, SV.renL, SV.ren] <;> fail) | (simp only [List.length_append, List.length_drop, List.length_take, List.length_replicate, List.length_map]; omega) | (simp <;> fail))); conv => whnf) | (refine ⟨_, rfl, ?_⟩; conv => whnf)))
  refine ⟨_, _, WeakV.of ((Weak.pub 0 3 rfl rfl).trans ((Weak.pub 1 3 rfl rfl).trans (Weak.auto ?_))), h⟩
  (repeat' ((conv => whnf); first | exact True.intro | (refine And.intro ?_ ?_)))
  all_goals first | rfl | exact .eq rfl
theorem newb_k : Contract Tryd.prog [] 8 newbS := ⟨⟨⟨_, rfl, rfl, rfl⟩⟩, newb_c⟩
end Go.LX
end
section
set_option maxRecDepth 100000
set_option maxHeartbeats 2000000
set_option autoImplicit false
set_option linter.unusedVariables false
set_option linter.unusedSimpArgs false
namespace Go.LX
open Go.Proofs

/-! ## The document's block -/
theorem dRight_go (r : W32) (n : Nat) (h : n ≤ 32) : bitOr .u32 (shrI .u32 (u32 r) (n : Int)) (shlI .u32 (u32 r) ((32 - n : Nat) : Int)) = u32 (rotr r n) := by
  rw [shr_u32 _ _ h, shl_u32 _ _ (by omega), or_u32, rotr, BitVec.or_comm]
def dRightS : Spec := fun args H Q => match args, H with
  | [.int .u32 x, .int .i64 k], [] => ∃ (r : W32) (n : Nat), x = u32 r ∧ k = (n : Int) ∧ (0 < n ∧ n < 32) ∧ Q (.int .u32 (u32 (rotr r n))) []
  | _, _ => False
theorem dRight_c : Meets Tryd.prog [] 122 dRightS := by
  refine meets_of Γok Tryd.func122 rfl ?_
  intro args H Q h
  unfold dRightS at h
  split at h
  case h_2 => exact h.elim
  obtain ⟨r, n, rfl, rfl, ⟨h1, h2⟩, h⟩ := h
  have hw : IntKind.i64.wrap (32 - (n : Int)) = ((32 - n : Nat) : Int) := by rw [wrap_i64 (by omega) (by omega)]; omega
  have hv : bitOr .u32 (shrI .u32 (u32 r) (n : Int)) (shlI .u32 (u32 r) (IntKind.i64.wrap (32 - (n : Int)))) = u32 (rotr r n) := by rw [hw]; exact dRight_go r n (by omega)
  have hn0 : 0 ≤ (n : Int) := by omega
  have hn1 : 0 ≤ IntKind.i64.wrap (32 - (n : Int)) := by rw [hw]; omega
  (refine sx_sound Γok _ ?_; conv => whnf)
  (refine DrawVC.any Γok (by kernel_rfl) (by kernel_rfl) (by kernel_rfl) (by rfl) ?_; conv => whnf)
  (repeat (first | (refine Need.mk hn0 ?_; conv => whnf) | (refine Need.mk hn1 ?_; conv => whnf) | (exact Out.same; conv => whnf) | (exact Out1.same; conv => whnf) | (refine QAnd.mk ?_ ?_; conv => whnf) | (apply QStepH.go; conv => whnf) | (refine Both.lit_true ?_; conv => whnf) | (refine Both.lit_false ?_; conv => whnf) | (apply QStep.go; conv => whnf) | (refine Need.mk ?_ ?_; (focus (first | omega | exact ⟨by omega, by omega⟩ | rfl | exact ⟨rfl, rfl⟩ | exact ⟨rfl, by omega, by omega⟩ | exact ⟨by omega, by omega, by omega⟩ | exact ⟨rfl, Nat.le_of_ble_eq_true rfl⟩ | exact Nat.le_of_ble_eq_true rfl | (refine ⟨rfl, rfl, ?_⟩; simp [isFar, ofV0, CV.up, SV.renL, SV.ren] <;> fail) | (refine ⟨rfl, Nat.le_of_ble_eq_true rfl, ?_⟩; simp [isFar, ofV0, CV.up, SV.renL, SV.ren] <;> fail) | (simp only [List.length_append, List.length_drop, List.length_take, List.length_replicate, List.length_map]; omega) | (simp <;> fail))); conv => whnf) | (refine ⟨_, rfl, ?_⟩; conv => whnf)))
  exact ⟨_, _, WeakV.drop (congrArg (SV.int .u32) hv), h⟩
theorem dRight_k : Contract Tryd.prog [] 122 dRightS := ⟨⟨⟨_, rfl, rfl, rfl⟩⟩, dRight_c⟩
theorem be4_nat (x0 x1 x2 x3 : Nat) (h1 : x1 < 256) (h2 : x2 < 256) (h3 : x3 < 256) :
    ((x0 <<< 24 ||| x1 <<< 16) ||| x2 <<< 8) ||| x3 = x0 * 16777216 + x1 * 65536 + x2 * 256 + x3 := by
  have e1 : x0 <<< 24 ||| x1 <<< 16 = (x0 * 256 + x1) <<< 16 := by
    rw [← Nat.shiftLeft_add_eq_or_of_lt (by rw [Nat.shiftLeft_eq]; omega), Nat.shiftLeft_eq, Nat.shiftLeft_eq, Nat.shiftLeft_eq]
    omega
  have e2 : (x0 * 256 + x1) <<< 16 ||| x2 <<< 8 = ((x0 * 256 + x1) * 256 + x2) <<< 8 := by
    rw [← Nat.shiftLeft_add_eq_or_of_lt (by rw [Nat.shiftLeft_eq]; omega), Nat.shiftLeft_eq, Nat.shiftLeft_eq, Nat.shiftLeft_eq]
    omega
  rw [e1, e2, ← Nat.shiftLeft_add_eq_or_of_lt (by omega), Nat.shiftLeft_eq]
  omega
theorem be4_num (b : List UInt8) : (be4 b).toNat = (b.getD 0 0).toNat * 16777216 + (b.getD 1 0).toNat * 65536 + (b.getD 2 0).toNat * 256 + (b.getD 3 0).toNat := by
  unfold be4 wd
  have h0 := (b.getD 0 0).toNat_lt
  have h1 := (b.getD 1 0).toNat_lt
  have h2 := (b.getD 2 0).toNat_lt
  have h3 := (b.getD 3 0).toNat_lt
  simp only [BitVec.toNat_or, BitVec.toNat_shiftLeft, BitVec.toNat_setWidth, UInt8.toNat_toBitVec]
  revert h0 h1 h2 h3
  generalize (b.getD 0 0).toNat = x0
  generalize (b.getD 1 0).toNat = x1
  generalize (b.getD 2 0).toNat = x2
  generalize (b.getD 3 0).toNat = x3
  intro h0 h1 h2 h3
  have q : ∀ (x k : Nat), x < 256 → k ≤ 24 → ((x % 2 ^ 32) <<< k) % 2 ^ 32 = x <<< k := by
    intro x k hx hk
    rw [Nat.shiftLeft_eq, Nat.shiftLeft_eq, Nat.mod_eq_of_lt (show x < 2 ^ 32 by omega)]
    refine Nat.mod_eq_of_lt ?_
    calc x * 2 ^ k ≤ 255 * 2 ^ 24 := Nat.mul_le_mul (by omega) (Nat.pow_le_pow_right (by decide) hk)
      _ < 2 ^ 32 := by decide
  rw [q x0 24 h0 (by decide), q x1 16 h1 (by decide), q x2 8 h2 (by decide), Nat.mod_eq_of_lt (show x3 < 2 ^ 32 by omega), be4_nat x0 x1 x2 x3 h1 h2 h3]
theorem byte_at {s : List UInt8} {t j : Nat} (h : 4 * t + 4 ≤ s.length) (hj : j < 4) : (List.drop (4 * t) (List.take (4 * t + 4) s)).getD j 0 = s.getD (4 * t + j) 0 := by
  rw [List.getD_eq_getElem?_getD, List.getElem?_drop, List.getElem?_take, if_pos (by omega), List.getD_eq_getElem?_getD]
theorem word_go {s : List UInt8} {t : Nat} (h : 4 * t + 4 ≤ s.length) :
    IntKind.u32.wrap (IntKind.u32.wrap (IntKind.u32.wrap (IntKind.u32.wrap (IntKind.u32.wrap ((s.getD (4 * t) 0).toNat : Int) * 16777216) + IntKind.u32.wrap (IntKind.u32.wrap ((s.getD (4 * t + 1) 0).toNat : Int) * 65536)) + IntKind.u32.wrap (IntKind.u32.wrap ((s.getD (4 * t + 2) 0).toNat : Int) * 256)) + IntKind.u32.wrap ((s.getD (4 * t + 3) 0).toNat : Int)) = u32 (be4 (List.drop (4 * t) (List.take (4 * t + 4) s))) := by
  have hb := be4_num (List.drop (4 * t) (List.take (4 * t + 4) s))
  rw [byte_at h (by decide), byte_at h (by decide), byte_at h (by decide), byte_at h (by decide), show 4 * t + 0 = 4 * t from rfl] at hb
  unfold u32
  rw [hb]
  have h0 := (s.getD (4 * t) 0).toNat_lt
  have h1 := (s.getD (4 * t + 1) 0).toNat_lt
  have h2 := (s.getD (4 * t + 2) 0).toNat_lt
  have h3 := (s.getD (4 * t + 3) 0).toNat_lt
  revert h0 h1 h2 h3
  generalize (s.getD (4 * t) 0).toNat = x0
  generalize (s.getD (4 * t + 1) 0).toNat = x1
  generalize (s.getD (4 * t + 2) 0).toNat = x2
  generalize (s.getD (4 * t + 3) 0).toNat = x3
  intro h0 h1 h2 h3
  simp only [wrap_u32_mod]
  omega
theorem rw1_go (p q x y : W32) : IntKind.u32.wrap (IntKind.u32.wrap (IntKind.u32.wrap (bitXor .u32 (bitXor .u32 (u32 (rotr y 17)) (u32 (rotr y 19))) (shrI .u32 (u32 y) 10) + u32 q) + bitXor .u32 (bitXor .u32 (u32 (rotr x 7)) (u32 (rotr x 18))) (shrI .u32 (u32 x) 3)) + u32 p) = u32 ((p + sg0 x) + q + sg1 y) := by
  have h1 := sg_go x (rotr x 7) (rotr x 18) 3 (by omega)
  have h2 := sg_go y (rotr y 17) (rotr y 19) 10 (by omega)
  have e3 : ((3 : Nat) : Int) = 3 := rfl
  have e10 : ((10 : Nat) : Int) = 10 := rfl
  rw [e3] at h1
  rw [e10] at h2
  rw [h1, h2, add_u32, add_u32, add_u32]
  show u32 (((sg1 y + q) + sg0 x) + p) = _
  congr 1
  ac_rfl
theorem ks_set (l : List W32) (k : Nat) (x : W32) : (ks l).set k (CV.int .u32 (u32 x)) = ks (l.set k x) := by rw [ks, ks, List.map_set]
theorem zer_ks (n : Nat) : zerosOf 1 n [CV.int .u32 0] = ks (List.replicate n 0) := by
  unfold zerosOf ks
  rw [List.map_replicate]
  rfl
theorem not_go (e : W32) : IntKind.u32.wrap (4294967295 - u32 e) = u32 (~~~ e) := by
  have h : ∀ e : W32, 4294967295#32 - e = ~~~ e := fun e => by
    rw [show (4294967295#32) = BitVec.allOnes 32 from rfl, BitVec.allOnes_sub_eq_not]
  rw [show (4294967295 : Int) = u32 4294967295#32 from rfl, sub_u32, h]
end Go.LX
end
section
set_option maxRecDepth 100000
set_option maxHeartbeats 2000000
set_option autoImplicit false
set_option linter.unusedVariables false
set_option linter.unusedSimpArgs false
namespace Go.LX
open Go.Proofs

def rblkS : Spec := fun args H Q => match args, H with
  | [.str b, .sl 1 n cs f, .sl 1 8 cs' f'], [] => ∃ (v : St), n = 64 ∧ b.length = 64 ∧ cs = ks kT ∧ cs' = ks v.ws ∧ Q (.own 0) [.own 101 1 8 (ks (v.mix b).ws) true]
  | _, _ => False
theorem plus_ws (v x : St) (i : Nat) (h : i < 8) : v.ws.getD i 0 + x.ws.getD i 0 = (v.plus x).ws.getD i 0 := by
  match i, h with
  | 0, _ => rfl
  | 1, _ => rfl
  | 2, _ => rfl
  | 3, _ => rfl
  | 4, _ => rfl
  | 5, _ => rfl
  | 6, _ => rfl
  | 7, _ => rfl
theorem rblk_c : Meets Tryd.prog [] 116 rblkS := by
  refine meets_of Γok Tryd.func116 rfl ?_
  intro args H Q h
  unfold rblkS at h
  split at h
  case h_2 => exact h.elim
  rename_i s n cs f cs' f'
  obtain ⟨v, rfl, hs, rfl, rfl, h⟩ := h
  have hkl : kT.length = 64 := rfl
  have hvl : v.ws.length = 8 := rfl
  have hkt : ∀ t, kT.getD t 0 = kT.getD t 0 := fun _ => rfl
  unfold St.mix words at h
  have hro : ∀ (ws : List W32) (t : Nat), v.rounds ws (t + 1) = (v.rounds ws t).round (kT.getD t 0) (ws.getD t 0) := fun _ _ => rfl
  revert hkl hkt hro
  generalize kT = K
  intro hkl hkt hro
  have hmk : (64 : Int) = 64 ∧ (0 : Int) ≤ 64 ∧ (ti101.bytes : Int) * 64 ≤ 140737488355328 ∧ (64 : Int) ≤ 140737488355328 := by decide
  have hobj0 : LObj.own 101 ti101.size (64 : Int).toNat (zerosOf ti101.size (64 : Int).toNat [CV.int .u32 0]) true = LObj.own 101 1 64 (ks (ws0 s 0)) true := by
    rw [show ti101.size = 1 from rfl, zer_ks]
    rfl
  (refine sx_sound Γok _ ?_; conv => whnf)
  (repeat (first | (refine Need.mk hmk ?_; conv => whnf) | (exact Out.same; conv => whnf) | (exact Out1.same; conv => whnf) | (refine QAnd.mk ?_ ?_; conv => whnf) | (apply QStepH.go; conv => whnf) | (refine Both.lit_true ?_; conv => whnf) | (refine Both.lit_false ?_; conv => whnf) | (apply QStep.go; conv => whnf) | (refine Need.mk ?_ ?_; (focus (first | omega | exact ⟨by omega, by omega⟩ | rfl | exact ⟨rfl, rfl⟩ | exact ⟨rfl, by omega, by omega⟩ | exact ⟨by omega, by omega, by omega⟩ | exact ⟨rfl, Nat.le_of_ble_eq_true rfl⟩ | exact Nat.le_of_ble_eq_true rfl | (refine ⟨rfl, rfl, ?_⟩; simp [isFar, ofV0, CV.up, SV.renL, SV.ren] <;> fail) | (refine ⟨rfl, Nat.le_of_ble_eq_true rfl, ?_⟩; simp [isFar, ofV0, CV.up, SV.renL, SV.ren] <;> fail) | (simp only [List.length_append, List.length_drop, List.length_take, List.length_replicate, List.length_map]; omega) | (simp <;> fail))); conv => whnf) | (refine ⟨_, rfl, ?_⟩; conv => whnf)))
  refine loop_rule (fun t : Nat => ⟨[.str s, .sl 1 64 (ks K) f, .sl 1 8 (ks v.ws) f', .any, .any, .any, .any, .own 0, .int .i64 (t : Int), .any, .any, .any, .any, .any, .any, .any, .any, .any, .any, .any, .any, .any, .any, .any, .any, .any, .any, .any, .any, .any, .any, .any, .any, .any, .any, .any, .any, .any, .any, .any, .any, .any, .any, .any, .any, .any, .any, .any, .any, .any, .any, .any, .any, .any, .any, .any, .any, .any, .any, .any, .any, .any, .any, .any, .any, .any, .any, .any, .any, .any, .any, .any, .any, .any, .any, .any, .any, .any, .any, .any, .any, .any, .any, .any, .any, .any, .any, .any, .any, .any, .any, .any, .any, .any, .any, .any, .any, .any, .any, .any, .any, .any, .any, .any, .any, .any, .any, .any, .any, .any, .any, .any, .any, .any, .any, .any, .any, .any, .any, .any, .any, .any, .any, .any, .any, .any, .any, .any, .any, .any, .any, .any, .any, .any, .any, .any, .any, .any, .any, .any, .any, .any, .any, .any, .any, .any, .any, .any, .any, .any, .any, .any, .any, .any, .any, .any, .any, .any, .any, .any, .any, .any, .any, .any, .any, .any, .any, .any, .any, .any, .any, .any, .any, .any, .any, .any, .any, .any, .any, .any, .any, .any, .any, .any, .any, .any, .any, .any, .any, .any, .any, .any, .any, .any, .any, .any, .any, .any, .any, .any, .any, .any, .any, .any, .any, .any, .any, .any, .any, .any, .any, .any, .any, .any, .any, .any, .any, .any, .any, .any, .any, .any, .any, .any, .any, .any, .any, .any, .any, .any, .any], [.own 101 1 64 (ks (ws0 s t)) true]⟩) (fun t => t ≤ 16) (fun t => 16 - t) 0 (Nat.zero_le _) (Weak.auto ?_) ?_
  · (repeat' ((conv => whnf); first | exact True.intro | (refine And.intro ?_ ?_)))
    all_goals first | exact hobj0 | rfl | exact .eq rfl
  clear hobj0 hmk
  intro t ht
  have hwl := ws0_len s t
  (refine sx_sound Γok _ ?_; conv => whnf)
  (repeat (first | (exact Out.same; conv => whnf) | (exact Out1.same; conv => whnf) | (refine QAnd.mk ?_ ?_; conv => whnf) | (apply QStepH.go; conv => whnf) | (refine Both.lit_true ?_; conv => whnf) | (refine Both.lit_false ?_; conv => whnf) | (apply QStep.go; conv => whnf) | (refine Need.mk ?_ ?_; (focus (first | omega | exact ⟨by omega, by omega⟩ | rfl | exact ⟨rfl, rfl⟩ | exact ⟨rfl, by omega, by omega⟩ | exact ⟨by omega, by omega, by omega⟩ | exact ⟨rfl, Nat.le_of_ble_eq_true rfl⟩ | exact Nat.le_of_ble_eq_true rfl | (refine ⟨rfl, rfl, ?_⟩; simp [isFar, ofV0, CV.up, SV.renL, SV.ren] <;> fail) | (refine ⟨rfl, Nat.le_of_ble_eq_true rfl, ?_⟩; simp [isFar, ofV0, CV.up, SV.renL, SV.ren] <;> fail) | (simp only [List.length_append, List.length_drop, List.length_take, List.length_replicate, List.length_map]; omega) | (simp <;> fail))); conv => whnf) | (refine ⟨_, rfl, ?_⟩; conv => whnf)))
  refine Both.dec (fun hlt => ?_) (fun hge => ?_)
  · have ht16 : t < 16 := by omega
    have h4 : IntKind.i64.wrap (4 * (t : Int)) = ((4 * t : Nat) : Int) := by rw [wrap_i64 (by omega) (by omega)]; omega
    have h41 : IntKind.i64.wrap (IntKind.i64.wrap (4 * (t : Int)) + 1) = ((4 * t + 1 : Nat) : Int) := by rw [h4, wrap_i64 (by omega) (by omega)]; omega
    have h42 : IntKind.i64.wrap (IntKind.i64.wrap (4 * (t : Int)) + 2) = ((4 * t + 2 : Nat) : Int) := by rw [h4, wrap_i64 (by omega) (by omega)]; omega
    have h43 : IntKind.i64.wrap (IntKind.i64.wrap (4 * (t : Int)) + 3) = ((4 * t + 3 : Nat) : Int) := by rw [h4, wrap_i64 (by omega) (by omega)]; omega
    have i0 : 0 ≤ IntKind.i64.wrap (4 * (t : Int)) ∧ IntKind.i64.wrap (4 * (t : Int)) < ((s.length : Nat) : Int) := by rw [h4]; omega
    have i1 : 0 ≤ IntKind.i64.wrap (IntKind.i64.wrap (4 * (t : Int)) + 1) ∧ IntKind.i64.wrap (IntKind.i64.wrap (4 * (t : Int)) + 1) < ((s.length : Nat) : Int) := by rw [h41]; omega
    have i2 : 0 ≤ IntKind.i64.wrap (IntKind.i64.wrap (4 * (t : Int)) + 2) ∧ IntKind.i64.wrap (IntKind.i64.wrap (4 * (t : Int)) + 2) < ((s.length : Nat) : Int) := by rw [h42]; omega
    have i3 : 0 ≤ IntKind.i64.wrap (IntKind.i64.wrap (4 * (t : Int)) + 3) ∧ IntKind.i64.wrap (IntKind.i64.wrap (4 * (t : Int)) + 3) < ((s.length : Nat) : Int) := by rw [h43]; omega
    have hwr : IntKind.i64.wrap ((t : Int) + 1) = ((t + 1 : Nat) : Int) := by rw [wrap_i64 (by omega) (by omega)]; rfl
    have hst : ti101.size = 1 ∧ ((t : Int)).toNat < (ks (ws0 s t)).length := ⟨rfl, by rw [ks_len, hwl, Int.toNat_natCast]; omega⟩
    have hwd := word_go (s := s) (t := t) (by omega)
    (conv => whnf)
    (refine DrawVC.any Γok (by kernel_rfl) (by kernel_rfl) (by kernel_rfl) (by rfl) ?_; conv => whnf)
    (repeat (first | (refine Need.mk i0 ?_; conv => whnf) | (refine Need.mk i1 ?_; conv => whnf) | (refine Need.mk i2 ?_; conv => whnf) | (refine Need.mk i3 ?_; conv => whnf) | (refine Need.mk hst ?_; conv => whnf) | (exact Out.same; conv => whnf) | (exact Out1.same; conv => whnf) | (refine QAnd.mk ?_ ?_; conv => whnf) | (apply QStepH.go; conv => whnf) | (refine Both.lit_true ?_; conv => whnf) | (refine Both.lit_false ?_; conv => whnf) | (apply QStep.go; conv => whnf) | (refine Need.mk ?_ ?_; (focus (first | omega | exact ⟨by omega, by omega⟩ | rfl | exact ⟨rfl, rfl⟩ | exact ⟨rfl, by omega, by omega⟩ | exact ⟨by omega, by omega, by omega⟩ | exact ⟨rfl, Nat.le_of_ble_eq_true rfl⟩ | exact Nat.le_of_ble_eq_true rfl | (refine ⟨rfl, rfl, ?_⟩; simp [isFar, ofV0, CV.up, SV.renL, SV.ren] <;> fail) | (refine ⟨rfl, Nat.le_of_ble_eq_true rfl, ?_⟩; simp [isFar, ofV0, CV.up, SV.renL, SV.ren] <;> fail) | (simp only [List.length_append, List.length_drop, List.length_take, List.length_replicate, List.length_map]; omega) | (simp <;> fail))); conv => whnf) | (refine ⟨_, rfl, ?_⟩; conv => whnf)))
    have hobj : ∀ j0 j1 j2 j3 : Int, j0 = ((4 * t : Nat) : Int) → j1 = ((4 * t + 1 : Nat) : Int) → j2 = ((4 * t + 2 : Nat) : Int) → j3 = ((4 * t + 3 : Nat) : Int) → LObj.own 101 1 64 ((ks (ws0 s t)).set ((t : Int)).toNat (CV.int .u32 (IntKind.u32.wrap (IntKind.u32.wrap (IntKind.u32.wrap (IntKind.u32.wrap (IntKind.u32.wrap ((s.getD j0.toNat 0).toNat : Int) * 16777216) + IntKind.u32.wrap (IntKind.u32.wrap ((s.getD j1.toNat 0).toNat : Int) * 65536)) + IntKind.u32.wrap (IntKind.u32.wrap ((s.getD j2.toNat 0).toNat : Int) * 256)) + IntKind.u32.wrap ((s.getD j3.toNat 0).toNat : Int))))) true = LObj.own 101 1 64 (ks (ws0 s (t + 1))) true := by
      rintro j0 j1 j2 j3 rfl rfl rfl rfl
      simp only [Int.toNat_natCast]
      rw [hwd, ks_set]
      rfl
    refine ⟨t + 1, by omega, by omega, Weak.auto ?_⟩
    (repeat' ((conv => whnf); first | exact True.intro | (refine And.intro ?_ ?_)))
    all_goals first | rfl | exact .eq rfl | exact congrArg (SV.int .i64) hwr | exact hobj _ _ _ _ h4 h41 h42 h43
  have ht16 : t = 16 := by omega
  subst ht16
  have hobj0 : LObj.own 101 1 64 (ks (ws0 s 16)) true = LObj.own 101 1 64 (ks (ws1 s 0)) true := rfl
  (conv => whnf)
  (repeat (first | (exact Out.same; conv => whnf) | (exact Out1.same; conv => whnf) | (refine QAnd.mk ?_ ?_; conv => whnf) | (apply QStepH.go; conv => whnf) | (refine Both.lit_true ?_; conv => whnf) | (refine Both.lit_false ?_; conv => whnf) | (apply QStep.go; conv => whnf) | (refine Need.mk ?_ ?_; (focus (first | omega | exact ⟨by omega, by omega⟩ | rfl | exact ⟨rfl, rfl⟩ | exact ⟨rfl, by omega, by omega⟩ | exact ⟨by omega, by omega, by omega⟩ | exact ⟨rfl, Nat.le_of_ble_eq_true rfl⟩ | exact Nat.le_of_ble_eq_true rfl | (refine ⟨rfl, rfl, ?_⟩; simp [isFar, ofV0, CV.up, SV.renL, SV.ren] <;> fail) | (refine ⟨rfl, Nat.le_of_ble_eq_true rfl, ?_⟩; simp [isFar, ofV0, CV.up, SV.renL, SV.ren] <;> fail) | (simp only [List.length_append, List.length_drop, List.length_take, List.length_replicate, List.length_map]; omega) | (simp <;> fail))); conv => whnf) | (refine ⟨_, rfl, ?_⟩; conv => whnf)))
  refine loop_rule (fun k : Nat => ⟨[.str s, .sl 1 64 (ks K) f, .sl 1 8 (ks v.ws) f', .any, .any, .any, .any, .own 0, .any, .int .i64 ((16 + k : Nat) : Int), .any, .any, .any, .any, .any, .any, .any, .any, .any, .any, .any, .any, .any, .any, .any, .any, .any, .any, .any, .any, .any, .any, .any, .any, .any, .any, .any, .any, .any, .any, .any, .any, .any, .any, .any, .any, .any, .any, .any, .any, .any, .any, .any, .any, .any, .any, .any, .any, .any, .any, .any, .any, .any, .any, .any, .any, .any, .any, .any, .any, .any, .any, .any, .any, .any, .any, .any, .any, .any, .any, .any, .any, .any, .any, .any, .any, .any, .any, .any, .any, .any, .any, .any, .any, .any, .any, .any, .any, .any, .any, .any, .any, .any, .any, .any, .any, .any, .any, .any, .any, .any, .any, .any, .any, .any, .any, .any, .any, .any, .any, .any, .any, .any, .any, .any, .any, .any, .any, .any, .any, .any, .any, .any, .any, .any, .any, .any, .any, .any, .any, .any, .any, .any, .any, .any, .any, .any, .any, .any, .any, .any, .any, .any, .any, .any, .any, .any, .any, .any, .any, .any, .any, .any, .any, .any, .any, .any, .any, .any, .any, .any, .any, .any, .any, .any, .any, .any, .any, .any, .any, .any, .any, .any, .any, .any, .any, .any, .any, .any, .any, .any, .any, .any, .any, .any, .any, .any, .any, .any, .any, .any, .any, .any, .any, .any, .any, .any, .any, .any, .any, .any, .any, .any, .any, .any, .any, .any, .any, .any, .any, .any, .any, .any, .any, .any, .any, .any, .any, .any, .any, .any], [.own 101 1 64 (ks (ws1 s k)) true]⟩) (fun k => k ≤ 48) (fun k => 48 - k) 0 (Nat.zero_le _) (Weak.auto ?_) ?_
  · (repeat' ((conv => whnf); first | exact True.intro | (refine And.intro ?_ ?_)))
    all_goals first | exact hobj0 | rfl | exact .eq rfl
  clear hobj0 hwl
  intro k hk
  have hwl := ws1_len s k
  have hws : ws1 s (k + 1) = (ws1 s k).set (16 + k) (((ws1 s k).getD k 0 + sg0 ((ws1 s k).getD (k + 1) 0)) + (ws1 s k).getD (k + 9) 0 + sg1 ((ws1 s k).getD (k + 14) 0)) := rfl
  (refine sx_sound Γok _ ?_; conv => whnf)
  (repeat (first | (exact Out.same; conv => whnf) | (exact Out1.same; conv => whnf) | (refine QAnd.mk ?_ ?_; conv => whnf) | (apply QStepH.go; conv => whnf) | (refine Both.lit_true ?_; conv => whnf) | (refine Both.lit_false ?_; conv => whnf) | (apply QStep.go; conv => whnf) | (refine Need.mk ?_ ?_; (focus (first | omega | exact ⟨by omega, by omega⟩ | rfl | exact ⟨rfl, rfl⟩ | exact ⟨rfl, by omega, by omega⟩ | exact ⟨by omega, by omega, by omega⟩ | exact ⟨rfl, Nat.le_of_ble_eq_true rfl⟩ | exact Nat.le_of_ble_eq_true rfl | (refine ⟨rfl, rfl, ?_⟩; simp [isFar, ofV0, CV.up, SV.renL, SV.ren] <;> fail) | (refine ⟨rfl, Nat.le_of_ble_eq_true rfl, ?_⟩; simp [isFar, ofV0, CV.up, SV.renL, SV.ren] <;> fail) | (simp only [List.length_append, List.length_drop, List.length_take, List.length_replicate, List.length_map]; omega) | (simp <;> fail))); conv => whnf) | (refine ⟨_, rfl, ?_⟩; conv => whnf)))
  refine Both.dec (fun hlt => ?_) (fun hge => ?_)
  · have hk48 : k < 48 := by omega
    have hwr : IntKind.i64.wrap (((16 + k : Nat) : Int) + 1) = ((16 + (k + 1) : Nat) : Int) := by rw [wrap_i64 (by omega) (by omega)]; omega
    have i15 : IntKind.i64.wrap (((16 + k : Nat) : Int) - 15) = ((k + 1 : Nat) : Int) := by rw [wrap_i64 (by omega) (by omega)]; omega
    have i2 : IntKind.i64.wrap (((16 + k : Nat) : Int) - 2) = ((k + 14 : Nat) : Int) := by rw [wrap_i64 (by omega) (by omega)]; omega
    have i7 : IntKind.i64.wrap (((16 + k : Nat) : Int) - 7) = ((k + 9 : Nat) : Int) := by rw [wrap_i64 (by omega) (by omega)]; omega
    have i16 : IntKind.i64.wrap (((16 + k : Nat) : Int) - 16) = ((k : Nat) : Int) := by rw [wrap_i64 (by omega) (by omega)]; omega
    have g15 : (ks (ws1 s k))[(IntKind.i64.wrap (((16 + k : Nat) : Int) - 15)).toNat]? = some (CV.int .u32 (u32 ((ws1 s k).getD (k + 1) 0))) := by rw [i15]; exact ks_at (by omega)
    have g2 : (ks (ws1 s k))[(IntKind.i64.wrap (((16 + k : Nat) : Int) - 2)).toNat]? = some (CV.int .u32 (u32 ((ws1 s k).getD (k + 14) 0))) := by rw [i2]; exact ks_at (by omega)
    have g7 : (ks (ws1 s k))[(IntKind.i64.wrap (((16 + k : Nat) : Int) - 7)).toNat]? = some (CV.int .u32 (u32 ((ws1 s k).getD (k + 9) 0))) := by rw [i7]; exact ks_at (by omega)
    have g16 : (ks (ws1 s k))[(IntKind.i64.wrap (((16 + k : Nat) : Int) - 16)).toNat]? = some (CV.int .u32 (u32 ((ws1 s k).getD k 0))) := by rw [i16]; exact ks_at (by omega)
    have n15 : ti101.size = ti101.size ∧ 0 ≤ IntKind.i64.wrap (((16 + k : Nat) : Int) - 15) ∧ IntKind.i64.wrap (((16 + k : Nat) : Int) - 15) < ((64 : Nat) : Int) := ⟨rfl, by rw [i15]; omega, by rw [i15]; omega⟩
    have n2 : ti101.size = ti101.size ∧ 0 ≤ IntKind.i64.wrap (((16 + k : Nat) : Int) - 2) ∧ IntKind.i64.wrap (((16 + k : Nat) : Int) - 2) < ((64 : Nat) : Int) := ⟨rfl, by rw [i2]; omega, by rw [i2]; omega⟩
    have n7 : ti101.size = ti101.size ∧ 0 ≤ IntKind.i64.wrap (((16 + k : Nat) : Int) - 7) ∧ IntKind.i64.wrap (((16 + k : Nat) : Int) - 7) < ((64 : Nat) : Int) := ⟨rfl, by rw [i7]; omega, by rw [i7]; omega⟩
    have n16 : ti101.size = ti101.size ∧ 0 ≤ IntKind.i64.wrap (((16 + k : Nat) : Int) - 16) ∧ IntKind.i64.wrap (((16 + k : Nat) : Int) - 16) < ((64 : Nat) : Int) := ⟨rfl, by rw [i16]; omega, by rw [i16]; omega⟩
    have hst : ti101.size = 1 ∧ (((16 + k : Nat) : Int)).toNat < (ks (ws1 s k)).length := ⟨rfl, by rw [ks_len, hwl, Int.toNat_natCast]; omega⟩
    have hobj : ∀ (x y p q : W32), ws1 s (k + 1) = (ws1 s k).set (16 + k) ((p + sg0 x) + q + sg1 y) → LObj.own 101 1 64 ((ks (ws1 s k)).set (((16 + k : Nat) : Int)).toNat (CV.int .u32 (IntKind.u32.wrap (IntKind.u32.wrap (IntKind.u32.wrap (bitXor .u32 (bitXor .u32 (u32 (rotr y 17)) (u32 (rotr y 19))) (shrI .u32 (u32 y) 10) + u32 q) + bitXor .u32 (bitXor .u32 (u32 (rotr x 7)) (u32 (rotr x 18))) (shrI .u32 (u32 x) 3)) + u32 p)))) true = LObj.own 101 1 64 (ks (ws1 s (k + 1))) true := by
      intro x y p q hq
      rw [rw1_go, ks_set, hq, Int.toNat_natCast]
    revert g15 g2 g7 g16 hst hws hobj
    generalize hnx : ws1 s (k + 1) = nx
    generalize (ws1 s k).getD (k + 1) 0 = x
    generalize (ws1 s k).getD (k + 14) 0 = y
    generalize (ws1 s k).getD k 0 = p
    generalize (ws1 s k).getD (k + 9) 0 = q
    generalize ws1 s k = ws at hwl ⊢
    intro hws g15 g2 g7 g16 hst hobj
    (conv => whnf)
    (refine DrawVC.any Γok (by kernel_rfl) (by kernel_rfl) (by kernel_rfl) (by rfl) ?_; conv => whnf)
    (repeat (first | (refine Need.mk n15 ?_; conv => whnf) | (refine ⟨_, g15, ?_⟩; conv => whnf) | (refine CallVC.pure dRight_k (.int .u32 (u32 (rotr _ 7))) (fun Q h => ⟨_, 7, rfl, rfl, ⟨by decide, by decide⟩, h⟩) rfl (fun g => rfl) ?_; conv => whnf) | (refine CallVC.pure dRight_k (.int .u32 (u32 (rotr _ 18))) (fun Q h => ⟨_, 18, rfl, rfl, ⟨by decide, by decide⟩, h⟩) rfl (fun g => rfl) ?_; conv => whnf) | (exact Out.same; conv => whnf) | (exact Out1.same; conv => whnf) | (refine QAnd.mk ?_ ?_; conv => whnf) | (apply QStepH.go; conv => whnf) | (refine Both.lit_true ?_; conv => whnf) | (refine Both.lit_false ?_; conv => whnf) | (apply QStep.go; conv => whnf) | (refine Need.mk ?_ ?_; (focus (first | omega | exact ⟨by omega, by omega⟩ | rfl | exact ⟨rfl, rfl⟩ | exact ⟨rfl, by omega, by omega⟩ | exact ⟨by omega, by omega, by omega⟩ | exact ⟨rfl, Nat.le_of_ble_eq_true rfl⟩ | exact Nat.le_of_ble_eq_true rfl | (refine ⟨rfl, rfl, ?_⟩; simp [isFar, ofV0, CV.up, SV.renL, SV.ren] <;> fail) | (refine ⟨rfl, Nat.le_of_ble_eq_true rfl, ?_⟩; simp [isFar, ofV0, CV.up, SV.renL, SV.ren] <;> fail) | (simp only [List.length_append, List.length_drop, List.length_take, List.length_replicate, List.length_map]; omega) | (simp <;> fail))); conv => whnf) | (refine ⟨_, rfl, ?_⟩; conv => whnf)))
    (refine DrawVC.any Γok (by kernel_rfl) (by kernel_rfl) (by kernel_rfl) (by rfl) ?_; conv => whnf)
    (repeat (first | (refine Need.mk n2 ?_; conv => whnf) | (refine ⟨_, g2, ?_⟩; conv => whnf) | (refine CallVC.pure dRight_k (.int .u32 (u32 (rotr _ 17))) (fun Q h => ⟨_, 17, rfl, rfl, ⟨by decide, by decide⟩, h⟩) rfl (fun g => rfl) ?_; conv => whnf) | (refine CallVC.pure dRight_k (.int .u32 (u32 (rotr _ 19))) (fun Q h => ⟨_, 19, rfl, rfl, ⟨by decide, by decide⟩, h⟩) rfl (fun g => rfl) ?_; conv => whnf) | (exact Out.same; conv => whnf) | (exact Out1.same; conv => whnf) | (refine QAnd.mk ?_ ?_; conv => whnf) | (apply QStepH.go; conv => whnf) | (refine Both.lit_true ?_; conv => whnf) | (refine Both.lit_false ?_; conv => whnf) | (apply QStep.go; conv => whnf) | (refine Need.mk ?_ ?_; (focus (first | omega | exact ⟨by omega, by omega⟩ | rfl | exact ⟨rfl, rfl⟩ | exact ⟨rfl, by omega, by omega⟩ | exact ⟨by omega, by omega, by omega⟩ | exact ⟨rfl, Nat.le_of_ble_eq_true rfl⟩ | exact Nat.le_of_ble_eq_true rfl | (refine ⟨rfl, rfl, ?_⟩; simp [isFar, ofV0, CV.up, SV.renL, SV.ren] <;> fail) | (refine ⟨rfl, Nat.le_of_ble_eq_true rfl, ?_⟩; simp [isFar, ofV0, CV.up, SV.renL, SV.ren] <;> fail) | (simp only [List.length_append, List.length_drop, List.length_take, List.length_replicate, List.length_map]; omega) | (simp <;> fail))); conv => whnf) | (refine ⟨_, rfl, ?_⟩; conv => whnf)))
    (refine DrawVC.any Γok (by kernel_rfl) (by kernel_rfl) (by kernel_rfl) (by rfl) ?_; conv => whnf)
    (repeat (first | (refine Need.mk n7 ?_; conv => whnf) | (refine ⟨_, g7, ?_⟩; conv => whnf) | (refine Need.mk n16 ?_; conv => whnf) | (refine ⟨_, g16, ?_⟩; conv => whnf) | (refine Need.mk hst ?_; conv => whnf) | (exact Out.same; conv => whnf) | (exact Out1.same; conv => whnf) | (refine QAnd.mk ?_ ?_; conv => whnf) | (apply QStepH.go; conv => whnf) | (refine Both.lit_true ?_; conv => whnf) | (refine Both.lit_false ?_; conv => whnf) | (apply QStep.go; conv => whnf) | (refine Need.mk ?_ ?_; (focus (first | omega | exact ⟨by omega, by omega⟩ | rfl | exact ⟨rfl, rfl⟩ | exact ⟨rfl, by omega, by omega⟩ | exact ⟨by omega, by omega, by omega⟩ | exact ⟨rfl, Nat.le_of_ble_eq_true rfl⟩ | exact Nat.le_of_ble_eq_true rfl | (refine ⟨rfl, rfl, ?_⟩; simp [isFar, ofV0, CV.up, SV.renL, SV.ren] <;> fail) | (refine ⟨rfl, Nat.le_of_ble_eq_true rfl, ?_⟩; simp [isFar, ofV0, CV.up, SV.renL, SV.ren] <;> fail) | (simp only [List.length_append, List.length_drop, List.length_take, List.length_replicate, List.length_map]; omega) | (simp <;> fail))); conv => whnf) | (refine ⟨_, rfl, ?_⟩; conv => whnf)))
    refine ⟨k + 1, by omega, by omega, Weak.auto ?_⟩
    have ho := hobj x y p q hws
    rw [← hnx] at ho
    (repeat' ((conv => whnf); first | exact True.intro | (refine And.intro ?_ ?_)))
    all_goals first | rfl | exact .eq rfl | exact congrArg (SV.int .i64) hwr | exact ho
  have hk48 : k = 48 := by omega
  subst hk48
  clear hws
  revert h hro hwl
  generalize ws1 s 48 = ws
  intro h hro hwl
  have hro := hro ws
  obtain ⟨a, b, c, d, e, g, h0, h1⟩ := v
  have hx0 : (⟨a, b, c, d, e, g, h0, h1⟩ : St).rounds ws 0 = ⟨a, b, c, d, e, g, h0, h1⟩ := rfl
  revert h hro hx0
  generalize hv : (⟨a, b, c, d, e, g, h0, h1⟩ : St) = v
  intro h hro hx0
  have hvw : v.ws = [a, b, c, d, e, g, h0, h1] := by rw [← hv]; rfl
  rw [hvw]
  (conv => whnf)
  (repeat (first | (exact Out.same; conv => whnf) | (exact Out1.same; conv => whnf) | (refine QAnd.mk ?_ ?_; conv => whnf) | (apply QStepH.go; conv => whnf) | (refine Both.lit_true ?_; conv => whnf) | (refine Both.lit_false ?_; conv => whnf) | (apply QStep.go; conv => whnf) | (refine Need.mk ?_ ?_; (focus (first | omega | exact ⟨by omega, by omega⟩ | rfl | exact ⟨rfl, rfl⟩ | exact ⟨rfl, by omega, by omega⟩ | exact ⟨by omega, by omega, by omega⟩ | exact ⟨rfl, Nat.le_of_ble_eq_true rfl⟩ | exact Nat.le_of_ble_eq_true rfl | (refine ⟨rfl, rfl, ?_⟩; simp [isFar, ofV0, CV.up, SV.renL, SV.ren] <;> fail) | (refine ⟨rfl, Nat.le_of_ble_eq_true rfl, ?_⟩; simp [isFar, ofV0, CV.up, SV.renL, SV.ren] <;> fail) | (simp only [List.length_append, List.length_drop, List.length_take, List.length_replicate, List.length_map]; omega) | (simp <;> fail))); conv => whnf) | (refine ⟨_, rfl, ?_⟩; conv => whnf)))
  refine loop_rule (fun x : Nat × W32 × W32 × W32 × W32 × W32 × W32 × W32 × W32 => match x with | (t, a', b', c', d', e', f1, g', h') => ⟨[.any, .sl 1 64 (ks K) f, .sl 1 8 (ks [a, b, c, d, e, g, h0, h1]) f', .any, .any, .any, .any, .own 0, .any, .any, .any, .any, .sl 1 8 (ks [a', b', c', d', e', f1, g', h']) (!(Nat.beq t 0)), .int .i64 (t : Int), .any, .any, .any, .any, .any, .any, .any, .any, .any, .any, .any, .any, .any, .any, .any, .any, .any, .any, .any, .any, .any, .any, .any, .any, .any, .any, .any, .any, .any, .any, .any, .any, .any, .any, .any, .any, .any, .any, .any, .any, .any, .any, .any, .any, .any, .any, .any, .any, .any, .any, .any, .any, .any, .any, .any, .any, .any, .any, .any, .any, .any, .any, .any, .any, .any, .any, .any, .any, .any, .any, .any, .any, .any, .any, .any, .any, .any, .any, .any, .any, .any, .any, .any, .any, .any, .any, .any, .any, .any, .any, .any, .any, .any, .any, .any, .any, .any, .any, .any, .any, .any, .any, .any, .any, .any, .any, .any, .any, .any, .any, .any, .any, .any, .any, .any, .any, .any, .any, .any, .any, .any, .any, .any, .any, .any, .any, .any, .any, .any, .any, .any, .any, .any, .any, .any, .any, .any, .any, .any, .any, .any, .any, .any, .any, .any, .any, .any, .any, .any, .any, .any, .any, .any, .any, .any, .any, .any, .any, .any, .any, .any, .any, .any, .any, .any, .any, .any, .any, .any, .any, .any, .any, .any, .any, .any, .any, .any, .any, .any, .any, .any, .any, .any, .any, .any, .any, .any, .any, .any, .any, .any, .any, .any, .any, .any, .any, .any, .any, .any, .any, .any, .any, .any, .any, .any, .any, .any, .any, .any, .any, .any, .any, .any, .any, .any, .any, .any], [.own 101 1 64 (ks ws) true]⟩) (fun x => x.1 ≤ 64 ∧ v.rounds ws x.1 = ⟨x.2.1, x.2.2.1, x.2.2.2.1, x.2.2.2.2.1, x.2.2.2.2.2.1, x.2.2.2.2.2.2.1, x.2.2.2.2.2.2.2.1, x.2.2.2.2.2.2.2.2⟩) (fun x => 64 - x.1) (0, a, b, c, d, e, g, h0, h1) ⟨Nat.zero_le _, by rw [hx0, ← hv]⟩ ((Weak.pubT 2 rfl).trans (Weak.auto ?_)) ?_
  · (repeat' ((conv => whnf); first | exact True.intro | (refine And.intro ?_ ?_)))
    all_goals first | rfl | exact .eq rfl
  rintro ⟨t, a', b', c', d', e', f1, g', h'⟩ ⟨ht, hq⟩
  dsimp only at ht hq
  (refine sx_sound Γok _ ?_; conv => whnf)
  (repeat (first | (exact Out.same; conv => whnf) | (exact Out1.same; conv => whnf) | (refine QAnd.mk ?_ ?_; conv => whnf) | (apply QStepH.go; conv => whnf) | (refine Both.lit_true ?_; conv => whnf) | (refine Both.lit_false ?_; conv => whnf) | (apply QStep.go; conv => whnf) | (refine Need.mk ?_ ?_; (focus (first | omega | exact ⟨by omega, by omega⟩ | rfl | exact ⟨rfl, rfl⟩ | exact ⟨rfl, by omega, by omega⟩ | exact ⟨by omega, by omega, by omega⟩ | exact ⟨rfl, Nat.le_of_ble_eq_true rfl⟩ | exact Nat.le_of_ble_eq_true rfl | (refine ⟨rfl, rfl, ?_⟩; simp [isFar, ofV0, CV.up, SV.renL, SV.ren] <;> fail) | (refine ⟨rfl, Nat.le_of_ble_eq_true rfl, ?_⟩; simp [isFar, ofV0, CV.up, SV.renL, SV.ren] <;> fail) | (simp only [List.length_append, List.length_drop, List.length_take, List.length_replicate, List.length_map]; omega) | (simp <;> fail))); conv => whnf) | (refine ⟨_, rfl, ?_⟩; conv => whnf)))
  refine Both.dec (fun hlt => ?_) (fun hge => ?_)
  · have ht64 : t < 64 := by omega
    have hwr : IntKind.i64.wrap ((t : Int) + 1) = ((t + 1 : Nat) : Int) := by rw [wrap_i64 (by omega) (by omega)]; rfl
    have hk := ks_at (l := K) (k := t) (by omega)
    have hw := ks_at (l := ws) (k := t) (by omega)
    have hq1 : v.rounds ws (t + 1) = (⟨a', b', c', d', e', f1, g', h'⟩ : St).round (K.getD t 0) (ws.getD t 0) := by rw [hro t, hq]
    clear hq hro
    revert hk hw hq1
    generalize K.getD t 0 = kk
    generalize ws.getD t 0 = ww
    intro hk hw hq1
    have c1 := t2_go a' b' c'
    have c0 : IntKind.u32.wrap (IntKind.u32.wrap (IntKind.u32.wrap (IntKind.u32.wrap (u32 h' + bitXor .u32 (bitXor .u32 (u32 (rotr e' 6)) (u32 (rotr e' 11))) (u32 (rotr e' 25))) + bitXor .u32 (bitAnd .u32 (u32 e') (u32 f1)) (bitAnd .u32 (IntKind.u32.wrap (4294967295 - u32 e')) (u32 g'))) + u32 kk) + u32 ww) = u32 ((((h' + ((rotr e' 6 ^^^ rotr e' 11) ^^^ rotr e' 25)) + ((e' &&& f1) ^^^ (~~~e' &&& g'))) + kk) + ww) := by
      rw [not_go]
      simp only [xor_u32, and_u32, not_u32, add_u32]
    obtain ⟨T1, hT1⟩ : ∃ T1, (((h' + ((rotr e' 6 ^^^ rotr e' 11) ^^^ rotr e' 25)) + ((e' &&& f1) ^^^ (~~~e' &&& g'))) + kk) + ww = T1 := ⟨_, rfl⟩
    obtain ⟨T2, hT2⟩ : ∃ T2, ((rotr a' 2 ^^^ rotr a' 13) ^^^ rotr a' 22) + (((a' &&& b') ^^^ (a' &&& c')) ^^^ (b' &&& c')) = T2 := ⟨_, rfl⟩
    rw [hT1] at c0
    rw [hT2] at c1
    (conv => whnf)
    (refine DrawVC.any Γok (by kernel_rfl) (by kernel_rfl) (by kernel_rfl) (by rfl) ?_; conv => whnf)
    (repeat (first | (exact Out.same; conv => whnf) | (exact Out1.same; conv => whnf) | (refine QAnd.mk ?_ ?_; conv => whnf) | (apply QStepH.go; conv => whnf) | (refine Both.lit_true ?_; conv => whnf) | (refine Both.lit_false ?_; conv => whnf) | (apply QStep.go; conv => whnf) | (refine Need.mk ?_ ?_; (focus (first | omega | exact ⟨by omega, by omega⟩ | rfl | exact ⟨rfl, rfl⟩ | exact ⟨rfl, by omega, by omega⟩ | exact ⟨by omega, by omega, by omega⟩ | exact ⟨rfl, Nat.le_of_ble_eq_true rfl⟩ | exact Nat.le_of_ble_eq_true rfl | (refine ⟨rfl, rfl, ?_⟩; simp [isFar, ofV0, CV.up, SV.renL, SV.ren] <;> fail) | (refine ⟨rfl, Nat.le_of_ble_eq_true rfl, ?_⟩; simp [isFar, ofV0, CV.up, SV.renL, SV.ren] <;> fail) | (simp only [List.length_append, List.length_drop, List.length_take, List.length_replicate, List.length_map]; omega) | (simp <;> fail))); conv => whnf) | (refine ⟨_, rfl, ?_⟩; conv => whnf)))
    (refine DrawVC.any Γok (by kernel_rfl) (by kernel_rfl) (by kernel_rfl) (by rfl) ?_; conv => whnf)
    (repeat (first | (refine ⟨_, hk, ?_⟩; conv => whnf) | (refine ⟨_, hw, ?_⟩; conv => whnf) | (refine CallVC.pure dRight_k (.int .u32 (u32 (rotr _ 6))) (fun Q h => ⟨_, 6, rfl, rfl, ⟨by decide, by decide⟩, h⟩) rfl (fun g => rfl) ?_; conv => whnf) | (refine CallVC.pure dRight_k (.int .u32 (u32 (rotr _ 11))) (fun Q h => ⟨_, 11, rfl, rfl, ⟨by decide, by decide⟩, h⟩) rfl (fun g => rfl) ?_; conv => whnf) | (refine CallVC.pure dRight_k (.int .u32 (u32 (rotr _ 25))) (fun Q h => ⟨_, 25, rfl, rfl, ⟨by decide, by decide⟩, h⟩) rfl (fun g => rfl) ?_; conv => whnf) | (exact Out.same; conv => whnf) | (exact Out1.same; conv => whnf) | (refine QAnd.mk ?_ ?_; conv => whnf) | (apply QStepH.go; conv => whnf) | (refine Both.lit_true ?_; conv => whnf) | (refine Both.lit_false ?_; conv => whnf) | (apply QStep.go; conv => whnf) | (refine Need.mk ?_ ?_; (focus (first | omega | exact ⟨by omega, by omega⟩ | rfl | exact ⟨rfl, rfl⟩ | exact ⟨rfl, by omega, by omega⟩ | exact ⟨by omega, by omega, by omega⟩ | exact ⟨rfl, Nat.le_of_ble_eq_true rfl⟩ | exact Nat.le_of_ble_eq_true rfl | (refine ⟨rfl, rfl, ?_⟩; simp [isFar, ofV0, CV.up, SV.renL, SV.ren] <;> fail) | (refine ⟨rfl, Nat.le_of_ble_eq_true rfl, ?_⟩; simp [isFar, ofV0, CV.up, SV.renL, SV.ren] <;> fail) | (simp only [List.length_append, List.length_drop, List.length_take, List.length_replicate, List.length_map]; omega) | (simp <;> fail))); conv => whnf) | (refine ⟨_, rfl, ?_⟩; conv => whnf)))
    (repeat (first | (refine CallVC.pure dRight_k (.int .u32 (u32 (rotr _ 2))) (fun Q h => ⟨_, 2, rfl, rfl, ⟨by decide, by decide⟩, h⟩) rfl (fun g => rfl) ?_; conv => whnf) | (refine CallVC.pure dRight_k (.int .u32 (u32 (rotr _ 13))) (fun Q h => ⟨_, 13, rfl, rfl, ⟨by decide, by decide⟩, h⟩) rfl (fun g => rfl) ?_; conv => whnf) | (refine CallVC.pure dRight_k (.int .u32 (u32 (rotr _ 22))) (fun Q h => ⟨_, 22, rfl, rfl, ⟨by decide, by decide⟩, h⟩) rfl (fun g => rfl) ?_; conv => whnf) | (exact Out.same; conv => whnf) | (exact Out1.same; conv => whnf) | (refine QAnd.mk ?_ ?_; conv => whnf) | (apply QStepH.go; conv => whnf) | (refine Both.lit_true ?_; conv => whnf) | (refine Both.lit_false ?_; conv => whnf) | (apply QStep.go; conv => whnf) | (refine Need.mk ?_ ?_; (focus (first | omega | exact ⟨by omega, by omega⟩ | rfl | exact ⟨rfl, rfl⟩ | exact ⟨rfl, by omega, by omega⟩ | exact ⟨by omega, by omega, by omega⟩ | exact ⟨rfl, Nat.le_of_ble_eq_true rfl⟩ | exact Nat.le_of_ble_eq_true rfl | (refine ⟨rfl, rfl, ?_⟩; simp [isFar, ofV0, CV.up, SV.renL, SV.ren] <;> fail) | (refine ⟨rfl, Nat.le_of_ble_eq_true rfl, ?_⟩; simp [isFar, ofV0, CV.up, SV.renL, SV.ren] <;> fail) | (simp only [List.length_append, List.length_drop, List.length_take, List.length_replicate, List.length_map]; omega) | (simp <;> fail))); conv => whnf) | (refine ⟨_, rfl, ?_⟩; conv => whnf)))
    rw [c0, c1]
    (conv => whnf)
    (repeat (first | (exact Out.same; conv => whnf) | (exact Out1.same; conv => whnf) | (refine QAnd.mk ?_ ?_; conv => whnf) | (apply QStepH.go; conv => whnf) | (refine Both.lit_true ?_; conv => whnf) | (refine Both.lit_false ?_; conv => whnf) | (apply QStep.go; conv => whnf) | (refine Need.mk ?_ ?_; (focus (first | omega | exact ⟨by omega, by omega⟩ | rfl | exact ⟨rfl, rfl⟩ | exact ⟨rfl, by omega, by omega⟩ | exact ⟨by omega, by omega, by omega⟩ | exact ⟨rfl, Nat.le_of_ble_eq_true rfl⟩ | exact Nat.le_of_ble_eq_true rfl | (refine ⟨rfl, rfl, ?_⟩; simp [isFar, ofV0, CV.up, SV.renL, SV.ren] <;> fail) | (refine ⟨rfl, Nat.le_of_ble_eq_true rfl, ?_⟩; simp [isFar, ofV0, CV.up, SV.renL, SV.ren] <;> fail) | (simp only [List.length_append, List.length_drop, List.length_take, List.length_replicate, List.length_map]; omega) | (simp <;> fail))); conv => whnf) | (refine ⟨_, rfl, ?_⟩; conv => whnf)))
    have hsl : SV.sl 1 8 [CV.int .u32 (IntKind.u32.wrap (u32 T1 + u32 T2)), .int .u32 (u32 a'), .int .u32 (u32 b'), .int .u32 (u32 c'), .int .u32 (IntKind.u32.wrap (u32 d' + u32 T1)), .int .u32 (u32 e'), .int .u32 (u32 f1), .int .u32 (u32 g')] true = SV.sl 1 8 (ks [T1 + T2, a', b', c', d' + T1, e', f1, g']) (!(Nat.beq (t + 1) 0)) := by
      rw [add_u32, add_u32]
      rfl
    have hq2 : v.rounds ws (t + 1) = ⟨T1 + T2, a', b', c', d' + T1, e', f1, g'⟩ := by
      rw [hq1, ← hT1, ← hT2]
      rfl
    refine ⟨(t + 1, T1 + T2, a', b', c', d' + T1, e', f1, g'), ⟨by show t + 1 ≤ 64; omega, hq2⟩, by show 64 - (t + 1) < 64 - t; omega, Weak.auto ?_⟩
    (repeat' ((conv => whnf); first | exact True.intro | (refine And.intro ?_ ?_)))
    all_goals first | rfl | exact .eq rfl | exact congrArg (SV.int .i64) hwr | exact hsl
  have ht64 : t = 64 := by omega
  subst ht64
  rw [hq] at h
  clear hq hro
  generalize hx : (⟨a', b', c', d', e', f1, g', h'⟩ : St) = x at h
  have hxw : [a', b', c', d', e', f1, g', h'] = x.ws := by rw [← hx]; rfl
  rw [← hvw, hxw]
  have hvl : v.ws.length = 8 := rfl
  have hxl : x.ws.length = 8 := rfl
  have hml : (v.plus x).ws.length = 8 := rfl
  have hsum : ∀ i, i < 8 → IntKind.u32.wrap (u32 (v.ws.getD i 0) + u32 (x.ws.getD i 0)) = u32 ((v.plus x).ws.getD i 0) := fun i hi => by rw [add_u32, plus_ws v x i hi]
  clear hx hxw hvw hv hx0
  revert h hsum hml hxl hvl
  generalize (v.plus x).ws = m
  generalize x.ws = xs
  generalize v.ws = vs
  intro h hvl hxl hml hsum
  (conv => whnf)
  (repeat (first | (exact Out.same; conv => whnf) | (exact Out1.same; conv => whnf) | (refine QAnd.mk ?_ ?_; conv => whnf) | (apply QStepH.go; conv => whnf) | (refine Both.lit_true ?_; conv => whnf) | (refine Both.lit_false ?_; conv => whnf) | (apply QStep.go; conv => whnf) | (refine Need.mk ?_ ?_; (focus (first | omega | exact ⟨by omega, by omega⟩ | rfl | exact ⟨rfl, rfl⟩ | exact ⟨rfl, by omega, by omega⟩ | exact ⟨by omega, by omega, by omega⟩ | exact ⟨rfl, Nat.le_of_ble_eq_true rfl⟩ | exact Nat.le_of_ble_eq_true rfl | (refine ⟨rfl, rfl, ?_⟩; simp [isFar, ofV0, CV.up, SV.renL, SV.ren] <;> fail) | (refine ⟨rfl, Nat.le_of_ble_eq_true rfl, ?_⟩; simp [isFar, ofV0, CV.up, SV.renL, SV.ren] <;> fail) | (simp only [List.length_append, List.length_drop, List.length_take, List.length_replicate, List.length_map]; omega) | (simp <;> fail))); conv => whnf) | (refine ⟨_, rfl, ?_⟩; conv => whnf)))
  refine loop_rule (fun i : Nat => ⟨[.any, .any, .sl 1 8 (ks vs) f', .any, .any, .any, .any, .any, .any, .any, .any, .any, .sl 1 8 (ks xs) (!(Nat.beq 64 0)), .any, .any, .any, .any, .any, .any, .any, .any, .any, .own 0, .int .i64 (i : Int), .any, .any, .any, .any, .any, .any, .any, .any, .any, .any, .any, .any, .any, .any, .any, .any, .any, .any, .any, .any, .any, .any, .any, .any, .any, .any, .any, .any, .any, .any, .any, .any, .any, .any, .any, .any, .any, .any, .any, .any, .any, .any, .any, .any, .any, .any, .any, .any, .any, .any, .any, .any, .any, .any, .any, .any, .any, .any, .any, .any, .any, .any, .any, .any, .any, .any, .any, .any, .any, .any, .any, .any, .any, .any, .any, .any, .any, .any, .any, .any, .any, .any, .any, .any, .any, .any, .any, .any, .any, .any, .any, .any, .any, .any, .any, .any, .any, .any, .any, .any, .any, .any, .any, .any, .any, .any, .any, .any, .any, .any, .any, .any, .any, .any, .any, .any, .any, .any, .any, .any, .any, .any, .any, .any, .any, .any, .any, .any, .any, .any, .any, .any, .any, .any, .any, .any, .any, .any, .any, .any, .any, .any, .any, .any, .any, .any, .any, .any, .any, .any, .any, .any, .any, .any, .any, .any, .any, .any, .any, .any, .any, .any, .any, .any, .any, .any, .any, .any, .any, .any, .any, .any, .any, .any, .any, .any, .any, .any, .any, .any, .any, .any, .any, .any, .any, .any, .any, .any, .any, .any, .any, .any, .any, .any, .any, .any, .any, .any, .any, .any, .any, .any, .any, .any, .any, .any, .any], [.own 101 1 i (ks (m.take i)) true]⟩) (fun i => i ≤ 8) (fun i => 8 - i) 0 (Nat.zero_le _) ((Weak.ownNilT 22 101 1 rfl).trans (Weak.auto ?_)) ?_
  · (repeat' ((conv => whnf); first | exact True.intro | (refine And.intro ?_ ?_)))
    all_goals first | rfl | exact .eq rfl
  intro i hi
  (refine sx_sound Γok _ ?_; conv => whnf)
  (repeat (first | (exact Out.same; conv => whnf) | (exact Out1.same; conv => whnf) | (refine QAnd.mk ?_ ?_; conv => whnf) | (apply QStepH.go; conv => whnf) | (refine Both.lit_true ?_; conv => whnf) | (refine Both.lit_false ?_; conv => whnf) | (apply QStep.go; conv => whnf) | (refine Need.mk ?_ ?_; (focus (first | omega | exact ⟨by omega, by omega⟩ | rfl | exact ⟨rfl, rfl⟩ | exact ⟨rfl, by omega, by omega⟩ | exact ⟨by omega, by omega, by omega⟩ | exact ⟨rfl, Nat.le_of_ble_eq_true rfl⟩ | exact Nat.le_of_ble_eq_true rfl | (refine ⟨rfl, rfl, ?_⟩; simp [isFar, ofV0, CV.up, SV.renL, SV.ren] <;> fail) | (refine ⟨rfl, Nat.le_of_ble_eq_true rfl, ?_⟩; simp [isFar, ofV0, CV.up, SV.renL, SV.ren] <;> fail) | (simp only [List.length_append, List.length_drop, List.length_take, List.length_replicate, List.length_map]; omega) | (simp <;> fail))); conv => whnf) | (refine ⟨_, rfl, ?_⟩; conv => whnf)))
  refine Both.dec (fun hlt => ?_) (fun hge => ?_)
  · have hi8 : i < 8 := by omega
    have hwr : IntKind.i64.wrap ((i : Int) + 1) = ((i + 1 : Nat) : Int) := by rw [wrap_i64 (by omega) (by omega)]; rfl
    have hv1 := ks_at (l := vs) (k := i) (by omega)
    have hx1 := ks_at (l := xs) (k := i) (by omega)
    have hs1 := hsum i hi8
    have htk := take_one m 0 (k := i) (by omega)
    have hobj : LObj.own 101 1 (i + 1) (ks (m.take i) ++ [CV.int .u32 (IntKind.u32.wrap (u32 (vs.getD i 0) + u32 (xs.getD i 0)))]) true = LObj.own 101 1 (i + 1) (ks (m.take (i + 1))) true := by
      rw [hs1, htk, ← ks_app]
      rfl
    have hap : (i + 1) * ti101.bytes ≤ 140737488355328 := by
      have : ti101.bytes = 4 := rfl
      rw [this]
      omega
    clear htk hsum hs1
    (conv => whnf)
    (refine DrawVC.any Γok (by kernel_rfl) (by kernel_rfl) (by kernel_rfl) (by rfl) ?_; conv => whnf)
    (repeat (first | (refine ⟨_, hv1, ?_⟩; conv => whnf) | (refine ⟨_, hx1, ?_⟩; conv => whnf) | (refine Need.mk hap ?_; conv => whnf) | (exact Out.same; conv => whnf) | (exact Out1.same; conv => whnf) | (refine QAnd.mk ?_ ?_; conv => whnf) | (apply QStepH.go; conv => whnf) | (refine Both.lit_true ?_; conv => whnf) | (refine Both.lit_false ?_; conv => whnf) | (apply QStep.go; conv => whnf) | (refine Need.mk ?_ ?_; (focus (first | omega | exact ⟨by omega, by omega⟩ | rfl | exact ⟨rfl, rfl⟩ | exact ⟨rfl, by omega, by omega⟩ | exact ⟨by omega, by omega, by omega⟩ | exact ⟨rfl, Nat.le_of_ble_eq_true rfl⟩ | exact Nat.le_of_ble_eq_true rfl | (refine ⟨rfl, rfl, ?_⟩; simp [isFar, ofV0, CV.up, SV.renL, SV.ren] <;> fail) | (refine ⟨rfl, Nat.le_of_ble_eq_true rfl, ?_⟩; simp [isFar, ofV0, CV.up, SV.renL, SV.ren] <;> fail) | (simp only [List.length_append, List.length_drop, List.length_take, List.length_replicate, List.length_map]; omega) | (simp <;> fail))); conv => whnf) | (refine ⟨_, rfl, ?_⟩; conv => whnf)))
    refine ⟨i + 1, by omega, by omega, Weak.auto ?_⟩
    (repeat' ((conv => whnf); first | exact True.intro | (refine And.intro ?_ ?_)))
    all_goals first | exact hobj | rfl | exact .eq rfl | exact congrArg (SV.int .i64) hwr
  have hie : i = 8 := by omega
  subst hie
  rw [List.take_of_length_le (by omega)]
  (conv => whnf)
  (repeat (first | (exact Out.same; conv => whnf) | (exact Out1.same; conv => whnf) | (refine QAnd.mk ?_ ?_; conv => whnf) | (apply QStepH.go; conv => whnf) | (refine Both.lit_true ?_; conv => whnf) | (refine Both.lit_false ?_; conv => whnf) | (apply QStep.go; conv => whnf) | (refine Need.mk ?_ ?_; (focus (first | omega | exact ⟨by omega, by omega⟩ | rfl | exact ⟨rfl, rfl⟩ | exact ⟨rfl, by omega, by omega⟩ | exact ⟨by omega, by omega, by omega⟩ | exact ⟨rfl, Nat.le_of_ble_eq_true rfl⟩ | exact Nat.le_of_ble_eq_true rfl | (refine ⟨rfl, rfl, ?_⟩; simp [isFar, ofV0, CV.up, SV.renL, SV.ren] <;> fail) | (refine ⟨rfl, Nat.le_of_ble_eq_true rfl, ?_⟩; simp [isFar, ofV0, CV.up, SV.renL, SV.ren] <;> fail) | (simp only [List.length_append, List.length_drop, List.length_take, List.length_replicate, List.length_map]; omega) | (simp <;> fail))); conv => whnf) | (refine ⟨_, rfl, ?_⟩; conv => whnf)))
  refine ⟨_, _, WeakV.auto ?_, h⟩
  (repeat' ((conv => whnf); first | exact True.intro | (refine And.intro ?_ ?_)))
  all_goals first | rfl | exact .eq rfl
theorem rblk_k : Contract Tryd.prog [] 116 rblkS := ⟨⟨⟨_, rfl, rfl, rfl⟩⟩, rblk_c⟩
end Go.LX
end
section
set_option maxRecDepth 100000
set_option maxHeartbeats 1000000
set_option autoImplicit false
set_option linter.unusedVariables false
set_option linter.unusedSimpArgs false
namespace Go.LX
open Go.Proofs

/-! ## The document's Pad -/
def stp (N : Nat) : Nat → List UInt8
  | 0 => List.replicate 8 0
  | j + 1 => (stp N j).set (7 - j) (UInt8.ofNat (N / 256 ^ j))
theorem stp_len (N : Nat) : ∀ j, (stp N j).length = 8
  | 0 => rfl
  | j + 1 => by rw [stp, List.length_set, stp_len N j]
theorem stp_end (N : Nat) : stp N 8 = beL N 8 := by
  simp [stp, beL, List.range_succ, List.replicate]
theorem pad_len (n : Nat) : (pad n).length = 1 + (119 - n % 64) % 64 + 8 := by
  unfold pad
  rw [List.length_append, List.length_append, List.length_replicate, beL_len]
  rfl
def padS : Spec := fun args H Q => match args, H with
  | [.str s], [] => Need (s.length < 1000000) (Q (.str (s ++ pad s.length)) [])
  | _, _ => False
theorem zer_bys (n : Nat) : zerosOf 1 n [CV.int .u8 0] = bys (List.replicate n 0) := by
  unfold zerosOf bys
  rw [List.map_replicate]
  rfl
theorem bys_back (l : List UInt8) : (bys l).map cvByte = l := by
  rw [bys, List.map_map]
  refine (List.map_congr_left (g := id) fun b _ => ?_).trans (List.map_id _)
  show UInt8.ofNat ((b.toNat : Int)).toNat = b
  rw [Int.toNat_natCast, UInt8.ofNat_toNat]
theorem pad_c : Meets Tryd.prog [] 115 padS := by
  refine meets_of Γok Tryd.func115 rfl ?_
  intro args H Q h
  unfold padS at h
  split at h
  case h_2 => exact h.elim
  rename_i s
  obtain ⟨hs, h⟩ := h
  obtain ⟨N, hN⟩ : ∃ N, s.length * 8 = N := ⟨_, rfl⟩
  obtain ⟨z, hz⟩ : ∃ z, (119 - s.length % 64) % 64 = z := ⟨_, rfl⟩
  have hNv : IntKind.u64.wrap (IntKind.u64.wrap ((s.length : Nat) : Int) * 8) = (N : Int) := by
    rw [wrap_u64 (n := ((s.length : Nat) : Int)) (by omega) (by omega), wrap_u64 (by omega) (by omega)]
    omega
  have hp : s ++ pad s.length = ((s ++ [128]) ++ List.replicate z 0) ++ beL N 8 := by
    unfold pad
    rw [hz, hN]
    simp
  rw [hp] at h
  clear hp
  have hu1 : ∀ b : UInt8, [CV.int .u8 (b.toNat : Int)].length = 1 ∧ ∀ x, x ∈ [CV.int .u8 (b.toNat : Int)] → isU8 x = true := fun b => ⟨rfl, fun x hx => by rw [List.mem_singleton.1 hx]; rfl⟩
  have e128 : List.map cvByte [CV.int .u8 128] = [128] := rfl
  have e0 : List.map cvByte [CV.int .u8 0] = [0] := rfl
  have hl1 : s.length + (List.map cvByte [CV.int .u8 128]).length ≤ 9223372036854775807 := by rw [e128]; show s.length + 1 ≤ _; omega
  (refine sx_sound Γok _ ?_; conv => whnf)
  (repeat (first | (refine Need.mk (hu1 128) ?_; conv => whnf) | (refine Need.mk hl1 ?_; conv => whnf) | (exact Out.same; conv => whnf) | (exact Out1.same; conv => whnf) | (refine QAnd.mk ?_ ?_; conv => whnf) | (apply QStepH.go; conv => whnf) | (refine Both.lit_true ?_; conv => whnf) | (refine Both.lit_false ?_; conv => whnf) | (apply QStep.go; conv => whnf) | (refine Need.mk ?_ ?_; (focus (first | omega | exact ⟨by omega, by omega⟩ | rfl | exact ⟨rfl, rfl⟩ | exact ⟨rfl, by omega, by omega⟩ | exact ⟨by omega, by omega, by omega⟩ | exact ⟨rfl, Nat.le_of_ble_eq_true rfl⟩ | exact Nat.le_of_ble_eq_true rfl | (refine ⟨rfl, rfl, ?_⟩; simp [isFar, ofV0, CV.up, SV.renL, SV.ren] <;> fail) | (refine ⟨rfl, Nat.le_of_ble_eq_true rfl, ?_⟩; simp [isFar, ofV0, CV.up, SV.renL, SV.ren] <;> fail) | (simp only [List.length_append, List.length_drop, List.length_take, List.length_replicate, List.length_map]; omega) | (simp <;> fail))); conv => whnf) | (refine ⟨_, rfl, ?_⟩; conv => whnf)))
  rw [hNv, e128]
  refine loop_rule (fun j : Nat => ⟨[.str ((s ++ [128]) ++ List.replicate j 0), .any, .any, .int .u64 (N : Int), .any, .any, .any, .any, .any, .any, .any, .any, .any, .any, .any, .any, .any, .any, .any, .any, .any, .any, .any, .any, .any, .any, .any, .any, .any, .any, .any, .any, .any, .any, .any, .any, .any, .any, .any], []⟩) (fun j => j ≤ z) (fun j => z - j) 0 (Nat.zero_le _) (Weak.auto ?_) ?_
  · have h0 : SV.str (s ++ [128]) = SV.str ((s ++ [128]) ++ List.replicate 0 0) := by rw [List.replicate_zero, List.append_nil]
    (repeat' ((conv => whnf); first | exact True.intro | (refine And.intro ?_ ?_)))
    all_goals first | exact h0 | rfl | exact .eq rfl
  intro j hj
  have hlen : ((s ++ [128]) ++ List.replicate j (0 : UInt8)).length = s.length + 1 + j := by
    rw [List.length_append, List.length_append, List.length_replicate]
    rfl
  have hnx : ((s ++ [128]) ++ List.replicate j (0 : UInt8)) ++ [0] = (s ++ [128]) ++ List.replicate (j + 1) 0 := by
    rw [List.append_assoc, ← List.replicate_succ']
  have hse : j = z → ((s ++ [128]) ++ List.replicate j (0 : UInt8)) = ((s ++ [128]) ++ List.replicate z (0 : UInt8)) := fun h => by rw [h]
  revert hlen hnx hse
  generalize hq : (s ++ [128]) ++ List.replicate j (0 : UInt8) = q
  generalize hq1 : (s ++ [128]) ++ List.replicate (j + 1) (0 : UInt8) = q1
  intro hlen hnx hse
  have hmod : ((q.length : Nat) : Int).tmod 64 = (((s.length + 1 + j) % 64 : Nat) : Int) := by rw [hlen]; rfl
  (refine sx_sound Γok _ ?_; conv => whnf)
  (repeat (first | (exact Out.same; conv => whnf) | (exact Out1.same; conv => whnf) | (refine QAnd.mk ?_ ?_; conv => whnf) | (apply QStepH.go; conv => whnf) | (refine Both.lit_true ?_; conv => whnf) | (refine Both.lit_false ?_; conv => whnf) | (apply QStep.go; conv => whnf) | (refine Need.mk ?_ ?_; (focus (first | omega | exact ⟨by omega, by omega⟩ | rfl | exact ⟨rfl, rfl⟩ | exact ⟨rfl, by omega, by omega⟩ | exact ⟨by omega, by omega, by omega⟩ | exact ⟨rfl, Nat.le_of_ble_eq_true rfl⟩ | exact Nat.le_of_ble_eq_true rfl | (refine ⟨rfl, rfl, ?_⟩; simp [isFar, ofV0, CV.up, SV.renL, SV.ren] <;> fail) | (refine ⟨rfl, Nat.le_of_ble_eq_true rfl, ?_⟩; simp [isFar, ofV0, CV.up, SV.renL, SV.ren] <;> fail) | (simp only [List.length_append, List.length_drop, List.length_take, List.length_replicate, List.length_map]; omega) | (simp <;> fail))); conv => whnf) | (refine ⟨_, rfl, ?_⟩; conv => whnf)))
  rw [hmod]
  refine Both.dec_not (fun hne => ?_) (fun heq => ?_)
  · have hjz : j < z := by
      rcases Nat.lt_or_ge j z with h1 | h1
      · exact h1
      · exfalso
        have : j = z := by omega
        subst this
        omega
    have hl2 : q.length + (List.map cvByte [CV.int .u8 0]).length ≤ 9223372036854775807 := by rw [e0, hlen]; show _ + 1 ≤ _; omega
    have hst : SV.str (q ++ List.map cvByte [CV.int .u8 0]) = SV.str ((s ++ [128]) ++ List.replicate (j + 1) 0) := by rw [e0, hnx, hq1]
    (conv => whnf)
    (repeat (first | (refine Need.mk (hu1 0) ?_; conv => whnf) | (refine Need.mk hl2 ?_; conv => whnf) | (exact Out.same; conv => whnf) | (exact Out1.same; conv => whnf) | (refine QAnd.mk ?_ ?_; conv => whnf) | (apply QStepH.go; conv => whnf) | (refine Both.lit_true ?_; conv => whnf) | (refine Both.lit_false ?_; conv => whnf) | (apply QStep.go; conv => whnf) | (refine Need.mk ?_ ?_; (focus (first | omega | exact ⟨by omega, by omega⟩ | rfl | exact ⟨rfl, rfl⟩ | exact ⟨rfl, by omega, by omega⟩ | exact ⟨by omega, by omega, by omega⟩ | exact ⟨rfl, Nat.le_of_ble_eq_true rfl⟩ | exact Nat.le_of_ble_eq_true rfl | (refine ⟨rfl, rfl, ?_⟩; simp [isFar, ofV0, CV.up, SV.renL, SV.ren] <;> fail) | (refine ⟨rfl, Nat.le_of_ble_eq_true rfl, ?_⟩; simp [isFar, ofV0, CV.up, SV.renL, SV.ren] <;> fail) | (simp only [List.length_append, List.length_drop, List.length_take, List.length_replicate, List.length_map]; omega) | (simp <;> fail))); conv => whnf) | (refine ⟨_, rfl, ?_⟩; conv => whnf)))
    refine ⟨j + 1, by omega, by omega, Weak.auto ?_⟩
    (repeat' ((conv => whnf); first | exact True.intro | (refine And.intro ?_ ?_)))
    all_goals first | exact hst | rfl | exact .eq rfl
  have hjz : j = z := by
    rcases Nat.lt_or_ge j z with h1 | h1
    · exfalso
      omega
    · omega
  rw [← hse hjz] at h
  clear hse hnx hmod hq hq1
  have hobj0 : LObj.own 5 ti5.size (8 : Int).toNat (zerosOf ti5.size (8 : Int).toNat [CV.int .u8 0]) true = LObj.own 5 1 8 (bys (stp N 0)) true := by
    rw [show ti5.size = 1 from rfl, zer_bys]
    rfl
  have hmk : (8 : Int) = 8 ∧ (0 : Int) ≤ 8 ∧ (ti5.bytes : Int) * 8 ≤ 140737488355328 ∧ (8 : Int) ≤ 140737488355328 := by decide
  (conv => whnf)
  (repeat (first | (refine Need.mk hmk ?_; conv => whnf) | (exact Out.same; conv => whnf) | (exact Out1.same; conv => whnf) | (refine QAnd.mk ?_ ?_; conv => whnf) | (apply QStepH.go; conv => whnf) | (refine Both.lit_true ?_; conv => whnf) | (refine Both.lit_false ?_; conv => whnf) | (apply QStep.go; conv => whnf) | (refine Need.mk ?_ ?_; (focus (first | omega | exact ⟨by omega, by omega⟩ | rfl | exact ⟨rfl, rfl⟩ | exact ⟨rfl, by omega, by omega⟩ | exact ⟨by omega, by omega, by omega⟩ | exact ⟨rfl, Nat.le_of_ble_eq_true rfl⟩ | exact Nat.le_of_ble_eq_true rfl | (refine ⟨rfl, rfl, ?_⟩; simp [isFar, ofV0, CV.up, SV.renL, SV.ren] <;> fail) | (refine ⟨rfl, Nat.le_of_ble_eq_true rfl, ?_⟩; simp [isFar, ofV0, CV.up, SV.renL, SV.ren] <;> fail) | (simp only [List.length_append, List.length_drop, List.length_take, List.length_replicate, List.length_map]; omega) | (simp <;> fail))); conv => whnf) | (refine ⟨_, rfl, ?_⟩; conv => whnf)))
  refine loop_rule (fun j : Nat => ⟨[.str q, .any, .any, .int .u64 ((N / 256 ^ j : Nat) : Int), .own 0, .int .i64 (7 - (j : Int)), .any, .any, .any, .any, .any, .any, .any, .any, .any, .any, .any, .any, .any, .any, .any, .any, .any, .any, .any, .any, .any, .any, .any, .any, .any, .any, .any, .any, .any, .any, .any, .any, .any], [.own 5 1 8 (bys (stp N j)) true]⟩) (fun j => j ≤ 8) (fun j => 8 - j) 0 (Nat.zero_le _) (Weak.auto ?_) ?_
  · have h0 : SV.int .u64 ((N : Nat) : Int) = SV.int .u64 ((N / 256 ^ 0 : Nat) : Int) := by rw [Nat.pow_zero, Nat.div_one]
    (repeat' ((conv => whnf); first | exact True.intro | (refine And.intro ?_ ?_)))
    all_goals first | exact hobj0 | exact h0 | rfl | exact .eq rfl
  clear hobj0 hmk
  intro k hk
  have hsl := stp_len N k
  have hsn : stp N (k + 1) = (stp N k).set (7 - k) (UInt8.ofNat (N / 256 ^ k)) := rfl
  have hdiv : N / 256 ^ (k + 1) = N / 256 ^ k / 256 := by rw [Nat.pow_succ, Nat.div_div_eq_div_mul]
  have hbd : N / 256 ^ k < 18446744073709551616 := Nat.lt_of_le_of_lt (Nat.div_le_self _ _) (by omega)
  have hend : k = 8 → stp N k = beL N 8 := fun h => by rw [h]; exact stp_end N
  revert hsn hsl hdiv hbd hend
  generalize hM : N / 256 ^ k = M
  generalize hM1 : N / 256 ^ (k + 1) = M1
  generalize hl : stp N k = l
  generalize hl' : stp N (k + 1) = l1
  intro hsl hsn hdiv hbd hend
  (refine sx_sound Γok _ ?_; conv => whnf)
  (repeat (first | (exact Out.same; conv => whnf) | (exact Out1.same; conv => whnf) | (refine QAnd.mk ?_ ?_; conv => whnf) | (apply QStepH.go; conv => whnf) | (refine Both.lit_true ?_; conv => whnf) | (refine Both.lit_false ?_; conv => whnf) | (apply QStep.go; conv => whnf) | (refine Need.mk ?_ ?_; (focus (first | omega | exact ⟨by omega, by omega⟩ | rfl | exact ⟨rfl, rfl⟩ | exact ⟨rfl, by omega, by omega⟩ | exact ⟨by omega, by omega, by omega⟩ | exact ⟨rfl, Nat.le_of_ble_eq_true rfl⟩ | exact Nat.le_of_ble_eq_true rfl | (refine ⟨rfl, rfl, ?_⟩; simp [isFar, ofV0, CV.up, SV.renL, SV.ren] <;> fail) | (refine ⟨rfl, Nat.le_of_ble_eq_true rfl, ?_⟩; simp [isFar, ofV0, CV.up, SV.renL, SV.ren] <;> fail) | (simp only [List.length_append, List.length_drop, List.length_take, List.length_replicate, List.length_map]; omega) | (simp <;> fail))); conv => whnf) | (refine ⟨_, rfl, ?_⟩; conv => whnf)))
  refine Both.dec (fun hlt => ?_) (fun hge => ?_)
  · have hk8 : k < 8 := by omega
    have hix : ((7 : Int) - (k : Int)).toNat = 7 - k := by omega
    have hby : IntKind.u8.wrap ((M : Int).tmod 256) = ((UInt8.ofNat M).toNat : Int) := by
      rw [show (M : Int).tmod 256 = ((M % 256 : Nat) : Int) from rfl, wrap_u8_mod]
      simp
    have hst : ti5.size = 1 ∧ ((7 : Int) - (k : Int)).toNat < (bys l).length := ⟨rfl, by rw [hix, bys, List.length_map, hsl]; omega⟩
    have hin : ti5.size = ti5.size ∧ 0 ≤ (7 : Int) - (k : Int) ∧ (7 : Int) - (k : Int) < ((8 : Nat) : Int) := ⟨rfl, by omega, by omega⟩
    have hobj : LObj.own 5 1 8 ((bys l).set ((7 : Int) - (k : Int)).toNat (CV.int .u8 (IntKind.u8.wrap ((M : Int).tmod 256)))) true = LObj.own 5 1 8 (bys (stp N (k + 1))) true := by
      rw [hby, hix, hl', hsn, bys, bys, List.map_set]
    have hdv : IntKind.u64.wrap ((M : Int).tdiv 256) = ((N / 256 ^ (k + 1) : Nat) : Int) := by
      rw [show (M : Int).tdiv 256 = ((M / 256 : Nat) : Int) from rfl, wrap_u64 (by omega) (by omega), hM1, hdiv]
    have hw7 : IntKind.i64.wrap (7 - (k : Int) - 1) = 7 - ((k + 1 : Nat) : Int) := by rw [wrap_i64 (by omega) (by omega)]; omega
    (conv => whnf)
    (repeat (first | (refine Need.mk hin ?_; conv => whnf) | (refine Need.mk hst ?_; conv => whnf) | (exact Out.same; conv => whnf) | (exact Out1.same; conv => whnf) | (refine QAnd.mk ?_ ?_; conv => whnf) | (apply QStepH.go; conv => whnf) | (refine Both.lit_true ?_; conv => whnf) | (refine Both.lit_false ?_; conv => whnf) | (apply QStep.go; conv => whnf) | (refine Need.mk ?_ ?_; (focus (first | omega | exact ⟨by omega, by omega⟩ | rfl | exact ⟨rfl, rfl⟩ | exact ⟨rfl, by omega, by omega⟩ | exact ⟨by omega, by omega, by omega⟩ | exact ⟨rfl, Nat.le_of_ble_eq_true rfl⟩ | exact Nat.le_of_ble_eq_true rfl | (refine ⟨rfl, rfl, ?_⟩; simp [isFar, ofV0, CV.up, SV.renL, SV.ren] <;> fail) | (refine ⟨rfl, Nat.le_of_ble_eq_true rfl, ?_⟩; simp [isFar, ofV0, CV.up, SV.renL, SV.ren] <;> fail) | (simp only [List.length_append, List.length_drop, List.length_take, List.length_replicate, List.length_map]; omega) | (simp <;> fail))); conv => whnf) | (refine ⟨_, rfl, ?_⟩; conv => whnf)))
    refine ⟨k + 1, by omega, by omega, Weak.auto ?_⟩
    (repeat' ((conv => whnf); first | exact True.intro | (refine And.intro ?_ ?_)))
    all_goals first | exact hobj | rfl | exact .eq rfl | exact congrArg (SV.int .u64) hdv | exact congrArg (SV.int .i64) hw7
  have hk8 : k = 8 := by omega
  have hlb : l = beL N 8 := hend hk8
  rw [← hlb] at h
  have hln : l.length = 8 := hsl
  have hu : (bys l).length = 8 ∧ ∀ x, x ∈ bys l → isU8 x = true := ⟨by rw [bys, List.length_map, hln], fun x hx => by
    obtain ⟨b, _, rfl⟩ := List.mem_map.1 hx
    rfl⟩
  have hbk : (bys l).map cvByte = l := bys_back l
  have hl3 : q.length + ((bys l).map cvByte).length ≤ 9223372036854775807 := by rw [hbk, hln, hlen]; omega
  (conv => whnf)
  (repeat (first | (refine Need.mk hu ?_; conv => whnf) | (refine Need.mk hl3 ?_; conv => whnf) | (exact Out.same; conv => whnf) | (exact Out1.same; conv => whnf) | (refine QAnd.mk ?_ ?_; conv => whnf) | (apply QStepH.go; conv => whnf) | (refine Both.lit_true ?_; conv => whnf) | (refine Both.lit_false ?_; conv => whnf) | (apply QStep.go; conv => whnf) | (refine Need.mk ?_ ?_; (focus (first | omega | exact ⟨by omega, by omega⟩ | rfl | exact ⟨rfl, rfl⟩ | exact ⟨rfl, by omega, by omega⟩ | exact ⟨by omega, by omega, by omega⟩ | exact ⟨rfl, Nat.le_of_ble_eq_true rfl⟩ | exact Nat.le_of_ble_eq_true rfl | (refine ⟨rfl, rfl, ?_⟩; simp [isFar, ofV0, CV.up, SV.renL, SV.ren] <;> fail) | (refine ⟨rfl, Nat.le_of_ble_eq_true rfl, ?_⟩; simp [isFar, ofV0, CV.up, SV.renL, SV.ren] <;> fail) | (simp only [List.length_append, List.length_drop, List.length_take, List.length_replicate, List.length_map]; omega) | (simp <;> fail))); conv => whnf) | (refine ⟨_, rfl, ?_⟩; conv => whnf)))
  rw [hbk]
  exact ⟨_, _, WeakV.drop rfl, h⟩
theorem rpad_k : Contract Tryd.prog [] 115 padS := ⟨⟨⟨_, rfl, rfl, rfl⟩⟩, pad_c⟩
end Go.LX
end
section
set_option maxRecDepth 100000
set_option maxHeartbeats 1000000
set_option autoImplicit false
set_option linter.unusedVariables false
set_option linter.unusedSimpArgs false
namespace Go.LX
open Go.Proofs

/-! ## The document's digest -/
theorem absorb_rest : ∀ (k : Nat) (v : St) (r : List UInt8), (absorb k v r).2 = r.drop (64 * k)
  | 0, v, r => rfl
  | k + 1, v, r => by rw [absorb, absorb_rest k, List.drop_drop]; congr 1; omega
theorem absorb_next (k : Nat) (v : St) (r : List UInt8) : (absorb (k + 1) v r).1 = (absorb k v r).1.mix ((r.drop (64 * k)).take 64) := by
  rw [absorb_add k 1, absorb, absorb_rest]
  rfl
theorem scut_go (p : List UInt8) (k : Nat) : List.drop ((64 * k : Nat) : Int).toNat (List.take ((64 * k + 64 : Nat) : Int).toNat p) = (p.drop (64 * k)).take 64 := by
  rw [Int.toNat_natCast, Int.toNat_natCast, List.drop_take]
  congr 1
  omega
theorem padded (s : List UInt8) : (s ++ pad s.length).length % 64 = 0 := by
  rw [List.length_append, pad_len]
  omega
def rdigS : Spec := fun args H Q => match args, H with
  | [.ptr 0 0, .str s], [.cells [.sl 1 64 ka fa, .sl 1 8 kb fb, .mp 1, .bool cl] 59, .map kd es] => ka = ks kT ∧ kb = ks hT ∧ s.length < 900000 ∧ Q (.str (shaD s)) [.cells [.sl 1 64 ka fa, .sl 1 8 kb fb, .mp 1, .bool cl] 59, .map kd es]
  | _, _ => False
theorem rdig_c : Meets Tryd.prog [] 107 rdigS := by
  refine meets_of Γok Tryd.func107 rfl ?_
  intro args H Q h
  unfold rdigS at h
  split at h
  case h_2 => exact h.elim
  rename_i s ka fa kb fb cl kd es
  obtain ⟨rfl, rfl, hs, h⟩ := h
  rw [shaD_eq] at h
  have hpl := padded s
  have hpl2 : (s ++ pad s.length).length < 1000000 := by rw [List.length_append, pad_len]; omega
  have hput : St.init.put (s ++ pad s.length) = absorb ((s ++ pad s.length).length / 64) St.init (s ++ pad s.length) := rfl
  rw [hput] at h
  revert h hpl hpl2
  generalize hp : s ++ pad s.length = p
  intro h hpl hpl2
  clear hput
  generalize hK : kT = K at h ⊢
  have h0 : ks hT = ks (absorb 0 St.init p).1.ws := rfl
  generalize hH : ks hT = cH at h h0 ⊢
  (refine sx_sound Γok _ ?_; conv => whnf)
  (repeat (first | (refine CallVC.auto rpad_k (Need.mk (by omega) ?_); conv => whnf) | (exact Out.same; conv => whnf) | (exact Out1.same; conv => whnf) | (refine QAnd.mk ?_ ?_; conv => whnf) | (apply QStepH.go; conv => whnf) | (refine Both.lit_true ?_; conv => whnf) | (refine Both.lit_false ?_; conv => whnf) | (apply QStep.go; conv => whnf) | (refine Need.mk ?_ ?_; (focus (first | omega | exact ⟨by omega, by omega⟩ | rfl | exact ⟨rfl, rfl⟩ | exact ⟨rfl, by omega, by omega⟩ | exact ⟨by omega, by omega, by omega⟩ | exact ⟨rfl, Nat.le_of_ble_eq_true rfl⟩ | exact Nat.le_of_ble_eq_true rfl | (refine ⟨rfl, rfl, ?_⟩; simp [isFar, ofV0, CV.up, SV.renL, SV.ren] <;> fail) | (refine ⟨rfl, Nat.le_of_ble_eq_true rfl, ?_⟩; simp [isFar, ofV0, CV.up, SV.renL, SV.ren] <;> fail) | (simp only [List.length_append, List.length_drop, List.length_take, List.length_replicate, List.length_map]; omega) | (simp <;> fail))); conv => whnf) | (refine ⟨_, rfl, ?_⟩; conv => whnf)))
  rw [hp]
  (conv => whnf)
  (repeat (first | (exact Out.same; conv => whnf) | (exact Out1.same; conv => whnf) | (refine QAnd.mk ?_ ?_; conv => whnf) | (apply QStepH.go; conv => whnf) | (refine Both.lit_true ?_; conv => whnf) | (refine Both.lit_false ?_; conv => whnf) | (apply QStep.go; conv => whnf) | (refine Need.mk ?_ ?_; (focus (first | omega | exact ⟨by omega, by omega⟩ | rfl | exact ⟨rfl, rfl⟩ | exact ⟨rfl, by omega, by omega⟩ | exact ⟨by omega, by omega, by omega⟩ | exact ⟨rfl, Nat.le_of_ble_eq_true rfl⟩ | exact Nat.le_of_ble_eq_true rfl | (refine ⟨rfl, rfl, ?_⟩; simp [isFar, ofV0, CV.up, SV.renL, SV.ren] <;> fail) | (refine ⟨rfl, Nat.le_of_ble_eq_true rfl, ?_⟩; simp [isFar, ofV0, CV.up, SV.renL, SV.ren] <;> fail) | (simp only [List.length_append, List.length_drop, List.length_take, List.length_replicate, List.length_map]; omega) | (simp <;> fail))); conv => whnf) | (refine ⟨_, rfl, ?_⟩; conv => whnf)))
  refine loop_rule (fun k : Nat => ⟨[.ptr 0 0, .any, .any, .any, .any, .str p, .sl 1 8 (ks (absorb k St.init p).1.ws) (Nat.beq k 0 && fb), .int .i64 ((64 * k : Nat) : Int), .any, .any, .any, .any, .any, .any, .any, .any, .any, .any, .any, .any, .any, .any, .any, .any, .any, .any, .any, .any, .any, .any, .any, .any, .any, .any, .any, .any, .any, .any, .any, .any, .any, .any, .any, .any, .any, .any, .any, .any, .any, .any, .any, .any, .any, .any, .any, .any, .any, .any, .any, .any, .any, .any, .any, .any, .any], [.cells [.sl 1 64 (ks K) fa, .sl 1 8 cH fb, .mp 1, .bool cl] 59, .map kd es]⟩) (fun k => k ≤ p.length / 64) (fun k => p.length / 64 - k) 0 (Nat.zero_le _) (Weak.auto ?_) ?_
  · have h1 : SV.sl 1 8 cH fb = SV.sl 1 8 (ks (absorb 0 St.init p).1.ws) (Nat.beq 0 0 && fb) := by rw [h0]; rfl
    (repeat' ((conv => whnf); first | exact True.intro | (refine And.intro ?_ ?_)))
    all_goals first | exact h1 | rfl | exact .eq rfl
  clear h0
  intro k hk
  have hnx := absorb_next k St.init p
  have hend : k = p.length / 64 → (absorb (p.length / 64) St.init p).1 = (absorb k St.init p).1 := fun h => by rw [h]
  revert hnx hend
  generalize (absorb k St.init p).1 = v
  generalize hv1 : (absorb (k + 1) St.init p).1 = v1
  intro hnx hend
  (refine sx_sound Γok _ ?_; conv => whnf)
  (repeat (first | (exact Out.same; conv => whnf) | (exact Out1.same; conv => whnf) | (refine QAnd.mk ?_ ?_; conv => whnf) | (apply QStepH.go; conv => whnf) | (refine Both.lit_true ?_; conv => whnf) | (refine Both.lit_false ?_; conv => whnf) | (apply QStep.go; conv => whnf) | (refine Need.mk ?_ ?_; (focus (first | omega | exact ⟨by omega, by omega⟩ | rfl | exact ⟨rfl, rfl⟩ | exact ⟨rfl, by omega, by omega⟩ | exact ⟨by omega, by omega, by omega⟩ | exact ⟨rfl, Nat.le_of_ble_eq_true rfl⟩ | exact Nat.le_of_ble_eq_true rfl | (refine ⟨rfl, rfl, ?_⟩; simp [isFar, ofV0, CV.up, SV.renL, SV.ren] <;> fail) | (refine ⟨rfl, Nat.le_of_ble_eq_true rfl, ?_⟩; simp [isFar, ofV0, CV.up, SV.renL, SV.ren] <;> fail) | (simp only [List.length_append, List.length_drop, List.length_take, List.length_replicate, List.length_map]; omega) | (simp <;> fail))); conv => whnf) | (refine ⟨_, rfl, ?_⟩; conv => whnf)))
  refine Both.dec (fun hlt => ?_) (fun hge => ?_)
  · have hk1 : 64 * k + 64 ≤ p.length := by omega
    have hw64 : IntKind.i64.wrap (((64 * k : Nat) : Int) + 64) = ((64 * k + 64 : Nat) : Int) := by rw [wrap_i64 (by omega) (by omega)]; rfl
    have hw64' : IntKind.i64.wrap (((64 * k : Nat) : Int) + 64) = ((64 * (k + 1) : Nat) : Int) := by rw [hw64]; rfl
    have hcut : 0 ≤ ((64 * k : Nat) : Int) ∧ ((64 * k : Nat) : Int) ≤ IntKind.i64.wrap (((64 * k : Nat) : Int) + 64) ∧ IntKind.i64.wrap (((64 * k : Nat) : Int) + 64) ≤ ((p.length : Nat) : Int) := by rw [hw64]; omega
    have hcg : List.drop ((64 * k : Nat) : Int).toNat (List.take (IntKind.i64.wrap (((64 * k : Nat) : Int) + 64)).toNat p) = (p.drop (64 * k)).take 64 := by rw [hw64]; exact scut_go p k
    have hcl : (List.drop ((64 * k : Nat) : Int).toNat (List.take (IntKind.i64.wrap (((64 * k : Nat) : Int) + 64)).toNat p)).length = 64 := by rw [hcg, List.length_take, List.length_drop]; omega
    have hmx : v.mix (List.drop ((64 * k : Nat) : Int).toNat (List.take (IntKind.i64.wrap (((64 * k : Nat) : Int) + 64)).toNat p)) = v1 := by rw [hcg, hnx]
    have hkk : ks K = ks kT := by rw [hK]
    have hsv : SV.sl 1 8 (ks v1.ws) false = SV.sl 1 8 (ks (absorb (k + 1) St.init p).1.ws) (Nat.beq (k + 1) 0 && fb) := by rw [hv1]; rfl
    (conv => whnf)
    (refine DrawVC.any Γok (by kernel_rfl) (by kernel_rfl) (by kernel_rfl) (by rfl) ?_; conv => whnf)
    (repeat (first | (refine Need.mk hcut ?_; conv => whnf) | (refine CallVC.auto rblk_k ⟨v, rfl, hcl, hkk, rfl, ?_⟩; conv => whnf) | (exact Out.same; conv => whnf) | (exact Out1.same; conv => whnf) | (refine QAnd.mk ?_ ?_; conv => whnf) | (apply QStepH.go; conv => whnf) | (refine Both.lit_true ?_; conv => whnf) | (refine Both.lit_false ?_; conv => whnf) | (apply QStep.go; conv => whnf) | (refine Need.mk ?_ ?_; (focus (first | omega | exact ⟨by omega, by omega⟩ | rfl | exact ⟨rfl, rfl⟩ | exact ⟨rfl, by omega, by omega⟩ | exact ⟨by omega, by omega, by omega⟩ | exact ⟨rfl, Nat.le_of_ble_eq_true rfl⟩ | exact Nat.le_of_ble_eq_true rfl | (refine ⟨rfl, rfl, ?_⟩; simp [isFar, ofV0, CV.up, SV.renL, SV.ren] <;> fail) | (refine ⟨rfl, Nat.le_of_ble_eq_true rfl, ?_⟩; simp [isFar, ofV0, CV.up, SV.renL, SV.ren] <;> fail) | (simp only [List.length_append, List.length_drop, List.length_take, List.length_replicate, List.length_map]; omega) | (simp <;> fail))); conv => whnf) | (refine ⟨_, rfl, ?_⟩; conv => whnf)))
    rw [hmx]
    (conv => whnf)
    (repeat (first | (exact Out.same; conv => whnf) | (exact Out1.same; conv => whnf) | (refine QAnd.mk ?_ ?_; conv => whnf) | (apply QStepH.go; conv => whnf) | (refine Both.lit_true ?_; conv => whnf) | (refine Both.lit_false ?_; conv => whnf) | (apply QStep.go; conv => whnf) | (refine Need.mk ?_ ?_; (focus (first | omega | exact ⟨by omega, by omega⟩ | rfl | exact ⟨rfl, rfl⟩ | exact ⟨rfl, by omega, by omega⟩ | exact ⟨by omega, by omega, by omega⟩ | exact ⟨rfl, Nat.le_of_ble_eq_true rfl⟩ | exact Nat.le_of_ble_eq_true rfl | (refine ⟨rfl, rfl, ?_⟩; simp [isFar, ofV0, CV.up, SV.renL, SV.ren] <;> fail) | (refine ⟨rfl, Nat.le_of_ble_eq_true rfl, ?_⟩; simp [isFar, ofV0, CV.up, SV.renL, SV.ren] <;> fail) | (simp only [List.length_append, List.length_drop, List.length_take, List.length_replicate, List.length_map]; omega) | (simp <;> fail))); conv => whnf) | (refine ⟨_, rfl, ?_⟩; conv => whnf)))
    refine ⟨k + 1, by omega, by omega, (Weak.pubT 2 rfl).trans (Weak.auto ?_)⟩
    (repeat' ((conv => whnf); first | exact True.intro | (refine And.intro ?_ ?_)))
    all_goals first | exact hsv | rfl | exact .eq rfl | exact congrArg (SV.int .i64) hw64'
  have hke : k = p.length / 64 := by omega
  rw [hend hke] at h
  clear hnx hv1 hend
  have hvl : v.ws.length = 8 := rfl
  have hdt : ∀ m, m < 8 → (v.ws.take (m + 1)).flatMap be4b = (v.ws.take m).flatMap be4b ++ be4b (v.ws.getD m 0) := fun m h => dig_take v h
  have hfl : ∀ l : List W32, (l.flatMap be4b).length = 4 * l.length := fun l => by
    induction l with
    | nil => rfl
    | cons a l ih => rw [List.flatMap_cons, List.length_append, ih]; simp [be4b]; omega
  have hdg : v.dig = (v.ws.take 8).flatMap be4b := rfl
  rw [hdg] at h
  clear hdg
  revert hvl hdt h
  generalize v.ws = ws
  intro h hvl hdt
  (conv => whnf)
  (repeat (first | (exact Out.same; conv => whnf) | (exact Out1.same; conv => whnf) | (refine QAnd.mk ?_ ?_; conv => whnf) | (apply QStepH.go; conv => whnf) | (refine Both.lit_true ?_; conv => whnf) | (refine Both.lit_false ?_; conv => whnf) | (apply QStep.go; conv => whnf) | (refine Need.mk ?_ ?_; (focus (first | omega | exact ⟨by omega, by omega⟩ | rfl | exact ⟨rfl, rfl⟩ | exact ⟨rfl, by omega, by omega⟩ | exact ⟨by omega, by omega, by omega⟩ | exact ⟨rfl, Nat.le_of_ble_eq_true rfl⟩ | exact Nat.le_of_ble_eq_true rfl | (refine ⟨rfl, rfl, ?_⟩; simp [isFar, ofV0, CV.up, SV.renL, SV.ren] <;> fail) | (refine ⟨rfl, Nat.le_of_ble_eq_true rfl, ?_⟩; simp [isFar, ofV0, CV.up, SV.renL, SV.ren] <;> fail) | (simp only [List.length_append, List.length_drop, List.length_take, List.length_replicate, List.length_map]; omega) | (simp <;> fail))); conv => whnf) | (refine ⟨_, rfl, ?_⟩; conv => whnf)))
  refine loop_rule (fun i : Nat => ⟨[.ptr 0 0, .any, .any, .any, .any, .any, .sl 1 8 (ks ws) (Nat.beq k 0 && fb), .any, .own 2, .int .i64 (i : Int), .any, .any, .any, .any, .any, .any, .any, .any, .any, .any, .any, .any, .any, .any, .any, .any, .any, .any, .any, .any, .any, .any, .any, .any, .any, .any, .any, .any, .any, .any, .any, .any, .any, .any, .any, .any, .any, .any, .any, .any, .any, .any, .any, .any, .any, .any, .any, .any, .any, .any, .any, .any, .any, .any, .any], [.cells [.sl 1 64 (ks K) fa, .sl 1 8 cH fb, .mp 1, .bool cl] 59, .map kd es, .own 5 1 (4 * i) (bys ((ws.take i).flatMap be4b)) true]⟩) (fun i => i ≤ 8) (fun i => 8 - i) 0 (Nat.zero_le _) ((Weak.ownNilT 8 5 1 rfl).trans (Weak.auto ?_)) ?_
  · (repeat' ((conv => whnf); first | exact True.intro | (refine And.intro ?_ ?_)))
    all_goals first | rfl | exact .eq rfl
  intro i hi
  have hl4 : ((ws.take i).flatMap be4b).length = 4 * i := by rw [hfl, List.length_take]; omega
  have hend : i = 8 → (ws.take 8).flatMap be4b = (ws.take i).flatMap be4b := fun h => by rw [h]
  have hdt := fun h => hdt i h
  revert hl4 hdt hend
  generalize hl : (ws.take i).flatMap be4b = l
  generalize hl1 : (ws.take (i + 1)).flatMap be4b = l1
  intro hl4 hend hdt
  (refine sx_sound Γok _ ?_; conv => whnf)
  (repeat (first | (exact Out.same; conv => whnf) | (exact Out1.same; conv => whnf) | (refine QAnd.mk ?_ ?_; conv => whnf) | (apply QStepH.go; conv => whnf) | (refine Both.lit_true ?_; conv => whnf) | (refine Both.lit_false ?_; conv => whnf) | (apply QStep.go; conv => whnf) | (refine Need.mk ?_ ?_; (focus (first | omega | exact ⟨by omega, by omega⟩ | rfl | exact ⟨rfl, rfl⟩ | exact ⟨rfl, by omega, by omega⟩ | exact ⟨by omega, by omega, by omega⟩ | exact ⟨rfl, Nat.le_of_ble_eq_true rfl⟩ | exact Nat.le_of_ble_eq_true rfl | (refine ⟨rfl, rfl, ?_⟩; simp [isFar, ofV0, CV.up, SV.renL, SV.ren] <;> fail) | (refine ⟨rfl, Nat.le_of_ble_eq_true rfl, ?_⟩; simp [isFar, ofV0, CV.up, SV.renL, SV.ren] <;> fail) | (simp only [List.length_append, List.length_drop, List.length_take, List.length_replicate, List.length_map]; omega) | (simp <;> fail))); conv => whnf) | (refine ⟨_, rfl, ?_⟩; conv => whnf)))
  refine Both.dec (fun hlt => ?_) (fun hge => ?_)
  · have hi8 : i < 8 := by omega
    have hwr : IntKind.i64.wrap ((i : Int) + 1) = ((i + 1 : Nat) : Int) := by rw [wrap_i64 (by omega) (by omega)]; rfl
    have hat := ks_at (l := ws) (k := i) (by omega)
    have hd1 := hdt hi8
    revert hat hd1
    generalize ws.getD i 0 = x
    intro hat hd1
    have b3 := byt_go x 24 (by decide)
    have b2 := byt_go x 16 (by decide)
    have b1 := byt_go x 8 (by decide)
    have b0 : IntKind.u8.wrap (u32 x) = ((byt x 0).toNat : Int) := by rw [u8_of_u32]; rfl
    have hobj : LObj.own 5 1 (4 * i + 4) (bys l ++ [CV.int .u8 (IntKind.u8.wrap (shrI .u32 (u32 x) 24)), .int .u8 (IntKind.u8.wrap (shrI .u32 (u32 x) 16)), .int .u8 (IntKind.u8.wrap (shrI .u32 (u32 x) 8)), .int .u8 (IntKind.u8.wrap (u32 x))]) true = LObj.own 5 1 (4 * (i + 1)) (bys ((ws.take (i + 1)).flatMap be4b)) true := by
      have q3 : IntKind.u8.wrap (shrI .u32 (u32 x) 24) = ((byt x 24).toNat : Int) := b3
      have q2 : IntKind.u8.wrap (shrI .u32 (u32 x) 16) = ((byt x 16).toNat : Int) := b2
      have q1 : IntKind.u8.wrap (shrI .u32 (u32 x) 8) = ((byt x 8).toNat : Int) := b1
      rw [q3, q2, q1, b0, hl1, hd1, bys, bys, List.map_append]
      rfl
    have hap : (4 * i + 4) * ti5.bytes ≤ 140737488355328 := by
      have : ti5.bytes = 1 := rfl
      rw [this]
      omega
    (conv => whnf)
    (refine DrawVC.any Γok (by kernel_rfl) (by kernel_rfl) (by kernel_rfl) (by rfl) ?_; conv => whnf)
    (repeat (first | (refine ⟨_, hat, ?_⟩; conv => whnf) | (refine Need.mk hap ?_; conv => whnf) | (exact Out.same; conv => whnf) | (exact Out1.same; conv => whnf) | (refine QAnd.mk ?_ ?_; conv => whnf) | (apply QStepH.go; conv => whnf) | (refine Both.lit_true ?_; conv => whnf) | (refine Both.lit_false ?_; conv => whnf) | (apply QStep.go; conv => whnf) | (refine Need.mk ?_ ?_; (focus (first | omega | exact ⟨by omega, by omega⟩ | rfl | exact ⟨rfl, rfl⟩ | exact ⟨rfl, by omega, by omega⟩ | exact ⟨by omega, by omega, by omega⟩ | exact ⟨rfl, Nat.le_of_ble_eq_true rfl⟩ | exact Nat.le_of_ble_eq_true rfl | (refine ⟨rfl, rfl, ?_⟩; simp [isFar, ofV0, CV.up, SV.renL, SV.ren] <;> fail) | (refine ⟨rfl, Nat.le_of_ble_eq_true rfl, ?_⟩; simp [isFar, ofV0, CV.up, SV.renL, SV.ren] <;> fail) | (simp only [List.length_append, List.length_drop, List.length_take, List.length_replicate, List.length_map]; omega) | (simp <;> fail))); conv => whnf) | (refine ⟨_, rfl, ?_⟩; conv => whnf)))
    refine ⟨i + 1, by omega, by omega, Weak.auto ?_⟩
    (repeat' ((conv => whnf); first | exact True.intro | (refine And.intro ?_ ?_)))
    all_goals first | exact hobj | rfl | exact .eq rfl | exact congrArg (SV.int .i64) hwr
  have hi8 : i = 8 := by omega
  rw [hend hi8] at h
  have hu : (bys l).length = 4 * i ∧ ∀ x, x ∈ bys l → isU8 x = true := ⟨by rw [bys, List.length_map, hl4], fun x hx => by
    obtain ⟨b, _, rfl⟩ := List.mem_map.1 hx
    rfl⟩
  have hbk : (bys l).map cvByte = l := bys_back l
  (conv => whnf)
  (repeat (first | (refine Need.mk hu ?_; conv => whnf) | (exact Out.same; conv => whnf) | (exact Out1.same; conv => whnf) | (refine QAnd.mk ?_ ?_; conv => whnf) | (apply QStepH.go; conv => whnf) | (refine Both.lit_true ?_; conv => whnf) | (refine Both.lit_false ?_; conv => whnf) | (apply QStep.go; conv => whnf) | (refine Need.mk ?_ ?_; (focus (first | omega | exact ⟨by omega, by omega⟩ | rfl | exact ⟨rfl, rfl⟩ | exact ⟨rfl, by omega, by omega⟩ | exact ⟨by omega, by omega, by omega⟩ | exact ⟨rfl, Nat.le_of_ble_eq_true rfl⟩ | exact Nat.le_of_ble_eq_true rfl | (refine ⟨rfl, rfl, ?_⟩; simp [isFar, ofV0, CV.up, SV.renL, SV.ren] <;> fail) | (refine ⟨rfl, Nat.le_of_ble_eq_true rfl, ?_⟩; simp [isFar, ofV0, CV.up, SV.renL, SV.ren] <;> fail) | (simp only [List.length_append, List.length_drop, List.length_take, List.length_replicate, List.length_map]; omega) | (simp <;> fail))); conv => whnf) | (refine ⟨_, rfl, ?_⟩; conv => whnf)))
  rw [hbk]
  refine ⟨_, _, WeakV.auto ?_, h⟩
  (repeat' ((conv => whnf); first | exact True.intro | (refine And.intro ?_ ?_)))
  all_goals first | rfl | exact .eq rfl
theorem rdig_k : Contract Tryd.prog [] 107 rdigS := ⟨⟨⟨_, rfl, rfl, rfl⟩⟩, rdig_c⟩
/-! ## The document's digits -/
theorem digit_go : ∀ n : Fin 256, (List.drop (IntKind.u8.wrap ((n.val : Int).tdiv 16)).toNat (List.take (IntKind.u8.wrap (IntKind.u8.wrap ((n.val : Int).tdiv 16) + 1)).toNat ([48, 49, 50, 51, 52, 53, 54, 55, 56, 57, 97, 98, 99, 100, 101, 102] : List UInt8)) = [dg (n.val / 16)]) ∧ (List.drop ((n.val : Int).tmod 16).toNat (List.take (IntKind.u8.wrap ((n.val : Int).tmod 16 + 1)).toNat ([48, 49, 50, 51, 52, 53, 54, 55, 56, 57, 97, 98, 99, 100, 101, 102] : List UInt8)) = [dg (n.val % 16)]) := by decide +kernel
theorem digit_rng : ∀ n : Fin 256, (0 ≤ IntKind.u8.wrap ((n.val : Int).tdiv 16) ∧ IntKind.u8.wrap ((n.val : Int).tdiv 16) ≤ IntKind.u8.wrap (IntKind.u8.wrap ((n.val : Int).tdiv 16) + 1) ∧ IntKind.u8.wrap (IntKind.u8.wrap ((n.val : Int).tdiv 16) + 1) ≤ ((16 : Nat) : Int)) ∧ (0 ≤ (n.val : Int).tmod 16 ∧ (n.val : Int).tmod 16 ≤ IntKind.u8.wrap ((n.val : Int).tmod 16 + 1) ∧ IntKind.u8.wrap ((n.val : Int).tmod 16 + 1) ≤ ((16 : Nat) : Int)) := by decide +kernel
end Go.LX
end
section
set_option maxRecDepth 100000
set_option maxHeartbeats 1000000
set_option autoImplicit false
set_option linter.unusedVariables false
set_option linter.unusedSimpArgs false
namespace Go.LX
open Go.Proofs

/-! ## A book: the texts that were asked, the last one first -/
def bes : List (List UInt8) → List (CV × CV)
  | [] => []
  | s :: T => mput (bes T) (.str (shaD s)) (.str s)
def hitB (r : Option CV) (s : List UInt8) : Bool :=
  match r with
  | some (.str t) => !decide (t = s)
  | _ => false
def bcl : List (List UInt8) → Bool
  | [] => false
  | s :: T => bcl T || hitB (mget (bes T) (.str (shaD s))) s
theorem keq_str {a : List UInt8} : ∀ {x : CV}, keq (.str a) x = true → x = .str a
  | .str b, h => by
    have : a = b := of_decide_eq_true h
    rw [this]
  | .int _ _, h => by cases h
  | .bool _, h => by cases h
  | .nil, h => by cases h
  | .sl _ _ _ _, h => by cases h
theorem keq_ne {a b : List UInt8} (h : ¬ a = b) : keq (.str a) (.str b) = false := decide_eq_false h
theorem keq_self (a : List UInt8) : keq (.str a) (.str a) = true := decide_eq_true rfl
theorem mget_put_self : ∀ (es : List (CV × CV)) (a : List UInt8) (v : CV), mget (mput es (.str a) v) (.str a) = some v
  | [], a, v => by rw [mput, mget, keq_self]
  | (x, y) :: r, a, v => by
    rw [mput]
    cases hk : keq (.str a) x with
    | true => dsimp only; rw [mget, keq_self]
    | false => dsimp only; rw [mget, hk]; exact mget_put_self r a v
theorem mget_put_ne : ∀ (es : List (CV × CV)) (a b : List UInt8) (v : CV), ¬ b = a → mget (mput es (.str a) v) (.str b) = mget es (.str b)
  | [], a, b, v, h => by simp only [mput, mget, keq_ne h]
  | (x, y) :: r, a, b, v, h => by
    rw [mput]
    cases hk : keq (.str a) x with
    | true =>
      have := keq_str hk
      subst this
      simp only [mget, keq_ne h]
    | false =>
      dsimp only
      rw [mget, mget]
      cases keq (.str b) x with
      | true => rfl
      | false => exact mget_put_ne r a b v h
theorem bes_str : ∀ (T : List (List UInt8)) (a : List UInt8) (v : CV), mget (bes T) (.str a) = some v → ∃ t, v = .str t
  | [], a, v, h => by cases h
  | s :: T, a, v, h => by
    by_cases ha : a = shaD s
    · rw [ha, bes, mget_put_self] at h
      exact ⟨s, (Option.some.inj h).symm⟩
    · rw [bes, mget_put_ne _ _ _ _ ha] at h
      exact bes_str T a v h
theorem bcl_get : ∀ (T : List (List UInt8)), bcl T = false → ∀ s ∈ T, mget (bes T) (.str (shaD s)) = some (.str s)
  | [], _, s, hs => by cases hs
  | x :: T, h, s, hs => by
    rw [bcl, Bool.or_eq_false_iff] at h
    by_cases ha : shaD s = shaD x
    · rw [ha, bes, mget_put_self]
      rcases List.mem_cons.1 hs with h1 | h1
      · rw [h1]
      · have h2 := bcl_get T h.1 s h1
        rw [ha] at h2
        have h3 := h.2
        rw [h2] at h3
        have : s = x := by
          have h4 : (!decide (s = x)) = false := h3
          simpa using h4
        rw [this]
    · rw [bes, mget_put_ne _ _ _ _ ha]
      rcases List.mem_cons.1 hs with h1 | h1
      · exact absurd (by rw [h1]) ha
      · exact bcl_get T h.1 s h1
/-- No clash: unlike texts that were asked have unlike digests. -/
theorem bcl_inj {T : List (List UInt8)} (h : bcl T = false) {s t : List UInt8} (hs : s ∈ T) (ht : t ∈ T) (e : shaD s = shaD t) : s = t := by
  have h1 := bcl_get T h s hs
  have h2 := bcl_get T h t ht
  rw [e, h2] at h1
  cases h1
  rfl
/-- The book, as it lies. -/
def bkO (T : List (List UInt8)) : List LObj := [.cells (bkc kT hT (bcl T) 1) 59, .map 2 (bes T)]
def bsumS : Spec := fun args H Q => match args, H with
  | [.ptr 0 0, .str s], [.cells [.sl 1 64 ka false, .sl 1 8 kb false, .mp 1, .bool cl] 59, .map 2 es] => ∃ T, ka = ks kT ∧ kb = ks hT ∧ cl = bcl T ∧ es = bes T ∧ s.length < 900000 ∧ Q (.str (shaD s)) (bkO (s :: T))
  | _, _ => False
theorem bsum_c : Meets Tryd.prog [] 95 bsumS := by
  refine meets_of Γok Tryd.func95 rfl ?_
  intro args H Q h
  unfold bsumS at h
  split at h
  case h_2 => exact h.elim
  rename_i s ka kb cl es
  obtain ⟨T, rfl, rfl, rfl, rfl, hs, h⟩ := h
  have hbs := bes_str T (shaD s)
  have hcs : bcl (s :: T) = (bcl T || hitB (mget (bes T) (.str (shaD s))) s) := rfl
  have hes : bes (s :: T) = mput (bes T) (.str (shaD s)) (.str s) := rfl
  unfold bkO at h
  rw [hcs, hes] at h
  clear hcs hes
  (refine sx_sound Γok _ ?_; conv => whnf)
  refine CallVC.auto rdig_k ⟨rfl, rfl, hs, ?_⟩
  revert h hbs
  generalize shaD s = d
  generalize bes T = es
  generalize bcl T = cl
  intro h hbs
  generalize hr : mget es (.str d) = r at h hbs
  cases r with
  | none =>
    (conv => whnf)
    cases cl
    all_goals
      (repeat (first | (refine ⟨_, hr, ?_⟩; conv => whnf) | (exact Out.same; conv => whnf) | (exact Out1.same; conv => whnf) | (refine QAnd.mk ?_ ?_; conv => whnf) | (apply QStepH.go; conv => whnf) | (refine Both.lit_true ?_; conv => whnf) | (refine Both.lit_false ?_; conv => whnf) | (apply QStep.go; conv => whnf) | (refine Need.mk ?_ ?_; (focus (first | omega | exact ⟨by omega, by omega⟩ | rfl | exact ⟨rfl, rfl⟩ | exact ⟨rfl, by omega, by omega⟩ | exact ⟨by omega, by omega, by omega⟩ | exact ⟨rfl, Nat.le_of_ble_eq_true rfl⟩ | exact Nat.le_of_ble_eq_true rfl | (refine ⟨rfl, rfl, ?_⟩; simp [isFar, ofV0, CV.up, SV.renL, SV.ren] <;> fail) | (refine ⟨rfl, Nat.le_of_ble_eq_true rfl, ?_⟩; simp [isFar, ofV0, CV.up, SV.renL, SV.ren] <;> fail) | (simp only [List.length_append, List.length_drop, List.length_take, List.length_replicate, List.length_map]; omega) | (simp <;> fail))); conv => whnf) | (refine ⟨_, rfl, ?_⟩; conv => whnf)))
      refine ⟨_, _, WeakV.auto ?_, h⟩
      (repeat' ((conv => whnf); first | exact True.intro | (refine And.intro ?_ ?_)))
      all_goals first | rfl | exact .eq rfl
  | some v =>
    obtain ⟨t, rfl⟩ := hbs v rfl
    (conv => whnf)
    cases cl
    all_goals
      (repeat (first | (refine ⟨_, hr, ?_⟩; conv => whnf) | (exact Out.same; conv => whnf) | (exact Out1.same; conv => whnf) | (refine QAnd.mk ?_ ?_; conv => whnf) | (apply QStepH.go; conv => whnf) | (refine Both.lit_true ?_; conv => whnf) | (refine Both.lit_false ?_; conv => whnf) | (apply QStep.go; conv => whnf) | (refine Need.mk ?_ ?_; (focus (first | omega | exact ⟨by omega, by omega⟩ | rfl | exact ⟨rfl, rfl⟩ | exact ⟨rfl, by omega, by omega⟩ | exact ⟨by omega, by omega, by omega⟩ | exact ⟨rfl, Nat.le_of_ble_eq_true rfl⟩ | exact Nat.le_of_ble_eq_true rfl | (refine ⟨rfl, rfl, ?_⟩; simp [isFar, ofV0, CV.up, SV.renL, SV.ren] <;> fail) | (refine ⟨rfl, Nat.le_of_ble_eq_true rfl, ?_⟩; simp [isFar, ofV0, CV.up, SV.renL, SV.ren] <;> fail) | (simp only [List.length_append, List.length_drop, List.length_take, List.length_replicate, List.length_map]; omega) | (simp <;> fail))); conv => whnf) | (refine ⟨_, rfl, ?_⟩; conv => whnf)))
      refine ⟨_, _, WeakV.auto ?_, h⟩
      (repeat' ((conv => whnf); first | exact True.intro | (refine And.intro ?_ ?_)))
      all_goals first | rfl | exact .eq rfl
theorem bsum_k : Contract Tryd.prog [] 95 bsumS := ⟨⟨⟨_, rfl, rfl, rfl⟩⟩, bsum_c⟩
end Go.LX
end
